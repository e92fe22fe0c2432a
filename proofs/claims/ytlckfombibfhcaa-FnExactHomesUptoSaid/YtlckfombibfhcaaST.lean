/-
  WHAT IS LEFT of this seat's functions, printed by a program of ours (wip/tool/Gen2.lean) from the translation; each with the theorem that it is what is left of that function.
-/
import Derived.Test.YtlckfombibfhcaaChecked
import Derived.KernelRfl
import Derived.Test.YtlckfombibfhcaaAbM4
set_option linter.unusedVariables false
set_option linter.unusedSimpArgs false
set_option linter.defProp false
namespace Go.Proofs.Ab
open Go.Ab
set_option maxRecDepth 100000
namespace F
abbrev laws_FnExactHomes : FuncId := 7
abbrev laws_szTy : FuncId := 15
abbrev laws_toTy : FuncId := 17
abbrev laws_eqIntS : FuncId := 19
abbrev laws_eqTy : FuncId := 20
abbrev laws_markTy : FuncId := 21
abbrev laws_markIntS : FuncId := 22
abbrev laws_heldIntS : FuncId := 23
abbrev laws_szTyS : FuncId := 24
abbrev laws_toTyS : FuncId := 26
abbrev laws_eqTyS : FuncId := 28
abbrev laws_markTyS : FuncId := 29
abbrev laws_szKTerm : FuncId := 31
abbrev spec_Uses : FuncId := 32
abbrev laws_toKTerm : FuncId := 33
abbrev impl_Uses : FuncId := 34
abbrev laws_eqKTerm : FuncId := 35
abbrev laws_markKTerm : FuncId := 36
abbrev spec_Homes : FuncId := 37
abbrev impl_Homes : FuncId := 38
abbrev spec_l1In : FuncId := 44
abbrev impl_within : FuncId := 47
abbrev spec_l4Free : FuncId := 50
abbrev laws_markText : FuncId := 58
abbrev laws_szKValS : FuncId := 59
abbrev laws_szKTermS : FuncId := 60
abbrev spec_l13Fine : FuncId := 61
abbrev spec_l13Bound : FuncId := 62
abbrev spec_l13Uses : FuncId := 63
abbrev laws_toKValS : FuncId := 64
abbrev laws_toKTermS : FuncId := 65
abbrev impl_KSize : FuncId := 66
abbrev impl_greatestBound : FuncId := 67
abbrev impl_eachAt : FuncId := 68
abbrev impl_Uses_1 : FuncId := 69
abbrev laws_eqKValS : FuncId := 70
abbrev laws_eqKTermS : FuncId := 71
abbrev laws_markKValS : FuncId := 72
abbrev laws_markKTermS : FuncId := 73
abbrev slices_Index__bool_bool : FuncId := 74
abbrev laws_szKVal : FuncId := 99
abbrev spec_KSize : FuncId := 100
abbrev spec_l13Binds : FuncId := 101
abbrev spec_l13Kid : FuncId := 102
abbrev spec_l13Most : FuncId := 103
abbrev laws_toKVal : FuncId := 104
abbrev impl_binding : FuncId := 105
abbrev impl_homeScope : FuncId := 106
abbrev impl_greatestScope : FuncId := 107
abbrev laws_eqKVal : FuncId := 108
abbrev slices_Grow__impl_Ty_impl_Ty : FuncId := 120
end F
def FL : List Nat := [3, 4, 5, 6, 7, 8, 9, 13, 14, 15, 19, 20, 21, 22, 23, 24, 28, 29, 30, 31, 35, 36, 41, 42, 43, 44, 47, 48, 49, 51, 52, 58, 59, 60, 61, 62, 66, 67, 70, 71, 72, 73, 74, 75, 77, 78, 79, 80, 82, 84, 86, 87, 90, 92, 93, 94, 95, 96, 97, 98, 99, 100, 101, 102, 103, 105, 106, 107, 108, 109, 110, 112, 113, 114, 116, 117, 118, 119, 121, 122, 123, 124, 125, 126, 127, 128, 129, 130, 131, 132, 133, 134, 135, 136]
def FR : List (Nat × Bool × Nat × Nat) := [(18, true, 3, 1), (16, false, 3, 1), (53, true, 3, 1)]
abbrev G.laws_markIntS : Sig := ⟨2, [(.row 0 (.x 0)), (.d (.x 1))], [(.row true 3 1 (.x 0))], 2, (.d (.x 1)), [(.row true 3 1 (.x 0))], [0]⟩
abbrev G.spec_l4Free : Sig := ⟨3, [(.d (.x 0)), (.d (.x 1)), (.row 0 (.x 2))], [(.row false 3 1 (.x 2))], 1, (.row 0 (.x 0)), [(.row false 3 1 (.x 0))], []⟩
abbrev G.spec_l13Uses : Sig := ⟨4, [(.d (.x 0)), (.d (.x 1)), (.d (.x 2)), (.row 0 (.x 3))], [(.row false 3 1 (.x 3))], 1, (.tup []), [(.row false 3 1 (.x 0))], [0]⟩
abbrev G.slices_Grow__impl_Ty_impl_Ty : Sig := ⟨1, [(.d (.c .nils)), (.d (.x 0))], [], 1, (.row 0 (.x 0)), [(.row false 43 4 (.x 0))], []⟩
abbrev G.slices_Grow__impl_Ty_impl_Ty_s1 : Sig := ⟨1, [(.d (.c .nils)), (.d (.x 0))], [], 0, (.d (.c .nils)), [], []⟩
def SG : List (Nat × List Sig) := [(22, [G.laws_markIntS]), (50, [G.spec_l4Free]), (63, [G.spec_l13Uses]), (120, [G.slices_Grow__impl_Ty_impl_Ty, G.slices_Grow__impl_Ty_impl_Ty_s1])]
abbrev CF : Cfg := ⟨FL, FR, SG, false⟩
def T.laws_szTy : T :=
.chk (.cells (.x 0) 4) (
.op (.lenS (.cell 0 2)) (
.op (.bin .sub (.x 1) (.x 2)) (
.op (.bin .lss (.x 3) (.c (.v (.int .i64 0)))) (
.ite (.x 4)
 (.ret [(.c (.v (.int .i64 (-1))))])
 (.op (.call F.laws_szTyS [(.cell 0 3), (.x 3)] false) (
 .op (.bin .lss (.x 5) (.c (.v (.int .i64 0)))) (
 .ite (.x 6)
  (.ret [(.c (.v (.int .i64 (-1))))])
  (.ret [(.x 5)]))))))))
theorem T.laws_szTy_l : leftF Try.prog CF Try.f15 = some (2, T.laws_szTy) := by kernel_rfl
theorem T.laws_szTy_con {args : List AV} {res : AV} (hl : args.length = 2) (hn : AV.norefs args = true) (hw : wpT Try.prog (fun _ _ _ => False) (fun a => a = res) T.laws_szTy args []) : PCon Try.prog F.laws_szTy args res :=
  con_auto Try.func15 T.laws_szTy_l hl hn hw
def T.laws_toTy : T :=
.chk (.cells (.x 0) 4) (
.chk (.one (.cell 0 0)) (
.chk (.one (.cell 0 1)) (
.chk (.one (.cell 0 2)) (
.op (.call F.laws_toTyS [(.cell 0 3)] false) (
.chk (.one (.x 1)) (
.chk (.cells (.agg [(.cell 0 0), (.cell 0 1), (.cell 0 2), (.x 1)]) 4) (
.ret [(.agg [(.cell 0 0), (.cell 0 1), (.cell 0 2), (.x 1)])])))))))
theorem T.laws_toTy_l : leftF Try.prog CF Try.f17 = some (1, T.laws_toTy) := by kernel_rfl
theorem T.laws_toTy_con {args : List AV} {res : AV} (hl : args.length = 1) (hn : AV.norefs args = true) (hw : wpT Try.prog (fun _ _ _ => False) (fun a => a = res) T.laws_toTy args []) : PCon Try.prog F.laws_toTy args res :=
  con_auto Try.func17 T.laws_toTy_l hl hn hw
def T.laws_eqIntS : T :=
.op (.lenL (.x 0)) (
.op (.lenL (.x 1)) (
.op (.bin .neq (.x 2) (.x 3)) (
.ite (.x 4)
 (.ret [(.c (.v (.bool false)))])
 (.bind 0 (
  .loop [(.c (.v (.int .i64 0)))] (
   .op (.lenL (.x 0)) (
   .op (.bin .lss (.x 5) (.x 6)) (
   .ite (.x 7)
    (.op (.elem 1 (.x 0) (.x 5)) (
    .chk (.lt (.x 8) 0) (
    .op (.elem 1 (.x 1) (.x 5)) (
    .chk (.lt (.x 9) 0) (
    .op (.bin .neq (.cell 8 0) (.cell 9 0)) (
    .ite (.x 10)
     (.esc (.esc (.ret [(.c (.v (.bool false)))])))
     (.op (.bin .add (.x 5) (.c (.v (.int .i64 1)))) (
     .jump [(.x 11)]))))))))
    (.esc (.jump [])))))) (
 .ret [(.c (.v (.bool true)))])))))
theorem T.laws_eqIntS_l : leftF Try.prog CF Try.f19 = some (2, T.laws_eqIntS) := by kernel_rfl
theorem T.laws_eqIntS_con {args : List AV} {res : AV} (hl : args.length = 2) (hn : AV.norefs args = true) (hw : wpT Try.prog (fun _ _ _ => False) (fun a => a = res) T.laws_eqIntS args []) : PCon Try.prog F.laws_eqIntS args res :=
  con_auto Try.func19 T.laws_eqIntS_l hl hn hw
def T.laws_eqTy : T :=
.chk (.cells (.x 0) 4) (
.chk (.cells (.x 1) 4) (
.op (.bin .neq (.cell 0 0) (.cell 1 0)) (
.ite (.x 2)
 (.ret [(.c (.v (.bool false)))])
 (.op (.bin .neq (.cell 0 1) (.cell 1 1)) (
 .ite (.x 3)
  (.ret [(.c (.v (.bool false)))])
  (.op (.bin .neq (.cell 0 2) (.cell 1 2)) (
  .ite (.x 4)
   (.ret [(.c (.v (.bool false)))])
   (.op (.call F.laws_eqTyS [(.cell 0 3), (.cell 1 3)] false) (
   .op (.un .not (.x 5)) (
   .ite (.x 6)
    (.ret [(.c (.v (.bool false)))])
    (.ret [(.c (.v (.bool true)))])))))))))))
theorem T.laws_eqTy_l : leftF Try.prog CF Try.f20 = some (2, T.laws_eqTy) := by kernel_rfl
theorem T.laws_eqTy_con {args : List AV} {res : AV} (hl : args.length = 2) (hn : AV.norefs args = true) (hw : wpT Try.prog (fun _ _ _ => False) (fun a => a = res) T.laws_eqTy args []) : PCon Try.prog F.laws_eqTy args res :=
  con_auto Try.func20 T.laws_eqTy_l hl hn hw
def T.laws_markIntS : T :=
.bind 2 (
 .loop [(.x 0), (.x 1), (.c (.v (.int .i64 0)))] (
  .op (.lenL (.sl (.x 2))) (
  .op (.bin .lss (.x 4) (.x 5)) (
  .ite (.x 6)
   (.chk (.idx (.x 2) (.x 4)) (
   .chk (.one (.x 3)) (
   .op (.set (.x 2) (.x 4) 0 1 (.x 3)) (
   .op (.bin .add (.x 3) (.c (.v (.int .i64 1)))) (
   .op (.bin .add (.x 4) (.c (.v (.int .i64 1)))) (
   .jump [(.x 7), (.x 8), (.x 9)]))))))
   (.esc (.jump [(.x 2), (.x 3)])))))) (
.ret [(.x 2), (.x 3)])
theorem T.laws_markIntS_l : leftS Try.prog CF G.laws_markIntS Try.f22 = some T.laws_markIntS := by kernel_rfl
theorem T.laws_markIntS_scon {ins outs : List AV} (hl : ins.length = 2) (ho : outs.length = 2) (hn : AV.norefs ins = true) (hw : wpT Try.prog (fun _ _ _ => False) (fun a => a = packR outs) T.laws_markIntS ins []) : SCon Try.prog F.laws_markIntS G.laws_markIntS ins outs :=
  scon_auto Try.func22 T.laws_markIntS_l hl hn ho hw
def T.laws_heldIntS : T :=
.bind 1 (
 .loop [(.x 1), (.c (.v (.int .i64 0)))] (
  .op (.lenL (.x 0)) (
  .op (.bin .lss (.x 3) (.x 4)) (
  .ite (.x 5)
   (.op (.elem 1 (.x 0) (.x 3)) (
   .chk (.lt (.x 6) 0) (
   .op (.bin .neq (.cell 6 0) (.x 2)) (
   .ite (.x 7)
    (.esc (.esc (.ret [(.c (.v (.int .i64 (-1))))])))
    (.op (.bin .add (.x 2) (.c (.v (.int .i64 1)))) (
    .op (.bin .add (.x 3) (.c (.v (.int .i64 1)))) (
    .jump [(.x 8), (.x 9)])))))))
   (.esc (.jump [(.x 2)])))))) (
.ret [(.x 2)])
theorem T.laws_heldIntS_l : leftF Try.prog CF Try.f23 = some (2, T.laws_heldIntS) := by kernel_rfl
theorem T.laws_heldIntS_con {args : List AV} {res : AV} (hl : args.length = 2) (hn : AV.norefs args = true) (hw : wpT Try.prog (fun _ _ _ => False) (fun a => a = res) T.laws_heldIntS args []) : PCon Try.prog F.laws_heldIntS args res :=
  con_auto Try.func23 T.laws_heldIntS_l hl hn hw
def T.laws_szTyS : T :=
.op (.lenL (.x 0)) (
.op (.bin .sub (.x 1) (.x 2)) (
.op (.bin .lss (.x 3) (.c (.v (.int .i64 0)))) (
.ite (.x 4)
 (.ret [(.c (.v (.int .i64 (-1))))])
 (.bind 1 (
  .loop [(.x 3), (.c (.v (.int .i64 0)))] (
   .op (.lenL (.x 0)) (
   .op (.bin .lss (.x 6) (.x 7)) (
   .ite (.x 8)
    (.op (.elem 4 (.x 0) (.x 6)) (
    .chk (.cells (.x 9) 4) (
    .op (.call F.laws_szTy [(.x 9), (.x 5)] false) (
    .op (.bin .lss (.x 10) (.c (.v (.int .i64 0)))) (
    .ite (.x 11)
     (.esc (.esc (.ret [(.c (.v (.int .i64 (-1))))])))
     (.op (.bin .add (.x 6) (.c (.v (.int .i64 1)))) (
     .jump [(.x 10), (.x 12)])))))))
    (.esc (.jump [(.x 5)])))))) (
 .ret [(.x 5)])))))
theorem T.laws_szTyS_l : leftF Try.prog CF Try.f24 = some (2, T.laws_szTyS) := by kernel_rfl
theorem T.laws_szTyS_con {args : List AV} {res : AV} (hl : args.length = 2) (hn : AV.norefs args = true) (hw : wpT Try.prog (fun _ _ _ => False) (fun a => a = res) T.laws_szTyS args []) : PCon Try.prog F.laws_szTyS args res :=
  con_auto Try.func24 T.laws_szTyS_l hl hn hw
def T.laws_toTyS : T :=
.op (.lenL (.x 0)) (
.op (.rep 56 (.agg [(.v (.int .i64 0)), (.v (.int .i64 0)), (.v (.string ⟨#[]⟩)), .nils]) (.x 1) (.x 1)) (
.bind 1 (
 .loop [(.x 2), (.c (.v (.int .i64 0)))] (
  .op (.lenL (.x 0)) (
  .op (.bin .lss (.x 4) (.x 5)) (
  .ite (.x 6)
   (.op (.elem 4 (.x 0) (.x 4)) (
   .chk (.cells (.x 7) 4) (
   .op (.call F.laws_toTy [(.x 7)] false) (
   .chk (.idx (.x 3) (.x 4)) (
   .chk (.cells (.x 8) 4) (
   .op (.set (.x 3) (.x 4) 0 4 (.x 8)) (
   .op (.bin .add (.x 4) (.c (.v (.int .i64 1)))) (
   .jump [(.x 9), (.x 10)]))))))))
   (.esc (.jump [(.x 3)])))))) (
.ret [(.sl (.x 3))])))
theorem T.laws_toTyS_l : leftF Try.prog CF Try.f26 = some (1, T.laws_toTyS) := by kernel_rfl
theorem T.laws_toTyS_con {args : List AV} {res : AV} (hl : args.length = 1) (hn : AV.norefs args = true) (hw : wpT Try.prog (fun _ _ _ => False) (fun a => a = res) T.laws_toTyS args []) : PCon Try.prog F.laws_toTyS args res :=
  con_auto Try.func26 T.laws_toTyS_l hl hn hw
def T.laws_eqTyS : T :=
.op (.lenL (.x 0)) (
.op (.lenL (.x 1)) (
.op (.bin .neq (.x 2) (.x 3)) (
.ite (.x 4)
 (.ret [(.c (.v (.bool false)))])
 (.bind 0 (
  .loop [(.c (.v (.int .i64 0)))] (
   .op (.lenL (.x 0)) (
   .op (.bin .lss (.x 5) (.x 6)) (
   .ite (.x 7)
    (.op (.elem 4 (.x 0) (.x 5)) (
    .chk (.cells (.x 8) 4) (
    .op (.elem 4 (.x 1) (.x 5)) (
    .chk (.cells (.x 9) 4) (
    .op (.call F.laws_eqTy [(.x 8), (.x 9)] true) (
    .op (.un .not (.x 10)) (
    .ite (.x 11)
     (.esc (.esc (.ret [(.c (.v (.bool false)))])))
     (.op (.bin .add (.x 5) (.c (.v (.int .i64 1)))) (
     .jump [(.x 12)])))))))))
    (.esc (.jump [])))))) (
 .ret [(.c (.v (.bool true)))])))))
theorem T.laws_eqTyS_l : leftF Try.prog CF Try.f28 = some (2, T.laws_eqTyS) := by kernel_rfl
theorem T.laws_eqTyS_con {args : List AV} {res : AV} (hl : args.length = 2) (hn : AV.norefs args = true) (hw : wpT Try.prog (fun _ _ _ => False) (fun a => a = res) T.laws_eqTyS args []) : PCon Try.prog F.laws_eqTyS args res :=
  con_auto Try.func28 T.laws_eqTyS_l hl hn hw
-- laws_markTyS: no walk
def T.laws_szKTerm : T :=
.chk (.cells (.x 0) 11) (
.op (.lenS (.cell 0 1)) (
.op (.bin .sub (.x 1) (.x 2)) (
.op (.bin .lss (.x 3) (.c (.v (.int .i64 0)))) (
.ite (.x 4)
 (.ret [(.c (.v (.int .i64 (-1))))])
 (.op (.call F.laws_szTy [(.agg [(.cell 0 4), (.cell 0 5), (.cell 0 6), (.cell 0 7)]), (.x 3)] false) (
 .op (.bin .lss (.x 5) (.c (.v (.int .i64 0)))) (
 .ite (.x 6)
  (.ret [(.c (.v (.int .i64 (-1))))])
  (.op (.call F.laws_szTyS [(.cell 0 8), (.x 5)] false) (
  .op (.bin .lss (.x 7) (.c (.v (.int .i64 0)))) (
  .ite (.x 8)
   (.ret [(.c (.v (.int .i64 (-1))))])
   (.op (.call F.laws_szKValS [(.cell 0 9), (.x 7)] false) (
   .op (.bin .lss (.x 9) (.c (.v (.int .i64 0)))) (
   .ite (.x 10)
    (.ret [(.c (.v (.int .i64 (-1))))])
    (.op (.call F.laws_szKTermS [(.cell 0 10), (.x 9)] false) (
    .op (.bin .lss (.x 11) (.c (.v (.int .i64 0)))) (
    .ite (.x 12)
     (.ret [(.c (.v (.int .i64 (-1))))])
     (.ret [(.x 11)])))))))))))))))))
theorem T.laws_szKTerm_l : leftF Try.prog CF Try.f31 = some (2, T.laws_szKTerm) := by kernel_rfl
theorem T.laws_szKTerm_con {args : List AV} {res : AV} (hl : args.length = 2) (hn : AV.norefs args = true) (hw : wpT Try.prog (fun _ _ _ => False) (fun a => a = res) T.laws_szKTerm args []) : PCon Try.prog F.laws_szKTerm args res :=
  con_auto Try.func31 T.laws_szKTerm_l hl hn hw
def T.spec_Uses : T :=
.chk (.cells (.x 0) 11) (
.chk (.cells (.x 0) 11) (
.op (.call F.spec_l13Fine [(.x 0), (.x 1)] false) (
.op (.un .not (.x 2)) (
.ite (.x 3)
 (.op (.mkl (.v (.int .i64 0)) 0 []) (
 .ret [(.sl (.x 4))]))
 (.chk (.cells (.x 0) 11) (
 .op (.call F.spec_l13Bound [(.x 0), (.x 1)] false) (
 .bind 1 (
  .op (.bin .gtr (.x 1) (.x 4)) (
  .ite (.x 5)
   (.jump [(.x 1)])
   (.jump [(.x 4)]))) (
 .op (.rep 8 (.v (.int .i64 0)) (.x 5) (.x 5)) (
 .bind 1 (
  .loop [(.x 6), (.c (.v (.int .i64 0)))] (
   .op (.bin .lss (.x 8) (.x 5)) (
   .ite (.x 9)
    (.chk (.idx (.x 7) (.x 8)) (
    .chk (.one (.c (.v (.int .i64 (-1))))) (
    .op (.set (.x 7) (.x 8) 0 1 (.c (.v (.int .i64 (-1))))) (
    .op (.bin .add (.x 8) (.c (.v (.int .i64 1)))) (
    .jump [(.x 10), (.x 11)])))))
    (.esc (.jump [(.x 7)]))))) (
 .chk (.cells (.x 0) 11) (
 .op (.scall F.spec_l13Uses G.spec_l13Uses [(.x 0), (.x 1), (.c (.v (.int .i64 0))), (.x 7)]) (
 .chk (.eql (.x 7) (.ext 8 0)) (
 .ret [(.sl (.ext 8 0))])))))))))))))
theorem T.spec_Uses_l : leftF Try.prog CF Try.f32 = some (2, T.spec_Uses) := by kernel_rfl
theorem T.spec_Uses_con {args : List AV} {res : AV} (hl : args.length = 2) (hn : AV.norefs args = true) (hw : wpT Try.prog (fun _ _ _ => False) (fun a => a = res) T.spec_Uses args []) : PCon Try.prog F.spec_Uses args res :=
  con_auto Try.func32 T.spec_Uses_l hl hn hw
def T.laws_toKTerm : T :=
.chk (.cells (.x 0) 11) (
.chk (.one (.cell 0 0)) (
.chk (.one (.cell 0 1)) (
.chk (.one (.cell 0 2)) (
.chk (.one (.cell 0 3)) (
.op (.call F.laws_toTy [(.agg [(.cell 0 4), (.cell 0 5), (.cell 0 6), (.cell 0 7)])] false) (
.chk (.cells (.x 1) 4) (
.op (.call F.laws_toTyS [(.cell 0 8)] false) (
.chk (.one (.x 2)) (
.op (.call F.laws_toKValS [(.cell 0 9)] false) (
.chk (.one (.x 3)) (
.op (.call F.laws_toKTermS [(.cell 0 10)] false) (
.chk (.one (.x 4)) (
.chk (.cells (.agg [(.cell 0 0), (.cell 0 1), (.cell 0 2), (.cell 0 3), (.cell 1 0), (.cell 1 1), (.cell 1 2), (.cell 1 3), (.x 2), (.x 3), (.x 4)]) 11) (
.ret [(.agg [(.cell 0 0), (.cell 0 1), (.cell 0 2), (.cell 0 3), (.cell 1 0), (.cell 1 1), (.cell 1 2), (.cell 1 3), (.x 2), (.x 3), (.x 4)])]))))))))))))))
theorem T.laws_toKTerm_l : leftF Try.prog CF Try.f33 = some (1, T.laws_toKTerm) := by kernel_rfl
theorem T.laws_toKTerm_con {args : List AV} {res : AV} (hl : args.length = 1) (hn : AV.norefs args = true) (hw : wpT Try.prog (fun _ _ _ => False) (fun a => a = res) T.laws_toKTerm args []) : PCon Try.prog F.laws_toKTerm args res :=
  con_auto Try.func33 T.laws_toKTerm_l hl hn hw
-- impl_Uses: no walk
def T.laws_eqKTerm : T :=
.chk (.cells (.x 0) 11) (
.chk (.cells (.x 1) 11) (
.op (.bin .neq (.cell 0 0) (.cell 1 0)) (
.ite (.x 2)
 (.ret [(.c (.v (.bool false)))])
 (.op (.bin .neq (.cell 0 1) (.cell 1 1)) (
 .ite (.x 3)
  (.ret [(.c (.v (.bool false)))])
  (.op (.bin .neq (.cell 0 2) (.cell 1 2)) (
  .ite (.x 4)
   (.ret [(.c (.v (.bool false)))])
   (.op (.bin .neq (.cell 0 3) (.cell 1 3)) (
   .ite (.x 5)
    (.ret [(.c (.v (.bool false)))])
    (.op (.call F.laws_eqTy [(.agg [(.cell 0 4), (.cell 0 5), (.cell 0 6), (.cell 0 7)]), (.agg [(.cell 1 4), (.cell 1 5), (.cell 1 6), (.cell 1 7)])] false) (
    .op (.un .not (.x 6)) (
    .ite (.x 7)
     (.ret [(.c (.v (.bool false)))])
     (.op (.call F.laws_eqTyS [(.cell 0 8), (.cell 1 8)] false) (
     .op (.un .not (.x 8)) (
     .ite (.x 9)
      (.ret [(.c (.v (.bool false)))])
      (.op (.call F.laws_eqKValS [(.cell 0 9), (.cell 1 9)] false) (
      .op (.un .not (.x 10)) (
      .ite (.x 11)
       (.ret [(.c (.v (.bool false)))])
       (.op (.call F.laws_eqKTermS [(.cell 0 10), (.cell 1 10)] false) (
       .op (.un .not (.x 12)) (
       .ite (.x 13)
        (.ret [(.c (.v (.bool false)))])
        (.ret [(.c (.v (.bool true)))]))))))))))))))))))))))
theorem T.laws_eqKTerm_l : leftF Try.prog CF Try.f35 = some (2, T.laws_eqKTerm) := by kernel_rfl
theorem T.laws_eqKTerm_con {args : List AV} {res : AV} (hl : args.length = 2) (hn : AV.norefs args = true) (hw : wpT Try.prog (fun _ _ _ => False) (fun a => a = res) T.laws_eqKTerm args []) : PCon Try.prog F.laws_eqKTerm args res :=
  con_auto Try.func35 T.laws_eqKTerm_l hl hn hw
def T.spec_Homes : T :=
.chk (.cells (.x 0) 11) (
.chk (.cells (.x 0) 11) (
.op (.call F.spec_l13Fine [(.x 0), (.x 1)] false) (
.op (.un .not (.x 2)) (
.ite (.x 3)
 (.op (.mkl (.v (.int .i64 0)) 0 []) (
 .ret [(.sl (.x 4)), (.c (.v (.bool false)))]))
 (.chk (.cells (.x 0) 11) (
 .op (.call F.spec_Uses [(.x 0), (.x 1)] false) (
 .op (.mkl (.v (.int .i64 0)) 0 []) (
 .bind 1 (
  .loop [(.x 5), (.c (.v (.int .i64 0)))] (
   .op (.lenL (.x 4)) (
   .op (.bin .lss (.x 7) (.x 8)) (
   .ite (.x 9)
    (.bind 1 (
     .op (.elem 1 (.x 4) (.x 7)) (
     .chk (.lt (.x 10) 0) (
     .op (.bin .lss (.cell 10 0) (.c (.v (.int .i64 0)))) (
     .ite (.x 11)
      (.chk (.one (.c (.v (.int .i64 (-1))))) (
      .op (.mkl (.v (.int .i64 0)) 1 [(0, (.c (.v (.int .i64 (-1)))))]) (
      .op (.app 1 8 (.x 6) (.sl (.x 12))) (
      .jump [(.x 13)]))))
      (.bind 1 (
       .op (.bin .gtr (.x 1) (.x 7)) (
       .ite (.x 12)
        (.jump [(.x 1)])
        (.jump [(.x 7)]))) (
      .op (.rep 1 (.v (.bool false)) (.c (.v (.int .i64 75))) (.c (.v (.int .i64 75)))) (
      .bind 1 (
       .loop [(.x 13), (.c (.v (.int .i64 0)))] (
        .op (.bin .lss (.x 15) (.x 7)) (
        .ite (.x 16)
         (.bind 1 (
          .op (.elem 1 (.x 4) (.x 15)) (
          .chk (.lt (.x 17) 0) (
          .op (.bin .geq (.cell 17 0) (.x 12)) (
          .ite (.x 18)
           (.chk (.idx (.x 6) (.x 15)) (
           .op (.get (.x 6) (.x 15) 0 none) (
           .chk (.idx (.x 14) (.x 19)) (
           .chk (.one (.c (.v (.bool true)))) (
           .op (.set (.x 14) (.x 19) 0 1 (.c (.v (.bool true)))) (
           .jump [(.x 20)]))))))
           (.jump [(.x 14)]))))) (
         .op (.bin .add (.x 15) (.c (.v (.int .i64 1)))) (
         .jump [(.x 17), (.x 18)])))
         (.esc (.jump [(.x 14)]))))) (
      .bind 1 (
       .loop [(.c (.v (.int .i64 0)))] (
        .bind 0 (
         .bind 1 (
          .op (.lenL (.sl (.x 14))) (
          .op (.bin .lss (.x 15) (.x 16)) (
          .ite (.x 17)
           (.chk (.idx (.x 14) (.x 15)) (
           .op (.get (.x 14) (.x 15) 0 none) (
           .jump [(.x 18)])))
           (.jump [(.c (.v (.bool false)))])))) (
         .ite (.x 16)
          (.jump [])
          (.esc (.esc (.jump [(.x 15)]))))) (
        .op (.bin .add (.x 15) (.c (.v (.int .i64 1)))) (
        .jump [(.x 16)])))) (
      .op (.lenL (.sl (.x 14))) (
      .op (.bin .eql (.x 15) (.x 16)) (
      .ite (.x 17)
       (.op (.mkl (.v (.int .i64 0)) 0 []) (
       .esc (.esc (.esc (.ret [(.sl (.x 18)), (.c (.v (.bool false)))])))))
       (.chk (.one (.x 15)) (
       .op (.mkl (.v (.int .i64 0)) 1 [(0, (.x 15))]) (
       .op (.app 1 8 (.x 6) (.sl (.x 18))) (
       .jump [(.x 19)]))))))))))))))) (
    .op (.bin .add (.x 7) (.c (.v (.int .i64 1)))) (
    .jump [(.x 10), (.x 11)])))
    (.esc (.jump [(.x 6)])))))) (
 .ret [(.sl (.x 6)), (.c (.v (.bool true)))])))))))))
theorem T.spec_Homes_l : leftF Try.prog CF Try.f37 = some (2, T.spec_Homes) := by kernel_rfl
theorem T.spec_Homes_con {args : List AV} {res : AV} (hl : args.length = 2) (hn : AV.norefs args = true) (hw : wpT Try.prog (fun _ _ _ => False) (fun a => a = res) T.spec_Homes args []) : PCon Try.prog F.spec_Homes args res :=
  con_auto Try.func37 T.spec_Homes_l hl hn hw
def T.spec_l1In : T :=
.bind 1 (
 .op (.bin .geq (.x 0) (.x 1)) (
 .ite (.x 3)
  (.op (.bin .leq (.x 0) (.x 2)) (
  .jump [(.x 4)]))
  (.jump [(.c (.v (.bool false)))]))) (
.ret [(.x 3)])
theorem T.spec_l1In_l : leftF Try.prog CF Try.f44 = some (3, T.spec_l1In) := by kernel_rfl
theorem T.spec_l1In_con {args : List AV} {res : AV} (hl : args.length = 3) (hn : AV.norefs args = true) (hw : wpT Try.prog (fun _ _ _ => False) (fun a => a = res) T.spec_l1In args []) : PCon Try.prog F.spec_l1In args res :=
  con_auto Try.func44 T.spec_l1In_l hl hn hw
def T.impl_within : T :=
.bind 1 (
 .op (.bin .geq (.x 0) (.x 1)) (
 .ite (.x 3)
  (.op (.bin .leq (.x 0) (.x 2)) (
  .jump [(.x 4)]))
  (.jump [(.c (.v (.bool false)))]))) (
.ret [(.x 3)])
theorem T.impl_within_l : leftF Try.prog CF Try.f47 = some (3, T.impl_within) := by kernel_rfl
theorem T.impl_within_con {args : List AV} {res : AV} (hl : args.length = 3) (hn : AV.norefs args = true) (hw : wpT Try.prog (fun _ _ _ => False) (fun a => a = res) T.impl_within args []) : PCon Try.prog F.impl_within args res :=
  con_auto Try.func47 T.impl_within_l hl hn hw
def T.laws_markText : T :=
.op (.bin .leq (.x 0) (.c (.v (.int .i64 0)))) (
.ite (.x 1)
 (.ret [(.c (.v (.string ⟨#[109, 48]⟩)))])
 (.bind 1 (
  .loop [(.x 0), (.c (.v (.string ⟨#[]⟩)))] (
   .op (.bin .gtr (.x 2) (.c (.v (.int .i64 0)))) (
   .ite (.x 4)
    (.op (.bin .rem (.x 2) (.c (.v (.int .i64 10)))) (
    .op (.bin .add (.c (.v (.int .i64 48))) (.x 5)) (
    .op (.conv .u8 (.x 6)) (
    .chk (.one (.x 7)) (
    .op (.mkl (.v (.int .u8 0)) 1 [(0, (.x 7))]) (
    .op (.pu .b2s [(.sl (.x 8))]) (
    .op (.bin .add (.x 9) (.x 3)) (
    .op (.bin .quo (.x 2) (.c (.v (.int .i64 10)))) (
    .jump [(.x 11), (.x 10)])))))))))
    (.esc (.jump [(.x 3)]))))) (
 .op (.bin .add (.c (.v (.string ⟨#[109]⟩))) (.x 2)) (
 .ret [(.x 3)]))))
theorem T.laws_markText_l : leftF Try.prog CF Try.f58 = some (1, T.laws_markText) := by kernel_rfl
theorem T.laws_markText_con {args : List AV} {res : AV} (hl : args.length = 1) (hn : AV.norefs args = true) (hw : wpT Try.prog (fun _ _ _ => False) (fun a => a = res) T.laws_markText args []) : PCon Try.prog F.laws_markText args res :=
  con_auto Try.func58 T.laws_markText_l hl hn hw
def T.laws_szKValS : T :=
.op (.lenL (.x 0)) (
.op (.bin .sub (.x 1) (.x 2)) (
.op (.bin .lss (.x 3) (.c (.v (.int .i64 0)))) (
.ite (.x 4)
 (.ret [(.c (.v (.int .i64 (-1))))])
 (.bind 1 (
  .loop [(.x 3), (.c (.v (.int .i64 0)))] (
   .op (.lenL (.x 0)) (
   .op (.bin .lss (.x 6) (.x 7)) (
   .ite (.x 8)
    (.op (.elem 4 (.x 0) (.x 6)) (
    .chk (.cells (.x 9) 4) (
    .op (.call F.laws_szKVal [(.x 9), (.x 5)] false) (
    .op (.bin .lss (.x 10) (.c (.v (.int .i64 0)))) (
    .ite (.x 11)
     (.esc (.esc (.ret [(.c (.v (.int .i64 (-1))))])))
     (.op (.bin .add (.x 6) (.c (.v (.int .i64 1)))) (
     .jump [(.x 10), (.x 12)])))))))
    (.esc (.jump [(.x 5)])))))) (
 .ret [(.x 5)])))))
theorem T.laws_szKValS_l : leftF Try.prog CF Try.f59 = some (2, T.laws_szKValS) := by kernel_rfl
theorem T.laws_szKValS_con {args : List AV} {res : AV} (hl : args.length = 2) (hn : AV.norefs args = true) (hw : wpT Try.prog (fun _ _ _ => False) (fun a => a = res) T.laws_szKValS args []) : PCon Try.prog F.laws_szKValS args res :=
  con_auto Try.func59 T.laws_szKValS_l hl hn hw
def T.laws_szKTermS : T :=
.op (.lenL (.x 0)) (
.op (.bin .sub (.x 1) (.x 2)) (
.op (.bin .lss (.x 3) (.c (.v (.int .i64 0)))) (
.ite (.x 4)
 (.ret [(.c (.v (.int .i64 (-1))))])
 (.bind 1 (
  .loop [(.x 3), (.c (.v (.int .i64 0)))] (
   .op (.lenL (.x 0)) (
   .op (.bin .lss (.x 6) (.x 7)) (
   .ite (.x 8)
    (.op (.elem 11 (.x 0) (.x 6)) (
    .chk (.cells (.x 9) 11) (
    .op (.call F.laws_szKTerm [(.x 9), (.x 5)] false) (
    .op (.bin .lss (.x 10) (.c (.v (.int .i64 0)))) (
    .ite (.x 11)
     (.esc (.esc (.ret [(.c (.v (.int .i64 (-1))))])))
     (.op (.bin .add (.x 6) (.c (.v (.int .i64 1)))) (
     .jump [(.x 10), (.x 12)])))))))
    (.esc (.jump [(.x 5)])))))) (
 .ret [(.x 5)])))))
theorem T.laws_szKTermS_l : leftF Try.prog CF Try.f60 = some (2, T.laws_szKTermS) := by kernel_rfl
theorem T.laws_szKTermS_con {args : List AV} {res : AV} (hl : args.length = 2) (hn : AV.norefs args = true) (hw : wpT Try.prog (fun _ _ _ => False) (fun a => a = res) T.laws_szKTermS args []) : PCon Try.prog F.laws_szKTermS args res :=
  con_auto Try.func60 T.laws_szKTermS_l hl hn hw
def T.spec_l13Fine : T :=
.chk (.cells (.x 0) 11) (
.bind 1 (
 .op (.call F.spec_l1In [(.x 1), (.c (.v (.int .i64 0))), (.c (.v (.int .i64 9000)))] false) (
 .ite (.x 2)
  (.chk (.cells (.x 0) 11) (
  .op (.call F.spec_KSize [(.x 0)] false) (
  .op (.bin .leq (.x 3) (.c (.v (.int .i64 9000)))) (
  .jump [(.x 4)]))))
  (.jump [(.c (.v (.bool false)))]))) (
.ret [(.x 2)]))
theorem T.spec_l13Fine_l : leftF Try.prog CF Try.f61 = some (2, T.spec_l13Fine) := by kernel_rfl
theorem T.spec_l13Fine_con {args : List AV} {res : AV} (hl : args.length = 2) (hn : AV.norefs args = true) (hw : wpT Try.prog (fun _ _ _ => False) (fun a => a = res) T.spec_l13Fine args []) : PCon Try.prog F.spec_l13Fine args res :=
  con_auto Try.func61 T.spec_l13Fine_l hl hn hw
def T.spec_l13Bound : T :=
.chk (.cells (.x 0) 11) (
.bind 1 (
 .chk (.cells (.x 0) 11) (
 .op (.call F.spec_l13Binds [(.x 0)] false) (
 .ite (.x 2)
  (.op (.bin .add (.x 1) (.c (.v (.int .i64 1)))) (
  .jump [(.x 3)]))
  (.jump [(.c (.v (.int .i64 0)))])))) (
.bind 1 (
 .loop [(.x 2), (.c (.v (.int .i64 0)))] (
  .op (.lenL (.cell 0 10)) (
  .op (.bin .lss (.x 4) (.x 5)) (
  .ite (.x 6)
   (.bind 1 (
    .op (.elem 11 (.cell 0 10) (.x 4)) (
    .chk (.cells (.x 7) 11) (
    .chk (.cells (.x 0) 11) (
    .op (.call F.spec_l13Kid [(.x 0), (.x 4), (.x 1)] true) (
    .op (.call F.spec_l13Bound [(.x 7), (.x 8)] true) (
    .op (.bin .gtr (.x 9) (.x 3)) (
    .ite (.x 10)
     (.jump [(.x 9)])
     (.jump [(.x 3)])))))))) (
   .op (.bin .add (.x 4) (.c (.v (.int .i64 1)))) (
   .jump [(.x 7), (.x 8)])))
   (.esc (.jump [(.x 3)])))))) (
.ret [(.x 3)])))
theorem T.spec_l13Bound_l : leftF Try.prog CF Try.f62 = some (2, T.spec_l13Bound) := by kernel_rfl
theorem T.spec_l13Bound_con {args : List AV} {res : AV} (hl : args.length = 2) (hn : AV.norefs args = true) (hw : wpT Try.prog (fun _ _ _ => False) (fun a => a = res) T.spec_l13Bound args []) : PCon Try.prog F.spec_l13Bound args res :=
  con_auto Try.func62 T.spec_l13Bound_l hl hn hw
def T.spec_l13Uses : T :=
.chk (.cells (.x 0) 11) (
.bind 1 (
 .op (.bin .gtr (.x 2) (.x 1)) (
 .ite (.x 4)
  (.jump [(.x 2)])
  (.jump [(.x 1)]))) (
.bind 1 (
 .loop [(.x 3), (.c (.v (.int .i64 0)))] (
  .op (.lenL (.cell 0 9)) (
  .op (.bin .lss (.x 6) (.x 7)) (
  .ite (.x 8)
   (.bind 5 (
    .op (.elem 4 (.cell 0 9) (.x 6)) (
    .chk (.cells (.x 9) 4) (
    .chk (.cells (.x 9) 4) (
    .bind 1 (
     .op (.bin .eql (.cell 9 0) (.c (.v (.int .i64 1)))) (
     .ite (.x 10)
      (.op (.lenL (.sl (.x 5))) (
      .op (.bin .sub (.x 11) (.c (.v (.int .i64 1)))) (
      .op (.call F.spec_l1In [(.cell 9 1), (.c (.v (.int .i64 0))), (.x 12)] false) (
      .ite (.x 13)
       (.chk (.idx (.x 5) (.cell 9 1)) (
       .op (.get (.x 5) (.cell 9 1) 0 none) (
       .op (.bin .lss (.x 14) (.x 4)) (
       .jump [(.x 15)]))))
       (.jump [(.c (.v (.bool false)))])))))
      (.jump [(.c (.v (.bool false)))]))) (
    .ite (.x 10)
     (.chk (.idx (.x 5) (.cell 9 1)) (
     .chk (.one (.x 4)) (
     .op (.set (.x 5) (.cell 9 1) 0 1 (.x 4)) (
     .jump [(.x 11), (.cell 9 0), (.cell 9 1), (.cell 9 2), (.cell 9 3)]))))
     (.jump [(.x 5), (.cell 9 0), (.cell 9 1), (.cell 9 2), (.cell 9 3)])))))) (
   .op (.bin .add (.x 6) (.c (.v (.int .i64 1)))) (
   .jump [(.x 9), (.x 14)])))
   (.esc (.jump [(.x 5)])))))) (
.loop [(.x 5), (.c (.v (.int .i64 0)))] (
 .op (.lenL (.cell 0 10)) (
 .op (.bin .lss (.x 7) (.x 8)) (
 .ite (.x 9)
  (.bind 1 (
   .bind 1 (
    .bind 1 (
     .op (.bin .eql (.cell 0 0) (.c (.v (.int .i64 9)))) (
     .ite (.x 10)
      (.op (.bin .eql (.x 7) (.c (.v (.int .i64 1)))) (
      .jump [(.x 11)]))
      (.jump [(.c (.v (.bool false)))]))) (
    .ite (.x 10)
     (.op (.elem 11 (.cell 0 10) (.c (.v (.int .i64 0)))) (
     .chk (.cells (.x 11) 11) (
     .op (.call F.spec_l13Most [(.x 11), (.x 1)] false) (
     .op (.bin .gtr (.x 12) (.x 2)) (
     .ite (.x 13)
      (.jump [(.x 12)])
      (.jump [(.x 2)]))))))
     (.jump [(.x 2)]))) (
   .op (.elem 11 (.cell 0 10) (.x 7)) (
   .chk (.cells (.x 11) 11) (
   .chk (.cells (.x 0) 11) (
   .op (.call F.spec_l13Kid [(.x 0), (.x 7), (.x 1)] true) (
   .op (.scall F.spec_l13Uses G.spec_l13Uses [(.x 11), (.x 12), (.x 10), (.x 6)]) (
   .chk (.eql (.x 6) (.ext 13 0)) (
   .jump [(.ext 13 0)])))))))) (
  .op (.bin .add (.x 7) (.c (.v (.int .i64 1)))) (
  .jump [(.x 10), (.x 11)])))
  (.esc (.ret [(.x 6)]))))))))
theorem T.spec_l13Uses_l : leftS Try.prog CF G.spec_l13Uses Try.f63 = some T.spec_l13Uses := by kernel_rfl
theorem T.spec_l13Uses_scon {ins outs : List AV} (hl : ins.length = 4) (ho : outs.length = 1) (hn : AV.norefs ins = true) (hw : wpT Try.prog (fun _ _ _ => False) (fun a => a = packR outs) T.spec_l13Uses ins []) : SCon Try.prog F.spec_l13Uses G.spec_l13Uses ins outs :=
  scon_auto Try.func63 T.spec_l13Uses_l hl hn ho hw
def T.laws_toKValS : T :=
.op (.lenL (.x 0)) (
.op (.rep 40 (.agg [(.v (.int .i64 0)), (.v (.int .i64 0)), (.v (.int .i64 0)), (.v (.string ⟨#[]⟩))]) (.x 1) (.x 1)) (
.bind 1 (
 .loop [(.x 2), (.c (.v (.int .i64 0)))] (
  .op (.lenL (.x 0)) (
  .op (.bin .lss (.x 4) (.x 5)) (
  .ite (.x 6)
   (.op (.elem 4 (.x 0) (.x 4)) (
   .chk (.cells (.x 7) 4) (
   .op (.call F.laws_toKVal [(.x 7)] false) (
   .chk (.idx (.x 3) (.x 4)) (
   .chk (.cells (.x 8) 4) (
   .op (.set (.x 3) (.x 4) 0 4 (.x 8)) (
   .op (.bin .add (.x 4) (.c (.v (.int .i64 1)))) (
   .jump [(.x 9), (.x 10)]))))))))
   (.esc (.jump [(.x 3)])))))) (
.ret [(.sl (.x 3))])))
theorem T.laws_toKValS_l : leftF Try.prog CF Try.f64 = some (1, T.laws_toKValS) := by kernel_rfl
theorem T.laws_toKValS_con {args : List AV} {res : AV} (hl : args.length = 1) (hn : AV.norefs args = true) (hw : wpT Try.prog (fun _ _ _ => False) (fun a => a = res) T.laws_toKValS args []) : PCon Try.prog F.laws_toKValS args res :=
  con_auto Try.func64 T.laws_toKValS_l hl hn hw
def T.laws_toKTermS : T :=
.op (.lenL (.x 0)) (
.op (.rep 168 (.agg [(.v (.int .i64 0)), (.v (.string ⟨#[]⟩)), (.v (.int .i64 0)), (.v (.int .i64 0)), (.v (.int .i64 0)), (.v (.int .i64 0)), (.v (.string ⟨#[]⟩)), .nils, .nils, .nils, .nils]) (.x 1) (.x 1)) (
.bind 1 (
 .loop [(.x 2), (.c (.v (.int .i64 0)))] (
  .op (.lenL (.x 0)) (
  .op (.bin .lss (.x 4) (.x 5)) (
  .ite (.x 6)
   (.op (.elem 11 (.x 0) (.x 4)) (
   .chk (.cells (.x 7) 11) (
   .op (.call F.laws_toKTerm [(.x 7)] false) (
   .chk (.idx (.x 3) (.x 4)) (
   .chk (.cells (.x 8) 11) (
   .op (.set (.x 3) (.x 4) 0 11 (.x 8)) (
   .op (.bin .add (.x 4) (.c (.v (.int .i64 1)))) (
   .jump [(.x 9), (.x 10)]))))))))
   (.esc (.jump [(.x 3)])))))) (
.ret [(.sl (.x 3))])))
theorem T.laws_toKTermS_l : leftF Try.prog CF Try.f65 = some (1, T.laws_toKTermS) := by kernel_rfl
theorem T.laws_toKTermS_con {args : List AV} {res : AV} (hl : args.length = 1) (hn : AV.norefs args = true) (hw : wpT Try.prog (fun _ _ _ => False) (fun a => a = res) T.laws_toKTermS args []) : PCon Try.prog F.laws_toKTermS args res :=
  con_auto Try.func65 T.laws_toKTermS_l hl hn hw
def T.impl_KSize : T :=
.chk (.cells (.x 0) 11) (
.bind 1 (
 .op (.lenL (.cell 0 10)) (
 .loop [(.c (.v (.int .i64 1))), (.c (.v (.int .i64 0)))] (
  .op (.bin .lss (.x 3) (.x 1)) (
  .ite (.x 4)
   (.op (.elem 11 (.cell 0 10) (.x 3)) (
   .chk (.cells (.x 5) 11) (
   .chk (.cells (.x 5) 11) (
   .chk (.cells (.x 5) 11) (
   .op (.call F.impl_KSize [(.x 5)] false) (
   .op (.bin .add (.x 2) (.x 6)) (
   .op (.bin .add (.x 3) (.c (.v (.int .i64 1)))) (
   .jump [(.x 7), (.x 8)]))))))))
   (.esc (.jump [(.x 2)])))))) (
.ret [(.x 1)]))
theorem T.impl_KSize_l : leftF Try.prog CF Try.f66 = some (1, T.impl_KSize) := by kernel_rfl
theorem T.impl_KSize_con {args : List AV} {res : AV} (hl : args.length = 1) (hn : AV.norefs args = true) (hw : wpT Try.prog (fun _ _ _ => False) (fun a => a = res) T.impl_KSize args []) : PCon Try.prog F.impl_KSize args res :=
  con_auto Try.func66 T.impl_KSize_l hl hn hw
def T.impl_greatestBound : T :=
.chk (.cells (.x 0) 11) (
.bind 1 (
 .chk (.cells (.x 0) 11) (
 .op (.call F.impl_binding [(.x 0)] false) (
 .ite (.x 2)
  (.op (.bin .add (.x 1) (.c (.v (.int .i64 1)))) (
  .jump [(.x 3)]))
  (.jump [(.x 1)])))) (
.bind 1 (
 .op (.lenL (.cell 0 10)) (
 .loop [(.x 2), (.c (.v (.int .i64 0)))] (
  .op (.bin .lss (.x 5) (.x 3)) (
  .ite (.x 6)
   (.op (.elem 11 (.cell 0 10) (.x 5)) (
   .chk (.cells (.x 7) 11) (
   .chk (.cells (.x 7) 11) (
   .chk (.cells (.x 7) 11) (
   .chk (.cells (.x 0) 11) (
   .op (.call F.impl_homeScope [(.x 0), (.x 5), (.x 1)] true) (
   .op (.call F.impl_greatestBound [(.x 7), (.x 8)] true) (
   .op (.pu .max [(.x 4), (.x 9)]) (
   .op (.bin .add (.x 5) (.c (.v (.int .i64 1)))) (
   .jump [(.x 10), (.x 11)]))))))))))
   (.esc (.jump [(.x 4)])))))) (
.ret [(.x 3)])))
theorem T.impl_greatestBound_l : leftF Try.prog CF Try.f67 = some (2, T.impl_greatestBound) := by kernel_rfl
theorem T.impl_greatestBound_con {args : List AV} {res : AV} (hl : args.length = 2) (hn : AV.norefs args = true) (hw : wpT Try.prog (fun _ _ _ => False) (fun a => a = res) T.impl_greatestBound args []) : PCon Try.prog F.impl_greatestBound args res :=
  con_auto Try.func67 T.impl_greatestBound_l hl hn hw
def T.laws_eqKValS : T :=
.op (.lenL (.x 0)) (
.op (.lenL (.x 1)) (
.op (.bin .neq (.x 2) (.x 3)) (
.ite (.x 4)
 (.ret [(.c (.v (.bool false)))])
 (.bind 0 (
  .loop [(.c (.v (.int .i64 0)))] (
   .op (.lenL (.x 0)) (
   .op (.bin .lss (.x 5) (.x 6)) (
   .ite (.x 7)
    (.op (.elem 4 (.x 0) (.x 5)) (
    .chk (.cells (.x 8) 4) (
    .op (.elem 4 (.x 1) (.x 5)) (
    .chk (.cells (.x 9) 4) (
    .op (.call F.laws_eqKVal [(.x 8), (.x 9)] true) (
    .op (.un .not (.x 10)) (
    .ite (.x 11)
     (.esc (.esc (.ret [(.c (.v (.bool false)))])))
     (.op (.bin .add (.x 5) (.c (.v (.int .i64 1)))) (
     .jump [(.x 12)])))))))))
    (.esc (.jump [])))))) (
 .ret [(.c (.v (.bool true)))])))))
theorem T.laws_eqKValS_l : leftF Try.prog CF Try.f70 = some (2, T.laws_eqKValS) := by kernel_rfl
theorem T.laws_eqKValS_con {args : List AV} {res : AV} (hl : args.length = 2) (hn : AV.norefs args = true) (hw : wpT Try.prog (fun _ _ _ => False) (fun a => a = res) T.laws_eqKValS args []) : PCon Try.prog F.laws_eqKValS args res :=
  con_auto Try.func70 T.laws_eqKValS_l hl hn hw
def T.laws_eqKTermS : T :=
.op (.lenL (.x 0)) (
.op (.lenL (.x 1)) (
.op (.bin .neq (.x 2) (.x 3)) (
.ite (.x 4)
 (.ret [(.c (.v (.bool false)))])
 (.bind 0 (
  .loop [(.c (.v (.int .i64 0)))] (
   .op (.lenL (.x 0)) (
   .op (.bin .lss (.x 5) (.x 6)) (
   .ite (.x 7)
    (.op (.elem 11 (.x 0) (.x 5)) (
    .chk (.cells (.x 8) 11) (
    .op (.elem 11 (.x 1) (.x 5)) (
    .chk (.cells (.x 9) 11) (
    .op (.call F.laws_eqKTerm [(.x 8), (.x 9)] true) (
    .op (.un .not (.x 10)) (
    .ite (.x 11)
     (.esc (.esc (.ret [(.c (.v (.bool false)))])))
     (.op (.bin .add (.x 5) (.c (.v (.int .i64 1)))) (
     .jump [(.x 12)])))))))))
    (.esc (.jump [])))))) (
 .ret [(.c (.v (.bool true)))])))))
theorem T.laws_eqKTermS_l : leftF Try.prog CF Try.f71 = some (2, T.laws_eqKTermS) := by kernel_rfl
theorem T.laws_eqKTermS_con {args : List AV} {res : AV} (hl : args.length = 2) (hn : AV.norefs args = true) (hw : wpT Try.prog (fun _ _ _ => False) (fun a => a = res) T.laws_eqKTermS args []) : PCon Try.prog F.laws_eqKTermS args res :=
  con_auto Try.func71 T.laws_eqKTermS_l hl hn hw
-- laws_markKValS: no walk
-- laws_markKTermS: no walk
def T.slices_Index__bool_bool : T :=
.bind 0 (
 .op (.lenL (.x 0)) (
 .loop [(.c (.v (.int .i64 0)))] (
  .op (.bin .lss (.x 3) (.x 2)) (
  .ite (.x 4)
   (.op (.elem 1 (.x 0) (.x 3)) (
   .chk (.lt (.x 5) 0) (
   .op (.beq false (.x 1) (.cell 5 0)) (
   .ite (.x 6)
    (.esc (.esc (.ret [(.x 3)])))
    (.op (.bin .add (.x 3) (.c (.v (.int .i64 1)))) (
    .jump [(.x 7)]))))))
   (.esc (.jump [])))))) (
.ret [(.c (.v (.int .i64 (-1))))])
theorem T.slices_Index__bool_bool_l : leftF Try.prog CF Try.f74 = some (2, T.slices_Index__bool_bool) := by kernel_rfl
theorem T.slices_Index__bool_bool_con {args : List AV} {res : AV} (hl : args.length = 2) (hn : AV.norefs args = true) (hw : wpT Try.prog (fun _ _ _ => False) (fun a => a = res) T.slices_Index__bool_bool args []) : PCon Try.prog F.slices_Index__bool_bool args res :=
  con_auto Try.func74 T.slices_Index__bool_bool_l hl hn hw
def T.laws_szKVal : T :=
.chk (.cells (.x 0) 4) (
.op (.lenS (.cell 0 3)) (
.op (.bin .sub (.x 1) (.x 2)) (
.op (.bin .lss (.x 3) (.c (.v (.int .i64 0)))) (
.ite (.x 4)
 (.ret [(.c (.v (.int .i64 (-1))))])
 (.ret [(.x 3)])))))
theorem T.laws_szKVal_l : leftF Try.prog CF Try.f99 = some (2, T.laws_szKVal) := by kernel_rfl
theorem T.laws_szKVal_con {args : List AV} {res : AV} (hl : args.length = 2) (hn : AV.norefs args = true) (hw : wpT Try.prog (fun _ _ _ => False) (fun a => a = res) T.laws_szKVal args []) : PCon Try.prog F.laws_szKVal args res :=
  con_auto Try.func99 T.laws_szKVal_l hl hn hw
def T.spec_KSize : T :=
.chk (.cells (.x 0) 11) (
.bind 1 (
 .loop [(.c (.v (.int .i64 1))), (.c (.v (.int .i64 0)))] (
  .op (.lenL (.cell 0 10)) (
  .op (.bin .lss (.x 2) (.x 3)) (
  .ite (.x 4)
   (.op (.elem 11 (.cell 0 10) (.x 2)) (
   .chk (.cells (.x 5) 11) (
   .op (.call F.spec_KSize [(.x 5)] false) (
   .op (.bin .add (.x 1) (.x 6)) (
   .op (.bin .add (.x 2) (.c (.v (.int .i64 1)))) (
   .jump [(.x 7), (.x 8)]))))))
   (.esc (.jump [(.x 1)])))))) (
.ret [(.x 1)]))
theorem T.spec_KSize_l : leftF Try.prog CF Try.f100 = some (1, T.spec_KSize) := by kernel_rfl
theorem T.spec_KSize_con {args : List AV} {res : AV} (hl : args.length = 1) (hn : AV.norefs args = true) (hw : wpT Try.prog (fun _ _ _ => False) (fun a => a = res) T.spec_KSize args []) : PCon Try.prog F.spec_KSize args res :=
  con_auto Try.func100 T.spec_KSize_l hl hn hw
def T.spec_l13Binds : T :=
.chk (.cells (.x 0) 11) (
.bind 1 (
 .op (.call F.spec_l1In [(.cell 0 0), (.c (.v (.int .i64 1))), (.c (.v (.int .i64 9)))] false) (
 .ite (.x 1)
  (.jump [(.c (.v (.bool true)))])
  (.op (.bin .eql (.cell 0 0) (.c (.v (.int .i64 18)))) (
  .jump [(.x 2)])))) (
.ret [(.x 1)]))
theorem T.spec_l13Binds_l : leftF Try.prog CF Try.f101 = some (1, T.spec_l13Binds) := by kernel_rfl
theorem T.spec_l13Binds_con {args : List AV} {res : AV} (hl : args.length = 1) (hn : AV.norefs args = true) (hw : wpT Try.prog (fun _ _ _ => False) (fun a => a = res) T.spec_l13Binds args []) : PCon Try.prog F.spec_l13Binds args res :=
  con_auto Try.func101 T.spec_l13Binds_l hl hn hw
def T.spec_l13Kid : T :=
.chk (.cells (.x 0) 11) (
.bind 0 (
 .bind 1 (
  .chk (.cells (.x 0) 11) (
  .op (.call F.spec_l13Binds [(.x 0)] false) (
  .ite (.x 3)
   (.op (.lenL (.cell 0 10)) (
   .op (.bin .sub (.x 4) (.c (.v (.int .i64 1)))) (
   .op (.bin .eql (.x 1) (.x 5)) (
   .jump [(.x 6)]))))
   (.jump [(.c (.v (.bool false)))])))) (
 .ite (.x 3)
  (.op (.bin .add (.x 2) (.c (.v (.int .i64 1)))) (
  .esc (.ret [(.x 4)])))
  (.jump []))) (
.ret [(.x 2)]))
theorem T.spec_l13Kid_l : leftF Try.prog CF Try.f102 = some (3, T.spec_l13Kid) := by kernel_rfl
theorem T.spec_l13Kid_con {args : List AV} {res : AV} (hl : args.length = 3) (hn : AV.norefs args = true) (hw : wpT Try.prog (fun _ _ _ => False) (fun a => a = res) T.spec_l13Kid args []) : PCon Try.prog F.spec_l13Kid args res :=
  con_auto Try.func102 T.spec_l13Kid_l hl hn hw
def T.spec_l13Most : T :=
.chk (.cells (.x 0) 11) (
.bind 1 (
 .loop [(.x 1), (.c (.v (.int .i64 0)))] (
  .op (.lenL (.cell 0 10)) (
  .op (.bin .lss (.x 3) (.x 4)) (
  .ite (.x 5)
   (.bind 1 (
    .op (.elem 11 (.cell 0 10) (.x 3)) (
    .chk (.cells (.x 6) 11) (
    .chk (.cells (.x 0) 11) (
    .op (.call F.spec_l13Kid [(.x 0), (.x 3), (.x 1)] true) (
    .op (.call F.spec_l13Most [(.x 6), (.x 7)] true) (
    .op (.bin .gtr (.x 8) (.x 2)) (
    .ite (.x 9)
     (.jump [(.x 8)])
     (.jump [(.x 2)])))))))) (
   .op (.bin .add (.x 3) (.c (.v (.int .i64 1)))) (
   .jump [(.x 6), (.x 7)])))
   (.esc (.jump [(.x 2)])))))) (
.ret [(.x 2)]))
theorem T.spec_l13Most_l : leftF Try.prog CF Try.f103 = some (2, T.spec_l13Most) := by kernel_rfl
theorem T.spec_l13Most_con {args : List AV} {res : AV} (hl : args.length = 2) (hn : AV.norefs args = true) (hw : wpT Try.prog (fun _ _ _ => False) (fun a => a = res) T.spec_l13Most args []) : PCon Try.prog F.spec_l13Most args res :=
  con_auto Try.func103 T.spec_l13Most_l hl hn hw
def T.laws_toKVal : T :=
.chk (.cells (.x 0) 4) (
.chk (.one (.cell 0 0)) (
.chk (.one (.cell 0 1)) (
.chk (.one (.cell 0 2)) (
.chk (.one (.cell 0 3)) (
.chk (.cells (.x 0) 4) (
.chk (.cells (.x 0) 4) (
.ret [(.agg [(.cell 0 0), (.cell 0 1), (.cell 0 2), (.cell 0 3)])])))))))
theorem T.laws_toKVal_l : leftF Try.prog CF Try.f104 = some (1, T.laws_toKVal) := by kernel_rfl
theorem T.laws_toKVal_con {args : List AV} {res : AV} (hl : args.length = 1) (hn : AV.norefs args = true) (hw : wpT Try.prog (fun _ _ _ => False) (fun a => a = res) T.laws_toKVal args []) : PCon Try.prog F.laws_toKVal args res :=
  con_auto Try.func104 T.laws_toKVal_l hl hn hw
def T.impl_binding : T :=
.chk (.cells (.x 0) 11) (
.bind 1 (
 .op (.call F.impl_within [(.cell 0 0), (.c (.v (.int .i64 1))), (.c (.v (.int .i64 9)))] false) (
 .ite (.x 1)
  (.jump [(.c (.v (.bool true)))])
  (.op (.bin .eql (.cell 0 0) (.c (.v (.int .i64 18)))) (
  .jump [(.x 2)])))) (
.ret [(.x 1)]))
theorem T.impl_binding_l : leftF Try.prog CF Try.f105 = some (1, T.impl_binding) := by kernel_rfl
theorem T.impl_binding_con {args : List AV} {res : AV} (hl : args.length = 1) (hn : AV.norefs args = true) (hw : wpT Try.prog (fun _ _ _ => False) (fun a => a = res) T.impl_binding args []) : PCon Try.prog F.impl_binding args res :=
  con_auto Try.func105 T.impl_binding_l hl hn hw
def T.impl_homeScope : T :=
.chk (.cells (.x 0) 11) (
.bind 0 (
 .bind 1 (
  .chk (.cells (.x 0) 11) (
  .op (.call F.impl_binding [(.x 0)] false) (
  .ite (.x 3)
   (.op (.lenL (.cell 0 10)) (
   .op (.bin .sub (.x 4) (.c (.v (.int .i64 1)))) (
   .op (.bin .eql (.x 1) (.x 5)) (
   .jump [(.x 6)]))))
   (.jump [(.c (.v (.bool false)))])))) (
 .ite (.x 3)
  (.op (.bin .add (.x 2) (.c (.v (.int .i64 1)))) (
  .esc (.ret [(.x 4)])))
  (.jump []))) (
.ret [(.x 2)]))
theorem T.impl_homeScope_l : leftF Try.prog CF Try.f106 = some (3, T.impl_homeScope) := by kernel_rfl
theorem T.impl_homeScope_con {args : List AV} {res : AV} (hl : args.length = 3) (hn : AV.norefs args = true) (hw : wpT Try.prog (fun _ _ _ => False) (fun a => a = res) T.impl_homeScope args []) : PCon Try.prog F.impl_homeScope args res :=
  con_auto Try.func106 T.impl_homeScope_l hl hn hw
def T.impl_greatestScope : T :=
.chk (.cells (.x 0) 11) (
.bind 1 (
 .op (.lenL (.cell 0 10)) (
 .loop [(.x 1), (.c (.v (.int .i64 0)))] (
  .op (.bin .lss (.x 4) (.x 2)) (
  .ite (.x 5)
   (.op (.elem 11 (.cell 0 10) (.x 4)) (
   .chk (.cells (.x 6) 11) (
   .chk (.cells (.x 6) 11) (
   .chk (.cells (.x 6) 11) (
   .chk (.cells (.x 0) 11) (
   .op (.call F.impl_homeScope [(.x 0), (.x 4), (.x 1)] true) (
   .op (.call F.impl_greatestScope [(.x 6), (.x 7)] true) (
   .op (.pu .max [(.x 3), (.x 8)]) (
   .op (.bin .add (.x 4) (.c (.v (.int .i64 1)))) (
   .jump [(.x 9), (.x 10)]))))))))))
   (.esc (.jump [(.x 3)])))))) (
.ret [(.x 2)]))
theorem T.impl_greatestScope_l : leftF Try.prog CF Try.f107 = some (2, T.impl_greatestScope) := by kernel_rfl
theorem T.impl_greatestScope_con {args : List AV} {res : AV} (hl : args.length = 2) (hn : AV.norefs args = true) (hw : wpT Try.prog (fun _ _ _ => False) (fun a => a = res) T.impl_greatestScope args []) : PCon Try.prog F.impl_greatestScope args res :=
  con_auto Try.func107 T.impl_greatestScope_l hl hn hw
def T.laws_eqKVal : T :=
.chk (.cells (.x 0) 4) (
.chk (.cells (.x 1) 4) (
.op (.bin .neq (.cell 0 0) (.cell 1 0)) (
.ite (.x 2)
 (.ret [(.c (.v (.bool false)))])
 (.op (.bin .neq (.cell 0 1) (.cell 1 1)) (
 .ite (.x 3)
  (.ret [(.c (.v (.bool false)))])
  (.op (.bin .neq (.cell 0 2) (.cell 1 2)) (
  .ite (.x 4)
   (.ret [(.c (.v (.bool false)))])
   (.op (.bin .neq (.cell 0 3) (.cell 1 3)) (
   .ite (.x 5)
    (.ret [(.c (.v (.bool false)))])
    (.ret [(.c (.v (.bool true)))]))))))))))
theorem T.laws_eqKVal_l : leftF Try.prog CF Try.f108 = some (2, T.laws_eqKVal) := by kernel_rfl
theorem T.laws_eqKVal_con {args : List AV} {res : AV} (hl : args.length = 2) (hn : AV.norefs args = true) (hw : wpT Try.prog (fun _ _ _ => False) (fun a => a = res) T.laws_eqKVal args []) : PCon Try.prog F.laws_eqKVal args res :=
  con_auto Try.func108 T.laws_eqKVal_l hl hn hw
end Go.Proofs.Ab
