/-
  THE LAWS' OWN HELPERS, by their types (printed by wip/tool/helpers.py).
-/
import Derived.Test.YtkinchcjijhmgaaDoorST
import Derived.Test.YtkinchcjijhmgaaDoorGM
set_option linter.unusedVariables false
set_option linter.unusedSimpArgs false
set_option linter.defProp false
namespace Go.Proofs.Ab
open Go.Ab
set_option maxRecDepth 100000
theorem szInstr_c (x : VInstr) (b : Nat) (hb : x.wt ≤ b) (hb1 : b ≤ 1048576) : PCon Tryd.prog F.laws_szInstr [x.av, .v (.int .i64 b)] (.v (.int .i64 (b - x.wt : Nat))) := by
  have hw := VInstr.wt_eq x
  refine T.laws_szInstr_con rfl (by simp [AV.norefs, AV.noref, VInstr.noref]) ?_
  simp (disch := omega) only [T.laws_szInstr, VInstr.cells, VInstr.isAgg, VInstr.storable, VInstr.noref, VInstr.eta, wrapS, lt0, WA, Nat.reduceEqDiff, Nat.reduceAdd, Nat.reduceLT, Nat.reduceLeDiff, Nat.reduceMul, reduceIte, reduceCtorEq, Int.reduceEq, Int.reduceLT, Int.reduceLE, Int.reduceNe]
  first | done | exact congrArg (fun n : Nat => AV.v (.int .i64 (n : Int))) (by omega)
theorem toInstr_c (x : VInstr) (hb : x.wt ≤ 1048576) : PCon Tryd.prog F.laws_toInstr [x.av] x.av := by
  have hw := VInstr.wt_eq x
  refine T.laws_toInstr_con rfl (by simp [AV.norefs, AV.noref, VInstr.noref]) ?_
  simp (disch := omega) only [T.laws_toInstr, VInstr.cells, VInstr.isAgg, VInstr.storable, VInstr.noref, VInstr.eta, wrapS, lt0, WA, Nat.reduceEqDiff, Nat.reduceAdd, Nat.reduceLT, Nat.reduceLeDiff, Nat.reduceMul, reduceIte, reduceCtorEq, Int.reduceEq, Int.reduceLT, Int.reduceLE, Int.reduceNe]
theorem eqInstr_c (x : VInstr) (hb : x.wt ≤ 1048576) : PCon Tryd.prog F.laws_eqInstr [x.av, x.av] (.v (.bool true)) := by
  have hw := VInstr.wt_eq x
  refine T.laws_eqInstr_con rfl (by simp [AV.norefs, AV.noref, VInstr.noref]) ?_
  simp (disch := omega) only [T.laws_eqInstr, VInstr.cells, VInstr.isAgg, VInstr.storable, VInstr.noref, VInstr.eta, wrapS, lt0, WA, Nat.reduceEqDiff, Nat.reduceAdd, Nat.reduceLT, Nat.reduceLeDiff, Nat.reduceMul, reduceIte, reduceCtorEq, Int.reduceEq, Int.reduceLT, Int.reduceLE, Int.reduceNe]
theorem szCode_c (x : VCode) (b : Nat) (hb : x.wt ≤ b) (hb1 : b ≤ 1048576) : PCon Tryd.prog F.laws_szCode [x.av, .v (.int .i64 b)] (.v (.int .i64 (b - x.wt : Nat))) := by
  have hw := VCode.wt_eq x
  have hInstrs : ∀ c : Nat, x.Instrs.length + (x.Instrs.map VInstr.wt).sum ≤ c → c ≤ 1048576 → PCon Tryd.prog F.laws_szInstrS [.sl (x.Instrs.map VInstr.av), .v (.int .i64 c)] (.v (.int .i64 (c - (x.Instrs.length + (x.Instrs.map VInstr.wt).sum) : Nat))) := fun c h1 h2 =>
    T.laws_szInstrS_con rfl (by simp only [AV.norefs, AV.noref, Bool.and_true]; exact (norefsM (f := VInstr.av) (l := x.Instrs) VInstr.noref)) (szS_T VInstr.shape h1 h2 fun y hy c h1 h2 => szInstr_c y c h1 h2)
  have hStarts : ∀ c : Nat, x.Starts.length ≤ c → c ≤ 1048576 → PCon Tryd.prog F.laws_szIntS [.sl (x.Starts.map fun y => .v (.int .i64 y)), .v (.int .i64 c)] (.v (.int .i64 (c - x.Starts.length : Nat))) := fun c h1 h2 => by
    have := szI_T (P := Tryd.prog) (L := fun _ _ _ => False) (xs := (x.Starts.map fun y => .v (.int .i64 y))) (by simpa using h1) h2
    rw [List.length_map] at this
    exact T.laws_szIntS_con rfl (by simp only [AV.norefs, AV.noref, Bool.and_true]; exact (norefsM (f := fun y => .v (.int .i64 y)) (l := x.Starts) fun _ => rfl)) this
  refine T.laws_szCode_con rfl (by simp [AV.norefs, AV.noref, VCode.noref]) ?_
  simp (disch := omega) only [T.laws_szCode, VCode.cells, VCode.isAgg, VCode.storable, VCode.noref, VCode.eta, wrapS, lt0, WA, Nat.reduceEqDiff, Nat.reduceAdd, Nat.reduceLT, Nat.reduceLeDiff, Nat.reduceMul, reduceIte, reduceCtorEq, Int.reduceEq, Int.reduceLT, Int.reduceLE, Int.reduceNe]
  refine call_v (hInstrs _ (by omega) (by omega)) ?_
  simp (disch := omega) only [VCode.cells, VCode.isAgg, VCode.storable, VCode.noref, VCode.eta, wrapS, lt0, WA, Nat.reduceEqDiff, Nat.reduceAdd, Nat.reduceLT, Nat.reduceLeDiff, Nat.reduceMul, reduceIte, reduceCtorEq, Int.reduceEq, Int.reduceLT, Int.reduceLE, Int.reduceNe]
  refine call_v (hStarts _ (by omega) (by omega)) ?_
  simp (disch := omega) only [VCode.cells, VCode.isAgg, VCode.storable, VCode.noref, VCode.eta, wrapS, lt0, WA, Nat.reduceEqDiff, Nat.reduceAdd, Nat.reduceLT, Nat.reduceLeDiff, Nat.reduceMul, reduceIte, reduceCtorEq, Int.reduceEq, Int.reduceLT, Int.reduceLE, Int.reduceNe]
  first | done | exact congrArg (fun n : Nat => AV.v (.int .i64 (n : Int))) (by omega)
theorem toCode_c (x : VCode) (hb : x.wt ≤ 1048576) : PCon Tryd.prog F.laws_toCode [x.av] x.av := by
  have hw := VCode.wt_eq x
  have hInstrs : PCon Tryd.prog F.laws_toInstrS [.sl (x.Instrs.map VInstr.av)] (.sl (x.Instrs.map VInstr.av)) :=
    T.laws_toInstrS_con rfl (by simp only [AV.norefs, AV.noref, Bool.and_true]; exact (norefsM (f := VInstr.av) (l := x.Instrs) VInstr.noref)) (toS_T VInstr.shape4 rfl (by omega) (by omega) fun y hy => toInstr_c y (by have := le_sum VInstr.wt hy; omega))
  have hStarts : PCon Tryd.prog F.laws_toIntS [.sl (x.Starts.map fun y => .v (.int .i64 y))] (.sl (x.Starts.map fun y => .v (.int .i64 y))) := T.laws_toIntS_con rfl (by simp only [AV.norefs, AV.noref, Bool.and_true]; exact (norefsM (f := fun y => .v (.int .i64 y)) (l := x.Starts) fun _ => rfl)) (toI_T (g := fun y => .int .i64 y) rfl (by omega) (by omega))
  refine T.laws_toCode_con rfl (by simp [AV.norefs, AV.noref, VCode.noref]) ?_
  simp (disch := omega) only [T.laws_toCode, VCode.cells, VCode.isAgg, VCode.storable, VCode.noref, VCode.eta, wrapS, lt0, WA, Nat.reduceEqDiff, Nat.reduceAdd, Nat.reduceLT, Nat.reduceLeDiff, Nat.reduceMul, reduceIte, reduceCtorEq, Int.reduceEq, Int.reduceLT, Int.reduceLE, Int.reduceNe]
  refine call_p hInstrs (norefsM (f := VInstr.av) (l := x.Instrs) VInstr.noref) ?_
  simp (disch := omega) only [VCode.cells, VCode.isAgg, VCode.storable, VCode.noref, VCode.eta, wrapS, lt0, WA, Nat.reduceEqDiff, Nat.reduceAdd, Nat.reduceLT, Nat.reduceLeDiff, Nat.reduceMul, reduceIte, reduceCtorEq, Int.reduceEq, Int.reduceLT, Int.reduceLE, Int.reduceNe]
  refine call_p hStarts (norefsM (f := fun y => .v (.int .i64 y)) (l := x.Starts) fun _ => rfl) ?_
  simp (disch := omega) only [VCode.cells, VCode.isAgg, VCode.storable, VCode.noref, VCode.eta, wrapS, lt0, WA, Nat.reduceEqDiff, Nat.reduceAdd, Nat.reduceLT, Nat.reduceLeDiff, Nat.reduceMul, reduceIte, reduceCtorEq, Int.reduceEq, Int.reduceLT, Int.reduceLE, Int.reduceNe]
theorem eqCode_c (x : VCode) (hb : x.wt ≤ 1048576) : PCon Tryd.prog F.laws_eqCode [x.av, x.av] (.v (.bool true)) := by
  have hw := VCode.wt_eq x
  have hInstrs : PCon Tryd.prog F.laws_eqInstrS [.sl (x.Instrs.map VInstr.av), .sl (x.Instrs.map VInstr.av)] (.v (.bool true)) :=
    T.laws_eqInstrS_con rfl (by simp only [AV.norefs, AV.noref, Bool.and_true, Bool.and_self]; exact (norefsM (f := VInstr.av) (l := x.Instrs) VInstr.noref)) (eqS_T VInstr.shape (by omega) fun y hy => eqInstr_c y (by have := le_sum VInstr.wt hy; omega))
  have hStarts : PCon Tryd.prog F.laws_eqIntS [.sl (x.Starts.map fun y => .v (.int .i64 y)), .sl (x.Starts.map fun y => .v (.int .i64 y))] (.v (.bool true)) := T.laws_eqIntS_con rfl (by simp only [AV.norefs, AV.noref, Bool.and_true, Bool.and_self]; exact (norefsM (f := fun y => .v (.int .i64 y)) (l := x.Starts) fun _ => rfl)) (eqI_T (g := fun y => .int .i64 y) (fun y K h => neqI _ y K h) (by omega))
  refine T.laws_eqCode_con rfl (by simp [AV.norefs, AV.noref, VCode.noref]) ?_
  simp (disch := omega) only [T.laws_eqCode, VCode.cells, VCode.isAgg, VCode.storable, VCode.noref, VCode.eta, wrapS, lt0, WA, Nat.reduceEqDiff, Nat.reduceAdd, Nat.reduceLT, Nat.reduceLeDiff, Nat.reduceMul, reduceIte, reduceCtorEq, Int.reduceEq, Int.reduceLT, Int.reduceLE, Int.reduceNe]
  refine call_v hInstrs ?_
  simp (disch := omega) only [VCode.cells, VCode.isAgg, VCode.storable, VCode.noref, VCode.eta, wrapS, lt0, WA, Nat.reduceEqDiff, Nat.reduceAdd, Nat.reduceLT, Nat.reduceLeDiff, Nat.reduceMul, reduceIte, reduceCtorEq, Int.reduceEq, Int.reduceLT, Int.reduceLE, Int.reduceNe]
  refine call_v hStarts ?_
  simp (disch := omega) only [VCode.cells, VCode.isAgg, VCode.storable, VCode.noref, VCode.eta, wrapS, lt0, WA, Nat.reduceEqDiff, Nat.reduceAdd, Nat.reduceLT, Nat.reduceLeDiff, Nat.reduceMul, reduceIte, reduceCtorEq, Int.reduceEq, Int.reduceLT, Int.reduceLE, Int.reduceNe]
end Go.Proofs.Ab
