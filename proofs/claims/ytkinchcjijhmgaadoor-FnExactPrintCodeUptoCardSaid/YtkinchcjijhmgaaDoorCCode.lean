/-
  INSTRUCTIONS AND CODE THAT ARE RIGHT.
-/
import Derived.Test.YtkinchcjijhmgaaDoorCTok
import Derived.Test.YtkinchcjijhmgaaDoorSL
import Derived.Test.YtkinchcjijhmgaaDoorCSl
import Derived.Test.YtkinchcjijhmgaaDoorPShelf
import Derived.Lib.IndexAny
set_option linter.unusedVariables false
set_option linter.unusedSimpArgs false
set_option linter.defProp false
namespace Go.Ab
set_option maxRecDepth 100000
set_option maxHeartbeats 4000000
def hasM (s : ByteArray) (c : Int) : Bool := (bs s).any fun y => decide (y = c)
def wantOp (t : ByteArray) : ByteArray × Bool :=
  if t = ⟨#[43]⟩ ∨ t = ⟨#[45]⟩ ∨ t = ⟨#[42]⟩ ∨ t = ⟨#[61]⟩ ∨ t = ⟨#[60]⟩ ∨ t = ⟨#[94]⟩ then (⟨#[97, 98, 99, 116]⟩, true)
  else if t = ⟨#[115, 105, 122, 101]⟩ then (⟨#[97, 98, 116]⟩, true)
  else if t = ⟨#[114, 101, 97, 100]⟩ then (⟨#[97, 116]⟩, true)
  else if t = ⟨#[112, 114, 105, 110, 116]⟩ then (⟨#[98, 116]⟩, true)
  else (⟨#[]⟩, false)
def VInstr.want (x : VInstr) : ByteArray × Bool :=
  if x.Op = 1 ∨ x.Op = 3 ∨ x.Op = 5 ∨ x.Op = 6 ∨ x.Op = 8 ∨ x.Op = 11 then (⟨#[97, 110]⟩, true)
  else if x.Op = 2 then (⟨#[97, 116]⟩, true)
  else if x.Op = 4 then (⟨#[97, 98]⟩, true)
  else if x.Op = 7 then wantOp x.Text
  else if x.Op = 9 ∨ x.Op = 10 then (⟨#[97, 98, 110]⟩, true)
  else if x.Op = 12 ∨ x.Op = 15 then (⟨#[110]⟩, true)
  else if x.Op = 13 ∨ x.Op = 14 then (⟨#[97]⟩, true)
  else (⟨#[]⟩, false)
def VInstr.zeroM (x : VInstr) (s : ByteArray) : Bool := (hasM s 97 || decide (x.A = 0)) && (hasM s 98 || decide (x.B = 0)) && (hasM s 99 || decide (x.C = 0)) && (hasM s 110 || decide (x.N = 0)) && (hasM s 116 || decide (x.Text = ⟨#[]⟩))
def VInstr.moreM (x : VInstr) (n m : Int) : Bool :=
  if x.Op = 2 then plainM x.Text && decide ((x.Text.size : Int) ≤ 4000)
  else if x.Op = 3 then inB x.N 0 (m - 1)
  else if x.Op = 5 ∨ x.Op = 6 then inB x.N 0 63
  else if x.Op = 8 then inB x.N 1 4000
  else if x.Op = 9 ∨ x.Op = 10 then decide (0 ≤ x.N)
  else if x.Op = 11 ∨ x.Op = 12 then inB x.N 0 (n - 1)
  else if x.Op = 15 then inB x.N 1 2
  else true
def VInstr.okM (x : VInstr) (n m : Int) : Bool := inB x.A 0 15 && inB x.B 0 15 && inB x.C 0 15 && x.want.2 && x.zeroM x.want.1 && x.moreM n m
def VCode.pI (c : VCode) (x : VInstr) : Bool := x.okM c.Instrs.length c.Starts.length
def VCode.pS (c : VCode) (n : Int) : Bool := inB n 0 (c.Instrs.length - 1)
def VCode.lastOk (c : VCode) : Bool := match c.Instrs[c.Instrs.length - 1]? with | some x => decide (x.Op = 12) || decide (x.Op = 13) || decide (x.Op = 14) || decide (x.Op = 15) | none => false
theorem VCode.lastOk_of {c : VCode} {y : VInstr} (h : c.Instrs[c.Instrs.length - 1]? = some y) : c.lastOk = (decide (y.Op = 12) || decide (y.Op = 13) || decide (y.Op = 14) || decide (y.Op = 15)) := by
  unfold VCode.lastOk; rw [h]
def VCode.okM (c : VCode) : Bool :=
  inB c.Instrs.length 1 40000 && decide ((c.Starts.length : Int) ≤ 400) && c.Instrs.all c.pI && c.Starts.all c.pS && c.lastOk
/-- five flags, when the letter k has been looked at in the first m of "abcnt" -/
def st5 (h : Int → Bool) (k : Int) (m : Nat) : AV := .sl [.v (.bool (h 97 || (decide (k = 97) && decide (0 < m)))), .v (.bool (h 98 || (decide (k = 98) && decide (1 < m)))), .v (.bool (h 99 || (decide (k = 99) && decide (2 < m)))), .v (.bool (h 110 || (decide (k = 110) && decide (3 < m)))), .v (.bool (h 116 || (decide (k = 116) && decide (4 < m))))]
def st0 (h : Int → Bool) : AV := .sl [.v (.bool (h 97)), .v (.bool (h 98)), .v (.bool (h 99)), .v (.bool (h 110)), .v (.bool (h 116))]
theorem st5_0 (h : Int → Bool) (k : Int) : st5 h k 0 = st0 h := by simp [st5, st0]
theorem regM_eq (p : Bool) (n : Int) : (inB n 0 15 && (p || decide (n = 0))) = (p && inB n 0 15 || decide (n = 0)) := by
  by_cases h : n = 0
  · subst h; cases p <;> rfl
  · simp [h, Bool.and_comm]
theorem VInstr.okM_eq (x : VInstr) (n m : Int) : x.okM n m = (x.want.2 && (hasM x.want.1 ((97 : UInt8).toNat : Int) && inB x.A 0 15 || decide (x.A = 0)) && (hasM x.want.1 ((98 : UInt8).toNat : Int) && inB x.B 0 15 || decide (x.B = 0)) && (hasM x.want.1 ((99 : UInt8).toNat : Int) && inB x.C 0 15 || decide (x.C = 0)) && (hasM x.want.1 ((110 : UInt8).toNat : Int) || decide (x.N = 0)) && (hasM x.want.1 ((116 : UInt8).toNat : Int) || decide (x.Text = ⟨#[]⟩)) && x.moreM n m) := by
  simp only [← regM_eq]
  show (inB x.A 0 15 && inB x.B 0 15 && inB x.C 0 15 && x.want.2 && ((hasM x.want.1 97 || decide (x.A = 0)) && (hasM x.want.1 98 || decide (x.B = 0)) && (hasM x.want.1 99 || decide (x.C = 0)) && (hasM x.want.1 110 || decide (x.N = 0)) && (hasM x.want.1 116 || decide (x.Text = ⟨#[]⟩))) && x.moreM n m) = (x.want.2 && (inB x.A 0 15 && (hasM x.want.1 97 || decide (x.A = 0))) && (inB x.B 0 15 && (hasM x.want.1 98 || decide (x.B = 0))) && (inB x.C 0 15 && (hasM x.want.1 99 || decide (x.C = 0))) && (hasM x.want.1 110 || decide (x.N = 0)) && (hasM x.want.1 116 || decide (x.Text = ⟨#[]⟩)) && x.moreM n m)
  ac_rfl
end Go.Ab
namespace Go.Proofs.Ab
open Go.Ab
set_option maxRecDepth 100000
set_option maxHeartbeats 4000000
theorem spec_l14Zero_c (x : VInstr) (s : ByteArray) (hs : s.size ≤ 1048576) : PCon Tryd.prog F.spec_l14Zero [x.av, avB s] (.v (.bool (x.zeroM s))) := by
  refine T.spec_l14Zero_con rfl (by simp [AV.norefs, AV.noref, VInstr.noref]) ?_
  simp only [T.spec_l14Zero, VInstr.cells, VInstr.isAgg, VInstr.storable, WA, Nat.reduceEqDiff, Nat.reduceAdd, Nat.reduceLT, Nat.reduceLeDiff, Nat.reduceMul, reduceIte, reduceCtorEq, Int.reduceEq, Int.reduceLT, Int.reduceLE, Int.reduceNe]
  repeat' (first | (simp (disch := (first | omega | rfl | exact rfl | (simp only [cells_v, List.length_cons, List.length_nil]; done) | exact VInstr.width _)) only [hel, hely, hd, hdy, VInstr.cells, VInstr.isAgg, VInstr.storable, VInstr.eta, wrapS, wrapA, wrapA1, lt0, WA, Nat.reduceEqDiff, Nat.reduceAdd, Nat.reduceLT, Nat.reduceLeDiff, Nat.reduceMul, reduceIte, reduceCtorEq, Int.reduceEq, Int.reduceLT, Int.reduceLE, Int.reduceNe]) | (simp (disch := (first | omega | rfl | exact rfl | (simp only [cells_v, List.length_cons, List.length_nil]; done) | exact VInstr.width _)) only [hel, hd, VInstr.cells, VInstr.isAgg, VInstr.storable, VInstr.eta, wrapS, wrapA, wrapA1, lt0, WA, Nat.reduceEqDiff, Nat.reduceAdd, Nat.reduceLT, Nat.reduceLeDiff, Nat.reduceMul, reduceIte, reduceCtorEq, Int.reduceEq, Int.reduceLT, Int.reduceLE, Int.reduceNe]) | (simp (disch := (first | omega | rfl | exact rfl | (simp only [cells_v, List.length_cons, List.length_nil]; done) | exact VInstr.width _)) only [hd, hdy, VInstr.cells, VInstr.isAgg, VInstr.storable, VInstr.eta, wrapS, wrapA, wrapA1, lt0, WA, Nat.reduceEqDiff, Nat.reduceAdd, Nat.reduceLT, Nat.reduceLeDiff, Nat.reduceMul, reduceIte, reduceCtorEq, Int.reduceEq, Int.reduceLT, Int.reduceLE, Int.reduceNe]) | (simp (disch := (first | omega | rfl | exact rfl | (simp only [cells_v, List.length_cons, List.length_nil]; done) | exact VInstr.width _)) only [hix, hd, VInstr.cells, VInstr.isAgg, VInstr.storable, VInstr.eta, wrapS, wrapA, wrapA1, lt0, WA, Nat.reduceEqDiff, Nat.reduceAdd, Nat.reduceLT, Nat.reduceLeDiff, Nat.reduceMul, reduceIte, reduceCtorEq, Int.reduceEq, Int.reduceLT, Int.reduceLE, Int.reduceNe]) | (simp (disch := (first | omega | rfl | exact rfl | (simp only [cells_v, List.length_cons, List.length_nil]; done) | exact VInstr.width _)) only [hd, VInstr.cells, VInstr.isAgg, VInstr.storable, VInstr.eta, wrapS, wrapA, wrapA1, lt0, WA, Nat.reduceEqDiff, Nat.reduceAdd, Nat.reduceLT, Nat.reduceLeDiff, Nat.reduceMul, reduceIte, reduceCtorEq, Int.reduceEq, Int.reduceLT, Int.reduceLE, Int.reduceNe]) | (simp (disch := (first | omega | rfl | exact rfl | (simp only [cells_v, List.length_cons, List.length_nil]; done) | exact VInstr.width _)) only [VInstr.cells, VInstr.isAgg, VInstr.storable, VInstr.eta, wrapS, wrapA, wrapA1, lt0, WA, Nat.reduceEqDiff, Nat.reduceAdd, Nat.reduceLT, Nat.reduceLeDiff, Nat.reduceMul, reduceIte, reduceCtorEq, Int.reduceEq, Int.reduceLT, Int.reduceLE, Int.reduceNe]) | (refine ite_dec (fun hq => ?_) (fun hq => ?_) <;> (try simp only [hq, decide_true, decide_false, Bool.not_true, Bool.not_false, Bool.not_eq_true', Bool.not_eq_false'])) | (refine ite_ndec (fun hq => ?_) (fun hq => ?_) <;> (try simp only [hq, decide_true, decide_false, Bool.not_true, Bool.not_false, Bool.not_eq_true', Bool.not_eq_false'])) | (refine ite_intro (fun hq => ?_) (fun hq => ?_) <;> (try simp only [hq, decide_true, decide_false, Bool.not_true, Bool.not_false, Bool.not_eq_true', Bool.not_eq_false'])) | (refine bind_push ?_) | (refine loop_bytes s (fun i (h : Int → Bool) => [st0 h, avI i]) (fun _ rest h => ∀ c, hasM s c = (h c || rest.any fun y => decide (y = c))) (fun _ => false) rfl ?_ (fun i k rest b hi hx hm hix hd hc0 hc1 hw8 hg => ?_) (fun b hd hg => ?_)))
  · intro c; simp only [hasM, Bool.false_or]
  · refine loop_up 5 (fun m => [st5 b k m, avI m]) (by rw [st5_0]; rfl) fun m hm => ?_
    have d0 : decide (((0 : Nat) : Int) < 5) = true := by decide
    have d1 : decide (((1 : Nat) : Int) < 5) = true := by decide
    have d2 : decide (((2 : Nat) : Int) < 5) = true := by decide
    have d3 : decide (((3 : Nat) : Int) < 5) = true := by decide
    have d4 : decide (((4 : Nat) : Int) < 5) = true := by decide
    have d5 : decide (((5 : Nat) : Int) < 5) = false := by decide
    have i0 := idxX (s := ⟨#[97, 98, 99, 110, 116]⟩) (i := 0) (c := 97) rfl .i64
    have i1 := idxX (s := ⟨#[97, 98, 99, 110, 116]⟩) (i := 1) (c := 98) rfl .i64
    have i2 := idxX (s := ⟨#[97, 98, 99, 110, 116]⟩) (i := 2) (c := 99) rfl .i64
    have i3 := idxX (s := ⟨#[97, 98, 99, 110, 116]⟩) (i := 3) (c := 110) rfl .i64
    have i4 := idxX (s := ⟨#[97, 98, 99, 110, 116]⟩) (i := 4) (c := 116) rfl .i64
    rcases (by omega : m = 0 ∨ m = 1 ∨ m = 2 ∨ m = 3 ∨ m = 4 ∨ m = 5) with rfl | rfl | rfl | rfl | rfl | rfl
    all_goals repeat' (first | (simp (disch := (first | omega | rfl | exact rfl)) only [hix, hd, d0, d1, d2, d3, d4, d5, i0, i1, i2, i3, i4, st5, wrapS, wrapA, wrapA1, lt0, WA, Nat.reduceEqDiff, Nat.reduceAdd, Nat.reduceLT, Nat.reduceLeDiff, Nat.reduceMul, reduceIte, reduceCtorEq, Int.reduceEq, Int.reduceLT, Int.reduceLE, Int.reduceNe]) | (refine ite_dec (fun hq => ?_) (fun hq => ?_) <;> (try simp only [hq, decide_true, decide_false])) | (refine bind_push ?_))
    all_goals first
      | exact ⟨by omega, rfl⟩
      | (simp only [Bool.or_false, Bool.and_false, Bool.and_true, Bool.false_and, Bool.true_and, Bool.or_true]; done)
      | (refine ⟨hi, fun c => b c || decide (k = c), fun c => ?_, ?_⟩
         · rw [hg c, List.any_cons, Bool.or_assoc]
         · simp [st0])
      | skip
    all_goals trace_state
  · have h1 := hg 97; have h2 := hg 98; have h3 := hg 99; have h4 := hg 110; have h5 := hg 116
    simp only [List.any_nil, Bool.or_false] at h1 h2 h3 h4 h5
    simp only [st0, ← h1, ← h2, ← h3, ← h4, ← h5, VInstr.zeroM]
    clear h1 h2 h3 h4 h5 hg
    simp only [VInstr.cells, VInstr.isAgg, VInstr.storable, WA, Nat.reduceEqDiff, Nat.reduceAdd, Nat.reduceLT, Nat.reduceLeDiff, Nat.reduceMul, reduceIte, reduceCtorEq, Int.reduceEq, Int.reduceLT, Int.reduceLE, Int.reduceNe]
    repeat' (first | (simp (disch := (first | omega | rfl | exact rfl | (simp only [cells_v, List.length_cons, List.length_nil]; done) | exact VInstr.width _)) only [hix, hd, VInstr.cells, VInstr.isAgg, VInstr.storable, VInstr.eta, Int.cast_ofNat_Int, Int.reduceToNat, wrapS, wrapA, wrapA1, lt0, WA, Nat.reduceEqDiff, Nat.reduceAdd, Nat.reduceLT, Nat.reduceLeDiff, Nat.reduceMul, reduceIte, reduceCtorEq, Int.reduceEq, Int.reduceLT, Int.reduceLE, Int.reduceNe]) | (simp (disch := (first | omega | rfl | exact rfl | (simp only [cells_v, List.length_cons, List.length_nil]; done) | exact VInstr.width _)) only [hd, VInstr.cells, VInstr.isAgg, VInstr.storable, VInstr.eta, Int.cast_ofNat_Int, Int.reduceToNat, wrapS, wrapA, wrapA1, lt0, WA, Nat.reduceEqDiff, Nat.reduceAdd, Nat.reduceLT, Nat.reduceLeDiff, Nat.reduceMul, reduceIte, reduceCtorEq, Int.reduceEq, Int.reduceLT, Int.reduceLE, Int.reduceNe]) | (simp (disch := (first | omega | rfl | exact rfl | (simp only [cells_v, List.length_cons, List.length_nil]; done) | exact VInstr.width _)) only [VInstr.cells, VInstr.isAgg, VInstr.storable, VInstr.eta, Int.cast_ofNat_Int, Int.reduceToNat, wrapS, wrapA, wrapA1, lt0, WA, Nat.reduceEqDiff, Nat.reduceAdd, Nat.reduceLT, Nat.reduceLeDiff, Nat.reduceMul, reduceIte, reduceCtorEq, Int.reduceEq, Int.reduceLT, Int.reduceLE, Int.reduceNe]) | (refine ite_dec (fun hq => ?_) (fun hq => ?_) <;> (try simp only [hq, decide_true, decide_false, Bool.not_true, Bool.not_false, Bool.not_eq_true', Bool.not_eq_false'])) | (refine ite_ndec (fun hq => ?_) (fun hq => ?_) <;> (try simp only [hq, decide_true, decide_false, Bool.not_true, Bool.not_false, Bool.not_eq_true', Bool.not_eq_false'])) | (refine ite_intro (fun hq => ?_) (fun hq => ?_) <;> (try simp only [hq, decide_true, decide_false, Bool.not_true, Bool.not_false, Bool.not_eq_true', Bool.not_eq_false'])) | (refine bind_push ?_))
    all_goals simp_all
theorem spec_l14Reg_c (n : Int) : PCon Tryd.prog F.spec_l14Reg [avI n] (.v (.bool (inB n 0 15))) := by
  refine T.spec_l14Reg_con rfl rfl ?_
  simp only [T.spec_l14Reg, WA, Nat.reduceEqDiff, Nat.reduceAdd, Nat.reduceLT, Nat.reduceLeDiff, Nat.reduceMul, reduceIte, reduceCtorEq, Int.reduceEq, Int.reduceLT, Int.reduceLE, Int.reduceNe]
  repeat' (first | (simp (disch := (first | omega | rfl | exact rfl | (simp only [cells_v, List.length_cons, List.length_nil]; done))) only [wrapS, wrapA, wrapA1, lt0, WA, Nat.reduceEqDiff, Nat.reduceAdd, Nat.reduceLT, Nat.reduceLeDiff, Nat.reduceMul, reduceIte, reduceCtorEq, Int.reduceEq, Int.reduceLT, Int.reduceLE, Int.reduceNe]) | (refine ite_dec (fun hq => ?_) (fun hq => ?_) <;> (try simp only [hq, decide_true, decide_false, Bool.not_true, Bool.not_false, Bool.not_eq_true', Bool.not_eq_false'])) | (refine ite_ndec (fun hq => ?_) (fun hq => ?_) <;> (try simp only [hq, decide_true, decide_false, Bool.not_true, Bool.not_false, Bool.not_eq_true', Bool.not_eq_false'])) | (refine ite_intro (fun hq => ?_) (fun hq => ?_) <;> (try simp only [hq, decide_true, decide_false, Bool.not_true, Bool.not_false, Bool.not_eq_true', Bool.not_eq_false'])) | (refine bind_push ?_) | (refine call_v (spec_l1In_c _ _ _) ?_))
theorem spec_l14Op_c (x : VInstr) : PCon Tryd.prog F.spec_l14Op [x.av] (.v (.bool ((wantOp x.Text).2 && x.zeroM (wantOp x.Text).1))) := by
  refine T.spec_l14Op_con rfl (by simp [AV.norefs, AV.noref, VInstr.noref]) ?_
  simp only [T.spec_l14Op, VInstr.cells, VInstr.isAgg, VInstr.storable, WA, Nat.reduceEqDiff, Nat.reduceAdd, Nat.reduceLT, Nat.reduceLeDiff, Nat.reduceMul, reduceIte, reduceCtorEq, Int.reduceEq, Int.reduceLT, Int.reduceLE, Int.reduceNe]
  repeat' (first | (simp (disch := (first | omega | rfl | exact rfl | (simp only [cells_v, List.length_cons, List.length_nil]; done) | exact VInstr.width _)) only [VInstr.cells, VInstr.isAgg, VInstr.storable, VInstr.eta, wrapS, wrapA, wrapA1, lt0, WA, Nat.reduceEqDiff, Nat.reduceAdd, Nat.reduceLT, Nat.reduceLeDiff, Nat.reduceMul, reduceIte, reduceCtorEq, Int.reduceEq, Int.reduceLT, Int.reduceLE, Int.reduceNe]) | (refine ite_dec (fun hq => ?_) (fun hq => ?_) <;> (try simp only [hq, decide_true, decide_false, Bool.not_true, Bool.not_false, Bool.not_eq_true', Bool.not_eq_false'])) | (refine ite_ndec (fun hq => ?_) (fun hq => ?_) <;> (try simp only [hq, decide_true, decide_false, Bool.not_true, Bool.not_false, Bool.not_eq_true', Bool.not_eq_false'])) | (refine ite_intro (fun hq => ?_) (fun hq => ?_) <;> (try simp only [hq, decide_true, decide_false, Bool.not_true, Bool.not_false, Bool.not_eq_true', Bool.not_eq_false'])) | (refine bind_push ?_) | (refine call_v (spec_l14Zero_c x _ (by decide)) ?_))
  all_goals simp_all [wantOp]
theorem spec_l14InstrOk_c (x : VInstr) (c : VCode) (hb : x.wt ≤ 1048576) (hc : c.wt ≤ 1048576) : PCon Tryd.prog F.spec_l14InstrOk [x.av, c.av] (.v (.bool (x.okM c.Instrs.length c.Starts.length))) := by
  have hw := x.wt_eq
  have hv := c.wt_eq
  have s1 : IntKind.i64.wrap ((c.Starts.length : Int) - 1) = c.Starts.length - 1 := wrapI (by omega) (by omega)
  have s2 : IntKind.i64.wrap ((c.Instrs.length : Int) - 1) = c.Instrs.length - 1 := wrapI (by omega) (by omega)
  refine T.spec_l14InstrOk_con rfl (by simp [AV.norefs, AV.noref, VInstr.noref, VCode.noref]) ?_
  simp only [T.spec_l14InstrOk, VInstr.cells, VInstr.isAgg, VInstr.storable, VCode.cells, VCode.isAgg, VCode.storable, WA, Nat.reduceEqDiff, Nat.reduceAdd, Nat.reduceLT, Nat.reduceLeDiff, Nat.reduceMul, reduceIte, reduceCtorEq, Int.reduceEq, Int.reduceLT, Int.reduceLE, Int.reduceNe]
  repeat' (first | (simp (disch := (first | omega | rfl | exact rfl | (simp only [cells_v, List.length_cons, List.length_nil]; done) | exact VInstr.width _ | exact VCode.width _)) only [VInstr.cells, VInstr.isAgg, VInstr.storable, VInstr.eta, VCode.cells, VCode.isAgg, VCode.storable, VCode.eta, s1, s2, wrapS, wrapA, wrapA1, lt0, WA, Nat.reduceEqDiff, Nat.reduceAdd, Nat.reduceLT, Nat.reduceLeDiff, Nat.reduceMul, reduceIte, reduceCtorEq, Int.reduceEq, Int.reduceLT, Int.reduceLE, Int.reduceNe]) | (refine ite_dec (fun hq => ?_) (fun hq => ?_) <;> (try simp only [hq, decide_true, decide_false, Bool.not_true, Bool.not_false, Bool.not_eq_true', Bool.not_eq_false'])) | (refine ite_ndec (fun hq => ?_) (fun hq => ?_) <;> (try simp only [hq, decide_true, decide_false, Bool.not_true, Bool.not_false, Bool.not_eq_true', Bool.not_eq_false'])) | (refine ite_intro (fun hq => ?_) (fun hq => ?_) <;> (try simp only [hq, decide_true, decide_false, Bool.not_true, Bool.not_false, Bool.not_eq_true', Bool.not_eq_false'])) | (refine bind_push ?_) | (refine call_v (spec_l14Reg_c _) ?_) | (refine call_v (spec_l14Zero_c x _ (by decide)) ?_) | (refine call_v (spec_l14Op_c x) ?_) | (refine call_v (spec_l1In_c _ _ _) ?_) | (refine call_v (spec_l1Chars_c _ (by omega)) ?_))
  all_goals (simp_all [VInstr.okM, VInstr.want, VInstr.moreM]; done)
theorem impl_wants_c (x : VInstr) : PCon Tryd.prog F.impl_wants [x.av] (.tup [avB x.want.1, .v (.bool x.want.2)]) := by
  refine T.impl_wants_con rfl (by simp [AV.norefs, AV.noref, VInstr.noref]) ?_
  simp only [T.impl_wants, VInstr.cells, VInstr.isAgg, VInstr.storable, WA, Nat.reduceEqDiff, Nat.reduceAdd, Nat.reduceLT, Nat.reduceLeDiff, Nat.reduceMul, reduceIte, reduceCtorEq, Int.reduceEq, Int.reduceLT, Int.reduceLE, Int.reduceNe]
  repeat' (first | (simp (disch := (first | omega | rfl | exact rfl | (simp only [cells_v, List.length_cons, List.length_nil]; done) | exact VInstr.width _)) only [VInstr.cells, VInstr.isAgg, VInstr.storable, VInstr.eta, wrapS, wrapA, wrapA1, lt0, WA, Nat.reduceEqDiff, Nat.reduceAdd, Nat.reduceLT, Nat.reduceLeDiff, Nat.reduceMul, reduceIte, reduceCtorEq, Int.reduceEq, Int.reduceLT, Int.reduceLE, Int.reduceNe]) | (refine ite_dec (fun hq => ?_) (fun hq => ?_) <;> (try simp only [hq, decide_true, decide_false, Bool.not_true, Bool.not_false, Bool.not_eq_true', Bool.not_eq_false'])) | (refine ite_ndec (fun hq => ?_) (fun hq => ?_) <;> (try simp only [hq, decide_true, decide_false, Bool.not_true, Bool.not_false, Bool.not_eq_true', Bool.not_eq_false'])) | (refine ite_intro (fun hq => ?_) (fun hq => ?_) <;> (try simp only [hq, decide_true, decide_false, Bool.not_true, Bool.not_false, Bool.not_eq_true', Bool.not_eq_false'])) | (refine bind_push ?_))
  all_goals simp_all [VInstr.want, wantOp]
theorem hasM_at (s : ByteArray) (c : UInt8) : hasM s (c.toNat : Int) = decide (0 ≤ Lib.indexByte s.data.toList c) := by
  rw [← Lib.contains_iff_indexByte]
  simp only [hasM, bs, List.any_map, List.contains_eq_any_beq]
  congr 1
  funext y
  simp only [Function.comp_apply]
  rw [Bool.eq_iff_iff]
  simp only [decide_eq_true_eq, beq_iff_eq]
  exact ⟨fun h => (UInt8.toNat_inj.1 (by exact_mod_cast h)).symm, fun h => by rw [h]⟩
theorem contains_c (s : ByteArray) (c : UInt8) : PCon Tryd.prog F.strings_Contains [avB s, avB ⟨#[c]⟩] (.v (.bool (hasM s (c.toNat : Int)))) := by
  rw [hasM_at]
  exact PCon.of_same (P := Tryd.prog) (f := F.strings_Contains) (xs := [.string s, .string ⟨#[c]⟩]) (Go.Ab.enters_of (by kernel_rfl)) rfl (fun w => Tryd.strings_Contains_one s c w)
theorem impl_instrOk_1_c (s : ByteArray) (c : UInt8) : PCon Tryd.prog F.impl_instrOk_1 [avB ⟨#[c]⟩, .iptr (avB s) 0] (.v (.bool (hasM s (c.toNat : Int)))) := by
  refine T.impl_instrOk_1_con rfl rfl ?_
  simp only [T.impl_instrOk_1, WA, Nat.reduceEqDiff, Nat.reduceAdd, Nat.reduceLT, Nat.reduceLeDiff, Nat.reduceMul, reduceIte, reduceCtorEq, Int.reduceEq, Int.reduceLT, Int.reduceLE, Int.reduceNe]
  repeat' (first | (simp (disch := (first | omega | rfl | exact rfl | (simp only [cells_v, List.length_cons, List.length_nil]; done))) only [wrapS, wrapA, wrapA1, lt0, WA, Nat.reduceEqDiff, Nat.reduceAdd, Nat.reduceLT, Nat.reduceLeDiff, Nat.reduceMul, reduceIte, reduceCtorEq, Int.reduceEq, Int.reduceLT, Int.reduceLE, Int.reduceNe]) | (refine ite_dec (fun hq => ?_) (fun hq => ?_) <;> (try simp only [hq, decide_true, decide_false, Bool.not_true, Bool.not_false, Bool.not_eq_true', Bool.not_eq_false'])) | (refine ite_ndec (fun hq => ?_) (fun hq => ?_) <;> (try simp only [hq, decide_true, decide_false, Bool.not_true, Bool.not_false, Bool.not_eq_true', Bool.not_eq_false'])) | (refine ite_intro (fun hq => ?_) (fun hq => ?_) <;> (try simp only [hq, decide_true, decide_false, Bool.not_true, Bool.not_false, Bool.not_eq_true', Bool.not_eq_false'])) | (refine bind_push ?_) | (refine call_v (contains_c s c) ?_))
theorem impl_instrOk_2_c (s : ByteArray) (c : UInt8) (n : Int) : PCon Tryd.prog F.impl_instrOk_2 [avB ⟨#[c]⟩, avI n, .iptr (.fn F.impl_instrOk_1 [.iptr (avB s) 0]) 0] (.v (.bool (hasM s (c.toNat : Int) && inB n 0 15 || decide (n = 0)))) := by
  refine T.impl_instrOk_2_con rfl rfl ?_
  simp only [T.impl_instrOk_2, WA, Nat.reduceEqDiff, Nat.reduceAdd, Nat.reduceLT, Nat.reduceLeDiff, Nat.reduceMul, reduceIte, reduceCtorEq, Int.reduceEq, Int.reduceLT, Int.reduceLE, Int.reduceNe]
  repeat' (first | (simp (disch := (first | omega | rfl | exact rfl | (simp only [cells_v, List.length_cons, List.length_nil]; done))) only [wrapS, wrapA, wrapA1, lt0, WA, Nat.reduceEqDiff, Nat.reduceAdd, Nat.reduceLT, Nat.reduceLeDiff, Nat.reduceMul, reduceIte, reduceCtorEq, Int.reduceEq, Int.reduceLT, Int.reduceLE, Int.reduceNe]) | (refine ite_dec (fun hq => ?_) (fun hq => ?_) <;> (try simp only [hq, decide_true, decide_false, Bool.not_true, Bool.not_false, Bool.not_eq_true', Bool.not_eq_false'])) | (refine ite_ndec (fun hq => ?_) (fun hq => ?_) <;> (try simp only [hq, decide_true, decide_false, Bool.not_true, Bool.not_false, Bool.not_eq_true', Bool.not_eq_false'])) | (refine ite_intro (fun hq => ?_) (fun hq => ?_) <;> (try simp only [hq, decide_true, decide_false, Bool.not_true, Bool.not_false, Bool.not_eq_true', Bool.not_eq_false'])) | (refine bind_push ?_) | (refine call_v (impl_instrOk_1_c s c) ?_) | (refine call_v (impl_within_c _ _ _) ?_))
  all_goals (first | (simp_all; done) | (simp_all [-List.all_eq_true, -List.any_eq_true, -List.all_eq_false, -List.any_eq_false]; done) | (simp_all <;> (intros; omega)) | (simp_all [-List.all_eq_true, -List.any_eq_true, -List.all_eq_false, -List.any_eq_false] <;> (intros; omega)) | (refine avb ?_; simp_all <;> (intros; omega)) | (refine avb ?_; simp_all [-List.all_eq_true, -List.any_eq_true, -List.all_eq_false, -List.any_eq_false] <;> (intros; omega)))
theorem impl_instrOk_c (x : VInstr) (c : VCode) (hb : x.wt ≤ 1048576) (hc : c.wt ≤ 1048576) : PCon Tryd.prog F.impl_instrOk [c.av, x.av] (.v (.bool (x.okM c.Instrs.length c.Starts.length))) := by
  have hw := x.wt_eq
  have hv := c.wt_eq
  have s1 : IntKind.i64.wrap ((c.Starts.length : Int) - 1) = c.Starts.length - 1 := wrapI (by omega) (by omega)
  have s2 : IntKind.i64.wrap ((c.Instrs.length : Int) - 1) = c.Instrs.length - 1 := wrapI (by omega) (by omega)
  refine T.impl_instrOk_con rfl (by simp [AV.norefs, AV.noref, VInstr.noref, VCode.noref]) ?_
  simp only [T.impl_instrOk, VInstr.cells, VInstr.isAgg, VInstr.storable, VCode.cells, VCode.isAgg, VCode.storable, WA, Nat.reduceEqDiff, Nat.reduceAdd, Nat.reduceLT, Nat.reduceLeDiff, Nat.reduceMul, reduceIte, reduceCtorEq, Int.reduceEq, Int.reduceLT, Int.reduceLE, Int.reduceNe]
  repeat' (first | (simp (disch := (first | omega | rfl | exact rfl | (simp only [cells_v, List.length_cons, List.length_nil]; done) | exact VInstr.width _ | exact VCode.width _)) only [VInstr.cells, VInstr.isAgg, VInstr.storable, VInstr.eta, VCode.cells, VCode.isAgg, VCode.storable, VCode.eta, s1, s2, wrapS, wrapA, wrapA1, lt0, WA, Nat.reduceEqDiff, Nat.reduceAdd, Nat.reduceLT, Nat.reduceLeDiff, Nat.reduceMul, reduceIte, reduceCtorEq, Int.reduceEq, Int.reduceLT, Int.reduceLE, Int.reduceNe]) | (refine ite_dec (fun hq => ?_) (fun hq => ?_) <;> (try simp only [hq, decide_true, decide_false, Bool.not_true, Bool.not_false, Bool.not_eq_true', Bool.not_eq_false'])) | (refine ite_ndec (fun hq => ?_) (fun hq => ?_) <;> (try simp only [hq, decide_true, decide_false, Bool.not_true, Bool.not_false, Bool.not_eq_true', Bool.not_eq_false'])) | (refine ite_intro (fun hq => ?_) (fun hq => ?_) <;> (try simp only [hq, decide_true, decide_false, Bool.not_true, Bool.not_false, Bool.not_eq_true', Bool.not_eq_false'])) | (refine bind_push ?_) | (refine call_p (impl_wants_c x) rfl ?_) | (refine call_v (impl_instrOk_2_c x.want.1 _ _) ?_) | (refine call_v (impl_instrOk_1_c x.want.1 _) ?_) | (refine call_v (impl_within_c _ _ _) ?_) | (refine call_v (impl_plain_c _ (by omega)) ?_))
  all_goals rw [VInstr.okM_eq]
  all_goals generalize (hasM x.want.1 ((97 : UInt8).toNat : Int) && inB x.A 0 15 || decide (x.A = 0)) = p1 at *
  all_goals generalize (hasM x.want.1 ((98 : UInt8).toNat : Int) && inB x.B 0 15 || decide (x.B = 0)) = p2 at *
  all_goals generalize (hasM x.want.1 ((99 : UInt8).toNat : Int) && inB x.C 0 15 || decide (x.C = 0)) = p3 at *
  all_goals generalize hasM x.want.1 ((110 : UInt8).toNat : Int) = p4 at *
  all_goals generalize hasM x.want.1 ((116 : UInt8).toNat : Int) = p5 at *
  all_goals first | (simp_all [VInstr.moreM]; done)
theorem impl_CodeOk_2_c (n : Int) (c : VCode) (hc : c.wt ≤ 1048576) : PCon Tryd.prog F.impl_CodeOk_2 [avI n, .iptr c.av 0] (.v (.bool (!c.pS n))) := by
  have hv := c.wt_eq
  have s2 : IntKind.i64.wrap ((c.Instrs.length : Int) - 1) = c.Instrs.length - 1 := wrapI (by omega) (by omega)
  refine T.impl_CodeOk_2_con rfl (by simp [AV.norefs, AV.noref, VCode.noref]) ?_
  simp only [T.impl_CodeOk_2, VCode.cells, VCode.isAgg, VCode.storable, WA, Nat.reduceEqDiff, Nat.reduceAdd, Nat.reduceLT, Nat.reduceLeDiff, Nat.reduceMul, reduceIte, reduceCtorEq, Int.reduceEq, Int.reduceLT, Int.reduceLE, Int.reduceNe]
  repeat' (first | (simp (disch := (first | omega | rfl | exact rfl | (simp only [cells_v, List.length_cons, List.length_nil]; done) | exact VCode.width _)) only [VCode.cells, VCode.isAgg, VCode.storable, VCode.eta, s2, wrapS, wrapA, wrapA1, lt0, WA, Nat.reduceEqDiff, Nat.reduceAdd, Nat.reduceLT, Nat.reduceLeDiff, Nat.reduceMul, reduceIte, reduceCtorEq, Int.reduceEq, Int.reduceLT, Int.reduceLE, Int.reduceNe]) | (refine ite_dec (fun hq => ?_) (fun hq => ?_) <;> (try simp only [hq, decide_true, decide_false, Bool.not_true, Bool.not_false, Bool.not_eq_true', Bool.not_eq_false'])) | (refine ite_ndec (fun hq => ?_) (fun hq => ?_) <;> (try simp only [hq, decide_true, decide_false, Bool.not_true, Bool.not_false, Bool.not_eq_true', Bool.not_eq_false'])) | (refine ite_intro (fun hq => ?_) (fun hq => ?_) <;> (try simp only [hq, decide_true, decide_false, Bool.not_true, Bool.not_false, Bool.not_eq_true', Bool.not_eq_false'])) | (refine bind_push ?_) | (refine call_v (impl_within_c _ _ _) ?_))
  all_goals simp_all [VCode.pS]
theorem impl_CodeOk_1_c (x : VInstr) (c : VCode) (hb : x.wt ≤ 1048576) (hc : c.wt ≤ 1048576) : PCon Tryd.prog F.impl_CodeOk_1 [x.av, .iptr c.av 0] (.v (.bool (!c.pI x))) := by
  refine T.impl_CodeOk_1_con rfl (by simp [AV.norefs, AV.noref, VInstr.noref, VCode.noref]) ?_
  simp only [T.impl_CodeOk_1, VInstr.cells, VInstr.isAgg, VInstr.storable, VCode.cells, VCode.isAgg, VCode.storable, WA, Nat.reduceEqDiff, Nat.reduceAdd, Nat.reduceLT, Nat.reduceLeDiff, Nat.reduceMul, reduceIte, reduceCtorEq, Int.reduceEq, Int.reduceLT, Int.reduceLE, Int.reduceNe]
  repeat' (first | (simp (disch := (first | omega | rfl | exact rfl | (simp only [cells_v, List.length_cons, List.length_nil]; done) | exact VInstr.width _ | exact VCode.width _)) only [VInstr.cells, VInstr.isAgg, VInstr.storable, VInstr.eta, VCode.cells, VCode.isAgg, VCode.storable, VCode.eta, wrapS, wrapA, wrapA1, lt0, WA, Nat.reduceEqDiff, Nat.reduceAdd, Nat.reduceLT, Nat.reduceLeDiff, Nat.reduceMul, reduceIte, reduceCtorEq, Int.reduceEq, Int.reduceLT, Int.reduceLE, Int.reduceNe]) | (refine ite_dec (fun hq => ?_) (fun hq => ?_) <;> (try simp only [hq, decide_true, decide_false, Bool.not_true, Bool.not_false, Bool.not_eq_true', Bool.not_eq_false'])) | (refine ite_ndec (fun hq => ?_) (fun hq => ?_) <;> (try simp only [hq, decide_true, decide_false, Bool.not_true, Bool.not_false, Bool.not_eq_true', Bool.not_eq_false'])) | (refine ite_intro (fun hq => ?_) (fun hq => ?_) <;> (try simp only [hq, decide_true, decide_false, Bool.not_true, Bool.not_false, Bool.not_eq_true', Bool.not_eq_false'])) | (refine bind_push ?_) | (refine call_v (impl_instrOk_c x c hb hc) ?_))
  all_goals simp_all [VCode.pI]
theorem impl_CodeOk_c (c : VCode) (hb : c.wt ≤ 1048576) : PCon Tryd.prog F.impl_CodeOk [c.av] (.v (.bool c.okM)) := by
  have hv := c.wt_eq
  refine T.impl_CodeOk_con rfl (by simp [AV.norefs, AV.noref, VCode.noref]) ?_
  simp only [T.impl_CodeOk, VCode.cells, VCode.isAgg, VCode.storable, WA, Nat.reduceEqDiff, Nat.reduceAdd, Nat.reduceLT, Nat.reduceLeDiff, Nat.reduceMul, reduceIte, reduceCtorEq, Int.reduceEq, Int.reduceLT, Int.reduceLE, Int.reduceNe]
  repeat' (first | (simp (disch := (first | omega | rfl | exact rfl | (simp only [cells_v, List.length_cons, List.length_nil]; done) | exact VCode.width _)) only [VCode.cells, VCode.isAgg, VCode.storable, VCode.eta, any_not, Bool.not_not, wrapS, wrapA, wrapA1, lt0, WA, Nat.reduceEqDiff, Nat.reduceAdd, Nat.reduceLT, Nat.reduceLeDiff, Nat.reduceMul, reduceIte, reduceCtorEq, Int.reduceEq, Int.reduceLT, Int.reduceLE, Int.reduceNe]) | (refine ite_dec (fun hq => ?_) (fun hq => ?_) <;> (try simp only [hq, decide_true, decide_false, Bool.not_true, Bool.not_false, Bool.not_eq_true', Bool.not_eq_false'])) | (refine ite_ndec (fun hq => ?_) (fun hq => ?_) <;> (try simp only [hq, decide_true, decide_false, Bool.not_true, Bool.not_false, Bool.not_eq_true', Bool.not_eq_false'])) | (refine ite_intro (fun hq => ?_) (fun hq => ?_) <;> (try simp only [hq, decide_true, decide_false, Bool.not_true, Bool.not_false, Bool.not_eq_true', Bool.not_eq_false'])) | (refine bind_push ?_) | (refine call_v (impl_within_c _ _ _) ?_) | (refine call_v (anyF_Instr c.Instrs _ _ (fun x => !c.pI x) (by omega) (by simp [AV.norefs, AV.noref, VCode.noref]) (fun x hx => impl_CodeOk_1_c x c (by have := le_sum VInstr.wt hx; omega) hb)) ?_) | (refine call_v (anyFS_int c.Starts _ _ (fun n => !c.pS n) (by omega) (by simp [AV.norefs, AV.noref, VCode.noref]) (fun n _ => impl_CodeOk_2_c n c hb)) ?_))
  case' refine_2.refine_2.refine_2.refine_2 =>
    have hl : 1 ≤ c.Instrs.length := by simp only [inB, Bool.not_eq_false', Bool.and_eq_true, decide_eq_true_eq] at *; omega
    have s3 : IntKind.i64.wrap ((c.Instrs.length : Int) - 1) = ((c.Instrs.length - 1 : Nat) : Int) := by rw [wrapI (by omega) (by omega)]; omega
    have hlt : c.Instrs.length - 1 < c.Instrs.length := by omega
    have h9 : c.Instrs[c.Instrs.length - 1]? = some c.Instrs[c.Instrs.length - 1] := List.getElem?_eq_getElem hlt
    rw [s3]
    refine elemM VInstr.av hlt (VInstr.width _) ?_
    generalize c.Instrs[c.Instrs.length - 1] = y at h9 ⊢
    have h10 := VCode.lastOk_of h9
    clear h9
    repeat' (first | (simp (disch := (first | omega | rfl | exact rfl | (simp only [cells_v, List.length_cons, List.length_nil]; done) | exact VInstr.width _ | exact VCode.width _)) only [VInstr.cells, VInstr.isAgg, VInstr.storable, VInstr.eta, VCode.cells, VCode.isAgg, VCode.storable, VCode.eta, wrapS, wrapA, wrapA1, lt0, WA, Nat.reduceEqDiff, Nat.reduceAdd, Nat.reduceLT, Nat.reduceLeDiff, Nat.reduceMul, reduceIte, reduceCtorEq, Int.reduceEq, Int.reduceLT, Int.reduceLE, Int.reduceNe]) | (refine ite_dec (fun hq => ?_) (fun hq => ?_) <;> (try simp only [hq, decide_true, decide_false, Bool.not_true, Bool.not_false, Bool.not_eq_true', Bool.not_eq_false'])) | (refine ite_ndec (fun hq => ?_) (fun hq => ?_) <;> (try simp only [hq, decide_true, decide_false, Bool.not_true, Bool.not_false, Bool.not_eq_true', Bool.not_eq_false'])) | (refine ite_intro (fun hq => ?_) (fun hq => ?_) <;> (try simp only [hq, decide_true, decide_false, Bool.not_true, Bool.not_false, Bool.not_eq_true', Bool.not_eq_false'])) | (refine bind_push ?_))
  all_goals try simp only [any_not] at *
  all_goals first | (have hg1 := hg; clear hv; simp_all [VCode.okM]; done) | (have hg1 := hg; simp_all [VCode.okM]; done) | (have hg1 := hg; clear hv; simp_all [VCode.okM, -List.all_eq_true, -List.any_eq_true, -List.all_eq_false, -List.any_eq_false]; done) | (simp_all [VCode.okM]; done) | (simp_all [VCode.okM, -List.all_eq_true, -List.any_eq_true, -List.all_eq_false, -List.any_eq_false]; done) | (refine avb ?_; (try clear hv); simp_all [VCode.okM] <;> (intros; omega)) | (refine avb ?_; simp_all [VCode.okM] <;> (intros; omega)) | (simp_all [VCode.okM] <;> (intros; omega)) | omega
theorem spec_CodeOk_c (c : VCode) (hb : c.wt ≤ 1048576) : PCon Tryd.prog F.spec_CodeOk [c.av] (.v (.bool c.okM)) := by
  have hv := c.wt_eq
  have s2 : IntKind.i64.wrap ((c.Instrs.length : Int) - 1) = c.Instrs.length - 1 := wrapI (by omega) (by omega)
  refine T.spec_CodeOk_con rfl (by simp [AV.norefs, AV.noref, VCode.noref]) ?_
  simp only [T.spec_CodeOk, VCode.cells, VCode.isAgg, VCode.storable, WA, Nat.reduceEqDiff, Nat.reduceAdd, Nat.reduceLT, Nat.reduceLeDiff, Nat.reduceMul, reduceIte, reduceCtorEq, Int.reduceEq, Int.reduceLT, Int.reduceLE, Int.reduceNe]
  repeat' (first | (simp (disch := (first | omega | rfl | exact rfl | (simp only [cells_v, List.length_cons, List.length_nil]; done) | exact VInstr.width _ | exact VCode.width _)) only [hel, hely, hd, hdy, VInstr.cells, VInstr.isAgg, VInstr.storable, VInstr.eta, VCode.cells, VCode.isAgg, VCode.storable, VCode.eta, s2, wrapS, wrapA, wrapA1, lt0, WA, Nat.reduceEqDiff, Nat.reduceAdd, Nat.reduceLT, Nat.reduceLeDiff, Nat.reduceMul, reduceIte, reduceCtorEq, Int.reduceEq, Int.reduceLT, Int.reduceLE, Int.reduceNe]) | (simp (disch := (first | omega | rfl | exact rfl | (simp only [cells_v, List.length_cons, List.length_nil]; done) | exact VInstr.width _ | exact VCode.width _)) only [hel, hd, VInstr.cells, VInstr.isAgg, VInstr.storable, VInstr.eta, VCode.cells, VCode.isAgg, VCode.storable, VCode.eta, s2, wrapS, wrapA, wrapA1, lt0, WA, Nat.reduceEqDiff, Nat.reduceAdd, Nat.reduceLT, Nat.reduceLeDiff, Nat.reduceMul, reduceIte, reduceCtorEq, Int.reduceEq, Int.reduceLT, Int.reduceLE, Int.reduceNe]) | (simp (disch := (first | omega | rfl | exact rfl | (simp only [cells_v, List.length_cons, List.length_nil]; done) | exact VInstr.width _ | exact VCode.width _)) only [hd, hdy, VInstr.cells, VInstr.isAgg, VInstr.storable, VInstr.eta, VCode.cells, VCode.isAgg, VCode.storable, VCode.eta, s2, wrapS, wrapA, wrapA1, lt0, WA, Nat.reduceEqDiff, Nat.reduceAdd, Nat.reduceLT, Nat.reduceLeDiff, Nat.reduceMul, reduceIte, reduceCtorEq, Int.reduceEq, Int.reduceLT, Int.reduceLE, Int.reduceNe]) | (simp (disch := (first | omega | rfl | exact rfl | (simp only [cells_v, List.length_cons, List.length_nil]; done) | exact VInstr.width _ | exact VCode.width _)) only [hix, hd, VInstr.cells, VInstr.isAgg, VInstr.storable, VInstr.eta, VCode.cells, VCode.isAgg, VCode.storable, VCode.eta, s2, wrapS, wrapA, wrapA1, lt0, WA, Nat.reduceEqDiff, Nat.reduceAdd, Nat.reduceLT, Nat.reduceLeDiff, Nat.reduceMul, reduceIte, reduceCtorEq, Int.reduceEq, Int.reduceLT, Int.reduceLE, Int.reduceNe]) | (simp (disch := (first | omega | rfl | exact rfl | (simp only [cells_v, List.length_cons, List.length_nil]; done) | exact VInstr.width _ | exact VCode.width _)) only [hd, VInstr.cells, VInstr.isAgg, VInstr.storable, VInstr.eta, VCode.cells, VCode.isAgg, VCode.storable, VCode.eta, s2, wrapS, wrapA, wrapA1, lt0, WA, Nat.reduceEqDiff, Nat.reduceAdd, Nat.reduceLT, Nat.reduceLeDiff, Nat.reduceMul, reduceIte, reduceCtorEq, Int.reduceEq, Int.reduceLT, Int.reduceLE, Int.reduceNe]) | (simp (disch := (first | omega | rfl | exact rfl | (simp only [cells_v, List.length_cons, List.length_nil]; done) | exact VInstr.width _ | exact VCode.width _)) only [VInstr.cells, VInstr.isAgg, VInstr.storable, VInstr.eta, VCode.cells, VCode.isAgg, VCode.storable, VCode.eta, s2, wrapS, wrapA, wrapA1, lt0, WA, Nat.reduceEqDiff, Nat.reduceAdd, Nat.reduceLT, Nat.reduceLeDiff, Nat.reduceMul, reduceIte, reduceCtorEq, Int.reduceEq, Int.reduceLT, Int.reduceLE, Int.reduceNe]) | (refine ite_dec (fun hq => ?_) (fun hq => ?_) <;> (try simp only [hq, decide_true, decide_false, Bool.not_true, Bool.not_false, Bool.not_eq_true', Bool.not_eq_false'])) | (refine ite_ndec (fun hq => ?_) (fun hq => ?_) <;> (try simp only [hq, decide_true, decide_false, Bool.not_true, Bool.not_false, Bool.not_eq_true', Bool.not_eq_false'])) | (refine ite_intro (fun hq => ?_) (fun hq => ?_) <;> (try simp only [hq, decide_true, decide_false, Bool.not_true, Bool.not_false, Bool.not_eq_true', Bool.not_eq_false'])) | (refine bind_push ?_) | (have := (hg : c.Instrs.all c.pI = [].all c.pI); refine loop_list c.Starts (fun i (_ : Unit) => [avI i]) (fun _ rest _ => c.Starts.all c.pS = rest.all c.pS) () rfl ?_ (fun i k rest b hi hx hm hel hd hg => ?_) (fun b hd hg => ?_)) | (refine loop_listF c.Instrs (fun i (_ : Unit) => [avI i]) (fun _ rest _ => c.Instrs.all c.pI = rest.all c.pI) () (VInstr.facts (b := 1048576) (by omega)) rfl ?_ (fun i k rest b hi hx hm hel hd hf hg => ?_) (fun b hd hg => ?_)) | (refine call_v (spec_l1In_c _ _ _) ?_) | (refine call_v (spec_l14InstrOk_c _ c (by omega) hb) ?_))
  case' refine_2.refine_2.refine_3.refine_3 =>
    have hl : 1 ≤ c.Instrs.length := by simp only [inB, Bool.not_eq_false', Bool.and_eq_true, decide_eq_true_eq] at *; omega
    have s3 : (c.Instrs.length : Int) - 1 = ((c.Instrs.length - 1 : Nat) : Int) := by omega
    have hlt : c.Instrs.length - 1 < c.Instrs.length := by omega
    have h9 : c.Instrs[c.Instrs.length - 1]? = some c.Instrs[c.Instrs.length - 1] := List.getElem?_eq_getElem hlt
    rw [s3]
    refine elemM VInstr.av hlt (VInstr.width _) ?_
    generalize c.Instrs[c.Instrs.length - 1] = y at h9 ⊢
    have h10 := VCode.lastOk_of h9
    clear h9
    repeat' (first | (simp (disch := (first | omega | rfl | exact rfl | (simp only [cells_v, List.length_cons, List.length_nil]; done) | exact VInstr.width _ | exact VCode.width _)) only [VInstr.cells, VInstr.isAgg, VInstr.storable, VInstr.eta, VCode.cells, VCode.isAgg, VCode.storable, VCode.eta, wrapS, wrapA, wrapA1, lt0, WA, Nat.reduceEqDiff, Nat.reduceAdd, Nat.reduceLT, Nat.reduceLeDiff, Nat.reduceMul, reduceIte, reduceCtorEq, Int.reduceEq, Int.reduceLT, Int.reduceLE, Int.reduceNe]) | (refine ite_dec (fun hq => ?_) (fun hq => ?_) <;> (try simp only [hq, decide_true, decide_false, Bool.not_true, Bool.not_false, Bool.not_eq_true', Bool.not_eq_false'])) | (refine ite_ndec (fun hq => ?_) (fun hq => ?_) <;> (try simp only [hq, decide_true, decide_false, Bool.not_true, Bool.not_false, Bool.not_eq_true', Bool.not_eq_false'])) | (refine ite_intro (fun hq => ?_) (fun hq => ?_) <;> (try simp only [hq, decide_true, decide_false, Bool.not_true, Bool.not_false, Bool.not_eq_true', Bool.not_eq_false'])) | (refine bind_push ?_))
  all_goals try rw [show ∀ k : VInstr, k.okM (c.Instrs.length : Int) (c.Starts.length : Int) = c.pI k from fun _ => rfl] at *
  all_goals try rw [show ∀ k : Int, inB k 0 ((c.Instrs.length : Int) - 1) = c.pS k from fun _ => rfl] at *
  all_goals first | (have hg1 := hg; clear hv; simp_all [VCode.okM]; done) | (have hg1 := hg; simp_all [VCode.okM]; done) | (have hg1 := hg; clear hv; simp_all [VCode.okM, -List.all_eq_true, -List.any_eq_true, -List.all_eq_false, -List.any_eq_false]; done) | (simp_all [VCode.okM]; done) | (simp_all [VCode.okM, -List.all_eq_true, -List.any_eq_true, -List.all_eq_false, -List.any_eq_false]; done) | (refine avb ?_; (try clear hv); simp_all [VCode.okM] <;> (intros; omega)) | (refine avb ?_; simp_all [VCode.okM] <;> (intros; omega)) | (simp_all [VCode.okM] <;> (intros; omega)) | omega
end Go.Proofs.Ab
