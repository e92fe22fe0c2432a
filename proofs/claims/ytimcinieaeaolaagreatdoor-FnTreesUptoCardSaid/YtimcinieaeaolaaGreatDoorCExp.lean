/-
  TREES THAT ARE RIGHT: patterns, Exps, types, programs.
-/
import Derived.Test.YtimcinieaeaolaaGreatDoorCTok
import Derived.Test.YtimcinieaeaolaaGreatDoorSL
set_option linter.unusedVariables false
set_option linter.unusedSimpArgs false
set_option linter.defProp false
namespace Go.Ab
set_option maxRecDepth 100000
set_option maxHeartbeats 4000000
/- patterns -/
def VPat.headP (p : VPat) : Bool :=
  decide (0 ≤ p.Pos) &&
   (if p.Kind = 1 ∨ p.Kind = 5 then decide (p.Name = emp) && decide (p.Num = 0) && decide (p.Kids.length = 0)
    else if p.Kind = 2 then lowM p.Name && decide (p.Num = 0) && decide (p.Kids.length = 0)
    else if p.Kind = 3 then decide (p.Name = emp) && decide (0 ≤ p.Num) && decide (p.Kids.length = 0)
    else if p.Kind = 4 then decide (p.Name = emp) && inB p.Num 0 1 && decide (p.Kids.length = 0)
    else if p.Kind = 6 then decide (p.Name = emp) && decide (p.Num = 0) && decide (2 ≤ p.Kids.length)
    else if p.Kind = 7 then upM p.Name && decide (p.Num = 0) && decide (p.Kids.length ≤ 1) else false)
mutual
def VPat.okM : VPat → Bool
  | .mk a b c d kids => (VPat.mk a b c d kids).headP && VPat.allOk kids
def VPat.allOk : List VPat → Bool
  | [] => true
  | x :: l => x.okM && VPat.allOk l
end
theorem VPat.allOk_eq (l : List VPat) : VPat.allOk l = l.all VPat.okM := by
  induction l with
  | nil => rfl
  | cons x l ih => simp only [VPat.allOk, ih, List.all_cons]
theorem VPat.okM_eq (x : VPat) : x.okM = (x.headP && x.Kids.all VPat.okM) := by
  cases x; simp only [VPat.okM, VPat.allOk_eq, VPat.Kids]
/- Exps -/
def sRead : ByteArray := ⟨#[114, 101, 97, 100]⟩
def prim1 (s : ByteArray) : Bool := decide (s = ⟨#[112, 114, 105, 110, 116]⟩) || decide (s = ⟨#[101, 120, 105, 116]⟩) || decide (s = ⟨#[115, 105, 122, 101]⟩) || decide (s = ⟨#[114, 101, 102]⟩) || decide (s = ⟨#[33]⟩)
def binS : List ByteArray := [⟨#[43]⟩, ⟨#[45]⟩, ⟨#[42]⟩, ⟨#[94]⟩, ⟨#[61]⟩, ⟨#[60]⟩, ⟨#[58, 61]⟩]
def binM (s : ByteArray) : Bool := binS.any fun y => decide (s = y)
def arityM (s : ByteArray) : Int := if s = sRead then 0 else if prim1 s = true then 1 else -1
/-- all fields but those that are told are zero -/
def VExp.plainX (e : VExp) (n u t : Bool) : Bool := decide (0 ≤ e.Pos) && (n || decide (e.Name = emp)) && (u || decide (e.Num = 0)) && (t || decide (e.Text = emp)) && (decide (e.Kind = 13) || decide (e.Arms.length = 0))
def VExp.headM (e : VExp) : Bool :=
  if e.Kind = 1 then e.plainX false true false && decide (0 ≤ e.Num) && decide (e.Kids.length = 0)
  else if e.Kind = 2 then e.plainX false false true && plainM e.Text && decide (e.Kids.length = 0)
  else if e.Kind = 3 then e.plainX false true false && inB e.Num 0 1 && decide (e.Kids.length = 0)
  else if e.Kind = 4 then e.plainX false false false && decide (e.Kids.length = 0)
  else if e.Kind = 5 then e.plainX true false false && lowM e.Name && decide (e.Kids.length = 0)
  else if e.Kind = 6 then e.plainX true false false && upM e.Name && decide (e.Kids.length ≤ 1)
  else if e.Kind = 7 then e.plainX false false false && decide (2 ≤ e.Kids.length)
  else if e.Kind = 8 then e.plainX true false false && lowM e.Name && decide (e.Kids.length = 1)
  else if e.Kind = 9 then e.plainX false false false && decide (e.Kids.length = 2)
  else if e.Kind = 10 then e.plainX true false false && lowM e.Name && decide (e.Kids.length = 2)
  else if e.Kind = 11 then e.plainX true false true && lowM e.Name && lowM e.Text && decide (e.Kids.length = 2)
  else if e.Kind = 12 then e.plainX false false false && decide (e.Kids.length = 3)
  else if e.Kind = 13 then e.plainX false false false && decide (e.Kids.length = 1) && decide (0 < e.Arms.length)
  else if e.Kind = 14 then e.plainX true false false && binM e.Name && decide (e.Kids.length = 2)
  else if e.Kind = 15 then e.plainX true false false && ((decide (e.Name = sRead) && decide (e.Kids.length = 0)) || (prim1 e.Name && decide (e.Kids.length = 1)))
  else false
mutual
def VExp.okM : VExp → Bool
  | .mk a b c d e kids arms => (VExp.mk a b c d e kids arms).headM && VExp.allOk kids && VArm.allOk arms
def VExp.allOk : List VExp → Bool
  | [] => true
  | x :: l => x.okM && VExp.allOk l
def VArm.allOk : List VArm → Bool
  | [] => true
  | .mk p e :: l => (p.okM && e.okM) && VArm.allOk l
end
def VArm.okM (a : VArm) : Bool := a.P.okM && a.E.okM
theorem VExp.allOk_eq (l : List VExp) : VExp.allOk l = l.all VExp.okM := by
  induction l with
  | nil => rfl
  | cons x l ih => simp only [VExp.allOk, ih, List.all_cons]
theorem VArm.allOk_eq (l : List VArm) : VArm.allOk l = l.all VArm.okM := by
  induction l with
  | nil => rfl
  | cons x l ih => cases x; simp only [VArm.allOk, ih, List.all_cons, VArm.okM, VArm.P, VArm.E]
theorem VExp.okM_eq (x : VExp) : x.okM = (x.headM && x.Kids.all VExp.okM && x.Arms.all VArm.okM) := by
  cases x; simp only [VExp.okM, VExp.allOk_eq, VArm.allOk_eq, VExp.Kids, VExp.Arms]
theorem VArm.E_lt' {x : VExp} {a : VArm} (h : a ∈ x.Arms) : SizeOf.sizeOf a.E < SizeOf.sizeOf x := Nat.lt_trans (VArm.E_lt a) (VExp.Arms_lt h)
end Go.Ab
namespace Go.Proofs.Ab
open Go.Ab
set_option maxRecDepth 100000
set_option maxHeartbeats 4000000
theorem impl_patOk_c (x : VPat) (hb : x.wt ≤ 1048576) : PCon Tryz.prog F.impl_patOk [x.av] (.v (.bool x.okM)) := by
  have hw := x.wt_eq
  have hv := x.okM_eq
  have h1 : ∀ y ∈ x.Kids, PCon Tryz.prog F.impl_patOk_1 [y.av] (.v (.bool (!y.okM))) := fun y hm => by
    refine T.impl_patOk_1_con rfl (by simp [AV.norefs, AV.noref, VPat.noref]) ?_
    simp only [T.impl_patOk_1, VPat.cells, VPat.isAgg, VPat.storable, WA, Nat.reduceEqDiff, Nat.reduceAdd, Nat.reduceLT, Nat.reduceLeDiff, Nat.reduceMul, reduceIte, reduceCtorEq, Int.reduceEq, Int.reduceLT, Int.reduceLE, Int.reduceNe]
    repeat' (first | (simp (disch := (first | omega | rfl | exact rfl | (simp only [cells_v, List.length_cons, List.length_nil]; done) | exact VPat.width _)) only [VPat.cells, VPat.isAgg, VPat.storable, VPat.eta, wrapS, wrapA, wrapA1, lt0, WA, Nat.reduceEqDiff, Nat.reduceAdd, Nat.reduceLT, Nat.reduceLeDiff, Nat.reduceMul, reduceIte, reduceCtorEq, Int.reduceEq, Int.reduceLT, Int.reduceLE, Int.reduceNe]) | (refine ite_dec (fun hq => ?_) (fun hq => ?_) <;> (try simp only [hq, decide_true, decide_false, Bool.not_true, Bool.not_false, Bool.not_eq_true', Bool.not_eq_false'])) | (refine ite_ndec (fun hq => ?_) (fun hq => ?_) <;> (try simp only [hq, decide_true, decide_false, Bool.not_true, Bool.not_false, Bool.not_eq_true', Bool.not_eq_false'])) | (refine ite_intro (fun hq => ?_) (fun hq => ?_) <;> (try simp only [hq, decide_true, decide_false, Bool.not_true, Bool.not_false, Bool.not_eq_true', Bool.not_eq_false'])) | (refine bind_push ?_) | (refine call_v (impl_patOk_c y (by have := le_sum VPat.wt hm; omega)) ?_))
  refine T.impl_patOk_con rfl (by simp [AV.norefs, AV.noref, VPat.noref]) ?_
  simp only [T.impl_patOk, VPat.cells, VPat.isAgg, VPat.storable, WA, Nat.reduceEqDiff, Nat.reduceAdd, Nat.reduceLT, Nat.reduceLeDiff, Nat.reduceMul, reduceIte, reduceCtorEq, Int.reduceEq, Int.reduceLT, Int.reduceLE, Int.reduceNe]
  repeat' (first | (simp (disch := (first | omega | rfl | exact rfl | (simp only [cells_v, List.length_cons, List.length_nil]; done) | exact VPat.width _)) only [VPat.cells, VPat.isAgg, VPat.storable, VPat.eta, not_any, wrapS, wrapA, wrapA1, lt0, WA, Nat.reduceEqDiff, Nat.reduceAdd, Nat.reduceLT, Nat.reduceLeDiff, Nat.reduceMul, reduceIte, reduceCtorEq, Int.reduceEq, Int.reduceLT, Int.reduceLE, Int.reduceNe]) | (refine ite_dec (fun hq => ?_) (fun hq => ?_) <;> (try simp only [hq, decide_true, decide_false, Bool.not_true, Bool.not_false, Bool.not_eq_true', Bool.not_eq_false'])) | (refine ite_ndec (fun hq => ?_) (fun hq => ?_) <;> (try simp only [hq, decide_true, decide_false, Bool.not_true, Bool.not_false, Bool.not_eq_true', Bool.not_eq_false'])) | (refine ite_intro (fun hq => ?_) (fun hq => ?_) <;> (try simp only [hq, decide_true, decide_false, Bool.not_true, Bool.not_false, Bool.not_eq_true', Bool.not_eq_false'])) | (refine bind_push ?_) | (refine call_v (impl_lowOk_c _ (by omega)) ?_) | (refine call_v (impl_upOk_c _ (by omega)) ?_) | (refine call_v (impl_within_c _ _ _) ?_) | (refine call_v (anyF_Pat x.Kids _ [] (fun y => !y.okM) (by omega) rfl h1) ?_))
  all_goals first | (have hg1 := hg; clear hv; simp_all [VPat.headP, emp]; done) | (have hg1 := hg; simp_all [VPat.headP, emp]; done) | (have hg1 := hg; clear hv; simp_all [VPat.headP, emp, -List.all_eq_true, -List.any_eq_true, -List.all_eq_false, -List.any_eq_false]; done) | (simp_all [VPat.headP, emp]; done) | (simp_all [VPat.headP, emp, -List.all_eq_true, -List.any_eq_true, -List.all_eq_false, -List.any_eq_false]; done) | (refine avb ?_; (try clear hv); simp_all [VPat.headP, emp] <;> (intros; omega)) | (refine avb ?_; simp_all [VPat.headP, emp] <;> (intros; omega)) | (simp_all [VPat.headP, emp] <;> (intros; omega)) | omega
termination_by SizeOf.sizeOf x
decreasing_by all_goals exact VPat.Kids_lt hm
end Go.Proofs.Ab
