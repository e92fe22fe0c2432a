/-
  Uses: the last place where each variable is used.
-/
import Derived.Test.YtlckfombibfhcaaCFree
import Derived.Test.YtlckfombibfhcaaCInts
set_option linter.unusedVariables false
set_option linter.unusedSimpArgs false
set_option linter.defProp false
namespace Go.Ab
set_option maxRecDepth 100000
set_option maxHeartbeats 4000000
mutual
def VKTerm.ks : VKTerm → Nat
  | .mk _ _ _ _ _ _ _ kids => 1 + VKTerm.ksL kids
def VKTerm.ksL : List VKTerm → Nat
  | [] => 0
  | x :: l => x.ks + VKTerm.ksL l
end
def VKTerm.binds (t : VKTerm) : Bool := inB t.Kind 1 9 || decide (t.Kind = 18)
/-- what is in scope in a kid: last: it is the last one -/
def kidN (b : Bool) (r : Nat) (n : Nat) : Nat := if b && decide (r = 0) then n + 1 else n
mutual
def VKTerm.most : VKTerm → Nat → Nat
  | .mk kd a b c d e f kids, n => VKTerm.mostL (VKTerm.mk kd a b c d e f kids).binds kids n n
def VKTerm.mostL (b : Bool) : List VKTerm → Nat → Nat → Nat
  | [], _, acc => acc
  | x :: l, n, acc => VKTerm.mostL b l n (max acc (x.most (kidN b l.length n)))
end
mutual
def VKTerm.bound : VKTerm → Nat → Nat
  | .mk kd a b c d e f kids, n => VKTerm.boundL (VKTerm.mk kd a b c d e f kids).binds kids n (if (VKTerm.mk kd a b c d e f kids).binds then n + 1 else 0)
def VKTerm.boundL (b : Bool) : List VKTerm → Nat → Nat → Nat
  | [], _, acc => acc
  | x :: l, n, acc => VKTerm.boundL b l n (max acc (x.bound (kidN b l.length n)))
end
mutual
def VKTerm.great : VKTerm → Nat → Nat
  | .mk kd a b c d e f kids, n => VKTerm.greatL (VKTerm.mk kd a b c d e f kids).binds kids n (if (VKTerm.mk kd a b c d e f kids).binds then n + 1 else n)
def VKTerm.greatL (b : Bool) : List VKTerm → Nat → Nat → Nat
  | [], _, acc => acc
  | x :: l, n, acc => VKTerm.greatL b l n (max acc (x.great (kidN b l.length n)))
end
theorem VKTerm.ks_eq (x : VKTerm) : x.ks = 1 + VKTerm.ksL x.Kids := by cases x; rw [VKTerm.ks]; rfl
theorem VKTerm.most_eq (x : VKTerm) (n : Nat) : x.most n = VKTerm.mostL x.binds x.Kids n n := by cases x; rw [VKTerm.most]; rfl
theorem VKTerm.bound_eq (x : VKTerm) (n : Nat) : x.bound n = VKTerm.boundL x.binds x.Kids n (if x.binds then n + 1 else 0) := by cases x; rw [VKTerm.bound]; rfl
theorem VKTerm.great_eq (x : VKTerm) (n : Nat) : x.great n = VKTerm.greatL x.binds x.Kids n (if x.binds then n + 1 else n) := by cases x; rw [VKTerm.great]; rfl
theorem kidN_le (b : Bool) (r n : Nat) : n ≤ kidN b r n ∧ kidN b r n ≤ n + 1 ∧ (kidN b r n = n + 1 → b = true) := by
  unfold kidN
  split
  · rename_i h; simp at h; exact ⟨by omega, by omega, fun _ => h.1⟩
  · exact ⟨by omega, by omega, fun h => by omega⟩
mutual
theorem VKTerm.ks_le : ∀ x : VKTerm, x.ks ≤ x.wt + 1
  | .mk kd a b c d e f kids => by
    have h := VKTerm.ksL_le kids
    have hw := VKTerm.wt_eq (.mk kd a b c d e f kids)
    rw [VKTerm.ks, hw]
    simp only [VKTerm.Kids_mk]
    omega
theorem VKTerm.ksL_le : ∀ l : List VKTerm, VKTerm.ksL l ≤ l.length + (l.map VKTerm.wt).sum
  | [] => Nat.zero_le _
  | x :: l => by
    have := VKTerm.ks_le x
    have := VKTerm.ksL_le l
    simp only [VKTerm.ksL, List.length_cons, List.map_cons, List.sum_cons]
    omega
end
mutual
theorem VKTerm.most_le : ∀ (x : VKTerm) (n : Nat), x.most n ≤ n + x.ks
  | .mk kd a b c d e f kids, n => by
    rw [VKTerm.most, VKTerm.ks]
    exact Nat.le_trans (VKTerm.mostL_le _ kids n n (n + VKTerm.ksL kids + 1) (by omega) (by omega)) (by omega)
theorem VKTerm.mostL_le (b : Bool) : ∀ (l : List VKTerm) (n acc B : Nat), acc ≤ B → n + 1 + VKTerm.ksL l ≤ B → VKTerm.mostL b l n acc ≤ B
  | [], n, acc, B, h, _ => by rw [VKTerm.mostL]; exact h
  | x :: l, n, acc, B, h, h2 => by
    simp only [VKTerm.ksL] at h2
    rw [VKTerm.mostL]
    have h3 := VKTerm.most_le x (kidN b l.length n)
    have h4 := kidN_le b l.length n
    exact VKTerm.mostL_le b l n _ B (by omega) (by omega)
end
mutual
theorem VKTerm.bound_le : ∀ (x : VKTerm) (n : Nat), x.bound n ≤ n + x.ks
  | .mk kd a b c d e f kids, n => by
    rw [VKTerm.bound, VKTerm.ks]
    exact Nat.le_trans (VKTerm.boundL_le _ kids n _ (n + VKTerm.ksL kids + 1) (by split <;> omega) (by omega)) (by omega)
theorem VKTerm.boundL_le (b : Bool) : ∀ (l : List VKTerm) (n acc B : Nat), acc ≤ B → n + 1 + VKTerm.ksL l ≤ B → VKTerm.boundL b l n acc ≤ B
  | [], n, acc, B, h, _ => by rw [VKTerm.boundL]; exact h
  | x :: l, n, acc, B, h, h2 => by
    simp only [VKTerm.ksL] at h2
    rw [VKTerm.boundL]
    have h3 := VKTerm.bound_le x (kidN b l.length n)
    have h4 := kidN_le b l.length n
    exact VKTerm.boundL_le b l n _ B (by omega) (by omega)
end
mutual
theorem VKTerm.great_max : ∀ (x : VKTerm) (n : Nat), x.great n = max n (x.bound n)
  | .mk kd a b c d e f kids, n => by
    rw [VKTerm.great, VKTerm.bound]
    generalize (VKTerm.mk kd a b c d e f kids).binds = q
    cases q
    · exact VKTerm.greatL_max false kids n n 0 (by omega) (fun h => by cases h) (by omega)
    · exact VKTerm.greatL_max true kids n (n + 1) (n + 1) (by omega) (fun _ => by omega) (by omega)
theorem VKTerm.greatL_max (b : Bool) : ∀ (l : List VKTerm) (n g a : Nat), g = max n a → (b = true → n + 1 ≤ a) → n ≤ g → VKTerm.greatL b l n g = max n (VKTerm.boundL b l n a)
  | [], n, g, a, h, _, _ => by rw [VKTerm.greatL, VKTerm.boundL]; exact h
  | x :: l, n, g, a, h, hb, hg => by
    rw [VKTerm.greatL, VKTerm.boundL]
    have h3 := VKTerm.great_max x (kidN b l.length n)
    have h4 := kidN_le b l.length n
    refine VKTerm.greatL_max b l n _ _ ?_ (fun h => by have := hb h; omega) (by omega)
    rw [h3]
    by_cases hq : kidN b l.length n = n + 1
    · have := hb (h4.2.2 hq); omega
    · have : kidN b l.length n = n := by omega
      omega
end
theorem VKTerm.great_le (x : VKTerm) (n : Nat) : x.great n ≤ n + x.ks := by rw [x.great_max]; have := x.bound_le n; omega
/-- one use -/
def useN (last : List Int) (v at' : Int) : List Int := if inB v 0 ((last.length : Int) - 1) then last.set v.toNat (max (last.getD v.toNat 0) at') else last
def useV (at' : Int) (last : List Int) (v : VKVal) : List Int := if v.Kind = 1 then useN last v.N at' else last
theorem useN_len (last : List Int) (v a : Int) : (useN last v a).length = last.length := by unfold useN; split <;> simp
theorem useV_len (last : List Int) (v : VKVal) (a : Int) : (useV a last v).length = last.length := by unfold useV; split <;> simp [useN_len]
def usesV (at' : Int) (last : List Int) (l : List VKVal) : List Int := l.foldl (useV at') last
theorem usesV_len (a : Int) : ∀ (l : List VKVal) (last : List Int), (usesV a last l).length = last.length
  | [], _ => rfl
  | v :: l, last => by
    have : usesV a last (v :: l) = usesV a (useV a last v) l := rfl
    rw [this, usesV_len a l, useV_len]
def mostF (l : List VKTerm) (n : Nat) : Nat := match l with | [] => 0 | x :: _ => x.most n
def lowK (i : Nat) (low1 least : Nat) : Nat := if i = 1 then low1 else least
mutual
def VKTerm.uses : VKTerm → Nat → Nat → List Int → List Int
  | .mk kd a b c d e vs kids, n, least, last =>
    VKTerm.usesL (VKTerm.mk kd a b c d e vs kids).binds n least (if kd = 9 then max least (mostF kids n) else least) 0 kids (usesV ((max n least : Nat) : Int) last vs)
def VKTerm.usesL (b : Bool) (n least low1 : Nat) (i : Nat) : List VKTerm → List Int → List Int
  | [], last => last
  | x :: l, last => VKTerm.usesL b n least low1 (i + 1) l (x.uses (kidN b l.length n) (lowK i low1 least) last)
end
theorem VKTerm.uses_eq (x : VKTerm) (n least : Nat) (last : List Int) : x.uses n least last = VKTerm.usesL x.binds n least (if x.Kind = 9 then max least (mostF x.Kids n) else least) 0 x.Kids (usesV ((max n least : Nat) : Int) last x.Vs) := by cases x; rw [VKTerm.uses]; rfl
mutual
theorem VKTerm.uses_len : ∀ (x : VKTerm) (n least : Nat) (last : List Int), (x.uses n least last).length = last.length
  | .mk kd a b c d e vs kids, n, least, last => by rw [VKTerm.uses, VKTerm.usesL_len, usesV_len]
theorem VKTerm.usesL_len (b : Bool) (n least low1 : Nat) : ∀ (l : List VKTerm) (i : Nat) (last : List Int), (VKTerm.usesL b n least low1 i l last).length = last.length
  | [], i, last => by rw [VKTerm.usesL]
  | x :: l, i, last => by rw [VKTerm.usesL, VKTerm.usesL_len b n least low1 l, VKTerm.uses_len x]
end
theorem use_lt {last : List Int} {v a : Int} (hv : inB v 0 ((last.length : Int) - 1) = true) (h : last.getD v.toNat 0 < a) : useN last v a = last.set v.toNat a := by
  unfold useN; rw [if_pos hv, Int.max_eq_right (Int.le_of_lt h)]
theorem use_ge {last : List Int} {v a : Int} (hv : inB v 0 ((last.length : Int) - 1) = true) (h : ¬ last.getD v.toNat 0 < a) : useN last v a = last := by
  unfold useN; rw [if_pos hv, Int.max_eq_left (by omega)]
  apply List.ext_getElem?
  intro i
  rw [List.getElem?_set]
  split
  · rename_i e; subst e
    split
    · rename_i hl; simp [List.getD, hl]
    · rename_i hl; simp; omega
  · rfl
end Go.Ab
namespace Go.Proofs.Ab
open Go.Ab
set_option maxRecDepth 100000
set_option maxHeartbeats 4000000
theorem spec_l13Binds_c (x : VKTerm) : PCon Try.prog F.spec_l13Binds [x.av] (.v (.bool x.binds)) := by
  refine T.spec_l13Binds_con rfl (by simp [AV.norefs, AV.noref, VKTerm.noref]) ?_
  simp only [T.spec_l13Binds, VKTerm.cells, VKTerm.isAgg, VKTerm.storable, WA, Nat.reduceEqDiff, Nat.reduceAdd, Nat.reduceLT, Nat.reduceLeDiff, Nat.reduceMul, reduceIte, reduceCtorEq, Int.reduceEq, Int.reduceLT, Int.reduceLE, Int.reduceNe]
  repeat' (first | (simp (disch := (first | omega | rfl | exact rfl | (simp only [cells_v, List.length_cons, List.length_nil]; done) | exact VKTerm.width _)) only [VKTerm.cells, VKTerm.isAgg, VKTerm.storable, VKTerm.eta, VKTerm.load_T, VTy.eta, wrapS, wrapA, wrapA1, lt0, WA, Nat.reduceEqDiff, Nat.reduceAdd, Nat.reduceLT, Nat.reduceLeDiff, Nat.reduceMul, reduceIte, reduceCtorEq, Int.reduceEq, Int.reduceLT, Int.reduceLE, Int.reduceNe]) | (refine ite_dec (fun hq => ?_) (fun hq => ?_) <;> (try simp only [hq, decide_true, decide_false, Bool.not_true, Bool.not_false, Bool.not_eq_true', Bool.not_eq_false'])) | (refine ite_ndec (fun hq => ?_) (fun hq => ?_) <;> (try simp only [hq, decide_true, decide_false, Bool.not_true, Bool.not_false, Bool.not_eq_true', Bool.not_eq_false'])) | (refine ite_intro (fun hq => ?_) (fun hq => ?_) <;> (try simp only [hq, decide_true, decide_false, Bool.not_true, Bool.not_false, Bool.not_eq_true', Bool.not_eq_false'])) | (refine bind_push ?_) | (refine call_v (spec_l1In_c _ _ _) ?_))
  all_goals first | (have hg1 := hg; clear hv; simp_all [VKTerm.binds]; done) | (have hg1 := hg; simp_all [VKTerm.binds]; done) | (have hg1 := hg; clear hv; simp_all [VKTerm.binds, -List.all_eq_true, -List.any_eq_true, -List.all_eq_false, -List.any_eq_false]; done) | (simp_all [VKTerm.binds]; done) | (simp_all [VKTerm.binds, -List.all_eq_true, -List.any_eq_true, -List.all_eq_false, -List.any_eq_false]; done) | (refine avb ?_; (try clear hv); simp_all [VKTerm.binds] <;> (intros; omega)) | (refine avb ?_; simp_all [VKTerm.binds] <;> (intros; omega)) | (simp_all [VKTerm.binds] <;> (intros; omega)) | omega
theorem impl_binding_c (x : VKTerm) : PCon Try.prog F.impl_binding [x.av] (.v (.bool x.binds)) := by
  refine T.impl_binding_con rfl (by simp [AV.norefs, AV.noref, VKTerm.noref]) ?_
  simp only [T.impl_binding, VKTerm.cells, VKTerm.isAgg, VKTerm.storable, WA, Nat.reduceEqDiff, Nat.reduceAdd, Nat.reduceLT, Nat.reduceLeDiff, Nat.reduceMul, reduceIte, reduceCtorEq, Int.reduceEq, Int.reduceLT, Int.reduceLE, Int.reduceNe]
  repeat' (first | (simp (disch := (first | omega | rfl | exact rfl | (simp only [cells_v, List.length_cons, List.length_nil]; done) | exact VKTerm.width _)) only [VKTerm.cells, VKTerm.isAgg, VKTerm.storable, VKTerm.eta, VKTerm.load_T, VTy.eta, wrapS, wrapA, wrapA1, lt0, WA, Nat.reduceEqDiff, Nat.reduceAdd, Nat.reduceLT, Nat.reduceLeDiff, Nat.reduceMul, reduceIte, reduceCtorEq, Int.reduceEq, Int.reduceLT, Int.reduceLE, Int.reduceNe]) | (refine ite_dec (fun hq => ?_) (fun hq => ?_) <;> (try simp only [hq, decide_true, decide_false, Bool.not_true, Bool.not_false, Bool.not_eq_true', Bool.not_eq_false'])) | (refine ite_ndec (fun hq => ?_) (fun hq => ?_) <;> (try simp only [hq, decide_true, decide_false, Bool.not_true, Bool.not_false, Bool.not_eq_true', Bool.not_eq_false'])) | (refine ite_intro (fun hq => ?_) (fun hq => ?_) <;> (try simp only [hq, decide_true, decide_false, Bool.not_true, Bool.not_false, Bool.not_eq_true', Bool.not_eq_false'])) | (refine bind_push ?_) | (refine call_v (impl_within_c _ _ _) ?_))
  all_goals first | (have hg1 := hg; clear hv; simp_all [VKTerm.binds]; done) | (have hg1 := hg; simp_all [VKTerm.binds]; done) | (have hg1 := hg; clear hv; simp_all [VKTerm.binds, -List.all_eq_true, -List.any_eq_true, -List.all_eq_false, -List.any_eq_false]; done) | (simp_all [VKTerm.binds]; done) | (simp_all [VKTerm.binds, -List.all_eq_true, -List.any_eq_true, -List.all_eq_false, -List.any_eq_false]; done) | (refine avb ?_; (try clear hv); simp_all [VKTerm.binds] <;> (intros; omega)) | (refine avb ?_; simp_all [VKTerm.binds] <;> (intros; omega)) | (simp_all [VKTerm.binds] <;> (intros; omega)) | omega
theorem kid_dec {x : VKTerm} {i r : Nat} (h : i + (r + 1) = x.Kids.length) : decide ((i : Int) = (x.Kids.length : Int) - 1) = decide (r = 0) := by
  by_cases hr : r = 0
  · rw [decide_eq_true hr, decide_eq_true (by omega)]
  · rw [decide_eq_false hr, decide_eq_false (by omega)]
theorem spec_l13Kid_c (x : VKTerm) (i r n : Nat) (hb : x.wt ≤ 1048576) (h : i + (r + 1) = x.Kids.length) (hn : n ≤ 4194304) : PCon Try.prog F.spec_l13Kid [x.av, avI i, avI n] (avI (kidN x.binds r n : Nat)) := by
  have hw := x.wt_eq
  have hd := kid_dec h
  have w0 : IntKind.i64.wrap ((x.Kids.length : Int) - 1) = (x.Kids.length : Int) - 1 := wrapI (by omega) (by omega)
  refine T.spec_l13Kid_con rfl (by simp [AV.norefs, AV.noref, VKTerm.noref]) ?_
  simp only [T.spec_l13Kid, VKTerm.cells, VKTerm.isAgg, VKTerm.storable, WA, Nat.reduceEqDiff, Nat.reduceAdd, Nat.reduceLT, Nat.reduceLeDiff, Nat.reduceMul, reduceIte, reduceCtorEq, Int.reduceEq, Int.reduceLT, Int.reduceLE, Int.reduceNe]
  repeat' (first | (simp (disch := (first | omega | rfl | exact rfl | (simp only [cells_v, List.length_cons, List.length_nil]; done) | exact VKTerm.width _)) only [hd, VKTerm.cells, VKTerm.isAgg, VKTerm.storable, VKTerm.eta, VKTerm.load_T, VTy.eta, w0, wrapS, wrapA, wrapA1, lt0, WA, Nat.reduceEqDiff, Nat.reduceAdd, Nat.reduceLT, Nat.reduceLeDiff, Nat.reduceMul, reduceIte, reduceCtorEq, Int.reduceEq, Int.reduceLT, Int.reduceLE, Int.reduceNe]) | (simp (disch := (first | omega | rfl | exact rfl | (simp only [cells_v, List.length_cons, List.length_nil]; done) | exact VKTerm.width _)) only [VKTerm.cells, VKTerm.isAgg, VKTerm.storable, VKTerm.eta, VKTerm.load_T, VTy.eta, w0, wrapS, wrapA, wrapA1, lt0, WA, Nat.reduceEqDiff, Nat.reduceAdd, Nat.reduceLT, Nat.reduceLeDiff, Nat.reduceMul, reduceIte, reduceCtorEq, Int.reduceEq, Int.reduceLT, Int.reduceLE, Int.reduceNe]) | (refine ite_dec (fun hq => ?_) (fun hq => ?_) <;> (try simp only [hq, decide_true, decide_false, Bool.not_true, Bool.not_false, Bool.not_eq_true', Bool.not_eq_false'])) | (refine ite_ndec (fun hq => ?_) (fun hq => ?_) <;> (try simp only [hq, decide_true, decide_false, Bool.not_true, Bool.not_false, Bool.not_eq_true', Bool.not_eq_false'])) | (refine ite_intro (fun hq => ?_) (fun hq => ?_) <;> (try simp only [hq, decide_true, decide_false, Bool.not_true, Bool.not_false, Bool.not_eq_true', Bool.not_eq_false'])) | (refine bind_push ?_) | (refine call_v (spec_l13Binds_c x) ?_))
  all_goals first | (have hg1 := hg; clear hv; simp_all [kidN]; done) | (have hg1 := hg; simp_all [kidN]; done) | (have hg1 := hg; clear hv; simp_all [kidN, -List.all_eq_true, -List.any_eq_true, -List.all_eq_false, -List.any_eq_false]; done) | (simp_all [kidN]; done) | (simp_all [kidN, -List.all_eq_true, -List.any_eq_true, -List.all_eq_false, -List.any_eq_false]; done) | (refine avb ?_; (try clear hv); simp_all [kidN] <;> (intros; omega)) | (refine avb ?_; simp_all [kidN] <;> (intros; omega)) | (simp_all [kidN] <;> (intros; omega)) | omega
theorem impl_homeScope_c (x : VKTerm) (i r n : Nat) (hb : x.wt ≤ 1048576) (h : i + (r + 1) = x.Kids.length) (hn : n ≤ 4194304) : PCon Try.prog F.impl_homeScope [x.av, avI i, avI n] (avI (kidN x.binds r n : Nat)) := by
  have hw := x.wt_eq
  have hd := kid_dec h
  have w0 : IntKind.i64.wrap ((x.Kids.length : Int) - 1) = (x.Kids.length : Int) - 1 := wrapI (by omega) (by omega)
  refine T.impl_homeScope_con rfl (by simp [AV.norefs, AV.noref, VKTerm.noref]) ?_
  simp only [T.impl_homeScope, VKTerm.cells, VKTerm.isAgg, VKTerm.storable, WA, Nat.reduceEqDiff, Nat.reduceAdd, Nat.reduceLT, Nat.reduceLeDiff, Nat.reduceMul, reduceIte, reduceCtorEq, Int.reduceEq, Int.reduceLT, Int.reduceLE, Int.reduceNe]
  repeat' (first | (simp (disch := (first | omega | rfl | exact rfl | (simp only [cells_v, List.length_cons, List.length_nil]; done) | exact VKTerm.width _)) only [hd, VKTerm.cells, VKTerm.isAgg, VKTerm.storable, VKTerm.eta, VKTerm.load_T, VTy.eta, w0, wrapS, wrapA, wrapA1, lt0, WA, Nat.reduceEqDiff, Nat.reduceAdd, Nat.reduceLT, Nat.reduceLeDiff, Nat.reduceMul, reduceIte, reduceCtorEq, Int.reduceEq, Int.reduceLT, Int.reduceLE, Int.reduceNe]) | (simp (disch := (first | omega | rfl | exact rfl | (simp only [cells_v, List.length_cons, List.length_nil]; done) | exact VKTerm.width _)) only [VKTerm.cells, VKTerm.isAgg, VKTerm.storable, VKTerm.eta, VKTerm.load_T, VTy.eta, w0, wrapS, wrapA, wrapA1, lt0, WA, Nat.reduceEqDiff, Nat.reduceAdd, Nat.reduceLT, Nat.reduceLeDiff, Nat.reduceMul, reduceIte, reduceCtorEq, Int.reduceEq, Int.reduceLT, Int.reduceLE, Int.reduceNe]) | (refine ite_dec (fun hq => ?_) (fun hq => ?_) <;> (try simp only [hq, decide_true, decide_false, Bool.not_true, Bool.not_false, Bool.not_eq_true', Bool.not_eq_false'])) | (refine ite_ndec (fun hq => ?_) (fun hq => ?_) <;> (try simp only [hq, decide_true, decide_false, Bool.not_true, Bool.not_false, Bool.not_eq_true', Bool.not_eq_false'])) | (refine ite_intro (fun hq => ?_) (fun hq => ?_) <;> (try simp only [hq, decide_true, decide_false, Bool.not_true, Bool.not_false, Bool.not_eq_true', Bool.not_eq_false'])) | (refine bind_push ?_) | (refine call_v (impl_binding_c x) ?_))
  all_goals first | (have hg1 := hg; clear hv; simp_all [kidN]; done) | (have hg1 := hg; simp_all [kidN]; done) | (have hg1 := hg; clear hv; simp_all [kidN, -List.all_eq_true, -List.any_eq_true, -List.all_eq_false, -List.any_eq_false]; done) | (simp_all [kidN]; done) | (simp_all [kidN, -List.all_eq_true, -List.any_eq_true, -List.all_eq_false, -List.any_eq_false]; done) | (refine avb ?_; (try clear hv); simp_all [kidN] <;> (intros; omega)) | (refine avb ?_; simp_all [kidN] <;> (intros; omega)) | (simp_all [kidN] <;> (intros; omega)) | omega
theorem spec_KSize_c (x : VKTerm) (hb : x.wt ≤ 1048576) : PCon Try.prog F.spec_KSize [x.av] (avI (x.ks : Nat)) := by
  have hw := x.wt_eq
  have hk := x.ks_eq
  have hl := x.ks_le
  refine T.spec_KSize_con rfl (by simp [AV.norefs, AV.noref, VKTerm.noref]) ?_
  simp only [T.spec_KSize, VKTerm.cells, VKTerm.isAgg, VKTerm.storable, WA, Nat.reduceEqDiff, Nat.reduceAdd, Nat.reduceLT, Nat.reduceLeDiff, Nat.reduceMul, reduceIte, reduceCtorEq, Int.reduceEq, Int.reduceLT, Int.reduceLE, Int.reduceNe]
  repeat' (first | (simp (disch := (first | omega | rfl | exact rfl | (simp only [cells_v, List.length_cons, List.length_nil]; done) | exact VKTerm.width _)) only [hel, hely, hd, hdy, VKTerm.cells, VKTerm.isAgg, VKTerm.storable, VKTerm.eta, VKTerm.load_T, VTy.eta, wrapS, wrapA, wrapA1, lt0, WA, Nat.reduceEqDiff, Nat.reduceAdd, Nat.reduceLT, Nat.reduceLeDiff, Nat.reduceMul, reduceIte, reduceCtorEq, Int.reduceEq, Int.reduceLT, Int.reduceLE, Int.reduceNe]) | (simp (disch := (first | omega | rfl | exact rfl | (simp only [cells_v, List.length_cons, List.length_nil]; done) | exact VKTerm.width _)) only [hel, hd, VKTerm.cells, VKTerm.isAgg, VKTerm.storable, VKTerm.eta, VKTerm.load_T, VTy.eta, wrapS, wrapA, wrapA1, lt0, WA, Nat.reduceEqDiff, Nat.reduceAdd, Nat.reduceLT, Nat.reduceLeDiff, Nat.reduceMul, reduceIte, reduceCtorEq, Int.reduceEq, Int.reduceLT, Int.reduceLE, Int.reduceNe]) | (simp (disch := (first | omega | rfl | exact rfl | (simp only [cells_v, List.length_cons, List.length_nil]; done) | exact VKTerm.width _)) only [hd, hdy, VKTerm.cells, VKTerm.isAgg, VKTerm.storable, VKTerm.eta, VKTerm.load_T, VTy.eta, wrapS, wrapA, wrapA1, lt0, WA, Nat.reduceEqDiff, Nat.reduceAdd, Nat.reduceLT, Nat.reduceLeDiff, Nat.reduceMul, reduceIte, reduceCtorEq, Int.reduceEq, Int.reduceLT, Int.reduceLE, Int.reduceNe]) | (simp (disch := (first | omega | rfl | exact rfl | (simp only [cells_v, List.length_cons, List.length_nil]; done) | exact VKTerm.width _)) only [hix, hd, VKTerm.cells, VKTerm.isAgg, VKTerm.storable, VKTerm.eta, VKTerm.load_T, VTy.eta, wrapS, wrapA, wrapA1, lt0, WA, Nat.reduceEqDiff, Nat.reduceAdd, Nat.reduceLT, Nat.reduceLeDiff, Nat.reduceMul, reduceIte, reduceCtorEq, Int.reduceEq, Int.reduceLT, Int.reduceLE, Int.reduceNe]) | (simp (disch := (first | omega | rfl | exact rfl | (simp only [cells_v, List.length_cons, List.length_nil]; done) | exact VKTerm.width _)) only [hd, VKTerm.cells, VKTerm.isAgg, VKTerm.storable, VKTerm.eta, VKTerm.load_T, VTy.eta, wrapS, wrapA, wrapA1, lt0, WA, Nat.reduceEqDiff, Nat.reduceAdd, Nat.reduceLT, Nat.reduceLeDiff, Nat.reduceMul, reduceIte, reduceCtorEq, Int.reduceEq, Int.reduceLT, Int.reduceLE, Int.reduceNe]) | (simp (disch := (first | omega | rfl | exact rfl | (simp only [cells_v, List.length_cons, List.length_nil]; done) | exact VKTerm.width _)) only [VKTerm.cells, VKTerm.isAgg, VKTerm.storable, VKTerm.eta, VKTerm.load_T, VTy.eta, wrapS, wrapA, wrapA1, lt0, WA, Nat.reduceEqDiff, Nat.reduceAdd, Nat.reduceLT, Nat.reduceLeDiff, Nat.reduceMul, reduceIte, reduceCtorEq, Int.reduceEq, Int.reduceLT, Int.reduceLE, Int.reduceNe]) | (refine ite_dec (fun hq => ?_) (fun hq => ?_) <;> (try simp only [hq, decide_true, decide_false, Bool.not_true, Bool.not_false, Bool.not_eq_true', Bool.not_eq_false'])) | (refine ite_ndec (fun hq => ?_) (fun hq => ?_) <;> (try simp only [hq, decide_true, decide_false, Bool.not_true, Bool.not_false, Bool.not_eq_true', Bool.not_eq_false'])) | (refine ite_intro (fun hq => ?_) (fun hq => ?_) <;> (try simp only [hq, decide_true, decide_false, Bool.not_true, Bool.not_false, Bool.not_eq_true', Bool.not_eq_false'])) | (refine bind_push ?_) | (refine loop_list x.Kids (fun i (q : Nat) => [avI q, avI i]) (fun _ rest q => q + VKTerm.ksL rest = x.ks) 1 rfl ?_ (fun i k rest b hi hx hm hel hd hg => ?_) (fun b hd hg => ?_)) | (refine call_v (spec_KSize_c k (by have := le_sum VKTerm.wt hm; omega)) ?_))
  all_goals first | omega | skip
  · have h9 := hg
    simp only [VKTerm.ksL] at h9
    refine ⟨hi, b + k.ks, by omega, ?_⟩
    rw [wrapA (by omega)]
  · have : b = x.ks := by simpa [VKTerm.ksL] using hg
    rw [this]
termination_by SizeOf.sizeOf x
decreasing_by all_goals exact VKTerm.Kids_lt hm
theorem impl_KSize_c (x : VKTerm) (hb : x.wt ≤ 1048576) : PCon Try.prog F.impl_KSize [x.av] (avI (x.ks : Nat)) := by
  have hw := x.wt_eq
  have hk := x.ks_eq
  have hl := x.ks_le
  refine T.impl_KSize_con rfl (by simp [AV.norefs, AV.noref, VKTerm.noref]) ?_
  simp only [T.impl_KSize, VKTerm.cells, VKTerm.isAgg, VKTerm.storable, WA, Nat.reduceEqDiff, Nat.reduceAdd, Nat.reduceLT, Nat.reduceLeDiff, Nat.reduceMul, reduceIte, reduceCtorEq, Int.reduceEq, Int.reduceLT, Int.reduceLE, Int.reduceNe]
  repeat' (first | (simp (disch := (first | omega | rfl | exact rfl | (simp only [cells_v, List.length_cons, List.length_nil]; done) | exact VKTerm.width _)) only [hel, hely, hd, hdy, VKTerm.cells, VKTerm.isAgg, VKTerm.storable, VKTerm.eta, VKTerm.load_T, VTy.eta, wrapS, wrapA, wrapA1, lt0, WA, Nat.reduceEqDiff, Nat.reduceAdd, Nat.reduceLT, Nat.reduceLeDiff, Nat.reduceMul, reduceIte, reduceCtorEq, Int.reduceEq, Int.reduceLT, Int.reduceLE, Int.reduceNe]) | (simp (disch := (first | omega | rfl | exact rfl | (simp only [cells_v, List.length_cons, List.length_nil]; done) | exact VKTerm.width _)) only [hel, hd, VKTerm.cells, VKTerm.isAgg, VKTerm.storable, VKTerm.eta, VKTerm.load_T, VTy.eta, wrapS, wrapA, wrapA1, lt0, WA, Nat.reduceEqDiff, Nat.reduceAdd, Nat.reduceLT, Nat.reduceLeDiff, Nat.reduceMul, reduceIte, reduceCtorEq, Int.reduceEq, Int.reduceLT, Int.reduceLE, Int.reduceNe]) | (simp (disch := (first | omega | rfl | exact rfl | (simp only [cells_v, List.length_cons, List.length_nil]; done) | exact VKTerm.width _)) only [hd, hdy, VKTerm.cells, VKTerm.isAgg, VKTerm.storable, VKTerm.eta, VKTerm.load_T, VTy.eta, wrapS, wrapA, wrapA1, lt0, WA, Nat.reduceEqDiff, Nat.reduceAdd, Nat.reduceLT, Nat.reduceLeDiff, Nat.reduceMul, reduceIte, reduceCtorEq, Int.reduceEq, Int.reduceLT, Int.reduceLE, Int.reduceNe]) | (simp (disch := (first | omega | rfl | exact rfl | (simp only [cells_v, List.length_cons, List.length_nil]; done) | exact VKTerm.width _)) only [hix, hd, VKTerm.cells, VKTerm.isAgg, VKTerm.storable, VKTerm.eta, VKTerm.load_T, VTy.eta, wrapS, wrapA, wrapA1, lt0, WA, Nat.reduceEqDiff, Nat.reduceAdd, Nat.reduceLT, Nat.reduceLeDiff, Nat.reduceMul, reduceIte, reduceCtorEq, Int.reduceEq, Int.reduceLT, Int.reduceLE, Int.reduceNe]) | (simp (disch := (first | omega | rfl | exact rfl | (simp only [cells_v, List.length_cons, List.length_nil]; done) | exact VKTerm.width _)) only [hd, VKTerm.cells, VKTerm.isAgg, VKTerm.storable, VKTerm.eta, VKTerm.load_T, VTy.eta, wrapS, wrapA, wrapA1, lt0, WA, Nat.reduceEqDiff, Nat.reduceAdd, Nat.reduceLT, Nat.reduceLeDiff, Nat.reduceMul, reduceIte, reduceCtorEq, Int.reduceEq, Int.reduceLT, Int.reduceLE, Int.reduceNe]) | (simp (disch := (first | omega | rfl | exact rfl | (simp only [cells_v, List.length_cons, List.length_nil]; done) | exact VKTerm.width _)) only [VKTerm.cells, VKTerm.isAgg, VKTerm.storable, VKTerm.eta, VKTerm.load_T, VTy.eta, wrapS, wrapA, wrapA1, lt0, WA, Nat.reduceEqDiff, Nat.reduceAdd, Nat.reduceLT, Nat.reduceLeDiff, Nat.reduceMul, reduceIte, reduceCtorEq, Int.reduceEq, Int.reduceLT, Int.reduceLE, Int.reduceNe]) | (refine ite_dec (fun hq => ?_) (fun hq => ?_) <;> (try simp only [hq, decide_true, decide_false, Bool.not_true, Bool.not_false, Bool.not_eq_true', Bool.not_eq_false'])) | (refine ite_ndec (fun hq => ?_) (fun hq => ?_) <;> (try simp only [hq, decide_true, decide_false, Bool.not_true, Bool.not_false, Bool.not_eq_true', Bool.not_eq_false'])) | (refine ite_intro (fun hq => ?_) (fun hq => ?_) <;> (try simp only [hq, decide_true, decide_false, Bool.not_true, Bool.not_false, Bool.not_eq_true', Bool.not_eq_false'])) | (refine bind_push ?_) | (refine loop_list x.Kids (fun i (q : Nat) => [avI q, avI i]) (fun _ rest q => q + VKTerm.ksL rest = x.ks) 1 rfl ?_ (fun i k rest b hi hx hm hel hd hg => ?_) (fun b hd hg => ?_)) | (refine call_v (impl_KSize_c k (by have := le_sum VKTerm.wt hm; omega)) ?_))
  all_goals first | omega | skip
  · have h9 := hg
    simp only [VKTerm.ksL] at h9
    refine ⟨hi, b + k.ks, by omega, ?_⟩
    rw [wrapA (by omega)]
  · have : b = x.ks := by simpa [VKTerm.ksL] using hg
    rw [this]
termination_by SizeOf.sizeOf x
decreasing_by all_goals exact VKTerm.Kids_lt hm
theorem spec_l13Fine_c (x : VKTerm) (first : Int) (hb : x.wt ≤ 1048576) : PCon Try.prog F.spec_l13Fine [x.av, avI first] (.v (.bool (inB first 0 9000 && decide (x.ks ≤ 9000)))) := by
  refine T.spec_l13Fine_con rfl (by simp [AV.norefs, AV.noref, VKTerm.noref]) ?_
  simp only [T.spec_l13Fine, VKTerm.cells, VKTerm.isAgg, VKTerm.storable, WA, Nat.reduceEqDiff, Nat.reduceAdd, Nat.reduceLT, Nat.reduceLeDiff, Nat.reduceMul, reduceIte, reduceCtorEq, Int.reduceEq, Int.reduceLT, Int.reduceLE, Int.reduceNe]
  repeat' (first | (simp (disch := (first | omega | rfl | exact rfl | (simp only [cells_v, List.length_cons, List.length_nil]; done) | exact VKTerm.width _)) only [VKTerm.cells, VKTerm.isAgg, VKTerm.storable, VKTerm.eta, VKTerm.load_T, VTy.eta, wrapS, wrapA, wrapA1, lt0, WA, Nat.reduceEqDiff, Nat.reduceAdd, Nat.reduceLT, Nat.reduceLeDiff, Nat.reduceMul, reduceIte, reduceCtorEq, Int.reduceEq, Int.reduceLT, Int.reduceLE, Int.reduceNe]) | (refine ite_dec (fun hq => ?_) (fun hq => ?_) <;> (try simp only [hq, decide_true, decide_false, Bool.not_true, Bool.not_false, Bool.not_eq_true', Bool.not_eq_false'])) | (refine ite_ndec (fun hq => ?_) (fun hq => ?_) <;> (try simp only [hq, decide_true, decide_false, Bool.not_true, Bool.not_false, Bool.not_eq_true', Bool.not_eq_false'])) | (refine ite_intro (fun hq => ?_) (fun hq => ?_) <;> (try simp only [hq, decide_true, decide_false, Bool.not_true, Bool.not_false, Bool.not_eq_true', Bool.not_eq_false'])) | (refine bind_push ?_) | (refine call_v (spec_l1In_c _ _ _) ?_) | (refine call_v (spec_KSize_c x hb) ?_))
  all_goals first | (have hg1 := hg; clear hv; simp_all; done) | (have hg1 := hg; simp_all; done) | (have hg1 := hg; clear hv; simp_all [-List.all_eq_true, -List.any_eq_true, -List.all_eq_false, -List.any_eq_false]; done) | (simp_all; done) | (simp_all [-List.all_eq_true, -List.any_eq_true, -List.all_eq_false, -List.any_eq_false]; done) | (refine avb ?_; (try clear hv); simp_all <;> (intros; omega)) | (refine avb ?_; simp_all <;> (intros; omega)) | (simp_all <;> (intros; omega)) | omega
theorem spec_l13Most_c (x : VKTerm) (n : Nat) (hb : x.wt ≤ 1048576) (hn : n + x.ks ≤ 4194304) : PCon Try.prog F.spec_l13Most [x.av, avI n] (avI (x.most n : Nat)) := by
  have hw := x.wt_eq
  have hk := x.ks_eq
  have hv := x.most_eq n
  refine T.spec_l13Most_con rfl (by simp [AV.norefs, AV.noref, VKTerm.noref]) ?_
  simp only [T.spec_l13Most, VKTerm.cells, VKTerm.isAgg, VKTerm.storable, WA, Nat.reduceEqDiff, Nat.reduceAdd, Nat.reduceLT, Nat.reduceLeDiff, Nat.reduceMul, reduceIte, reduceCtorEq, Int.reduceEq, Int.reduceLT, Int.reduceLE, Int.reduceNe]
  repeat' (first | (simp (disch := (first | omega | rfl | exact rfl | (simp only [cells_v, List.length_cons, List.length_nil]; done) | exact VKTerm.width _)) only [hel, hely, hd, hdy, VKTerm.cells, VKTerm.isAgg, VKTerm.storable, VKTerm.eta, VKTerm.load_T, VTy.eta, wrapS, wrapA, wrapA1, lt0, WA, Nat.reduceEqDiff, Nat.reduceAdd, Nat.reduceLT, Nat.reduceLeDiff, Nat.reduceMul, reduceIte, reduceCtorEq, Int.reduceEq, Int.reduceLT, Int.reduceLE, Int.reduceNe]) | (simp (disch := (first | omega | rfl | exact rfl | (simp only [cells_v, List.length_cons, List.length_nil]; done) | exact VKTerm.width _)) only [hel, hd, VKTerm.cells, VKTerm.isAgg, VKTerm.storable, VKTerm.eta, VKTerm.load_T, VTy.eta, wrapS, wrapA, wrapA1, lt0, WA, Nat.reduceEqDiff, Nat.reduceAdd, Nat.reduceLT, Nat.reduceLeDiff, Nat.reduceMul, reduceIte, reduceCtorEq, Int.reduceEq, Int.reduceLT, Int.reduceLE, Int.reduceNe]) | (simp (disch := (first | omega | rfl | exact rfl | (simp only [cells_v, List.length_cons, List.length_nil]; done) | exact VKTerm.width _)) only [hd, hdy, VKTerm.cells, VKTerm.isAgg, VKTerm.storable, VKTerm.eta, VKTerm.load_T, VTy.eta, wrapS, wrapA, wrapA1, lt0, WA, Nat.reduceEqDiff, Nat.reduceAdd, Nat.reduceLT, Nat.reduceLeDiff, Nat.reduceMul, reduceIte, reduceCtorEq, Int.reduceEq, Int.reduceLT, Int.reduceLE, Int.reduceNe]) | (simp (disch := (first | omega | rfl | exact rfl | (simp only [cells_v, List.length_cons, List.length_nil]; done) | exact VKTerm.width _)) only [hix, hd, VKTerm.cells, VKTerm.isAgg, VKTerm.storable, VKTerm.eta, VKTerm.load_T, VTy.eta, wrapS, wrapA, wrapA1, lt0, WA, Nat.reduceEqDiff, Nat.reduceAdd, Nat.reduceLT, Nat.reduceLeDiff, Nat.reduceMul, reduceIte, reduceCtorEq, Int.reduceEq, Int.reduceLT, Int.reduceLE, Int.reduceNe]) | (simp (disch := (first | omega | rfl | exact rfl | (simp only [cells_v, List.length_cons, List.length_nil]; done) | exact VKTerm.width _)) only [hd, VKTerm.cells, VKTerm.isAgg, VKTerm.storable, VKTerm.eta, VKTerm.load_T, VTy.eta, wrapS, wrapA, wrapA1, lt0, WA, Nat.reduceEqDiff, Nat.reduceAdd, Nat.reduceLT, Nat.reduceLeDiff, Nat.reduceMul, reduceIte, reduceCtorEq, Int.reduceEq, Int.reduceLT, Int.reduceLE, Int.reduceNe]) | (simp (disch := (first | omega | rfl | exact rfl | (simp only [cells_v, List.length_cons, List.length_nil]; done) | exact VKTerm.width _)) only [VKTerm.cells, VKTerm.isAgg, VKTerm.storable, VKTerm.eta, VKTerm.load_T, VTy.eta, wrapS, wrapA, wrapA1, lt0, WA, Nat.reduceEqDiff, Nat.reduceAdd, Nat.reduceLT, Nat.reduceLeDiff, Nat.reduceMul, reduceIte, reduceCtorEq, Int.reduceEq, Int.reduceLT, Int.reduceLE, Int.reduceNe]) | (refine ite_dec (fun hq => ?_) (fun hq => ?_) <;> (try simp only [hq, decide_true, decide_false, Bool.not_true, Bool.not_false, Bool.not_eq_true', Bool.not_eq_false'])) | (refine ite_ndec (fun hq => ?_) (fun hq => ?_) <;> (try simp only [hq, decide_true, decide_false, Bool.not_true, Bool.not_false, Bool.not_eq_true', Bool.not_eq_false'])) | (refine ite_intro (fun hq => ?_) (fun hq => ?_) <;> (try simp only [hq, decide_true, decide_false, Bool.not_true, Bool.not_false, Bool.not_eq_true', Bool.not_eq_false'])) | (refine bind_push ?_) | (refine loop_list x.Kids (fun i (q : Nat) => [avI q, avI i]) (fun i rest q => x.most n = VKTerm.mostL x.binds rest n q ∧ i + rest.length = x.Kids.length ∧ n + 1 + VKTerm.ksL rest ≤ 4194304 ∧ q ≤ 4194304) n rfl ?_ (fun i k rest b hi hx hm hel hd hg => ?_) (fun b hd hg => ?_)) | (refine call_v (spec_l13Kid_c x i rest.length n hb (by have := hg.2.1; simpa [Nat.add_assoc] using this) (by omega)) ?_) | (refine call_v (spec_l13Most_c k (kidN x.binds rest.length n) (by have := le_sum VKTerm.wt hm; omega) (by have h9 := hg.2.2.1; have := kidN_le x.binds rest.length n; simp only [VKTerm.ksL] at h9; omega)) ?_))
  · exact ⟨hv, by omega, by omega⟩
  · have h7 := hg.1
    have h9 := hg.2.2.1
    have h8 := hg.2.1
    have hkb := k.most_le (kidN x.binds rest.length n)
    have hkn := kidN_le x.binds rest.length n
    rw [VKTerm.mostL] at h7
    simp only [VKTerm.ksL, List.length_cons] at h9 h8
    refine ⟨hi, k.most (kidN x.binds rest.length n), ⟨by rw [h7, Nat.max_eq_right (by omega)], by omega, by omega, by omega⟩, rfl⟩
  · have h7 := hg.1
    have h9 := hg.2.2.1
    have h8 := hg.2.1
    have hkb := k.most_le (kidN x.binds rest.length n)
    have hkn := kidN_le x.binds rest.length n
    rw [VKTerm.mostL] at h7
    simp only [VKTerm.ksL, List.length_cons] at h9 h8
    refine ⟨hi, b, ⟨by rw [h7, Nat.max_eq_left (by omega)], by omega, by omega, by omega⟩, rfl⟩
  · have h7 := hg.1
    rw [VKTerm.mostL] at h7
    rw [h7]
termination_by SizeOf.sizeOf x
decreasing_by all_goals exact VKTerm.Kids_lt hm
theorem impl_greatestScope_c (x : VKTerm) (n : Nat) (hb : x.wt ≤ 1048576) (hn : n + x.ks ≤ 4194304) : PCon Try.prog F.impl_greatestScope [x.av, avI n] (avI (x.most n : Nat)) := by
  have hw := x.wt_eq
  have hk := x.ks_eq
  have hv := x.most_eq n
  refine T.impl_greatestScope_con rfl (by simp [AV.norefs, AV.noref, VKTerm.noref]) ?_
  simp only [T.impl_greatestScope, VKTerm.cells, VKTerm.isAgg, VKTerm.storable, WA, Nat.reduceEqDiff, Nat.reduceAdd, Nat.reduceLT, Nat.reduceLeDiff, Nat.reduceMul, reduceIte, reduceCtorEq, Int.reduceEq, Int.reduceLT, Int.reduceLE, Int.reduceNe]
  repeat' (first | (simp (disch := (first | omega | rfl | exact rfl | (simp only [cells_v, List.length_cons, List.length_nil]; done) | exact VKTerm.width _)) only [hel, hely, hd, hdy, VKTerm.cells, VKTerm.isAgg, VKTerm.storable, VKTerm.eta, VKTerm.load_T, VTy.eta, wrapS, wrapA, wrapA1, lt0, WA, Nat.reduceEqDiff, Nat.reduceAdd, Nat.reduceLT, Nat.reduceLeDiff, Nat.reduceMul, reduceIte, reduceCtorEq, Int.reduceEq, Int.reduceLT, Int.reduceLE, Int.reduceNe]) | (simp (disch := (first | omega | rfl | exact rfl | (simp only [cells_v, List.length_cons, List.length_nil]; done) | exact VKTerm.width _)) only [hel, hd, VKTerm.cells, VKTerm.isAgg, VKTerm.storable, VKTerm.eta, VKTerm.load_T, VTy.eta, wrapS, wrapA, wrapA1, lt0, WA, Nat.reduceEqDiff, Nat.reduceAdd, Nat.reduceLT, Nat.reduceLeDiff, Nat.reduceMul, reduceIte, reduceCtorEq, Int.reduceEq, Int.reduceLT, Int.reduceLE, Int.reduceNe]) | (simp (disch := (first | omega | rfl | exact rfl | (simp only [cells_v, List.length_cons, List.length_nil]; done) | exact VKTerm.width _)) only [hd, hdy, VKTerm.cells, VKTerm.isAgg, VKTerm.storable, VKTerm.eta, VKTerm.load_T, VTy.eta, wrapS, wrapA, wrapA1, lt0, WA, Nat.reduceEqDiff, Nat.reduceAdd, Nat.reduceLT, Nat.reduceLeDiff, Nat.reduceMul, reduceIte, reduceCtorEq, Int.reduceEq, Int.reduceLT, Int.reduceLE, Int.reduceNe]) | (simp (disch := (first | omega | rfl | exact rfl | (simp only [cells_v, List.length_cons, List.length_nil]; done) | exact VKTerm.width _)) only [hix, hd, VKTerm.cells, VKTerm.isAgg, VKTerm.storable, VKTerm.eta, VKTerm.load_T, VTy.eta, wrapS, wrapA, wrapA1, lt0, WA, Nat.reduceEqDiff, Nat.reduceAdd, Nat.reduceLT, Nat.reduceLeDiff, Nat.reduceMul, reduceIte, reduceCtorEq, Int.reduceEq, Int.reduceLT, Int.reduceLE, Int.reduceNe]) | (simp (disch := (first | omega | rfl | exact rfl | (simp only [cells_v, List.length_cons, List.length_nil]; done) | exact VKTerm.width _)) only [hd, VKTerm.cells, VKTerm.isAgg, VKTerm.storable, VKTerm.eta, VKTerm.load_T, VTy.eta, wrapS, wrapA, wrapA1, lt0, WA, Nat.reduceEqDiff, Nat.reduceAdd, Nat.reduceLT, Nat.reduceLeDiff, Nat.reduceMul, reduceIte, reduceCtorEq, Int.reduceEq, Int.reduceLT, Int.reduceLE, Int.reduceNe]) | (simp (disch := (first | omega | rfl | exact rfl | (simp only [cells_v, List.length_cons, List.length_nil]; done) | exact VKTerm.width _)) only [VKTerm.cells, VKTerm.isAgg, VKTerm.storable, VKTerm.eta, VKTerm.load_T, VTy.eta, wrapS, wrapA, wrapA1, lt0, WA, Nat.reduceEqDiff, Nat.reduceAdd, Nat.reduceLT, Nat.reduceLeDiff, Nat.reduceMul, reduceIte, reduceCtorEq, Int.reduceEq, Int.reduceLT, Int.reduceLE, Int.reduceNe]) | (refine ite_dec (fun hq => ?_) (fun hq => ?_) <;> (try simp only [hq, decide_true, decide_false, Bool.not_true, Bool.not_false, Bool.not_eq_true', Bool.not_eq_false'])) | (refine ite_ndec (fun hq => ?_) (fun hq => ?_) <;> (try simp only [hq, decide_true, decide_false, Bool.not_true, Bool.not_false, Bool.not_eq_true', Bool.not_eq_false'])) | (refine ite_intro (fun hq => ?_) (fun hq => ?_) <;> (try simp only [hq, decide_true, decide_false, Bool.not_true, Bool.not_false, Bool.not_eq_true', Bool.not_eq_false'])) | (refine bind_push ?_) | (refine loop_list x.Kids (fun i (q : Nat) => [avI q, avI i]) (fun i rest q => x.most n = VKTerm.mostL x.binds rest n q ∧ i + rest.length = x.Kids.length ∧ n + 1 + VKTerm.ksL rest ≤ 4194304 ∧ q ≤ 4194304) n rfl ?_ (fun i k rest b hi hx hm hel hd hg => ?_) (fun b hd hg => ?_)) | (refine call_v (impl_homeScope_c x i rest.length n hb (by have := hg.2.1; simpa [Nat.add_assoc] using this) (by omega)) ?_) | (refine call_v (impl_greatestScope_c k (kidN x.binds rest.length n) (by have := le_sum VKTerm.wt hm; omega) (by have h9 := hg.2.2.1; have := kidN_le x.binds rest.length n; simp only [VKTerm.ksL] at h9; omega)) ?_))
  · exact ⟨hv, by omega, by omega⟩
  · have h7 := hg.1
    have h9 := hg.2.2.1
    have h8 := hg.2.1
    have hkb := k.most_le (kidN x.binds rest.length n)
    have hkn := kidN_le x.binds rest.length n
    rw [VKTerm.mostL] at h7
    simp only [VKTerm.ksL, List.length_cons] at h9 h8
    refine ⟨hi, max b (k.most (kidN x.binds rest.length n)), ⟨h7, by omega, by omega, by omega⟩, by rw [show (if (b : Int) < ((k.most (kidN x.binds rest.length n) : Nat) : Int) then ((k.most (kidN x.binds rest.length n) : Nat) : Int) else (b : Int)) = ((max b (k.most (kidN x.binds rest.length n)) : Nat) : Int) by split <;> omega]⟩
  · have h7 := hg.1
    rw [VKTerm.mostL] at h7
    rw [h7]
termination_by SizeOf.sizeOf x
decreasing_by all_goals exact VKTerm.Kids_lt hm
theorem spec_l13Bound_c (x : VKTerm) (n : Nat) (hb : x.wt ≤ 1048576) (hn : n + x.ks ≤ 4194304) : PCon Try.prog F.spec_l13Bound [x.av, avI n] (avI (x.bound n : Nat)) := by
  have hw := x.wt_eq
  have hk := x.ks_eq
  have hv := x.bound_eq n
  refine T.spec_l13Bound_con rfl (by simp [AV.norefs, AV.noref, VKTerm.noref]) ?_
  simp only [T.spec_l13Bound, VKTerm.cells, VKTerm.isAgg, VKTerm.storable, WA, Nat.reduceEqDiff, Nat.reduceAdd, Nat.reduceLT, Nat.reduceLeDiff, Nat.reduceMul, reduceIte, reduceCtorEq, Int.reduceEq, Int.reduceLT, Int.reduceLE, Int.reduceNe]
  refine bind_cut [avI ((if x.binds then n + 1 else 0 : Nat) : Int)] rfl ?_ ?_
  · repeat' (first | (simp (disch := (first | omega | rfl | exact rfl | (simp only [cells_v, List.length_cons, List.length_nil]; done) | exact VKTerm.width _)) only [VKTerm.cells, VKTerm.isAgg, VKTerm.storable, VKTerm.eta, VKTerm.load_T, VTy.eta, wrapS, wrapA, wrapA1, lt0, WA, Nat.reduceEqDiff, Nat.reduceAdd, Nat.reduceLT, Nat.reduceLeDiff, Nat.reduceMul, reduceIte, reduceCtorEq, Int.reduceEq, Int.reduceLT, Int.reduceLE, Int.reduceNe]) | (refine ite_dec (fun hq => ?_) (fun hq => ?_) <;> (try simp only [hq, decide_true, decide_false, Bool.not_true, Bool.not_false, Bool.not_eq_true', Bool.not_eq_false'])) | (refine ite_ndec (fun hq => ?_) (fun hq => ?_) <;> (try simp only [hq, decide_true, decide_false, Bool.not_true, Bool.not_false, Bool.not_eq_true', Bool.not_eq_false'])) | (refine ite_intro (fun hq => ?_) (fun hq => ?_) <;> (try simp only [hq, decide_true, decide_false, Bool.not_true, Bool.not_false, Bool.not_eq_true', Bool.not_eq_false'])) | (refine bind_push ?_) | (refine call_v (spec_l13Binds_c x) ?_))
    all_goals simp [*]
  · repeat' (first | (simp (disch := (first | omega | rfl | exact rfl | (simp only [cells_v, List.length_cons, List.length_nil]; done) | exact VKTerm.width _)) only [hel, hely, hd, hdy, VKTerm.cells, VKTerm.isAgg, VKTerm.storable, VKTerm.eta, VKTerm.load_T, VTy.eta, wrapS, wrapA, wrapA1, lt0, WA, Nat.reduceEqDiff, Nat.reduceAdd, Nat.reduceLT, Nat.reduceLeDiff, Nat.reduceMul, reduceIte, reduceCtorEq, Int.reduceEq, Int.reduceLT, Int.reduceLE, Int.reduceNe]) | (simp (disch := (first | omega | rfl | exact rfl | (simp only [cells_v, List.length_cons, List.length_nil]; done) | exact VKTerm.width _)) only [hel, hd, VKTerm.cells, VKTerm.isAgg, VKTerm.storable, VKTerm.eta, VKTerm.load_T, VTy.eta, wrapS, wrapA, wrapA1, lt0, WA, Nat.reduceEqDiff, Nat.reduceAdd, Nat.reduceLT, Nat.reduceLeDiff, Nat.reduceMul, reduceIte, reduceCtorEq, Int.reduceEq, Int.reduceLT, Int.reduceLE, Int.reduceNe]) | (simp (disch := (first | omega | rfl | exact rfl | (simp only [cells_v, List.length_cons, List.length_nil]; done) | exact VKTerm.width _)) only [hd, hdy, VKTerm.cells, VKTerm.isAgg, VKTerm.storable, VKTerm.eta, VKTerm.load_T, VTy.eta, wrapS, wrapA, wrapA1, lt0, WA, Nat.reduceEqDiff, Nat.reduceAdd, Nat.reduceLT, Nat.reduceLeDiff, Nat.reduceMul, reduceIte, reduceCtorEq, Int.reduceEq, Int.reduceLT, Int.reduceLE, Int.reduceNe]) | (simp (disch := (first | omega | rfl | exact rfl | (simp only [cells_v, List.length_cons, List.length_nil]; done) | exact VKTerm.width _)) only [hix, hd, VKTerm.cells, VKTerm.isAgg, VKTerm.storable, VKTerm.eta, VKTerm.load_T, VTy.eta, wrapS, wrapA, wrapA1, lt0, WA, Nat.reduceEqDiff, Nat.reduceAdd, Nat.reduceLT, Nat.reduceLeDiff, Nat.reduceMul, reduceIte, reduceCtorEq, Int.reduceEq, Int.reduceLT, Int.reduceLE, Int.reduceNe]) | (simp (disch := (first | omega | rfl | exact rfl | (simp only [cells_v, List.length_cons, List.length_nil]; done) | exact VKTerm.width _)) only [hd, VKTerm.cells, VKTerm.isAgg, VKTerm.storable, VKTerm.eta, VKTerm.load_T, VTy.eta, wrapS, wrapA, wrapA1, lt0, WA, Nat.reduceEqDiff, Nat.reduceAdd, Nat.reduceLT, Nat.reduceLeDiff, Nat.reduceMul, reduceIte, reduceCtorEq, Int.reduceEq, Int.reduceLT, Int.reduceLE, Int.reduceNe]) | (simp (disch := (first | omega | rfl | exact rfl | (simp only [cells_v, List.length_cons, List.length_nil]; done) | exact VKTerm.width _)) only [VKTerm.cells, VKTerm.isAgg, VKTerm.storable, VKTerm.eta, VKTerm.load_T, VTy.eta, wrapS, wrapA, wrapA1, lt0, WA, Nat.reduceEqDiff, Nat.reduceAdd, Nat.reduceLT, Nat.reduceLeDiff, Nat.reduceMul, reduceIte, reduceCtorEq, Int.reduceEq, Int.reduceLT, Int.reduceLE, Int.reduceNe]) | (refine ite_dec (fun hq => ?_) (fun hq => ?_) <;> (try simp only [hq, decide_true, decide_false, Bool.not_true, Bool.not_false, Bool.not_eq_true', Bool.not_eq_false'])) | (refine ite_ndec (fun hq => ?_) (fun hq => ?_) <;> (try simp only [hq, decide_true, decide_false, Bool.not_true, Bool.not_false, Bool.not_eq_true', Bool.not_eq_false'])) | (refine ite_intro (fun hq => ?_) (fun hq => ?_) <;> (try simp only [hq, decide_true, decide_false, Bool.not_true, Bool.not_false, Bool.not_eq_true', Bool.not_eq_false'])) | (refine bind_push ?_) | (refine loop_list x.Kids (fun i (q : Nat) => [avI q, avI i]) (fun i rest q => x.bound n = VKTerm.boundL x.binds rest n q ∧ i + rest.length = x.Kids.length ∧ n + 1 + VKTerm.ksL rest ≤ 4194304 ∧ q ≤ 4194304) (if x.binds then n + 1 else 0) rfl ?_ (fun i k rest b hi hx hm hel hd hg => ?_) (fun b hd hg => ?_)) | (refine call_v (spec_l13Kid_c x i rest.length n hb (by have := hg.2.1; simpa [Nat.add_assoc] using this) (by omega)) ?_) | (refine call_v (spec_l13Bound_c k (kidN x.binds rest.length n) (by have := le_sum VKTerm.wt hm; omega) (by have h9 := hg.2.2.1; have := kidN_le x.binds rest.length n; simp only [VKTerm.ksL] at h9; omega)) ?_))
    · exact ⟨hv, by omega, by split <;> omega⟩
    · have h7 := hg.1
      have h9 := hg.2.2.1
      have h8 := hg.2.1
      have hkb := k.bound_le (kidN x.binds rest.length n)
      have hkn := kidN_le x.binds rest.length n
      rw [VKTerm.boundL] at h7
      simp only [VKTerm.ksL, List.length_cons] at h9 h8
      refine ⟨hi, k.bound (kidN x.binds rest.length n), ⟨by rw [h7, Nat.max_eq_right (by omega)], by omega, by omega, by omega⟩, rfl⟩
    · have h7 := hg.1
      have h9 := hg.2.2.1
      have h8 := hg.2.1
      have hkb := k.bound_le (kidN x.binds rest.length n)
      have hkn := kidN_le x.binds rest.length n
      rw [VKTerm.boundL] at h7
      simp only [VKTerm.ksL, List.length_cons] at h9 h8
      refine ⟨hi, b, ⟨by rw [h7, Nat.max_eq_left (by omega)], by omega, by omega, by omega⟩, rfl⟩
    · have h7 := hg.1
      rw [VKTerm.boundL] at h7
      rw [h7]
termination_by SizeOf.sizeOf x
decreasing_by all_goals exact VKTerm.Kids_lt hm
theorem impl_greatestBound_c (x : VKTerm) (n : Nat) (hb : x.wt ≤ 1048576) (hn : n + x.ks ≤ 4194304) : PCon Try.prog F.impl_greatestBound [x.av, avI n] (avI (x.great n : Nat)) := by
  have hw := x.wt_eq
  have hk := x.ks_eq
  have hv := x.great_eq n
  refine T.impl_greatestBound_con rfl (by simp [AV.norefs, AV.noref, VKTerm.noref]) ?_
  simp only [T.impl_greatestBound, VKTerm.cells, VKTerm.isAgg, VKTerm.storable, WA, Nat.reduceEqDiff, Nat.reduceAdd, Nat.reduceLT, Nat.reduceLeDiff, Nat.reduceMul, reduceIte, reduceCtorEq, Int.reduceEq, Int.reduceLT, Int.reduceLE, Int.reduceNe]
  refine bind_cut [avI ((if x.binds then n + 1 else n : Nat) : Int)] rfl ?_ ?_
  · repeat' (first | (simp (disch := (first | omega | rfl | exact rfl | (simp only [cells_v, List.length_cons, List.length_nil]; done) | exact VKTerm.width _)) only [VKTerm.cells, VKTerm.isAgg, VKTerm.storable, VKTerm.eta, VKTerm.load_T, VTy.eta, wrapS, wrapA, wrapA1, lt0, WA, Nat.reduceEqDiff, Nat.reduceAdd, Nat.reduceLT, Nat.reduceLeDiff, Nat.reduceMul, reduceIte, reduceCtorEq, Int.reduceEq, Int.reduceLT, Int.reduceLE, Int.reduceNe]) | (refine ite_dec (fun hq => ?_) (fun hq => ?_) <;> (try simp only [hq, decide_true, decide_false, Bool.not_true, Bool.not_false, Bool.not_eq_true', Bool.not_eq_false'])) | (refine ite_ndec (fun hq => ?_) (fun hq => ?_) <;> (try simp only [hq, decide_true, decide_false, Bool.not_true, Bool.not_false, Bool.not_eq_true', Bool.not_eq_false'])) | (refine ite_intro (fun hq => ?_) (fun hq => ?_) <;> (try simp only [hq, decide_true, decide_false, Bool.not_true, Bool.not_false, Bool.not_eq_true', Bool.not_eq_false'])) | (refine bind_push ?_) | (refine call_v (impl_binding_c x) ?_))
    all_goals simp [*]
  · repeat' (first | (simp (disch := (first | omega | rfl | exact rfl | (simp only [cells_v, List.length_cons, List.length_nil]; done) | exact VKTerm.width _)) only [hel, hely, hd, hdy, VKTerm.cells, VKTerm.isAgg, VKTerm.storable, VKTerm.eta, VKTerm.load_T, VTy.eta, wrapS, wrapA, wrapA1, lt0, WA, Nat.reduceEqDiff, Nat.reduceAdd, Nat.reduceLT, Nat.reduceLeDiff, Nat.reduceMul, reduceIte, reduceCtorEq, Int.reduceEq, Int.reduceLT, Int.reduceLE, Int.reduceNe]) | (simp (disch := (first | omega | rfl | exact rfl | (simp only [cells_v, List.length_cons, List.length_nil]; done) | exact VKTerm.width _)) only [hel, hd, VKTerm.cells, VKTerm.isAgg, VKTerm.storable, VKTerm.eta, VKTerm.load_T, VTy.eta, wrapS, wrapA, wrapA1, lt0, WA, Nat.reduceEqDiff, Nat.reduceAdd, Nat.reduceLT, Nat.reduceLeDiff, Nat.reduceMul, reduceIte, reduceCtorEq, Int.reduceEq, Int.reduceLT, Int.reduceLE, Int.reduceNe]) | (simp (disch := (first | omega | rfl | exact rfl | (simp only [cells_v, List.length_cons, List.length_nil]; done) | exact VKTerm.width _)) only [hd, hdy, VKTerm.cells, VKTerm.isAgg, VKTerm.storable, VKTerm.eta, VKTerm.load_T, VTy.eta, wrapS, wrapA, wrapA1, lt0, WA, Nat.reduceEqDiff, Nat.reduceAdd, Nat.reduceLT, Nat.reduceLeDiff, Nat.reduceMul, reduceIte, reduceCtorEq, Int.reduceEq, Int.reduceLT, Int.reduceLE, Int.reduceNe]) | (simp (disch := (first | omega | rfl | exact rfl | (simp only [cells_v, List.length_cons, List.length_nil]; done) | exact VKTerm.width _)) only [hix, hd, VKTerm.cells, VKTerm.isAgg, VKTerm.storable, VKTerm.eta, VKTerm.load_T, VTy.eta, wrapS, wrapA, wrapA1, lt0, WA, Nat.reduceEqDiff, Nat.reduceAdd, Nat.reduceLT, Nat.reduceLeDiff, Nat.reduceMul, reduceIte, reduceCtorEq, Int.reduceEq, Int.reduceLT, Int.reduceLE, Int.reduceNe]) | (simp (disch := (first | omega | rfl | exact rfl | (simp only [cells_v, List.length_cons, List.length_nil]; done) | exact VKTerm.width _)) only [hd, VKTerm.cells, VKTerm.isAgg, VKTerm.storable, VKTerm.eta, VKTerm.load_T, VTy.eta, wrapS, wrapA, wrapA1, lt0, WA, Nat.reduceEqDiff, Nat.reduceAdd, Nat.reduceLT, Nat.reduceLeDiff, Nat.reduceMul, reduceIte, reduceCtorEq, Int.reduceEq, Int.reduceLT, Int.reduceLE, Int.reduceNe]) | (simp (disch := (first | omega | rfl | exact rfl | (simp only [cells_v, List.length_cons, List.length_nil]; done) | exact VKTerm.width _)) only [VKTerm.cells, VKTerm.isAgg, VKTerm.storable, VKTerm.eta, VKTerm.load_T, VTy.eta, wrapS, wrapA, wrapA1, lt0, WA, Nat.reduceEqDiff, Nat.reduceAdd, Nat.reduceLT, Nat.reduceLeDiff, Nat.reduceMul, reduceIte, reduceCtorEq, Int.reduceEq, Int.reduceLT, Int.reduceLE, Int.reduceNe]) | (refine ite_dec (fun hq => ?_) (fun hq => ?_) <;> (try simp only [hq, decide_true, decide_false, Bool.not_true, Bool.not_false, Bool.not_eq_true', Bool.not_eq_false'])) | (refine ite_ndec (fun hq => ?_) (fun hq => ?_) <;> (try simp only [hq, decide_true, decide_false, Bool.not_true, Bool.not_false, Bool.not_eq_true', Bool.not_eq_false'])) | (refine ite_intro (fun hq => ?_) (fun hq => ?_) <;> (try simp only [hq, decide_true, decide_false, Bool.not_true, Bool.not_false, Bool.not_eq_true', Bool.not_eq_false'])) | (refine bind_push ?_) | (refine loop_list x.Kids (fun i (q : Nat) => [avI q, avI i]) (fun i rest q => x.great n = VKTerm.greatL x.binds rest n q ∧ i + rest.length = x.Kids.length ∧ n + 1 + VKTerm.ksL rest ≤ 4194304 ∧ q ≤ 4194304) (if x.binds then n + 1 else n) rfl ?_ (fun i k rest b hi hx hm hel hd hg => ?_) (fun b hd hg => ?_)) | (refine call_v (impl_homeScope_c x i rest.length n hb (by have := hg.2.1; simpa [Nat.add_assoc] using this) (by omega)) ?_) | (refine call_v (impl_greatestBound_c k (kidN x.binds rest.length n) (by have := le_sum VKTerm.wt hm; omega) (by have h9 := hg.2.2.1; have := kidN_le x.binds rest.length n; simp only [VKTerm.ksL] at h9; omega)) ?_))
    · exact ⟨hv, by omega, by split <;> omega⟩
    · have h7 := hg.1
      have h9 := hg.2.2.1
      have h8 := hg.2.1
      have hkb := k.great_le (kidN x.binds rest.length n)
      have hkn := kidN_le x.binds rest.length n
      rw [VKTerm.greatL] at h7
      simp only [VKTerm.ksL, List.length_cons] at h9 h8
      refine ⟨hi, max b (k.great (kidN x.binds rest.length n)), ⟨h7, by omega, by omega, by omega⟩, by rw [show (if (b : Int) < ((k.great (kidN x.binds rest.length n) : Nat) : Int) then ((k.great (kidN x.binds rest.length n) : Nat) : Int) else (b : Int)) = ((max b (k.great (kidN x.binds rest.length n)) : Nat) : Int) by split <;> omega]⟩
    · have h7 := hg.1
      rw [VKTerm.greatL] at h7
      rw [h7]
termination_by SizeOf.sizeOf x
decreasing_by all_goals exact VKTerm.Kids_lt hm
end Go.Proofs.Ab
