/-
  TEXTS OF TYPES.
-/
import Derived.Test.YtimcinieaeaolaaGreatDoorCForm
import Derived.Test.YtimcinieaeaolaaGreatDoorGM
import Derived.Test.YtimcinieaeaolaaGreatDoorCSmall
set_option linter.unusedVariables false
set_option linter.unusedSimpArgs false
set_option linter.defProp false
namespace Go.Ab
set_option maxRecDepth 100000
set_option maxHeartbeats 4000000
/-- as many kids as its kind asks -/
def VTypeExp.fitsH (x : VTypeExp) : Bool := (decide (x.Kind ≠ 3) || decide (x.Kids.length = 2)) && (decide (x.Kind ≠ 5) || decide (x.Kids.length = 1)) && (decide (x.Kind ≠ 2) || decide (x.Kids.length = 0))
mutual
def VTypeExp.fits : VTypeExp → Bool
  | .mk k name pos kids => (VTypeExp.mk k name pos kids).fitsH && VTypeExp.fitss kids
def VTypeExp.fitss : List VTypeExp → Bool
  | [] => true
  | x :: l => x.fits && VTypeExp.fitss l
end
theorem VTypeExp.fitss_eq (l : List VTypeExp) : VTypeExp.fitss l = l.all VTypeExp.fits := by
  induction l with
  | nil => simp only [VTypeExp.fitss, List.all_nil]
  | cons x l ih => simp only [VTypeExp.fitss, ih, List.all_cons]
theorem VTypeExp.fits_eq (x : VTypeExp) : x.fits = (x.fitsH && x.Kids.all VTypeExp.fits) := by
  cases x; simp only [VTypeExp.fits, VTypeExp.fitss_eq, VTypeExp.Kids]
end Go.Ab
namespace Go.Proofs.Ab
open Go.Ab
set_option maxRecDepth 100000
set_option maxHeartbeats 4000000
theorem b40 : (⟨#[40]⟩ : ByteArray) = byteB 40 := rfl
theorem b41 : (⟨#[41]⟩ : ByteArray) = byteB 41 := rfl
theorem impl_bracketed_c (s : ByteArray) (l a : Int) (hs : s.size ≤ 1000000000) : PCon Tryz.prog F.impl_bracketed [avB s, avI l, avI a] (avB (roundB s l a)) := by
  have h1 : (byteB 40).size = 1 := rfl
  have h2 : (byteB 41).size = 1 := rfl
  have h3 : (byteB 40 ++ s).size = 1 + s.size := by rw [app_size, h1]
  refine T.impl_bracketed_con rfl rfl ?_
  simp only [T.impl_bracketed, WA, Nat.reduceEqDiff, Nat.reduceAdd, Nat.reduceLT, Nat.reduceLeDiff, Nat.reduceMul, reduceIte, reduceCtorEq, Int.reduceEq, Int.reduceLT, Int.reduceLE, Int.reduceNe]
  refine ite_dec (fun h => ?_) (fun h => ?_)
  · have : roundB s l a = byteB 40 ++ s ++ byteB 41 := by unfold roundB; rw [if_pos h, appA]
    simp (disch := omega) only [b40, b41, h1, h2, h3, this, WA, Nat.reduceEqDiff, Nat.reduceAdd, Nat.reduceLT, Nat.reduceLeDiff, Nat.reduceMul, reduceIte, reduceCtorEq, Int.reduceEq, Int.reduceLT, Int.reduceLE, Int.reduceNe]
    exact ⟨by omega, by omega⟩
  · have : roundB s l a = s := by unfold roundB; rw [if_neg h]
    simp only [this, WA, Nat.reduceEqDiff, Nat.reduceAdd, Nat.reduceLT, Nat.reduceLeDiff, Nat.reduceMul, reduceIte, reduceCtorEq, Int.reduceEq, Int.reduceLT, Int.reduceLE, Int.reduceNe]
theorem kid_get {α : Type} (f : α → ByteArray) {l : List α} {i : Nat} (h : i < l.length) : kidB (l.map f) i = f l[i] := by
  unfold kidB; simp [List.getD, h]
def Tforms (s : Nat) (j : FuncId) : T :=
.bind 1 (
 .op (.lenL (.x 0)) (
 .loop [(.c (.sl [])), (.c (.v (.int .i64 0)))] (
  .op (.bin .lss (.x 6) (.x 4)) (
  .ite (.x 7)
   (.op (.elem s (.x 0) (.x 6)) (
   .chk (.cells (.x 8) s) (
   .chk (.cells (.x 8) s) (
   .chk (.cells (.x 8) s) (
   .op (.callv (.x 3) [(.x 8), (.x 1)] false) (
   .chk (.one (.x 9)) (
   .op (.mkl (.v (.string ⟨#[]⟩)) 1 [(0, (.x 9))]) (
   .op (.app 1 16 (.x 5) (.sl (.x 10))) (
   .op (.bin .add (.x 6) (.c (.v (.int .i64 1)))) (
   .jump [(.x 11), (.x 12)]))))))))))
   (.esc (.jump [(.x 5)])))))) (
.op (.call j [(.sl (.x 4)), (.x 2)] true) (
.ret [(.x 5)]))
theorem forms_T {P : Program} {L : AX → SS → List AV → Prop} {α : Type} {av : α → AV} {s : Nat} {g j : FuncId} {l : List α} {f : α → ByteArray} {a : Int} {sep : ByteArray} (hs : ∀ x, (av x).isAgg = true ∧ (av x).cells.length = s ∧ (av x).storable = true)
    (hl : l.length ≤ 1073741824) (hc : ∀ x ∈ l, PCon P g [av x, avI a] (avB (f x))) (hj : PCon P j [.sl ((l.map f).map avB), avB sep] (avB (joinB sep (l.map f)))) :
    wpT P L (fun r => r = avB (joinB sep (l.map f))) (Tforms s j) [.sl (l.map av), avI a, avB sep, .fn g []] [] := by
  simp only [Tforms, WA, Nat.reduceEqDiff, Nat.reduceAdd, Nat.reduceLT, Nat.reduceLeDiff, Nat.reduceMul, reduceIte, reduceCtorEq, Int.reduceEq, Int.reduceLT, Int.reduceLE, Int.reduceNe]
  refine bind_cut [.sl ((l.map f).map avB)] rfl ?_ ?_
  · simp only [List.length_map, WA, Nat.reduceEqDiff, Nat.reduceAdd, Nat.reduceLT, Nat.reduceLeDiff, Nat.reduceMul, reduceIte, reduceCtorEq, Int.reduceEq, Int.reduceLT, Int.reduceLE, Int.reduceNe]
    refine loop_list l (fun i (_ : Unit) => [.sl (((l.take i).map f).map avB), avI i]) (fun i rest _ => True) () rfl trivial (fun i k rest b hi hx hm hel hd hg => ?_) (fun b hd hg => ?_)
    · have hsn : (((l.take i).map f).map avB) ++ [avB (f k)] = ((l.take (i + 1)).map f).map avB := by
        rw [List.take_add_one, hx]; simp
      obtain ⟨x1, x2, x3⟩ := hs k
      simp only [hd, WA, Nat.reduceEqDiff, Nat.reduceAdd, Nat.reduceLT, Nat.reduceLeDiff, Nat.reduceMul, reduceIte, reduceCtorEq, Int.reduceEq, Int.reduceLT, Int.reduceLE, Int.reduceNe]
      rw [hel av s _ _ x2]
      simp only [x1, x2, x3, WA, Nat.reduceEqDiff, Nat.reduceAdd, Nat.reduceLT, Nat.reduceLeDiff, Nat.reduceMul, reduceIte, reduceCtorEq, Int.reduceEq, Int.reduceLT, Int.reduceLE, Int.reduceNe]
      refine call_v (hc k hm) ?_
      simp only [WA, Nat.reduceEqDiff, Nat.reduceAdd, Nat.reduceLT, Nat.reduceLeDiff, Nat.reduceMul, reduceIte, reduceCtorEq, Int.reduceEq, Int.reduceLT, Int.reduceLE, Int.reduceNe]
      refine ⟨by simp [AV.cells], by simp; omega, by simp; omega, ?_⟩
      simp (disch := omega) only [hsn, wrapA1, WA, Nat.reduceEqDiff, Nat.reduceAdd, Nat.reduceLT, Nat.reduceLeDiff, Nat.reduceMul, reduceIte, reduceCtorEq, Int.reduceEq, Int.reduceLT, Int.reduceLE, Int.reduceNe]
      exact ⟨hi, (), trivial⟩
    · simp only [List.take_length, hd, WA, Nat.reduceEqDiff, Nat.reduceAdd, Nat.reduceLT, Nat.reduceLeDiff, Nat.reduceMul, reduceIte, reduceCtorEq, Int.reduceEq, Int.reduceLT, Int.reduceLE, Int.reduceNe]
  · simp only [WA, Nat.reduceEqDiff, Nat.reduceAdd, Nat.reduceLT, Nat.reduceLeDiff, Nat.reduceMul, reduceIte, reduceCtorEq, Int.reduceEq, Int.reduceLT, Int.reduceLE, Int.reduceNe]
    refine call_v hj ?_
    simp only [WA, Nat.reduceEqDiff, Nat.reduceAdd, Nat.reduceLT, Nat.reduceLeDiff, Nat.reduceMul, reduceIte, reduceCtorEq, Int.reduceEq, Int.reduceLT, Int.reduceLE, Int.reduceNe]
theorem impl_forms_TypeExp_c (l : List VTypeExp) (g : FuncId) (f : VTypeExp → ByteArray) (a : Int) (sep : ByteArray) (hl : l.length ≤ 1073741824) (hz : (joinB sep (l.map f)).size ≤ 1000000000) (hc : ∀ x ∈ l, PCon Tryz.prog g [x.av, avI a] (avB (f x))) :
    PCon Tryz.prog F.impl_forms_impl_TypeExp [.sl (l.map VTypeExp.av), avI a, avB sep, .fn g []] (avB (joinB sep (l.map f))) :=
  T.impl_forms_impl_TypeExp_con rfl (by have hL : AV.norefs (l.map VTypeExp.av) = true := norefsM (f := VTypeExp.av) VTypeExp.noref
                                        simp [AV.norefs, AV.noref, hL])
    (forms_T (fun x => VTypeExp.shape x) hl hc (join_c (l.map f) sep (by simp; omega) (by omega)))
theorem sArrow_l : (⟨#[32, 45, 62, 32]⟩ : ByteArray) = sArrow := rfl
theorem sStar_l : (⟨#[32, 42, 32]⟩ : ByteArray) = sStar := rfl
theorem sRef_l : (⟨#[114, 101, 102, 32]⟩ : ByteArray) = sRef := rfl
theorem sSp_l : (⟨#[32]⟩ : ByteArray) = sSp := rfl
theorem VTypeExp.fits_parts {x : VTypeExp} (h : x.fits = true) : (x.Kind = 3 → x.Kids.length = 2) ∧ (x.Kind = 5 → x.Kids.length = 1) ∧ (x.Kind = 2 → x.Kids.length = 0) ∧ ∀ y ∈ x.Kids, y.fits = true := by
  rw [VTypeExp.fits_eq, Bool.and_eq_true, List.all_eq_true] at h
  obtain ⟨h, h4⟩ := h
  unfold VTypeExp.fitsH at h
  simp only [Bool.and_eq_true, Bool.or_eq_true, decide_eq_true_eq] at h
  exact ⟨fun q => by rcases h.1.1 with e | e <;> omega, fun q => by rcases h.1.2 with e | e <;> omega, fun q => by rcases h.2 with e | e <;> omega, h4⟩
theorem impl_typeForm_c (x : VTypeExp) (a : Int) (ha : a ≤ 3) (hb : x.wt ≤ 40000000) (hf : x.fits = true) : PCon Tryz.prog F.impl_typeForm [x.av, avI a] (avB (x.txt a)) := by
  have hw := x.wt_eq
  obtain ⟨f3, f5, f2, fk⟩ := VTypeExp.fits_parts hf
  have hz := x.sizes
  have he := x.form_eq
  have hkw : ∀ y ∈ x.Kids, y.wt ≤ 40000000 := fun y hy => by have := le_sum VTypeExp.wt hy; omega
  refine T.impl_typeForm_con rfl (by simp [AV.norefs, AV.noref, VTypeExp.noref]) ?_
  simp only [T.impl_typeForm, VTypeExp.cells, VTypeExp.isAgg, VTypeExp.storable, WA, Nat.reduceEqDiff, Nat.reduceAdd, Nat.reduceLT, Nat.reduceLeDiff, Nat.reduceMul, reduceIte, reduceCtorEq, Int.reduceEq, Int.reduceLT, Int.reduceLE, Int.reduceNe]
  have c1 : sArrow.size = 4 := rfl
  have c2 : sSp.size = 1 := rfl
  have c3 : sStar.size = 3 := rfl
  have c4 : sRef.size = 4 := rfl
  have c5 : (byteB 39).size = 1 := rfl
  refine ite_dec (fun h => ?_) (fun h => ?_)
  · have h2 := f3 h
    have hm0 : x.Kids[0] ∈ x.Kids := List.getElem_mem _
    have hm1 : x.Kids[1] ∈ x.Kids := List.getElem_mem _
    have hl0 : ∀ k K, elemP 4 (.sl (x.Kids.map VTypeExp.av)) (.v (.int k 0)) K = goT K x.Kids[0].av := fun k K => elem_0 (get_0 (by omega)) VTypeExp.av 4 k K (VTypeExp.width _)
    have hl1 : ∀ k K, elemP 4 (.sl (x.Kids.map VTypeExp.av)) (.v (.int k 1)) K = goT K x.Kids[1].av := fun k K => elem_1 (get_1 (by omega)) VTypeExp.av 4 k K (VTypeExp.width _)
    have hlev : x.level = 0 := by unfold VTypeExp.level; rw [if_pos h]
    rw [if_pos h, kid_get _ (by omega), kid_get _ (by omega)] at he
    rw [he] at hz
    simp only [app_size] at hz
    repeat' (first | (simp (disch := (first | omega | rfl | exact rfl | (simp only [cells_v, List.length_cons, List.length_nil]; done) | exact VTypeExp.width _)) only [VTypeExp.cells, VTypeExp.isAgg, VTypeExp.storable, VTypeExp.eta, hl0, hl1, sArrow_l, wrapS, wrapA, wrapA1, lt0, WA, Nat.reduceEqDiff, Nat.reduceAdd, Nat.reduceLT, Nat.reduceLeDiff, Nat.reduceMul, reduceIte, reduceCtorEq, Int.reduceEq, Int.reduceLT, Int.reduceLE, Int.reduceNe]) | (refine ite_dec (fun hq => ?_) (fun hq => ?_) <;> (try simp only [hq, decide_true, decide_false, Bool.not_true, Bool.not_false, Bool.not_eq_true', Bool.not_eq_false'])) | (refine ite_ndec (fun hq => ?_) (fun hq => ?_) <;> (try simp only [hq, decide_true, decide_false, Bool.not_true, Bool.not_false, Bool.not_eq_true', Bool.not_eq_false'])) | (refine ite_intro (fun hq => ?_) (fun hq => ?_) <;> (try simp only [hq, decide_true, decide_false, Bool.not_true, Bool.not_false, Bool.not_eq_true', Bool.not_eq_false'])) | (refine bind_push ?_) | (refine call_v (impl_typeForm_c x.Kids[0] 1 (by omega) (hkw _ hm0) (fk _ hm0)) ?_) | (refine call_v (impl_typeForm_c x.Kids[1] 0 (by omega) (hkw _ hm1) (fk _ hm1)) ?_) | (refine call_v (impl_bracketed_c _ 0 a (by simp only [app_size]; omega)) ?_) | (show ((_ : Nat) : Int) ≤ 9223372036854775807 ∧ _; refine ⟨by first | omega | (simp only [app_size]; omega), ?_⟩))
    simp only [VTypeExp.txt, hlev, he, appA]
  have hm : ∀ {i : Nat} (h : i < x.Kids.length), x.Kids[i] ∈ x.Kids := fun h => List.getElem_mem _
  rw [if_neg h] at he
  simp only [VTypeExp.cells, WA, Nat.reduceEqDiff, Nat.reduceAdd, Nat.reduceLT, Nat.reduceLeDiff, Nat.reduceMul, reduceIte, reduceCtorEq, Int.reduceEq, Int.reduceLT, Int.reduceLE, Int.reduceNe]
  refine ite_dec (fun h4 => ?_) (fun h4 => ?_)
  · have hlev : x.level = 1 := by unfold VTypeExp.level; rw [if_neg h, if_pos h4]
    rw [if_pos h4] at he
    rw [he] at hz
    repeat' (first | (simp (disch := (first | omega | rfl | exact rfl | (simp only [cells_v, List.length_cons, List.length_nil]; done) | exact VTypeExp.width _)) only [VTypeExp.cells, VTypeExp.isAgg, VTypeExp.storable, VTypeExp.eta, sStar_l, wrapS, wrapA, wrapA1, lt0, WA, Nat.reduceEqDiff, Nat.reduceAdd, Nat.reduceLT, Nat.reduceLeDiff, Nat.reduceMul, reduceIte, reduceCtorEq, Int.reduceEq, Int.reduceLT, Int.reduceLE, Int.reduceNe]) | (refine ite_dec (fun hq => ?_) (fun hq => ?_) <;> (try simp only [hq, decide_true, decide_false, Bool.not_true, Bool.not_false, Bool.not_eq_true', Bool.not_eq_false'])) | (refine ite_ndec (fun hq => ?_) (fun hq => ?_) <;> (try simp only [hq, decide_true, decide_false, Bool.not_true, Bool.not_false, Bool.not_eq_true', Bool.not_eq_false'])) | (refine ite_intro (fun hq => ?_) (fun hq => ?_) <;> (try simp only [hq, decide_true, decide_false, Bool.not_true, Bool.not_false, Bool.not_eq_true', Bool.not_eq_false'])) | (refine bind_push ?_) | (refine call_v (impl_forms_TypeExp_c x.Kids F.impl_typeForm (fun y => y.txt 2) 2 sStar (by omega) (by omega) (fun y hy => impl_typeForm_c y 2 (by omega) (hkw _ hy) (fk _ hy))) ?_) | (refine call_v (impl_bracketed_c _ 1 a (by omega)) ?_))
    simp only [VTypeExp.txt, hlev, he]
  rw [if_neg h4] at he
  simp only [VTypeExp.cells, WA, Nat.reduceEqDiff, Nat.reduceAdd, Nat.reduceLT, Nat.reduceLeDiff, Nat.reduceMul, reduceIte, reduceCtorEq, Int.reduceEq, Int.reduceLT, Int.reduceLE, Int.reduceNe]
  refine ite_dec (fun h5 => ?_) (fun h5 => ?_)
  · have h1 := f5 h5
    have hm0 : x.Kids[0] ∈ x.Kids := List.getElem_mem _
    have hl0 : ∀ k K, elemP 4 (.sl (x.Kids.map VTypeExp.av)) (.v (.int k 0)) K = goT K x.Kids[0].av := fun k K => elem_0 (get_0 (by omega)) VTypeExp.av 4 k K (VTypeExp.width _)
    have hlev : x.level = 2 := by unfold VTypeExp.level; rw [if_neg h, if_neg h4, if_pos h5]
    rw [if_pos h5, kid_get _ (by omega)] at he
    rw [he] at hz
    simp only [app_size] at hz
    repeat' (first | (simp (disch := (first | omega | rfl | exact rfl | (simp only [cells_v, List.length_cons, List.length_nil]; done) | exact VTypeExp.width _)) only [VTypeExp.cells, VTypeExp.isAgg, VTypeExp.storable, VTypeExp.eta, hl0, sRef_l, wrapS, wrapA, wrapA1, lt0, WA, Nat.reduceEqDiff, Nat.reduceAdd, Nat.reduceLT, Nat.reduceLeDiff, Nat.reduceMul, reduceIte, reduceCtorEq, Int.reduceEq, Int.reduceLT, Int.reduceLE, Int.reduceNe]) | (refine ite_dec (fun hq => ?_) (fun hq => ?_) <;> (try simp only [hq, decide_true, decide_false, Bool.not_true, Bool.not_false, Bool.not_eq_true', Bool.not_eq_false'])) | (refine ite_ndec (fun hq => ?_) (fun hq => ?_) <;> (try simp only [hq, decide_true, decide_false, Bool.not_true, Bool.not_false, Bool.not_eq_true', Bool.not_eq_false'])) | (refine ite_intro (fun hq => ?_) (fun hq => ?_) <;> (try simp only [hq, decide_true, decide_false, Bool.not_true, Bool.not_false, Bool.not_eq_true', Bool.not_eq_false'])) | (refine bind_push ?_) | (refine call_v (impl_typeForm_c x.Kids[0] 3 (by omega) (hkw _ hm0) (fk _ hm0)) ?_) | (refine call_v (impl_bracketed_c _ 2 a (by simp only [app_size]; omega)) ?_) | (show ((_ : Nat) : Int) ≤ 9223372036854775807 ∧ _; refine ⟨by first | omega | (simp only [app_size]; omega), ?_⟩))
    simp only [VTypeExp.txt, hlev, he, appA]
  rw [if_neg h5] at he
  simp only [VTypeExp.cells, WA, Nat.reduceEqDiff, Nat.reduceAdd, Nat.reduceLT, Nat.reduceLeDiff, Nat.reduceMul, reduceIte, reduceCtorEq, Int.reduceEq, Int.reduceLT, Int.reduceLE, Int.reduceNe]
  refine ite_dec (fun h6 => ?_) (fun h6 => ?_)
  · have hlev : x.level = 3 := by unfold VTypeExp.level; rw [if_neg h, if_neg h4, if_neg h5, if_pos h6]
    rw [if_pos h6] at he
    repeat' (first | (simp (disch := (first | omega | rfl | exact rfl | (simp only [cells_v, List.length_cons, List.length_nil]; done) | exact VTypeExp.width _)) only [VTypeExp.cells, VTypeExp.isAgg, VTypeExp.storable, VTypeExp.eta, b39, wrapS, wrapA, wrapA1, lt0, WA, Nat.reduceEqDiff, Nat.reduceAdd, Nat.reduceLT, Nat.reduceLeDiff, Nat.reduceMul, reduceIte, reduceCtorEq, Int.reduceEq, Int.reduceLT, Int.reduceLE, Int.reduceNe]) | (refine ite_dec (fun hq => ?_) (fun hq => ?_) <;> (try simp only [hq, decide_true, decide_false, Bool.not_true, Bool.not_false, Bool.not_eq_true', Bool.not_eq_false'])) | (refine ite_ndec (fun hq => ?_) (fun hq => ?_) <;> (try simp only [hq, decide_true, decide_false, Bool.not_true, Bool.not_false, Bool.not_eq_true', Bool.not_eq_false'])) | (refine ite_intro (fun hq => ?_) (fun hq => ?_) <;> (try simp only [hq, decide_true, decide_false, Bool.not_true, Bool.not_false, Bool.not_eq_true', Bool.not_eq_false'])) | (refine bind_push ?_) | (show ((_ : Nat) : Int) ≤ 9223372036854775807 ∧ _; refine ⟨by first | omega | (simp only [app_size]; omega), ?_⟩))
    rw [VTypeExp.txt, hlev, he, roundB, if_neg (by omega)]
  rw [if_neg h6] at he
  simp only [VTypeExp.cells, List.length_map, WA, Nat.reduceEqDiff, Nat.reduceAdd, Nat.reduceLT, Nat.reduceLeDiff, Nat.reduceMul, reduceIte, reduceCtorEq, Int.reduceEq, Int.reduceLT, Int.reduceLE, Int.reduceNe]
  refine ite_dec (fun h7 => ?_) (fun h7 => ?_)
  · have h7 : x.Kids.length = 0 := by omega
    have hlev : x.level = 3 := by unfold VTypeExp.level; rw [if_neg h, if_neg h4, if_neg h5, if_neg h6, if_pos h7]
    rw [if_pos h7] at he
    repeat' (first | (simp (disch := (first | omega | rfl | exact rfl | (simp only [cells_v, List.length_cons, List.length_nil]; done) | exact VTypeExp.width _)) only [VTypeExp.cells, VTypeExp.isAgg, VTypeExp.storable, VTypeExp.eta, wrapS, wrapA, wrapA1, lt0, WA, Nat.reduceEqDiff, Nat.reduceAdd, Nat.reduceLT, Nat.reduceLeDiff, Nat.reduceMul, reduceIte, reduceCtorEq, Int.reduceEq, Int.reduceLT, Int.reduceLE, Int.reduceNe]) | (refine ite_dec (fun hq => ?_) (fun hq => ?_) <;> (try simp only [hq, decide_true, decide_false, Bool.not_true, Bool.not_false, Bool.not_eq_true', Bool.not_eq_false'])) | (refine ite_ndec (fun hq => ?_) (fun hq => ?_) <;> (try simp only [hq, decide_true, decide_false, Bool.not_true, Bool.not_false, Bool.not_eq_true', Bool.not_eq_false'])) | (refine ite_intro (fun hq => ?_) (fun hq => ?_) <;> (try simp only [hq, decide_true, decide_false, Bool.not_true, Bool.not_false, Bool.not_eq_true', Bool.not_eq_false'])) | (refine bind_push ?_))
    rw [VTypeExp.txt, hlev, he, roundB, if_neg (by omega)]
  have h7 : ¬ x.Kids.length = 0 := by omega
  have hlev : x.level = 2 := by unfold VTypeExp.level; rw [if_neg h, if_neg h4, if_neg h5, if_neg h6, if_neg h7]
  rw [if_neg h7] at he
  rw [he] at hz
  simp only [app_size] at hz
  repeat' (first | (simp (disch := (first | omega | rfl | exact rfl | (simp only [cells_v, List.length_cons, List.length_nil]; done) | exact VTypeExp.width _)) only [VTypeExp.cells, VTypeExp.isAgg, VTypeExp.storable, VTypeExp.eta, sSp_l, wrapS, wrapA, wrapA1, lt0, WA, Nat.reduceEqDiff, Nat.reduceAdd, Nat.reduceLT, Nat.reduceLeDiff, Nat.reduceMul, reduceIte, reduceCtorEq, Int.reduceEq, Int.reduceLT, Int.reduceLE, Int.reduceNe]) | (refine ite_dec (fun hq => ?_) (fun hq => ?_) <;> (try simp only [hq, decide_true, decide_false, Bool.not_true, Bool.not_false, Bool.not_eq_true', Bool.not_eq_false'])) | (refine ite_ndec (fun hq => ?_) (fun hq => ?_) <;> (try simp only [hq, decide_true, decide_false, Bool.not_true, Bool.not_false, Bool.not_eq_true', Bool.not_eq_false'])) | (refine ite_intro (fun hq => ?_) (fun hq => ?_) <;> (try simp only [hq, decide_true, decide_false, Bool.not_true, Bool.not_false, Bool.not_eq_true', Bool.not_eq_false'])) | (refine bind_push ?_) | (refine call_v (impl_forms_TypeExp_c x.Kids F.impl_typeForm (fun y => y.txt 3) 3 sSp (by omega) (by omega) (fun y hy => impl_typeForm_c y 3 (by omega) (hkw _ hy) (fk _ hy))) ?_) | (refine call_v (impl_bracketed_c _ 2 a (by simp only [app_size]; omega)) ?_) | (show ((_ : Nat) : Int) ≤ 9223372036854775807 ∧ _; refine ⟨by first | omega | (simp only [app_size]; omega), ?_⟩))
  simp only [VTypeExp.txt, hlev, he, appA]
termination_by SizeOf.sizeOf x
decreasing_by all_goals first | exact VTypeExp.Kids_lt hm0 | exact VTypeExp.Kids_lt hm1 | exact VTypeExp.Kids_lt hy
end Go.Proofs.Ab
