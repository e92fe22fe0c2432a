/-
  TEXTS OF TYPES.
-/
import Derived.Test.YtaefihlbielllaaDoorCForm
import Derived.Test.YtaefihlbielllaaDoorGM
import Derived.Test.YtaefihlbielllaaDoorCSmall
set_option linter.unusedVariables false
set_option linter.unusedSimpArgs false
set_option linter.defProp false
namespace Go.Ab
set_option maxRecDepth 100000
set_option maxHeartbeats 4000000
def tyKind (k : Int) : Int := if k = 5 then 3 else if k = 6 then 4 else if k = 8 then 5 else if k = 9 ∨ k = 10 ∨ k = 11 then 2 else 1
def tyName (k n : Int) (name : ByteArray) : ByteArray :=
  if k = 9 then ⟨#[118]⟩ ++ numB n else if k = 10 then ⟨#[103]⟩ ++ numB n else if k = 11 then ⟨#[109]⟩ ++ numB n
  else if k = 1 then ⟨#[105, 110, 116]⟩ else if k = 2 then ⟨#[98, 111, 111, 108]⟩ else if k = 3 then ⟨#[117, 110, 105, 116]⟩ else if k = 4 then ⟨#[115, 116, 114]⟩ else name
mutual
def VTy.exp : VTy → VTypeExp
  | .mk k n name kids => .mk (tyKind k) (tyName k n name) 0 (VTy.exps kids)
def VTy.exps : List VTy → List VTypeExp
  | [] => []
  | x :: l => x.exp :: VTy.exps l
end
theorem VTy.exps_eq (l : List VTy) : VTy.exps l = l.map VTy.exp := by
  induction l with
  | nil => simp only [VTy.exps, List.map_nil]
  | cons x l ih => simp only [VTy.exps, ih, List.map_cons]
theorem VTy.exp_eq (x : VTy) : x.exp = .mk (tyKind x.Kind) (tyName x.Kind x.N x.Name) 0 (x.Kids.map VTy.exp) := by
  cases x; simp only [VTy.exp, VTy.exps_eq, VTy.Kind, VTy.N, VTy.Name, VTy.Kids]
/-- as many kids as its kind asks -/
def VTypeExp.fitsH (x : VTypeExp) : Bool := (decide (x.Kind ≠ 3) || decide (x.Kids.length = 2)) && (decide (x.Kind ≠ 5) || decide (x.Kids.length = 1)) && (decide (x.Kind ≠ 2) || decide (x.Kids.length = 0))
mutual
def VTypeExp.fits : VTypeExp → Bool
  | .mk k name pos kids => (VTypeExp.mk k name pos kids).fitsH && VTypeExp.fitss kids
def VTypeExp.fitss : List VTypeExp → Bool
  | [] => true
  | x :: l => x.fits && VTypeExp.fitss l
end
theorem VTypeExp.fitss_eq (l : List VTypeExp) : VTypeExp.fitss l = l.all VTypeExp.fits := by
  induction l with
  | nil => simp only [VTypeExp.fitss, List.all_nil]
  | cons x l ih => simp only [VTypeExp.fitss, ih, List.all_cons]
theorem VTypeExp.fits_eq (x : VTypeExp) : x.fits = (x.fitsH && x.Kids.all VTypeExp.fits) := by
  cases x; simp only [VTypeExp.fits, VTypeExp.fitss_eq, VTypeExp.Kids]
theorem tyName_size (k n : Int) (name : ByteArray) (h0 : k = 9 ∨ k = 10 ∨ k = 11 → 0 ≤ n) (h1 : n ≤ 9223372036854775807) : (tyName k n name).size ≤ name.size + 21 := by
  unfold tyName
  refine ite_le (fun h => ?_) (fun _ => ite_le (fun h => ?_) (fun _ => ite_le (fun h => ?_) (fun _ => ite_le (fun h => ?_) (fun _ => ite_le (fun h => ?_) (fun _ => ite_le (fun h => ?_) (fun _ => ite_le (fun h => ?_) (fun _ => ?_)))))))
  · have := numB_size n (h0 (by omega)) h1
    have c : (⟨#[118]⟩ : ByteArray).size = 1 := rfl
    rw [app_size, c]; omega
  · have := numB_size n (h0 (by omega)) h1
    have c : (⟨#[103]⟩ : ByteArray).size = 1 := rfl
    rw [app_size, c]; omega
  · have := numB_size n (h0 (by omega)) h1
    have c : (⟨#[109]⟩ : ByteArray).size = 1 := rfl
    rw [app_size, c]; omega
  · have c : (⟨#[105, 110, 116]⟩ : ByteArray).size = 3 := rfl
    omega
  · have c : (⟨#[98, 111, 111, 108]⟩ : ByteArray).size = 4 := rfl
    omega
  · have c : (⟨#[117, 110, 105, 116]⟩ : ByteArray).size = 4 := rfl
    omega
  · have c : (⟨#[115, 116, 114]⟩ : ByteArray).size = 3 := rfl
    omega
  · omega
theorem VTy.okM_parts {x : VTy} (ho : x.okM = true) : x.nodeM = true ∧ ∀ y ∈ x.Kids, y.okM = true := by
  have hq := x.okM_eq
  rw [ho] at hq
  replace hq := hq.symm
  simpa only [Bool.and_eq_true, List.all_eq_true] using hq
theorem VTy.node_n {x : VTy} (h : x.nodeM = true) : (x.Kind = 9 ∨ x.Kind = 10 ∨ x.Kind = 11) → 0 ≤ x.N ∧ x.Kids.length = 0 := by
  intro hk
  unfold VTy.nodeM at h
  rcases hk with hk | hk | hk <;> simp [hk] at h <;> exact ⟨h.2.2, by simp [h.2.1]⟩
theorem VTy.exp_wt (x : VTy) (ho : x.okM = true) (hi : x.ok) : x.exp.wt ≤ 30 * x.wt + 21 := by
  have hw := x.wt_eq
  obtain ⟨hn, hk⟩ := VTy.okM_parts ho
  have hi' := (VTy.ok_iff x).1 hi
  have h1 := tyName_size x.Kind x.N x.Name (fun h => (VTy.node_n hn h).1) hi'.2.1.2
  have h2 : ((x.Kids.map VTy.exp).map VTypeExp.wt).sum ≤ 30 * (x.Kids.map VTy.wt).sum + 21 * x.Kids.length := by
    rw [List.map_map]
    exact sum_lin _ VTy.wt 30 21 x.Kids fun y hy => VTy.exp_wt y (hk y hy) (hi'.2.2 y hy)
  rw [VTypeExp.wt_eq, x.exp_eq]
  simp only [VTypeExp.Name, VTypeExp.Kids, List.length_map]
  omega
termination_by SizeOf.sizeOf x
decreasing_by all_goals exact VTy.Kids_lt hy
theorem VTy.exp_fits (x : VTy) (ho : x.okM = true) : x.exp.fits = true := by
  obtain ⟨hn, hk⟩ := VTy.okM_parts ho
  rw [VTypeExp.fits_eq, Bool.and_eq_true, List.all_eq_true]
  constructor
  · have h9 := VTy.node_n hn
    rw [x.exp_eq]
    unfold VTypeExp.fitsH tyKind
    unfold VTy.nodeM at hn
    simp only [VTypeExp.Kind, VTypeExp.Kids, List.length_map]
    by_cases h5 : x.Kind = 5
    · simp [h5] at hn ⊢; exact hn.2
    · by_cases h6 : x.Kind = 6
      · simp [h6]
      · by_cases h8 : x.Kind = 8
        · simp [h8] at hn ⊢; exact hn.2
        · by_cases h : x.Kind = 9 ∨ x.Kind = 10 ∨ x.Kind = 11
          · have := (h9 h).2; simp [h5, h6, h8, h, this]
          · simp [h5, h6, h8, h]
  · intro y hy
    rw [x.exp_eq] at hy
    simp only [VTypeExp.Kids, List.mem_map] at hy
    obtain ⟨z, hz, rfl⟩ := hy
    exact VTy.exp_fits z (hk z hz)
termination_by SizeOf.sizeOf x
decreasing_by all_goals exact VTy.Kids_lt hz
end Go.Ab
namespace Go.Proofs.Ab
open Go.Ab
set_option maxRecDepth 100000
set_option maxHeartbeats 4000000
theorem b40 : (⟨#[40]⟩ : ByteArray) = byteB 40 := rfl
theorem b41 : (⟨#[41]⟩ : ByteArray) = byteB 41 := rfl
theorem impl_bracketed_c (s : ByteArray) (l a : Int) (hs : s.size ≤ 1000000000) : PCon Tryd.prog F.impl_bracketed [avB s, avI l, avI a] (avB (roundB s l a)) := by
  have h1 : (byteB 40).size = 1 := rfl
  have h2 : (byteB 41).size = 1 := rfl
  have h3 : (byteB 40 ++ s).size = 1 + s.size := by rw [app_size, h1]
  refine T.impl_bracketed_con rfl rfl ?_
  simp only [T.impl_bracketed, WA, Nat.reduceEqDiff, Nat.reduceAdd, Nat.reduceLT, Nat.reduceLeDiff, Nat.reduceMul, reduceIte, reduceCtorEq, Int.reduceEq, Int.reduceLT, Int.reduceLE, Int.reduceNe]
  refine ite_dec (fun h => ?_) (fun h => ?_)
  · have : roundB s l a = byteB 40 ++ s ++ byteB 41 := by unfold roundB; rw [if_pos h, appA]
    simp (disch := omega) only [b40, b41, h1, h2, h3, this, WA, Nat.reduceEqDiff, Nat.reduceAdd, Nat.reduceLT, Nat.reduceLeDiff, Nat.reduceMul, reduceIte, reduceCtorEq, Int.reduceEq, Int.reduceLT, Int.reduceLE, Int.reduceNe]
    exact ⟨by omega, by omega⟩
  · have : roundB s l a = s := by unfold roundB; rw [if_neg h]
    simp only [this, WA, Nat.reduceEqDiff, Nat.reduceAdd, Nat.reduceLT, Nat.reduceLeDiff, Nat.reduceMul, reduceIte, reduceCtorEq, Int.reduceEq, Int.reduceLT, Int.reduceLE, Int.reduceNe]
theorem kid_get {α : Type} (f : α → ByteArray) {l : List α} {i : Nat} (h : i < l.length) : kidB (l.map f) i = f l[i] := by
  unfold kidB; simp [List.getD, h]
def Tforms (s : Nat) (j : FuncId) : T :=
.bind 1 (
 .op (.lenL (.x 0)) (
 .loop [(.c (.sl [])), (.c (.v (.int .i64 0)))] (
  .op (.bin .lss (.x 6) (.x 4)) (
  .ite (.x 7)
   (.op (.elem s (.x 0) (.x 6)) (
   .chk (.cells (.x 8) s) (
   .chk (.cells (.x 8) s) (
   .chk (.cells (.x 8) s) (
   .op (.callv (.x 3) [(.x 8), (.x 1)] false) (
   .chk (.one (.x 9)) (
   .op (.mkl (.v (.string ⟨#[]⟩)) 1 [(0, (.x 9))]) (
   .op (.app 1 16 (.x 5) (.sl (.x 10))) (
   .op (.bin .add (.x 6) (.c (.v (.int .i64 1)))) (
   .jump [(.x 11), (.x 12)]))))))))))
   (.esc (.jump [(.x 5)])))))) (
.op (.call j [(.sl (.x 4)), (.x 2)] true) (
.ret [(.x 5)]))
theorem forms_T {P : Program} {L : AX → SS → List AV → Prop} {α : Type} {av : α → AV} {s : Nat} {g j : FuncId} {l : List α} {f : α → ByteArray} {a : Int} {sep : ByteArray} (hs : ∀ x, (av x).isAgg = true ∧ (av x).cells.length = s ∧ (av x).storable = true)
    (hl : l.length ≤ 1073741824) (hc : ∀ x ∈ l, PCon P g [av x, avI a] (avB (f x))) (hj : PCon P j [.sl ((l.map f).map avB), avB sep] (avB (joinB sep (l.map f)))) :
    wpT P L (fun r => r = avB (joinB sep (l.map f))) (Tforms s j) [.sl (l.map av), avI a, avB sep, .fn g []] [] := by
  simp only [Tforms, WA, Nat.reduceEqDiff, Nat.reduceAdd, Nat.reduceLT, Nat.reduceLeDiff, Nat.reduceMul, reduceIte, reduceCtorEq, Int.reduceEq, Int.reduceLT, Int.reduceLE, Int.reduceNe]
  refine bind_cut [.sl ((l.map f).map avB)] rfl ?_ ?_
  · simp only [List.length_map, WA, Nat.reduceEqDiff, Nat.reduceAdd, Nat.reduceLT, Nat.reduceLeDiff, Nat.reduceMul, reduceIte, reduceCtorEq, Int.reduceEq, Int.reduceLT, Int.reduceLE, Int.reduceNe]
    refine loop_list l (fun i (_ : Unit) => [.sl (((l.take i).map f).map avB), avI i]) (fun i rest _ => True) () rfl trivial (fun i k rest b hi hx hm hel hd hg => ?_) (fun b hd hg => ?_)
    · have hsn : (((l.take i).map f).map avB) ++ [avB (f k)] = ((l.take (i + 1)).map f).map avB := by
        rw [List.take_add_one, hx]; simp
      obtain ⟨x1, x2, x3⟩ := hs k
      simp only [hd, WA, Nat.reduceEqDiff, Nat.reduceAdd, Nat.reduceLT, Nat.reduceLeDiff, Nat.reduceMul, reduceIte, reduceCtorEq, Int.reduceEq, Int.reduceLT, Int.reduceLE, Int.reduceNe]
      rw [hel av s _ _ x2]
      simp only [x1, x2, x3, WA, Nat.reduceEqDiff, Nat.reduceAdd, Nat.reduceLT, Nat.reduceLeDiff, Nat.reduceMul, reduceIte, reduceCtorEq, Int.reduceEq, Int.reduceLT, Int.reduceLE, Int.reduceNe]
      refine call_v (hc k hm) ?_
      simp only [WA, Nat.reduceEqDiff, Nat.reduceAdd, Nat.reduceLT, Nat.reduceLeDiff, Nat.reduceMul, reduceIte, reduceCtorEq, Int.reduceEq, Int.reduceLT, Int.reduceLE, Int.reduceNe]
      refine ⟨by simp [AV.cells], by simp; omega, by simp; omega, ?_⟩
      simp (disch := omega) only [hsn, wrapA1, WA, Nat.reduceEqDiff, Nat.reduceAdd, Nat.reduceLT, Nat.reduceLeDiff, Nat.reduceMul, reduceIte, reduceCtorEq, Int.reduceEq, Int.reduceLT, Int.reduceLE, Int.reduceNe]
      exact ⟨hi, (), trivial⟩
    · simp only [List.take_length, hd, WA, Nat.reduceEqDiff, Nat.reduceAdd, Nat.reduceLT, Nat.reduceLeDiff, Nat.reduceMul, reduceIte, reduceCtorEq, Int.reduceEq, Int.reduceLT, Int.reduceLE, Int.reduceNe]
  · simp only [WA, Nat.reduceEqDiff, Nat.reduceAdd, Nat.reduceLT, Nat.reduceLeDiff, Nat.reduceMul, reduceIte, reduceCtorEq, Int.reduceEq, Int.reduceLT, Int.reduceLE, Int.reduceNe]
    refine call_v hj ?_
    simp only [WA, Nat.reduceEqDiff, Nat.reduceAdd, Nat.reduceLT, Nat.reduceLeDiff, Nat.reduceMul, reduceIte, reduceCtorEq, Int.reduceEq, Int.reduceLT, Int.reduceLE, Int.reduceNe]
theorem impl_forms_TypeExp_c (l : List VTypeExp) (g : FuncId) (f : VTypeExp → ByteArray) (a : Int) (sep : ByteArray) (hl : l.length ≤ 1073741824) (hz : (joinB sep (l.map f)).size ≤ 1000000000) (hc : ∀ x ∈ l, PCon Tryd.prog g [x.av, avI a] (avB (f x))) :
    PCon Tryd.prog F.impl_forms_impl_TypeExp [.sl (l.map VTypeExp.av), avI a, avB sep, .fn g []] (avB (joinB sep (l.map f))) :=
  T.impl_forms_impl_TypeExp_con rfl (by have hL : AV.norefs (l.map VTypeExp.av) = true := norefsM (f := VTypeExp.av) VTypeExp.noref
                                        simp [AV.norefs, AV.noref, hL])
    (forms_T (fun x => VTypeExp.shape x) hl hc (join_c (l.map f) sep (by simp; omega) (by omega)))
theorem sArrow_l : (⟨#[32, 45, 62, 32]⟩ : ByteArray) = sArrow := rfl
theorem sStar_l : (⟨#[32, 42, 32]⟩ : ByteArray) = sStar := rfl
theorem sRef_l : (⟨#[114, 101, 102, 32]⟩ : ByteArray) = sRef := rfl
theorem sSp_l : (⟨#[32]⟩ : ByteArray) = sSp := rfl
theorem VTypeExp.fits_parts {x : VTypeExp} (h : x.fits = true) : (x.Kind = 3 → x.Kids.length = 2) ∧ (x.Kind = 5 → x.Kids.length = 1) ∧ (x.Kind = 2 → x.Kids.length = 0) ∧ ∀ y ∈ x.Kids, y.fits = true := by
  rw [VTypeExp.fits_eq, Bool.and_eq_true, List.all_eq_true] at h
  obtain ⟨h, h4⟩ := h
  unfold VTypeExp.fitsH at h
  simp only [Bool.and_eq_true, Bool.or_eq_true, decide_eq_true_eq] at h
  exact ⟨fun q => by rcases h.1.1 with e | e <;> omega, fun q => by rcases h.1.2 with e | e <;> omega, fun q => by rcases h.2 with e | e <;> omega, h4⟩
theorem impl_typeForm_c (x : VTypeExp) (a : Int) (ha : a ≤ 3) (hb : x.wt ≤ 40000000) (hf : x.fits = true) : PCon Tryd.prog F.impl_typeForm [x.av, avI a] (avB (x.txt a)) := by
  have hw := x.wt_eq
  obtain ⟨f3, f5, f2, fk⟩ := VTypeExp.fits_parts hf
  have hz := x.sizes
  have he := x.form_eq
  have hkw : ∀ y ∈ x.Kids, y.wt ≤ 40000000 := fun y hy => by have := le_sum VTypeExp.wt hy; omega
  refine T.impl_typeForm_con rfl (by simp [AV.norefs, AV.noref, VTypeExp.noref]) ?_
  simp only [T.impl_typeForm, VTypeExp.cells, VTypeExp.isAgg, VTypeExp.storable, WA, Nat.reduceEqDiff, Nat.reduceAdd, Nat.reduceLT, Nat.reduceLeDiff, Nat.reduceMul, reduceIte, reduceCtorEq, Int.reduceEq, Int.reduceLT, Int.reduceLE, Int.reduceNe]
  have c1 : sArrow.size = 4 := rfl
  have c2 : sSp.size = 1 := rfl
  have c3 : sStar.size = 3 := rfl
  have c4 : sRef.size = 4 := rfl
  have c5 : (byteB 39).size = 1 := rfl
  refine ite_dec (fun h => ?_) (fun h => ?_)
  · have h2 := f3 h
    have hm0 : x.Kids[0] ∈ x.Kids := List.getElem_mem _
    have hm1 : x.Kids[1] ∈ x.Kids := List.getElem_mem _
    have hl0 : ∀ k K, elemP 4 (.sl (x.Kids.map VTypeExp.av)) (.v (.int k 0)) K = goT K x.Kids[0].av := fun k K => elem_0 (get_0 (by omega)) VTypeExp.av 4 k K (VTypeExp.width _)
    have hl1 : ∀ k K, elemP 4 (.sl (x.Kids.map VTypeExp.av)) (.v (.int k 1)) K = goT K x.Kids[1].av := fun k K => elem_1 (get_1 (by omega)) VTypeExp.av 4 k K (VTypeExp.width _)
    have hlev : x.level = 0 := by unfold VTypeExp.level; rw [if_pos h]
    rw [if_pos h, kid_get _ (by omega), kid_get _ (by omega)] at he
    rw [he] at hz
    simp only [app_size] at hz
    repeat' (first | (simp (disch := (first | omega | rfl | exact rfl | (simp only [cells_v, List.length_cons, List.length_nil]; done) | exact VTypeExp.width _)) only [VTypeExp.cells, VTypeExp.isAgg, VTypeExp.storable, VTypeExp.eta, hl0, hl1, sArrow_l, wrapS, wrapA, wrapA1, lt0, WA, Nat.reduceEqDiff, Nat.reduceAdd, Nat.reduceLT, Nat.reduceLeDiff, Nat.reduceMul, reduceIte, reduceCtorEq, Int.reduceEq, Int.reduceLT, Int.reduceLE, Int.reduceNe]) | (refine ite_dec (fun hq => ?_) (fun hq => ?_) <;> (try simp only [hq, decide_true, decide_false, Bool.not_true, Bool.not_false, Bool.not_eq_true', Bool.not_eq_false'])) | (refine ite_ndec (fun hq => ?_) (fun hq => ?_) <;> (try simp only [hq, decide_true, decide_false, Bool.not_true, Bool.not_false, Bool.not_eq_true', Bool.not_eq_false'])) | (refine ite_intro (fun hq => ?_) (fun hq => ?_) <;> (try simp only [hq, decide_true, decide_false, Bool.not_true, Bool.not_false, Bool.not_eq_true', Bool.not_eq_false'])) | (refine bind_push ?_) | (refine call_v (impl_typeForm_c x.Kids[0] 1 (by omega) (hkw _ hm0) (fk _ hm0)) ?_) | (refine call_v (impl_typeForm_c x.Kids[1] 0 (by omega) (hkw _ hm1) (fk _ hm1)) ?_) | (refine call_v (impl_bracketed_c _ 0 a (by simp only [app_size]; omega)) ?_) | (show ((_ : Nat) : Int) ≤ 9223372036854775807 ∧ _; refine ⟨by first | omega | (simp only [app_size]; omega), ?_⟩))
    simp only [VTypeExp.txt, hlev, he, appA]
  have hm : ∀ {i : Nat} (h : i < x.Kids.length), x.Kids[i] ∈ x.Kids := fun h => List.getElem_mem _
  rw [if_neg h] at he
  simp only [VTypeExp.cells, WA, Nat.reduceEqDiff, Nat.reduceAdd, Nat.reduceLT, Nat.reduceLeDiff, Nat.reduceMul, reduceIte, reduceCtorEq, Int.reduceEq, Int.reduceLT, Int.reduceLE, Int.reduceNe]
  refine ite_dec (fun h4 => ?_) (fun h4 => ?_)
  · have hlev : x.level = 1 := by unfold VTypeExp.level; rw [if_neg h, if_pos h4]
    rw [if_pos h4] at he
    rw [he] at hz
    repeat' (first | (simp (disch := (first | omega | rfl | exact rfl | (simp only [cells_v, List.length_cons, List.length_nil]; done) | exact VTypeExp.width _)) only [VTypeExp.cells, VTypeExp.isAgg, VTypeExp.storable, VTypeExp.eta, sStar_l, wrapS, wrapA, wrapA1, lt0, WA, Nat.reduceEqDiff, Nat.reduceAdd, Nat.reduceLT, Nat.reduceLeDiff, Nat.reduceMul, reduceIte, reduceCtorEq, Int.reduceEq, Int.reduceLT, Int.reduceLE, Int.reduceNe]) | (refine ite_dec (fun hq => ?_) (fun hq => ?_) <;> (try simp only [hq, decide_true, decide_false, Bool.not_true, Bool.not_false, Bool.not_eq_true', Bool.not_eq_false'])) | (refine ite_ndec (fun hq => ?_) (fun hq => ?_) <;> (try simp only [hq, decide_true, decide_false, Bool.not_true, Bool.not_false, Bool.not_eq_true', Bool.not_eq_false'])) | (refine ite_intro (fun hq => ?_) (fun hq => ?_) <;> (try simp only [hq, decide_true, decide_false, Bool.not_true, Bool.not_false, Bool.not_eq_true', Bool.not_eq_false'])) | (refine bind_push ?_) | (refine call_v (impl_forms_TypeExp_c x.Kids F.impl_typeForm (fun y => y.txt 2) 2 sStar (by omega) (by omega) (fun y hy => impl_typeForm_c y 2 (by omega) (hkw _ hy) (fk _ hy))) ?_) | (refine call_v (impl_bracketed_c _ 1 a (by omega)) ?_))
    simp only [VTypeExp.txt, hlev, he]
  rw [if_neg h4] at he
  simp only [VTypeExp.cells, WA, Nat.reduceEqDiff, Nat.reduceAdd, Nat.reduceLT, Nat.reduceLeDiff, Nat.reduceMul, reduceIte, reduceCtorEq, Int.reduceEq, Int.reduceLT, Int.reduceLE, Int.reduceNe]
  refine ite_dec (fun h5 => ?_) (fun h5 => ?_)
  · have h1 := f5 h5
    have hm0 : x.Kids[0] ∈ x.Kids := List.getElem_mem _
    have hl0 : ∀ k K, elemP 4 (.sl (x.Kids.map VTypeExp.av)) (.v (.int k 0)) K = goT K x.Kids[0].av := fun k K => elem_0 (get_0 (by omega)) VTypeExp.av 4 k K (VTypeExp.width _)
    have hlev : x.level = 2 := by unfold VTypeExp.level; rw [if_neg h, if_neg h4, if_pos h5]
    rw [if_pos h5, kid_get _ (by omega)] at he
    rw [he] at hz
    simp only [app_size] at hz
    repeat' (first | (simp (disch := (first | omega | rfl | exact rfl | (simp only [cells_v, List.length_cons, List.length_nil]; done) | exact VTypeExp.width _)) only [VTypeExp.cells, VTypeExp.isAgg, VTypeExp.storable, VTypeExp.eta, hl0, sRef_l, wrapS, wrapA, wrapA1, lt0, WA, Nat.reduceEqDiff, Nat.reduceAdd, Nat.reduceLT, Nat.reduceLeDiff, Nat.reduceMul, reduceIte, reduceCtorEq, Int.reduceEq, Int.reduceLT, Int.reduceLE, Int.reduceNe]) | (refine ite_dec (fun hq => ?_) (fun hq => ?_) <;> (try simp only [hq, decide_true, decide_false, Bool.not_true, Bool.not_false, Bool.not_eq_true', Bool.not_eq_false'])) | (refine ite_ndec (fun hq => ?_) (fun hq => ?_) <;> (try simp only [hq, decide_true, decide_false, Bool.not_true, Bool.not_false, Bool.not_eq_true', Bool.not_eq_false'])) | (refine ite_intro (fun hq => ?_) (fun hq => ?_) <;> (try simp only [hq, decide_true, decide_false, Bool.not_true, Bool.not_false, Bool.not_eq_true', Bool.not_eq_false'])) | (refine bind_push ?_) | (refine call_v (impl_typeForm_c x.Kids[0] 3 (by omega) (hkw _ hm0) (fk _ hm0)) ?_) | (refine call_v (impl_bracketed_c _ 2 a (by simp only [app_size]; omega)) ?_) | (show ((_ : Nat) : Int) ≤ 9223372036854775807 ∧ _; refine ⟨by first | omega | (simp only [app_size]; omega), ?_⟩))
    simp only [VTypeExp.txt, hlev, he, appA]
  rw [if_neg h5] at he
  simp only [VTypeExp.cells, WA, Nat.reduceEqDiff, Nat.reduceAdd, Nat.reduceLT, Nat.reduceLeDiff, Nat.reduceMul, reduceIte, reduceCtorEq, Int.reduceEq, Int.reduceLT, Int.reduceLE, Int.reduceNe]
  refine ite_dec (fun h6 => ?_) (fun h6 => ?_)
  · have hlev : x.level = 3 := by unfold VTypeExp.level; rw [if_neg h, if_neg h4, if_neg h5, if_pos h6]
    rw [if_pos h6] at he
    repeat' (first | (simp (disch := (first | omega | rfl | exact rfl | (simp only [cells_v, List.length_cons, List.length_nil]; done) | exact VTypeExp.width _)) only [VTypeExp.cells, VTypeExp.isAgg, VTypeExp.storable, VTypeExp.eta, b39, wrapS, wrapA, wrapA1, lt0, WA, Nat.reduceEqDiff, Nat.reduceAdd, Nat.reduceLT, Nat.reduceLeDiff, Nat.reduceMul, reduceIte, reduceCtorEq, Int.reduceEq, Int.reduceLT, Int.reduceLE, Int.reduceNe]) | (refine ite_dec (fun hq => ?_) (fun hq => ?_) <;> (try simp only [hq, decide_true, decide_false, Bool.not_true, Bool.not_false, Bool.not_eq_true', Bool.not_eq_false'])) | (refine ite_ndec (fun hq => ?_) (fun hq => ?_) <;> (try simp only [hq, decide_true, decide_false, Bool.not_true, Bool.not_false, Bool.not_eq_true', Bool.not_eq_false'])) | (refine ite_intro (fun hq => ?_) (fun hq => ?_) <;> (try simp only [hq, decide_true, decide_false, Bool.not_true, Bool.not_false, Bool.not_eq_true', Bool.not_eq_false'])) | (refine bind_push ?_) | (show ((_ : Nat) : Int) ≤ 9223372036854775807 ∧ _; refine ⟨by first | omega | (simp only [app_size]; omega), ?_⟩))
    rw [VTypeExp.txt, hlev, he, roundB, if_neg (by omega)]
  rw [if_neg h6] at he
  simp only [VTypeExp.cells, List.length_map, WA, Nat.reduceEqDiff, Nat.reduceAdd, Nat.reduceLT, Nat.reduceLeDiff, Nat.reduceMul, reduceIte, reduceCtorEq, Int.reduceEq, Int.reduceLT, Int.reduceLE, Int.reduceNe]
  refine ite_dec (fun h7 => ?_) (fun h7 => ?_)
  · have h7 : x.Kids.length = 0 := by omega
    have hlev : x.level = 3 := by unfold VTypeExp.level; rw [if_neg h, if_neg h4, if_neg h5, if_neg h6, if_pos h7]
    rw [if_pos h7] at he
    repeat' (first | (simp (disch := (first | omega | rfl | exact rfl | (simp only [cells_v, List.length_cons, List.length_nil]; done) | exact VTypeExp.width _)) only [VTypeExp.cells, VTypeExp.isAgg, VTypeExp.storable, VTypeExp.eta, wrapS, wrapA, wrapA1, lt0, WA, Nat.reduceEqDiff, Nat.reduceAdd, Nat.reduceLT, Nat.reduceLeDiff, Nat.reduceMul, reduceIte, reduceCtorEq, Int.reduceEq, Int.reduceLT, Int.reduceLE, Int.reduceNe]) | (refine ite_dec (fun hq => ?_) (fun hq => ?_) <;> (try simp only [hq, decide_true, decide_false, Bool.not_true, Bool.not_false, Bool.not_eq_true', Bool.not_eq_false'])) | (refine ite_ndec (fun hq => ?_) (fun hq => ?_) <;> (try simp only [hq, decide_true, decide_false, Bool.not_true, Bool.not_false, Bool.not_eq_true', Bool.not_eq_false'])) | (refine ite_intro (fun hq => ?_) (fun hq => ?_) <;> (try simp only [hq, decide_true, decide_false, Bool.not_true, Bool.not_false, Bool.not_eq_true', Bool.not_eq_false'])) | (refine bind_push ?_))
    rw [VTypeExp.txt, hlev, he, roundB, if_neg (by omega)]
  have h7 : ¬ x.Kids.length = 0 := by omega
  have hlev : x.level = 2 := by unfold VTypeExp.level; rw [if_neg h, if_neg h4, if_neg h5, if_neg h6, if_neg h7]
  rw [if_neg h7] at he
  rw [he] at hz
  simp only [app_size] at hz
  repeat' (first | (simp (disch := (first | omega | rfl | exact rfl | (simp only [cells_v, List.length_cons, List.length_nil]; done) | exact VTypeExp.width _)) only [VTypeExp.cells, VTypeExp.isAgg, VTypeExp.storable, VTypeExp.eta, sSp_l, wrapS, wrapA, wrapA1, lt0, WA, Nat.reduceEqDiff, Nat.reduceAdd, Nat.reduceLT, Nat.reduceLeDiff, Nat.reduceMul, reduceIte, reduceCtorEq, Int.reduceEq, Int.reduceLT, Int.reduceLE, Int.reduceNe]) | (refine ite_dec (fun hq => ?_) (fun hq => ?_) <;> (try simp only [hq, decide_true, decide_false, Bool.not_true, Bool.not_false, Bool.not_eq_true', Bool.not_eq_false'])) | (refine ite_ndec (fun hq => ?_) (fun hq => ?_) <;> (try simp only [hq, decide_true, decide_false, Bool.not_true, Bool.not_false, Bool.not_eq_true', Bool.not_eq_false'])) | (refine ite_intro (fun hq => ?_) (fun hq => ?_) <;> (try simp only [hq, decide_true, decide_false, Bool.not_true, Bool.not_false, Bool.not_eq_true', Bool.not_eq_false'])) | (refine bind_push ?_) | (refine call_v (impl_forms_TypeExp_c x.Kids F.impl_typeForm (fun y => y.txt 3) 3 sSp (by omega) (by omega) (fun y hy => impl_typeForm_c y 3 (by omega) (hkw _ hy) (fk _ hy))) ?_) | (refine call_v (impl_bracketed_c _ 2 a (by simp only [app_size]; omega)) ?_) | (show ((_ : Nat) : Int) ≤ 9223372036854775807 ∧ _; refine ⟨by first | omega | (simp only [app_size]; omega), ?_⟩))
  simp only [VTypeExp.txt, hlev, he, appA]
termination_by SizeOf.sizeOf x
decreasing_by all_goals first | exact VTypeExp.Kids_lt hm0 | exact VTypeExp.Kids_lt hm1 | exact VTypeExp.Kids_lt hy
theorem avE_mk (k : Int) (n : ByteArray) (l : List VTypeExp) : AV.agg [avI k, avB n, avI 0, .sl (l.map VTypeExp.av)] = (VTypeExp.mk k n 0 l).av := by
  have := VTypeExp.eta (.mk k n 0 l)
  simpa only [VTypeExp.Kind, VTypeExp.Name, VTypeExp.Pos, VTypeExp.Kids] using this
theorem impl_typeExpOf_c (x : VTy) (hb : x.wt ≤ 1048576) (ho : x.okM = true) (hi : x.ok) : PCon Tryd.prog F.impl_typeExpOf [x.av] x.exp.av := by
  have hw := x.wt_eq
  obtain ⟨hn, hk⟩ := VTy.okM_parts ho
  have hi' := (VTy.ok_iff x).1 hi
  have h9 := VTy.node_n hn
  have hi1 := hi'.2.1.2
  refine T.impl_typeExpOf_con rfl (by simp [AV.norefs, AV.noref, VTy.noref]) ?_
  simp only [T.impl_typeExpOf, VTy.cells, VTy.isAgg, VTy.storable, WA, Nat.reduceEqDiff, Nat.reduceAdd, Nat.reduceLT, Nat.reduceLeDiff, Nat.reduceMul, reduceIte, reduceCtorEq, Int.reduceEq, Int.reduceLT, Int.reduceLE, Int.reduceNe]
  refine bind_cut [.sl (x.Kids.map fun y => y.exp.av)] rfl ?_ ?_
  · simp only [VTy.cells, List.length_map, WA, Nat.reduceEqDiff, Nat.reduceAdd, Nat.reduceLT, Nat.reduceLeDiff, Nat.reduceMul, reduceIte, reduceCtorEq, Int.reduceEq, Int.reduceLT, Int.reduceLE, Int.reduceNe]
    refine loop_list x.Kids (fun i (_ : Unit) => [.sl ((x.Kids.take i).map fun y => y.exp.av), avI i]) (fun i rest _ => True) () rfl trivial (fun i k rest b hi hx hm hel hd hg => ?_) (fun b hd hg => ?_)
    · have hsn : ((x.Kids.take i).map fun y => y.exp.av) ++ [k.exp.av] = (x.Kids.take (i + 1)).map fun y => y.exp.av := by
        rw [List.take_add_one, hx]; simp
      have hkk : k.wt ≤ 1048576 := by have := le_sum VTy.wt hm; omega
      repeat' (first | (simp (disch := (first | omega | rfl | exact rfl | (simp only [cells_v, List.length_cons, List.length_nil]; done) | exact VTy.width _ | exact VTypeExp.width _)) only [hel, hd, VTy.cells, VTy.isAgg, VTy.storable, VTy.eta, VTypeExp.cells, VTypeExp.isAgg, VTypeExp.storable, VTypeExp.eta, hsn, wrapS, wrapA, wrapA1, lt0, WA, Nat.reduceEqDiff, Nat.reduceAdd, Nat.reduceLT, Nat.reduceLeDiff, Nat.reduceMul, reduceIte, reduceCtorEq, Int.reduceEq, Int.reduceLT, Int.reduceLE, Int.reduceNe]) | (simp (disch := (first | omega | rfl | exact rfl | (simp only [cells_v, List.length_cons, List.length_nil]; done) | exact VTy.width _ | exact VTypeExp.width _)) only [hd, VTy.cells, VTy.isAgg, VTy.storable, VTy.eta, VTypeExp.cells, VTypeExp.isAgg, VTypeExp.storable, VTypeExp.eta, hsn, wrapS, wrapA, wrapA1, lt0, WA, Nat.reduceEqDiff, Nat.reduceAdd, Nat.reduceLT, Nat.reduceLeDiff, Nat.reduceMul, reduceIte, reduceCtorEq, Int.reduceEq, Int.reduceLT, Int.reduceLE, Int.reduceNe]) | (simp (disch := (first | omega | rfl | exact rfl | (simp only [cells_v, List.length_cons, List.length_nil]; done) | exact VTy.width _ | exact VTypeExp.width _)) only [VTy.cells, VTy.isAgg, VTy.storable, VTy.eta, VTypeExp.cells, VTypeExp.isAgg, VTypeExp.storable, VTypeExp.eta, hsn, wrapS, wrapA, wrapA1, lt0, WA, Nat.reduceEqDiff, Nat.reduceAdd, Nat.reduceLT, Nat.reduceLeDiff, Nat.reduceMul, reduceIte, reduceCtorEq, Int.reduceEq, Int.reduceLT, Int.reduceLE, Int.reduceNe]) | (refine ite_dec (fun hq => ?_) (fun hq => ?_) <;> (try simp only [hq, decide_true, decide_false, Bool.not_true, Bool.not_false, Bool.not_eq_true', Bool.not_eq_false'])) | (refine ite_ndec (fun hq => ?_) (fun hq => ?_) <;> (try simp only [hq, decide_true, decide_false, Bool.not_true, Bool.not_false, Bool.not_eq_true', Bool.not_eq_false'])) | (refine ite_intro (fun hq => ?_) (fun hq => ?_) <;> (try simp only [hq, decide_true, decide_false, Bool.not_true, Bool.not_false, Bool.not_eq_true', Bool.not_eq_false'])) | (refine bind_push ?_) | (refine call_p (impl_typeExpOf_c k hkk (hk k hm) (hi'.2.2 k hm)) (VTypeExp.noref _) ?_) | (show (∀ y, _) ∧ _ ∧ _ ∧ _; refine ⟨by simp [VTypeExp.width], by simp; omega, by simp; omega, ?_⟩))
      exact ⟨hi, (), trivial⟩
    · simp only [VTy.cells, List.length_map, List.take_length, hd, WA, Nat.reduceEqDiff, Nat.reduceAdd, Nat.reduceLT, Nat.reduceLeDiff, Nat.reduceMul, reduceIte, reduceCtorEq, Int.reduceEq, Int.reduceLT, Int.reduceLE, Int.reduceNe]
  simp only [WA, Nat.reduceEqDiff, Nat.reduceAdd, Nat.reduceLT, Nat.reduceLeDiff, Nat.reduceMul, reduceIte, reduceCtorEq, Int.reduceEq, Int.reduceLT, Int.reduceLE, Int.reduceNe]
  refine bind_cut [avI (tyKind x.Kind), avB (tyName x.Kind x.N x.Name)] rfl ?_ ?_
  · simp only [VTy.cells, WA, Nat.reduceEqDiff, Nat.reduceAdd, Nat.reduceLT, Nat.reduceLeDiff, Nat.reduceMul, reduceIte, reduceCtorEq, Int.reduceEq, Int.reduceLT, Int.reduceLE, Int.reduceNe]
    rcases (by omega : x.Kind = 9 ∨ x.Kind = 10 ∨ x.Kind = 11 ∨ x.Kind = 1 ∨ x.Kind = 2 ∨ x.Kind = 3 ∨ x.Kind = 4 ∨ (x.Kind ≠ 9 ∧ x.Kind ≠ 10 ∧ x.Kind ≠ 11 ∧ x.Kind ≠ 1 ∧ x.Kind ≠ 2 ∧ x.Kind ≠ 3 ∧ x.Kind ≠ 4)) with e | e | e | e | e | e | e | e
    · have w9 : IntKind.i64.wrap (x.Kind - 9) = 0 := by rw [e]; rfl
      have hel : ∀ K, elemP 1 (.sl [avB ⟨#[118]⟩, avB ⟨#[103]⟩, avB ⟨#[109]⟩]) (.v (.int .i64 0)) K = goT K (avB ⟨#[118]⟩) := fun K => elem_0 (α := ByteArray) (l := [⟨#[118]⟩, ⟨#[103]⟩, ⟨#[109]⟩]) (x := ⟨#[118]⟩) rfl avB 1 .i64 K rfl
      have hn0 := (h9 (by omega)).1
      have hs := numB_size x.N hn0 hi1
      have hc : (⟨#[118]⟩ : ByteArray).size = 1 := rfl
      have hnm : tyName x.Kind x.N x.Name = ⟨#[118]⟩ ++ numB x.N := by rw [e]; rfl
      have hkd : tyKind x.Kind = 2 := by rw [e]; rfl
      repeat' (first | (simp (disch := (first | omega | rfl | exact rfl | (simp only [cells_v, List.length_cons, List.length_nil]; done) | exact VTy.width _)) only [hel, hd, VTy.cells, VTy.isAgg, VTy.storable, VTy.eta, w9, hel, hc, wrapS, wrapA, wrapA1, lt0, WA, Nat.reduceEqDiff, Nat.reduceAdd, Nat.reduceLT, Nat.reduceLeDiff, Nat.reduceMul, reduceIte, reduceCtorEq, Int.reduceEq, Int.reduceLT, Int.reduceLE, Int.reduceNe]) | (simp (disch := (first | omega | rfl | exact rfl | (simp only [cells_v, List.length_cons, List.length_nil]; done) | exact VTy.width _)) only [hd, VTy.cells, VTy.isAgg, VTy.storable, VTy.eta, w9, hel, hc, wrapS, wrapA, wrapA1, lt0, WA, Nat.reduceEqDiff, Nat.reduceAdd, Nat.reduceLT, Nat.reduceLeDiff, Nat.reduceMul, reduceIte, reduceCtorEq, Int.reduceEq, Int.reduceLT, Int.reduceLE, Int.reduceNe]) | (simp (disch := (first | omega | rfl | exact rfl | (simp only [cells_v, List.length_cons, List.length_nil]; done) | exact VTy.width _)) only [VTy.cells, VTy.isAgg, VTy.storable, VTy.eta, w9, hel, hc, wrapS, wrapA, wrapA1, lt0, WA, Nat.reduceEqDiff, Nat.reduceAdd, Nat.reduceLT, Nat.reduceLeDiff, Nat.reduceMul, reduceIte, reduceCtorEq, Int.reduceEq, Int.reduceLT, Int.reduceLE, Int.reduceNe]) | (refine ite_dec (fun hq => ?_) (fun hq => ?_) <;> (try simp only [hq, decide_true, decide_false, Bool.not_true, Bool.not_false, Bool.not_eq_true', Bool.not_eq_false'])) | (refine ite_ndec (fun hq => ?_) (fun hq => ?_) <;> (try simp only [hq, decide_true, decide_false, Bool.not_true, Bool.not_false, Bool.not_eq_true', Bool.not_eq_false'])) | (refine ite_intro (fun hq => ?_) (fun hq => ?_) <;> (try simp only [hq, decide_true, decide_false, Bool.not_true, Bool.not_false, Bool.not_eq_true', Bool.not_eq_false'])) | (refine bind_push ?_) | (refine call_v (itoa_c x.N (by omega) hi1) ?_) | (show ((_ : Nat) : Int) ≤ 9223372036854775807 ∧ _; refine ⟨by omega, ?_⟩))
      all_goals first | omega | rfl | (rw [hnm, hkd]; done)
    · have w9 : IntKind.i64.wrap (x.Kind - 9) = 1 := by rw [e]; rfl
      have hel : ∀ K, elemP 1 (.sl [avB ⟨#[118]⟩, avB ⟨#[103]⟩, avB ⟨#[109]⟩]) (.v (.int .i64 1)) K = goT K (avB ⟨#[103]⟩) := fun K => elem_1 (α := ByteArray) (l := [⟨#[118]⟩, ⟨#[103]⟩, ⟨#[109]⟩]) (x := ⟨#[103]⟩) rfl avB 1 .i64 K rfl
      have hn0 := (h9 (by omega)).1
      have hs := numB_size x.N hn0 hi1
      have hc : (⟨#[103]⟩ : ByteArray).size = 1 := rfl
      have hnm : tyName x.Kind x.N x.Name = ⟨#[103]⟩ ++ numB x.N := by rw [e]; rfl
      have hkd : tyKind x.Kind = 2 := by rw [e]; rfl
      repeat' (first | (simp (disch := (first | omega | rfl | exact rfl | (simp only [cells_v, List.length_cons, List.length_nil]; done) | exact VTy.width _)) only [hel, hd, VTy.cells, VTy.isAgg, VTy.storable, VTy.eta, w9, hel, hc, wrapS, wrapA, wrapA1, lt0, WA, Nat.reduceEqDiff, Nat.reduceAdd, Nat.reduceLT, Nat.reduceLeDiff, Nat.reduceMul, reduceIte, reduceCtorEq, Int.reduceEq, Int.reduceLT, Int.reduceLE, Int.reduceNe]) | (simp (disch := (first | omega | rfl | exact rfl | (simp only [cells_v, List.length_cons, List.length_nil]; done) | exact VTy.width _)) only [hd, VTy.cells, VTy.isAgg, VTy.storable, VTy.eta, w9, hel, hc, wrapS, wrapA, wrapA1, lt0, WA, Nat.reduceEqDiff, Nat.reduceAdd, Nat.reduceLT, Nat.reduceLeDiff, Nat.reduceMul, reduceIte, reduceCtorEq, Int.reduceEq, Int.reduceLT, Int.reduceLE, Int.reduceNe]) | (simp (disch := (first | omega | rfl | exact rfl | (simp only [cells_v, List.length_cons, List.length_nil]; done) | exact VTy.width _)) only [VTy.cells, VTy.isAgg, VTy.storable, VTy.eta, w9, hel, hc, wrapS, wrapA, wrapA1, lt0, WA, Nat.reduceEqDiff, Nat.reduceAdd, Nat.reduceLT, Nat.reduceLeDiff, Nat.reduceMul, reduceIte, reduceCtorEq, Int.reduceEq, Int.reduceLT, Int.reduceLE, Int.reduceNe]) | (refine ite_dec (fun hq => ?_) (fun hq => ?_) <;> (try simp only [hq, decide_true, decide_false, Bool.not_true, Bool.not_false, Bool.not_eq_true', Bool.not_eq_false'])) | (refine ite_ndec (fun hq => ?_) (fun hq => ?_) <;> (try simp only [hq, decide_true, decide_false, Bool.not_true, Bool.not_false, Bool.not_eq_true', Bool.not_eq_false'])) | (refine ite_intro (fun hq => ?_) (fun hq => ?_) <;> (try simp only [hq, decide_true, decide_false, Bool.not_true, Bool.not_false, Bool.not_eq_true', Bool.not_eq_false'])) | (refine bind_push ?_) | (refine call_v (itoa_c x.N (by omega) hi1) ?_) | (show ((_ : Nat) : Int) ≤ 9223372036854775807 ∧ _; refine ⟨by omega, ?_⟩))
      all_goals first | omega | rfl | (rw [hnm, hkd]; done)
    · have w9 : IntKind.i64.wrap (x.Kind - 9) = 2 := by rw [e]; rfl
      have hel : ∀ K, elemP 1 (.sl [avB ⟨#[118]⟩, avB ⟨#[103]⟩, avB ⟨#[109]⟩]) (.v (.int .i64 2)) K = goT K (avB ⟨#[109]⟩) := fun K => elem_2 (α := ByteArray) (l := [⟨#[118]⟩, ⟨#[103]⟩, ⟨#[109]⟩]) (x := ⟨#[109]⟩) rfl avB 1 .i64 K rfl
      have hn0 := (h9 (by omega)).1
      have hs := numB_size x.N hn0 hi1
      have hc : (⟨#[109]⟩ : ByteArray).size = 1 := rfl
      have hnm : tyName x.Kind x.N x.Name = ⟨#[109]⟩ ++ numB x.N := by rw [e]; rfl
      have hkd : tyKind x.Kind = 2 := by rw [e]; rfl
      repeat' (first | (simp (disch := (first | omega | rfl | exact rfl | (simp only [cells_v, List.length_cons, List.length_nil]; done) | exact VTy.width _)) only [hel, hd, VTy.cells, VTy.isAgg, VTy.storable, VTy.eta, w9, hel, hc, wrapS, wrapA, wrapA1, lt0, WA, Nat.reduceEqDiff, Nat.reduceAdd, Nat.reduceLT, Nat.reduceLeDiff, Nat.reduceMul, reduceIte, reduceCtorEq, Int.reduceEq, Int.reduceLT, Int.reduceLE, Int.reduceNe]) | (simp (disch := (first | omega | rfl | exact rfl | (simp only [cells_v, List.length_cons, List.length_nil]; done) | exact VTy.width _)) only [hd, VTy.cells, VTy.isAgg, VTy.storable, VTy.eta, w9, hel, hc, wrapS, wrapA, wrapA1, lt0, WA, Nat.reduceEqDiff, Nat.reduceAdd, Nat.reduceLT, Nat.reduceLeDiff, Nat.reduceMul, reduceIte, reduceCtorEq, Int.reduceEq, Int.reduceLT, Int.reduceLE, Int.reduceNe]) | (simp (disch := (first | omega | rfl | exact rfl | (simp only [cells_v, List.length_cons, List.length_nil]; done) | exact VTy.width _)) only [VTy.cells, VTy.isAgg, VTy.storable, VTy.eta, w9, hel, hc, wrapS, wrapA, wrapA1, lt0, WA, Nat.reduceEqDiff, Nat.reduceAdd, Nat.reduceLT, Nat.reduceLeDiff, Nat.reduceMul, reduceIte, reduceCtorEq, Int.reduceEq, Int.reduceLT, Int.reduceLE, Int.reduceNe]) | (refine ite_dec (fun hq => ?_) (fun hq => ?_) <;> (try simp only [hq, decide_true, decide_false, Bool.not_true, Bool.not_false, Bool.not_eq_true', Bool.not_eq_false'])) | (refine ite_ndec (fun hq => ?_) (fun hq => ?_) <;> (try simp only [hq, decide_true, decide_false, Bool.not_true, Bool.not_false, Bool.not_eq_true', Bool.not_eq_false'])) | (refine ite_intro (fun hq => ?_) (fun hq => ?_) <;> (try simp only [hq, decide_true, decide_false, Bool.not_true, Bool.not_false, Bool.not_eq_true', Bool.not_eq_false'])) | (refine bind_push ?_) | (refine call_v (itoa_c x.N (by omega) hi1) ?_) | (show ((_ : Nat) : Int) ≤ 9223372036854775807 ∧ _; refine ⟨by omega, ?_⟩))
      all_goals first | omega | rfl | (rw [hnm, hkd]; done)
    · have w9 : IntKind.i64.wrap (x.Kind - 1) = 0 := by rw [e]; rfl
      have hnm : tyName x.Kind x.N x.Name = ⟨#[105, 110, 116]⟩ := by rw [e]; rfl
      have hkd : tyKind x.Kind = 1 := by rw [e]; rfl
      repeat' (first | (simp (disch := (first | omega | rfl | exact rfl | (simp only [cells_v, List.length_cons, List.length_nil]; done) | exact VTy.width _)) only [hel, hd, VTy.cells, VTy.isAgg, VTy.storable, VTy.eta, w9, wrapS, wrapA, wrapA1, lt0, WA, Nat.reduceEqDiff, Nat.reduceAdd, Nat.reduceLT, Nat.reduceLeDiff, Nat.reduceMul, reduceIte, reduceCtorEq, Int.reduceEq, Int.reduceLT, Int.reduceLE, Int.reduceNe]) | (simp (disch := (first | omega | rfl | exact rfl | (simp only [cells_v, List.length_cons, List.length_nil]; done) | exact VTy.width _)) only [hd, VTy.cells, VTy.isAgg, VTy.storable, VTy.eta, w9, wrapS, wrapA, wrapA1, lt0, WA, Nat.reduceEqDiff, Nat.reduceAdd, Nat.reduceLT, Nat.reduceLeDiff, Nat.reduceMul, reduceIte, reduceCtorEq, Int.reduceEq, Int.reduceLT, Int.reduceLE, Int.reduceNe]) | (simp (disch := (first | omega | rfl | exact rfl | (simp only [cells_v, List.length_cons, List.length_nil]; done) | exact VTy.width _)) only [VTy.cells, VTy.isAgg, VTy.storable, VTy.eta, w9, wrapS, wrapA, wrapA1, lt0, WA, Nat.reduceEqDiff, Nat.reduceAdd, Nat.reduceLT, Nat.reduceLeDiff, Nat.reduceMul, reduceIte, reduceCtorEq, Int.reduceEq, Int.reduceLT, Int.reduceLE, Int.reduceNe]) | (refine ite_dec (fun hq => ?_) (fun hq => ?_) <;> (try simp only [hq, decide_true, decide_false, Bool.not_true, Bool.not_false, Bool.not_eq_true', Bool.not_eq_false'])) | (refine ite_ndec (fun hq => ?_) (fun hq => ?_) <;> (try simp only [hq, decide_true, decide_false, Bool.not_true, Bool.not_false, Bool.not_eq_true', Bool.not_eq_false'])) | (refine ite_intro (fun hq => ?_) (fun hq => ?_) <;> (try simp only [hq, decide_true, decide_false, Bool.not_true, Bool.not_false, Bool.not_eq_true', Bool.not_eq_false'])) | (refine bind_push ?_) | (show (0 : Int) ≤ _ ∧ _ ∧ _; refine ⟨by decide, by decide, ?_⟩) | (show (_ : Nat) < _ ∧ _ ∧ _; refine ⟨by decide, by decide, ?_⟩))
      all_goals first | omega | exact ⟨by decide, by decide, by decide, rfl, rfl, rfl⟩
    · have w9 : IntKind.i64.wrap (x.Kind - 1) = 1 := by rw [e]; rfl
      have hnm : tyName x.Kind x.N x.Name = ⟨#[98, 111, 111, 108]⟩ := by rw [e]; rfl
      have hkd : tyKind x.Kind = 1 := by rw [e]; rfl
      repeat' (first | (simp (disch := (first | omega | rfl | exact rfl | (simp only [cells_v, List.length_cons, List.length_nil]; done) | exact VTy.width _)) only [hel, hd, VTy.cells, VTy.isAgg, VTy.storable, VTy.eta, w9, wrapS, wrapA, wrapA1, lt0, WA, Nat.reduceEqDiff, Nat.reduceAdd, Nat.reduceLT, Nat.reduceLeDiff, Nat.reduceMul, reduceIte, reduceCtorEq, Int.reduceEq, Int.reduceLT, Int.reduceLE, Int.reduceNe]) | (simp (disch := (first | omega | rfl | exact rfl | (simp only [cells_v, List.length_cons, List.length_nil]; done) | exact VTy.width _)) only [hd, VTy.cells, VTy.isAgg, VTy.storable, VTy.eta, w9, wrapS, wrapA, wrapA1, lt0, WA, Nat.reduceEqDiff, Nat.reduceAdd, Nat.reduceLT, Nat.reduceLeDiff, Nat.reduceMul, reduceIte, reduceCtorEq, Int.reduceEq, Int.reduceLT, Int.reduceLE, Int.reduceNe]) | (simp (disch := (first | omega | rfl | exact rfl | (simp only [cells_v, List.length_cons, List.length_nil]; done) | exact VTy.width _)) only [VTy.cells, VTy.isAgg, VTy.storable, VTy.eta, w9, wrapS, wrapA, wrapA1, lt0, WA, Nat.reduceEqDiff, Nat.reduceAdd, Nat.reduceLT, Nat.reduceLeDiff, Nat.reduceMul, reduceIte, reduceCtorEq, Int.reduceEq, Int.reduceLT, Int.reduceLE, Int.reduceNe]) | (refine ite_dec (fun hq => ?_) (fun hq => ?_) <;> (try simp only [hq, decide_true, decide_false, Bool.not_true, Bool.not_false, Bool.not_eq_true', Bool.not_eq_false'])) | (refine ite_ndec (fun hq => ?_) (fun hq => ?_) <;> (try simp only [hq, decide_true, decide_false, Bool.not_true, Bool.not_false, Bool.not_eq_true', Bool.not_eq_false'])) | (refine ite_intro (fun hq => ?_) (fun hq => ?_) <;> (try simp only [hq, decide_true, decide_false, Bool.not_true, Bool.not_false, Bool.not_eq_true', Bool.not_eq_false'])) | (refine bind_push ?_) | (show (0 : Int) ≤ _ ∧ _ ∧ _; refine ⟨by decide, by decide, ?_⟩) | (show (_ : Nat) < _ ∧ _ ∧ _; refine ⟨by decide, by decide, ?_⟩))
      all_goals first | omega | exact ⟨by decide, by decide, by decide, rfl, rfl, rfl⟩
    · have w9 : IntKind.i64.wrap (x.Kind - 1) = 2 := by rw [e]; rfl
      have hnm : tyName x.Kind x.N x.Name = ⟨#[117, 110, 105, 116]⟩ := by rw [e]; rfl
      have hkd : tyKind x.Kind = 1 := by rw [e]; rfl
      repeat' (first | (simp (disch := (first | omega | rfl | exact rfl | (simp only [cells_v, List.length_cons, List.length_nil]; done) | exact VTy.width _)) only [hel, hd, VTy.cells, VTy.isAgg, VTy.storable, VTy.eta, w9, wrapS, wrapA, wrapA1, lt0, WA, Nat.reduceEqDiff, Nat.reduceAdd, Nat.reduceLT, Nat.reduceLeDiff, Nat.reduceMul, reduceIte, reduceCtorEq, Int.reduceEq, Int.reduceLT, Int.reduceLE, Int.reduceNe]) | (simp (disch := (first | omega | rfl | exact rfl | (simp only [cells_v, List.length_cons, List.length_nil]; done) | exact VTy.width _)) only [hd, VTy.cells, VTy.isAgg, VTy.storable, VTy.eta, w9, wrapS, wrapA, wrapA1, lt0, WA, Nat.reduceEqDiff, Nat.reduceAdd, Nat.reduceLT, Nat.reduceLeDiff, Nat.reduceMul, reduceIte, reduceCtorEq, Int.reduceEq, Int.reduceLT, Int.reduceLE, Int.reduceNe]) | (simp (disch := (first | omega | rfl | exact rfl | (simp only [cells_v, List.length_cons, List.length_nil]; done) | exact VTy.width _)) only [VTy.cells, VTy.isAgg, VTy.storable, VTy.eta, w9, wrapS, wrapA, wrapA1, lt0, WA, Nat.reduceEqDiff, Nat.reduceAdd, Nat.reduceLT, Nat.reduceLeDiff, Nat.reduceMul, reduceIte, reduceCtorEq, Int.reduceEq, Int.reduceLT, Int.reduceLE, Int.reduceNe]) | (refine ite_dec (fun hq => ?_) (fun hq => ?_) <;> (try simp only [hq, decide_true, decide_false, Bool.not_true, Bool.not_false, Bool.not_eq_true', Bool.not_eq_false'])) | (refine ite_ndec (fun hq => ?_) (fun hq => ?_) <;> (try simp only [hq, decide_true, decide_false, Bool.not_true, Bool.not_false, Bool.not_eq_true', Bool.not_eq_false'])) | (refine ite_intro (fun hq => ?_) (fun hq => ?_) <;> (try simp only [hq, decide_true, decide_false, Bool.not_true, Bool.not_false, Bool.not_eq_true', Bool.not_eq_false'])) | (refine bind_push ?_) | (show (0 : Int) ≤ _ ∧ _ ∧ _; refine ⟨by decide, by decide, ?_⟩) | (show (_ : Nat) < _ ∧ _ ∧ _; refine ⟨by decide, by decide, ?_⟩))
      all_goals first | omega | exact ⟨by decide, by decide, by decide, rfl, rfl, rfl⟩
    · have w9 : IntKind.i64.wrap (x.Kind - 1) = 3 := by rw [e]; rfl
      have hnm : tyName x.Kind x.N x.Name = ⟨#[115, 116, 114]⟩ := by rw [e]; rfl
      have hkd : tyKind x.Kind = 1 := by rw [e]; rfl
      repeat' (first | (simp (disch := (first | omega | rfl | exact rfl | (simp only [cells_v, List.length_cons, List.length_nil]; done) | exact VTy.width _)) only [hel, hd, VTy.cells, VTy.isAgg, VTy.storable, VTy.eta, w9, wrapS, wrapA, wrapA1, lt0, WA, Nat.reduceEqDiff, Nat.reduceAdd, Nat.reduceLT, Nat.reduceLeDiff, Nat.reduceMul, reduceIte, reduceCtorEq, Int.reduceEq, Int.reduceLT, Int.reduceLE, Int.reduceNe]) | (simp (disch := (first | omega | rfl | exact rfl | (simp only [cells_v, List.length_cons, List.length_nil]; done) | exact VTy.width _)) only [hd, VTy.cells, VTy.isAgg, VTy.storable, VTy.eta, w9, wrapS, wrapA, wrapA1, lt0, WA, Nat.reduceEqDiff, Nat.reduceAdd, Nat.reduceLT, Nat.reduceLeDiff, Nat.reduceMul, reduceIte, reduceCtorEq, Int.reduceEq, Int.reduceLT, Int.reduceLE, Int.reduceNe]) | (simp (disch := (first | omega | rfl | exact rfl | (simp only [cells_v, List.length_cons, List.length_nil]; done) | exact VTy.width _)) only [VTy.cells, VTy.isAgg, VTy.storable, VTy.eta, w9, wrapS, wrapA, wrapA1, lt0, WA, Nat.reduceEqDiff, Nat.reduceAdd, Nat.reduceLT, Nat.reduceLeDiff, Nat.reduceMul, reduceIte, reduceCtorEq, Int.reduceEq, Int.reduceLT, Int.reduceLE, Int.reduceNe]) | (refine ite_dec (fun hq => ?_) (fun hq => ?_) <;> (try simp only [hq, decide_true, decide_false, Bool.not_true, Bool.not_false, Bool.not_eq_true', Bool.not_eq_false'])) | (refine ite_ndec (fun hq => ?_) (fun hq => ?_) <;> (try simp only [hq, decide_true, decide_false, Bool.not_true, Bool.not_false, Bool.not_eq_true', Bool.not_eq_false'])) | (refine ite_intro (fun hq => ?_) (fun hq => ?_) <;> (try simp only [hq, decide_true, decide_false, Bool.not_true, Bool.not_false, Bool.not_eq_true', Bool.not_eq_false'])) | (refine bind_push ?_) | (show (0 : Int) ≤ _ ∧ _ ∧ _; refine ⟨by decide, by decide, ?_⟩) | (show (_ : Nat) < _ ∧ _ ∧ _; refine ⟨by decide, by decide, ?_⟩))
      all_goals first | omega | exact ⟨by decide, by decide, by decide, rfl, rfl, rfl⟩
    · have hnm : tyName x.Kind x.N x.Name = x.Name := by unfold tyName; simp [e]
      repeat' (first | (simp (disch := (first | omega | rfl | exact rfl | (simp only [cells_v, List.length_cons, List.length_nil]; done) | exact VTy.width _)) only [hel, hd, VTy.cells, VTy.isAgg, VTy.storable, VTy.eta, hnm, wrapS, wrapA, wrapA1, lt0, WA, Nat.reduceEqDiff, Nat.reduceAdd, Nat.reduceLT, Nat.reduceLeDiff, Nat.reduceMul, reduceIte, reduceCtorEq, Int.reduceEq, Int.reduceLT, Int.reduceLE, Int.reduceNe]) | (simp (disch := (first | omega | rfl | exact rfl | (simp only [cells_v, List.length_cons, List.length_nil]; done) | exact VTy.width _)) only [hd, VTy.cells, VTy.isAgg, VTy.storable, VTy.eta, hnm, wrapS, wrapA, wrapA1, lt0, WA, Nat.reduceEqDiff, Nat.reduceAdd, Nat.reduceLT, Nat.reduceLeDiff, Nat.reduceMul, reduceIte, reduceCtorEq, Int.reduceEq, Int.reduceLT, Int.reduceLE, Int.reduceNe]) | (simp (disch := (first | omega | rfl | exact rfl | (simp only [cells_v, List.length_cons, List.length_nil]; done) | exact VTy.width _)) only [VTy.cells, VTy.isAgg, VTy.storable, VTy.eta, hnm, wrapS, wrapA, wrapA1, lt0, WA, Nat.reduceEqDiff, Nat.reduceAdd, Nat.reduceLT, Nat.reduceLeDiff, Nat.reduceMul, reduceIte, reduceCtorEq, Int.reduceEq, Int.reduceLT, Int.reduceLE, Int.reduceNe]) | (refine ite_dec (fun hq => ?_) (fun hq => ?_) <;> (try simp only [hq, decide_true, decide_false, Bool.not_true, Bool.not_false, Bool.not_eq_true', Bool.not_eq_false'])) | (refine ite_ndec (fun hq => ?_) (fun hq => ?_) <;> (try simp only [hq, decide_true, decide_false, Bool.not_true, Bool.not_false, Bool.not_eq_true', Bool.not_eq_false'])) | (refine ite_intro (fun hq => ?_) (fun hq => ?_) <;> (try simp only [hq, decide_true, decide_false, Bool.not_true, Bool.not_false, Bool.not_eq_true', Bool.not_eq_false'])) | (refine bind_push ?_))
      all_goals first | omega | (unfold tyKind; simp [*]; done)
  · simp only [WA, Nat.reduceEqDiff, Nat.reduceAdd, Nat.reduceLT, Nat.reduceLeDiff, Nat.reduceMul, reduceIte, reduceCtorEq, Int.reduceEq, Int.reduceLT, Int.reduceLE, Int.reduceNe]
    rw [x.exp_eq, ← avE_mk, List.map_map]
    rfl
termination_by SizeOf.sizeOf x
decreasing_by all_goals exact VTy.Kids_lt hm
def tyTextM (x : VTy) : ByteArray := if x.okM = true then x.exp.txt 0 else ⟨#[]⟩
theorem impl_TyText_c (x : VTy) (hb : x.wt ≤ 1048576) (hi : x.ok) : PCon Tryd.prog F.impl_TyText [x.av] (avB (tyTextM x)) := by
  refine T.impl_TyText_con rfl (by simp [AV.norefs, AV.noref, VTy.noref]) ?_
  simp only [T.impl_TyText, VTy.cells, VTy.isAgg, VTy.storable, WA, Nat.reduceEqDiff, Nat.reduceAdd, Nat.reduceLT, Nat.reduceLeDiff, Nat.reduceMul, reduceIte, reduceCtorEq, Int.reduceEq, Int.reduceLT, Int.reduceLE, Int.reduceNe]
  refine call_v (impl_TyOk_c x hb) ?_
  simp only [WA, Nat.reduceEqDiff, Nat.reduceAdd, Nat.reduceLT, Nat.reduceLeDiff, Nat.reduceMul, reduceIte, reduceCtorEq, Int.reduceEq, Int.reduceLT, Int.reduceLE, Int.reduceNe]
  refine ite_intro (fun hq => ?_) (fun hq => ?_)
  · have hq : x.okM = false := by simpa using hq
    simp only [tyTextM, hq, WA, Nat.reduceEqDiff, Nat.reduceAdd, Nat.reduceLT, Nat.reduceLeDiff, Nat.reduceMul, reduceIte, reduceCtorEq, Int.reduceEq, Int.reduceLT, Int.reduceLE, Int.reduceNe]
    try rfl
  · have hq : x.okM = true := by simpa using hq
    have hwt := x.exp_wt hq hi
    repeat' (first | (simp (disch := (first | omega | rfl | exact rfl | (simp only [cells_v, List.length_cons, List.length_nil]; done) | exact VTy.width _ | exact VTypeExp.width _)) only [VTy.cells, VTy.isAgg, VTy.storable, VTy.eta, VTypeExp.cells, VTypeExp.isAgg, VTypeExp.storable, VTypeExp.eta, wrapS, wrapA, wrapA1, lt0, WA, Nat.reduceEqDiff, Nat.reduceAdd, Nat.reduceLT, Nat.reduceLeDiff, Nat.reduceMul, reduceIte, reduceCtorEq, Int.reduceEq, Int.reduceLT, Int.reduceLE, Int.reduceNe]) | (refine ite_dec (fun hq => ?_) (fun hq => ?_) <;> (try simp only [hq, decide_true, decide_false, Bool.not_true, Bool.not_false, Bool.not_eq_true', Bool.not_eq_false'])) | (refine ite_ndec (fun hq => ?_) (fun hq => ?_) <;> (try simp only [hq, decide_true, decide_false, Bool.not_true, Bool.not_false, Bool.not_eq_true', Bool.not_eq_false'])) | (refine ite_intro (fun hq => ?_) (fun hq => ?_) <;> (try simp only [hq, decide_true, decide_false, Bool.not_true, Bool.not_false, Bool.not_eq_true', Bool.not_eq_false'])) | (refine bind_push ?_) | (refine call_p (impl_typeExpOf_c x hb hq hi) (VTypeExp.noref _) ?_) | (refine call_v (impl_typeForm_c x.exp 0 (by omega) (by omega) (x.exp_fits hq)) ?_))
    simp only [tyTextM, hq, WA, Nat.reduceEqDiff, Nat.reduceAdd, Nat.reduceLT, Nat.reduceLeDiff, Nat.reduceMul, reduceIte, reduceCtorEq, Int.reduceEq, Int.reduceLT, Int.reduceLE, Int.reduceNe]
end Go.Proofs.Ab
