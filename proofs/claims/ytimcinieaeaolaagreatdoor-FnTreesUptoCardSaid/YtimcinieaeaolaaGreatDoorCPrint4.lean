/-
  TEXTS OF PROGRAMS.
-/
import Derived.Test.YtimcinieaeaolaaGreatDoorCPrint3
import Derived.Test.YtimcinieaeaolaaGreatDoorCProg
set_option linter.unusedVariables false
set_option linter.unusedSimpArgs false
set_option linter.defProp false
namespace Go.Ab
set_option maxRecDepth 100000
set_option maxHeartbeats 4000000
def sOf : ByteArray := ⟨#[32, 111, 102, 32]⟩
def sType : ByteArray := ⟨#[116, 121, 112, 101, 32]⟩
def sSemi : ByteArray := ⟨#[59, 10]⟩
def VCtor.txt (c : VCtor) : ByteArray := if c.Has = true then c.Name ++ (sOf ++ c.Arg.txt 0) else c.Name
def varsB : List ByteArray → ByteArray
  | [] => ⟨#[]⟩
  | v :: r => byteB 39 ++ (v ++ (sSp ++ varsB r))
def VData.txt (d : VData) : ByteArray := sType ++ (varsB d.Vars ++ (d.Name ++ (sIs ++ (joinB sBar (d.Ctors.map VCtor.txt) ++ sSemi))))
def typesB : List VData → ByteArray
  | [] => ⟨#[]⟩
  | d :: r => d.txt ++ typesB r
def printP (p : VProg) : ByteArray := if p.okM = true then typesB p.Types ++ (p.Body.txt 0 ++ byteB 10) else ⟨#[]⟩
theorem VTypeExp.fits_of (x : VTypeExp) (h : x.okM = true) : x.fits = true := by
  have hq := x.okM_eq
  rw [h] at hq
  replace hq := hq.symm
  simp only [Bool.and_eq_true, List.all_eq_true] at hq
  rw [VTypeExp.fits_eq, Bool.and_eq_true, List.all_eq_true]
  refine ⟨?_, fun y hy => VTypeExp.fits_of y (hq.2 y hy)⟩
  have hh := hq.1
  unfold VTypeExp.headT at hh
  unfold VTypeExp.fitsH
  by_cases h3 : x.Kind = 3
  · simp [h3] at hh ⊢; exact hh.2.2
  · by_cases h5 : x.Kind = 5
    · simp [h5] at hh ⊢; exact hh.2.2
    · by_cases h2 : x.Kind = 2
      · simp [h2] at hh ⊢; exact hh.2.2
      · simp [h2, h3, h5]
termination_by SizeOf.sizeOf x
decreasing_by all_goals exact VTypeExp.Kids_lt hy
theorem VCtor.txt_size (c : VCtor) : c.txt.size ≤ 20 * c.wt + 12 := by
  have hw := c.wt_eq
  have hs := c.Arg.sizes
  have hr := roundB_size c.Arg.form c.Arg.level 0
  have h4 : sOf.size = 4 := rfl
  unfold VCtor.txt
  refine ite_le (fun _ => ?_) (fun _ => ?_)
  · simp only [app_size, h4, VTypeExp.txt]; omega
  · omega
theorem varsB_size (l : List ByteArray) : (varsB l).size = 2 * l.length + (l.map fun y => y.size).sum := by
  induction l with
  | nil => rfl
  | cons v r ih =>
    have h1 : sSp.size = 1 := rfl
    rw [varsB, app_size, app_size, app_size, ih, byteB_size, h1]
    simp only [List.length_cons, List.map_cons, List.sum_cons]
    omega
theorem VData.ctors_size (d : VData) : (joinB sBar (d.Ctors.map VCtor.txt)).size ≤ 20 * (d.Ctors.map VCtor.wt).sum + 15 * d.Ctors.length := by
  have h1 := joinB_size sBar (d.Ctors.map VCtor.txt)
  have h2 : ((d.Ctors.map VCtor.txt).map ByteArray.size).sum ≤ 20 * (d.Ctors.map VCtor.wt).sum + 12 * d.Ctors.length := by
    rw [List.map_map]
    exact sum_lin _ VCtor.wt 20 12 d.Ctors fun c _ => VCtor.txt_size c
  have h3 : sBar.size = 3 := rfl
  rw [List.length_map, h3] at h1
  omega
theorem VData.txt_size (d : VData) : d.txt.size ≤ 20 * d.wt + 10 := by
  have hw := d.wt_eq
  have h1 := d.ctors_size
  have h2 := varsB_size d.Vars
  have h3 : sType.size = 5 := rfl
  have h4 : sIs.size = 3 := rfl
  have h5 : sSemi.size = 2 := rfl
  unfold VData.txt
  simp only [app_size, h2, h3, h4, h5]
  omega
theorem typesB_size (l : List VData) : (typesB l).size ≤ 20 * (l.map VData.wt).sum + 10 * l.length := by
  induction l with
  | nil => exact Nat.zero_le _
  | cons d r ih =>
    have := d.txt_size
    rw [typesB, app_size]
    simp only [List.length_cons, List.map_cons, List.sum_cons]
    omega
theorem app_le {x y z : ByteArray} (h : x = y ++ z) : y.size ≤ x.size := by rw [h, app_size]; omega
end Go.Ab
namespace Go.Proofs.Ab
open Go.Ab
set_option maxRecDepth 100000
set_option maxHeartbeats 4000000
theorem sOf_l : (⟨#[32, 111, 102, 32]⟩ : ByteArray) = sOf := rfl
theorem sType_l : (⟨#[116, 121, 112, 101, 32]⟩ : ByteArray) = sType := rfl
theorem sSemi_l : (⟨#[59, 10]⟩ : ByteArray) = sSemi := rfl
theorem b10_l : (⟨#[10]⟩ : ByteArray) = byteB 10 := rfl
theorem impl_typesForm_c (l : List VData) (hb : l.length + (l.map VData.wt).sum ≤ 1048576) (ho : ∀ d ∈ l, d.okM = true) : PCon Tryz.prog F.impl_typesForm [.sl (l.map VData.av)] (avB (typesB l)) := by
  have hL : AV.norefs (l.map VData.av) = true := norefsM (f := VData.av) VData.noref
  have hz := typesB_size l
  have c1 : sOf.size = 4 := rfl
  have c2 : sType.size = 5 := rfl
  have c3 : sSemi.size = 2 := rfl
  have c4 : sIs.size = 3 := rfl
  have c5 : sSp.size = 1 := rfl
  have c6 : sBar.size = 3 := rfl
  have c7 : (byteB 39).size = 1 := rfl
  refine T.impl_typesForm_con rfl (by simp [AV.norefs, AV.noref, hL]) ?_
  simp only [T.impl_typesForm, List.length_map, WA, Nat.reduceEqDiff, Nat.reduceAdd, Nat.reduceLT, Nat.reduceLeDiff, Nat.reduceMul, reduceIte, reduceCtorEq, Int.reduceEq, Int.reduceLT, Int.reduceLE, Int.reduceNe]
  refine bind_cut [.sl (ysS (typesB l))] rfl ?_ (by simp only [WA, Nat.reduceEqDiff, Nat.reduceAdd, Nat.reduceLT, Nat.reduceLeDiff, Nat.reduceMul, reduceIte, reduceCtorEq, Int.reduceEq, Int.reduceLT, Int.reduceLE, Int.reduceNe])
  simp only [List.length_map, WA, Nat.reduceEqDiff, Nat.reduceAdd, Nat.reduceLT, Nat.reduceLeDiff, Nat.reduceMul, reduceIte, reduceCtorEq, Int.reduceEq, Int.reduceLT, Int.reduceLE, Int.reduceNe]
  refine loop_list l (fun i (acc : ByteArray) => [.sl (ysS acc), avI i]) (fun i rest acc => typesB l = acc ++ typesB rest) ⟨#[]⟩ rfl (by rw [empA]) (fun i d rest acc hi hx hm hel hd hg => ?_) (fun acc hd hg => ?_)
  · have hdw := le_sum VData.wt hm
    have hdw2 := d.wt_eq
    have hdo := ho d hm
    simp only [VData.okM, Bool.and_eq_true, List.all_eq_true] at hdo
    have hal := app_le hg
    have hts := d.txt_size
    have hvs := varsB_size d.Vars
    have hcs := d.ctors_size
    rw [typesB] at hg
    simp only [hd, WA, Nat.reduceEqDiff, Nat.reduceAdd, Nat.reduceLT, Nat.reduceLeDiff, Nat.reduceMul, reduceIte, reduceCtorEq, Int.reduceEq, Int.reduceLT, Int.reduceLE, Int.reduceNe]
    refine bind_push ?_
    repeat' (first | (simp (disch := (first | omega | rfl | exact rfl | (simp only [cells_v, List.length_cons, List.length_nil]; done) | exact VData.width _)) only [hel, hd, VData.cells, VData.isAgg, VData.storable, VData.eta, sType_l, c2, ysS_len, ysS_app, wrapS, wrapA, wrapA1, lt0, WA, Nat.reduceEqDiff, Nat.reduceAdd, Nat.reduceLT, Nat.reduceLeDiff, Nat.reduceMul, reduceIte, reduceCtorEq, Int.reduceEq, Int.reduceLT, Int.reduceLE, Int.reduceNe]) | (simp (disch := (first | omega | rfl | exact rfl | (simp only [cells_v, List.length_cons, List.length_nil]; done) | exact VData.width _)) only [hd, VData.cells, VData.isAgg, VData.storable, VData.eta, sType_l, c2, ysS_len, ysS_app, wrapS, wrapA, wrapA1, lt0, WA, Nat.reduceEqDiff, Nat.reduceAdd, Nat.reduceLT, Nat.reduceLeDiff, Nat.reduceMul, reduceIte, reduceCtorEq, Int.reduceEq, Int.reduceLT, Int.reduceLE, Int.reduceNe]) | (simp (disch := (first | omega | rfl | exact rfl | (simp only [cells_v, List.length_cons, List.length_nil]; done) | exact VData.width _)) only [VData.cells, VData.isAgg, VData.storable, VData.eta, sType_l, c2, ysS_len, ysS_app, wrapS, wrapA, wrapA1, lt0, WA, Nat.reduceEqDiff, Nat.reduceAdd, Nat.reduceLT, Nat.reduceLeDiff, Nat.reduceMul, reduceIte, reduceCtorEq, Int.reduceEq, Int.reduceLT, Int.reduceLE, Int.reduceNe]) | (refine ite_dec (fun hq => ?_) (fun hq => ?_) <;> (try simp only [hq, decide_true, decide_false, Bool.not_true, Bool.not_false, Bool.not_eq_true', Bool.not_eq_false'])) | (refine ite_ndec (fun hq => ?_) (fun hq => ?_) <;> (try simp only [hq, decide_true, decide_false, Bool.not_true, Bool.not_false, Bool.not_eq_true', Bool.not_eq_false'])) | (refine ite_intro (fun hq => ?_) (fun hq => ?_) <;> (try simp only [hq, decide_true, decide_false, Bool.not_true, Bool.not_false, Bool.not_eq_true', Bool.not_eq_false'])) | (refine bind_push ?_))
    refine ⟨by omega, by omega, ?_⟩
    refine bind_cut [.sl (ysS (acc ++ sType ++ varsB d.Vars))] rfl ?_ ?_
    · simp only [VData.cells, List.length_map, WA, Nat.reduceEqDiff, Nat.reduceAdd, Nat.reduceLT, Nat.reduceLeDiff, Nat.reduceMul, reduceIte, reduceCtorEq, Int.reduceEq, Int.reduceLT, Int.reduceLE, Int.reduceNe]
      refine loop_list d.Vars (fun i (b : ByteArray) => [.sl (ysS b), avI i]) (fun i rest b => acc ++ sType ++ varsB d.Vars = b ++ varsB rest) (acc ++ sType) rfl rfl (fun j v rest b hj hx2 hm2 hel2 hd2 hg2 => ?_) (fun b hd2 hg2 => ?_)
      · have hal2 := app_le hg2
        have hvw := le_sum (fun y : ByteArray => y.size) hm2
        simp only [app_size] at hal2
        rw [varsB] at hg2
        simp only [VData.cells, hd2, WA, Nat.reduceEqDiff, Nat.reduceAdd, Nat.reduceLT, Nat.reduceLeDiff, Nat.reduceMul, reduceIte, reduceCtorEq, Int.reduceEq, Int.reduceLT, Int.reduceLE, Int.reduceNe]
        rw [hel2 (fun y => .v (.string y)) 1 _ _ rfl]
        simp only [b39, c7, c5, sSp_l, app_size, ysS_len, ysS_app, WA, Nat.reduceEqDiff, Nat.reduceAdd, Nat.reduceLT, Nat.reduceLeDiff, Nat.reduceMul, reduceIte, reduceCtorEq, Int.reduceEq, Int.reduceLT, Int.reduceLE, Int.reduceNe]
        refine ⟨by omega, by omega, by omega, by omega, ?_⟩
        simp (disch := omega) only [wrapA1, WA, Nat.reduceEqDiff, Nat.reduceAdd, Nat.reduceLT, Nat.reduceLeDiff, Nat.reduceMul, reduceIte, reduceCtorEq, Int.reduceEq, Int.reduceLT, Int.reduceLE, Int.reduceNe]
        refine ⟨hj, _, ?_, rfl⟩
        rw [hg2]; simp only [appA]
      · rw [varsB, appE] at hg2
        simp only [VData.cells, List.length_map, hd2, hg2, WA, Nat.reduceEqDiff, Nat.reduceAdd, Nat.reduceLT, Nat.reduceLeDiff, Nat.reduceMul, reduceIte, reduceCtorEq, Int.reduceEq, Int.reduceLT, Int.reduceLE, Int.reduceNe]
    · simp only [WA, Nat.reduceEqDiff, Nat.reduceAdd, Nat.reduceLT, Nat.reduceLeDiff, Nat.reduceMul, reduceIte, reduceCtorEq, Int.reduceEq, Int.reduceLT, Int.reduceLE, Int.reduceNe]
      refine bind_cut [.sl ((d.Ctors.map VCtor.txt).map avB)] rfl ?_ ?_
      · simp only [VData.cells, List.length_map, WA, Nat.reduceEqDiff, Nat.reduceAdd, Nat.reduceLT, Nat.reduceLeDiff, Nat.reduceMul, reduceIte, reduceCtorEq, Int.reduceEq, Int.reduceLT, Int.reduceLE, Int.reduceNe]
        refine loop_list d.Ctors (fun i (_ : Unit) => [.sl (((d.Ctors.take i).map VCtor.txt).map avB), avI i]) (fun i rest _ => True) () rfl trivial (fun j c rest b hj hx2 hm2 hel2 hd2 hg2 => ?_) (fun b hd2 hg2 => ?_)
        · have hsn : (((d.Ctors.take j).map VCtor.txt).map avB) ++ [avB c.txt] = ((d.Ctors.take (j + 1)).map VCtor.txt).map avB := by
            rw [List.take_add_one, hx2]; simp
          have hcw := le_sum VCtor.wt hm2
          have hcw2 := c.wt_eq
          have hco := hdo.2 c hm2
          simp only [VCtor.okM, Bool.and_eq_true] at hco
          simp only [VData.cells, hd2, WA, Nat.reduceEqDiff, Nat.reduceAdd, Nat.reduceLT, Nat.reduceLeDiff, Nat.reduceMul, reduceIte, reduceCtorEq, Int.reduceEq, Int.reduceLT, Int.reduceLE, Int.reduceNe]
          refine bind_push ?_
          simp only [VData.cells, WA, Nat.reduceEqDiff, Nat.reduceAdd, Nat.reduceLT, Nat.reduceLeDiff, Nat.reduceMul, reduceIte, reduceCtorEq, Int.reduceEq, Int.reduceLT, Int.reduceLE, Int.reduceNe]
          rw [hel2 VCtor.av 7 _ _ (VCtor.width _)]
          simp only [VCtor.isAgg, VCtor.width, VCtor.storable, WA, Nat.reduceEqDiff, Nat.reduceAdd, Nat.reduceLT, Nat.reduceLeDiff, Nat.reduceMul, reduceIte, reduceCtorEq, Int.reduceEq, Int.reduceLT, Int.reduceLE, Int.reduceNe]
          refine bind_cut [avB c.txt] rfl ?_ ?_
          · simp only [VCtor.cells, VTypeExp.eta, WA, Nat.reduceEqDiff, Nat.reduceAdd, Nat.reduceLT, Nat.reduceLeDiff, Nat.reduceMul, reduceIte, reduceCtorEq, Int.reduceEq, Int.reduceLT, Int.reduceLE, Int.reduceNe]
            refine ite_intro (fun hq => ?_) (fun hq => ?_)
            · have hao := hco.2
              rw [hq] at hao
              have hs2 := c.txt_size
              have ht : c.txt = c.Name ++ (sOf ++ c.Arg.txt 0) := by unfold VCtor.txt; rw [if_pos hq]
              rw [ht] at hs2 ⊢
              simp only [app_size, c1] at hs2
              repeat' (first | (simp (disch := (first | omega | rfl | exact rfl | (simp only [cells_v, List.length_cons, List.length_nil]; done) | exact VCtor.width _ | exact VTypeExp.width _)) only [hel, hd, VCtor.cells, VCtor.isAgg, VCtor.storable, VCtor.eta, VCtor.load_Arg, VTypeExp.eta, VTypeExp.cells, VTypeExp.isAgg, VTypeExp.storable, VTypeExp.eta, sOf_l, c1, app_size, wrapS, wrapA, wrapA1, lt0, WA, Nat.reduceEqDiff, Nat.reduceAdd, Nat.reduceLT, Nat.reduceLeDiff, Nat.reduceMul, reduceIte, reduceCtorEq, Int.reduceEq, Int.reduceLT, Int.reduceLE, Int.reduceNe]) | (simp (disch := (first | omega | rfl | exact rfl | (simp only [cells_v, List.length_cons, List.length_nil]; done) | exact VCtor.width _ | exact VTypeExp.width _)) only [hd, VCtor.cells, VCtor.isAgg, VCtor.storable, VCtor.eta, VCtor.load_Arg, VTypeExp.eta, VTypeExp.cells, VTypeExp.isAgg, VTypeExp.storable, VTypeExp.eta, sOf_l, c1, app_size, wrapS, wrapA, wrapA1, lt0, WA, Nat.reduceEqDiff, Nat.reduceAdd, Nat.reduceLT, Nat.reduceLeDiff, Nat.reduceMul, reduceIte, reduceCtorEq, Int.reduceEq, Int.reduceLT, Int.reduceLE, Int.reduceNe]) | (simp (disch := (first | omega | rfl | exact rfl | (simp only [cells_v, List.length_cons, List.length_nil]; done) | exact VCtor.width _ | exact VTypeExp.width _)) only [VCtor.cells, VCtor.isAgg, VCtor.storable, VCtor.eta, VCtor.load_Arg, VTypeExp.eta, VTypeExp.cells, VTypeExp.isAgg, VTypeExp.storable, VTypeExp.eta, sOf_l, c1, app_size, wrapS, wrapA, wrapA1, lt0, WA, Nat.reduceEqDiff, Nat.reduceAdd, Nat.reduceLT, Nat.reduceLeDiff, Nat.reduceMul, reduceIte, reduceCtorEq, Int.reduceEq, Int.reduceLT, Int.reduceLE, Int.reduceNe]) | (refine ite_dec (fun hq => ?_) (fun hq => ?_) <;> (try simp only [hq, decide_true, decide_false, Bool.not_true, Bool.not_false, Bool.not_eq_true', Bool.not_eq_false'])) | (refine ite_ndec (fun hq => ?_) (fun hq => ?_) <;> (try simp only [hq, decide_true, decide_false, Bool.not_true, Bool.not_false, Bool.not_eq_true', Bool.not_eq_false'])) | (refine ite_intro (fun hq => ?_) (fun hq => ?_) <;> (try simp only [hq, decide_true, decide_false, Bool.not_true, Bool.not_false, Bool.not_eq_true', Bool.not_eq_false'])) | (refine bind_push ?_) | (refine call_v (impl_typeForm_c c.Arg 0 (by omega) (by omega) (c.Arg.fits_of hao)) ?_))
              omega
            · have ht : c.txt = c.Name := by unfold VCtor.txt; rw [if_neg (by rw [hq]; simp)]
              simp only [VCtor.cells, ht, WA, Nat.reduceEqDiff, Nat.reduceAdd, Nat.reduceLT, Nat.reduceLeDiff, Nat.reduceMul, reduceIte, reduceCtorEq, Int.reduceEq, Int.reduceLT, Int.reduceLE, Int.reduceNe]
          · simp only [AV.cells, AV.isCell, WA, Nat.reduceEqDiff, Nat.reduceAdd, Nat.reduceLT, Nat.reduceLeDiff, Nat.reduceMul, reduceIte, reduceCtorEq, Int.reduceEq, Int.reduceLT, Int.reduceLE, Int.reduceNe]
            refine ⟨by simp [AV.cells], by simp; omega, by simp; omega, ?_⟩
            repeat' (first | (simp (disch := (first | omega | rfl | exact rfl | (simp only [cells_v, List.length_cons, List.length_nil]; done) | exact VCtor.width _)) only [hel, hd, VCtor.cells, VCtor.isAgg, VCtor.storable, VCtor.eta, VCtor.load_Arg, VTypeExp.eta, hsn, wrapS, wrapA, wrapA1, lt0, WA, Nat.reduceEqDiff, Nat.reduceAdd, Nat.reduceLT, Nat.reduceLeDiff, Nat.reduceMul, reduceIte, reduceCtorEq, Int.reduceEq, Int.reduceLT, Int.reduceLE, Int.reduceNe]) | (simp (disch := (first | omega | rfl | exact rfl | (simp only [cells_v, List.length_cons, List.length_nil]; done) | exact VCtor.width _)) only [hd, VCtor.cells, VCtor.isAgg, VCtor.storable, VCtor.eta, VCtor.load_Arg, VTypeExp.eta, hsn, wrapS, wrapA, wrapA1, lt0, WA, Nat.reduceEqDiff, Nat.reduceAdd, Nat.reduceLT, Nat.reduceLeDiff, Nat.reduceMul, reduceIte, reduceCtorEq, Int.reduceEq, Int.reduceLT, Int.reduceLE, Int.reduceNe]) | (simp (disch := (first | omega | rfl | exact rfl | (simp only [cells_v, List.length_cons, List.length_nil]; done) | exact VCtor.width _)) only [VCtor.cells, VCtor.isAgg, VCtor.storable, VCtor.eta, VCtor.load_Arg, VTypeExp.eta, hsn, wrapS, wrapA, wrapA1, lt0, WA, Nat.reduceEqDiff, Nat.reduceAdd, Nat.reduceLT, Nat.reduceLeDiff, Nat.reduceMul, reduceIte, reduceCtorEq, Int.reduceEq, Int.reduceLT, Int.reduceLE, Int.reduceNe]) | (refine ite_dec (fun hq => ?_) (fun hq => ?_) <;> (try simp only [hq, decide_true, decide_false, Bool.not_true, Bool.not_false, Bool.not_eq_true', Bool.not_eq_false'])) | (refine ite_ndec (fun hq => ?_) (fun hq => ?_) <;> (try simp only [hq, decide_true, decide_false, Bool.not_true, Bool.not_false, Bool.not_eq_true', Bool.not_eq_false'])) | (refine ite_intro (fun hq => ?_) (fun hq => ?_) <;> (try simp only [hq, decide_true, decide_false, Bool.not_true, Bool.not_false, Bool.not_eq_true', Bool.not_eq_false'])) | (refine bind_push ?_))
            exact ⟨hj, (), trivial⟩
        · simp only [VData.cells, List.length_map, List.take_length, hd2, WA, Nat.reduceEqDiff, Nat.reduceAdd, Nat.reduceLT, Nat.reduceLeDiff, Nat.reduceMul, reduceIte, reduceCtorEq, Int.reduceEq, Int.reduceLT, Int.reduceLE, Int.reduceNe]
      · have hjs : (joinB sBar (d.Ctors.map VCtor.txt)).size ≤ 100000000 := by omega
        repeat' (first | (simp (disch := (first | omega | rfl | exact rfl | (simp only [cells_v, List.length_cons, List.length_nil]; done) | exact VData.width _)) only [hel, hd, VData.cells, VData.isAgg, VData.storable, VData.eta, sIs_l, sBar_l, sSemi_l, c3, c4, app_size, ysS_len, ysS_app, wrapS, wrapA, wrapA1, lt0, WA, Nat.reduceEqDiff, Nat.reduceAdd, Nat.reduceLT, Nat.reduceLeDiff, Nat.reduceMul, reduceIte, reduceCtorEq, Int.reduceEq, Int.reduceLT, Int.reduceLE, Int.reduceNe]) | (simp (disch := (first | omega | rfl | exact rfl | (simp only [cells_v, List.length_cons, List.length_nil]; done) | exact VData.width _)) only [hd, VData.cells, VData.isAgg, VData.storable, VData.eta, sIs_l, sBar_l, sSemi_l, c3, c4, app_size, ysS_len, ysS_app, wrapS, wrapA, wrapA1, lt0, WA, Nat.reduceEqDiff, Nat.reduceAdd, Nat.reduceLT, Nat.reduceLeDiff, Nat.reduceMul, reduceIte, reduceCtorEq, Int.reduceEq, Int.reduceLT, Int.reduceLE, Int.reduceNe]) | (simp (disch := (first | omega | rfl | exact rfl | (simp only [cells_v, List.length_cons, List.length_nil]; done) | exact VData.width _)) only [VData.cells, VData.isAgg, VData.storable, VData.eta, sIs_l, sBar_l, sSemi_l, c3, c4, app_size, ysS_len, ysS_app, wrapS, wrapA, wrapA1, lt0, WA, Nat.reduceEqDiff, Nat.reduceAdd, Nat.reduceLT, Nat.reduceLeDiff, Nat.reduceMul, reduceIte, reduceCtorEq, Int.reduceEq, Int.reduceLT, Int.reduceLE, Int.reduceNe]) | (refine ite_dec (fun hq => ?_) (fun hq => ?_) <;> (try simp only [hq, decide_true, decide_false, Bool.not_true, Bool.not_false, Bool.not_eq_true', Bool.not_eq_false'])) | (refine ite_ndec (fun hq => ?_) (fun hq => ?_) <;> (try simp only [hq, decide_true, decide_false, Bool.not_true, Bool.not_false, Bool.not_eq_true', Bool.not_eq_false'])) | (refine ite_intro (fun hq => ?_) (fun hq => ?_) <;> (try simp only [hq, decide_true, decide_false, Bool.not_true, Bool.not_false, Bool.not_eq_true', Bool.not_eq_false'])) | (refine bind_push ?_) | (refine call_v (join_c (d.Ctors.map VCtor.txt) sBar (by simp; omega) (by omega)) ?_) | (show ((_ : Nat) : Int) ≤ 9223372036854775807 ∧ _; refine ⟨by first | omega | (simp only [app_size]; omega), ?_⟩))
        refine ⟨by omega, by omega, hi, _, ?_, rfl⟩
        rw [hg, VData.txt]; simp only [appA]
  · rw [typesB, appE] at hg
    simp only [hd, hg, WA, Nat.reduceEqDiff, Nat.reduceAdd, Nat.reduceLT, Nat.reduceLeDiff, Nat.reduceMul, reduceIte, reduceCtorEq, Int.reduceEq, Int.reduceLT, Int.reduceLE, Int.reduceNe]
theorem impl_Print_c (x : VProg) (hb : x.wt ≤ 1048576) (hi : x.ok) : PCon Tryz.prog F.impl_Print [x.av] (avB (printP x)) := by
  have hw := x.wt_eq
  have hi' := (VProg.ok_iff x).1 hi
  have hz := typesB_size x.Types
  have c1 : (byteB 10).size = 1 := rfl
  refine T.impl_Print_con rfl (by simp [AV.norefs, AV.noref, VProg.noref]) ?_
  simp only [T.impl_Print, VProg.cells, VProg.isAgg, VProg.storable, WA, Nat.reduceEqDiff, Nat.reduceAdd, Nat.reduceLT, Nat.reduceLeDiff, Nat.reduceMul, reduceIte, reduceCtorEq, Int.reduceEq, Int.reduceLT, Int.reduceLE, Int.reduceNe]
  refine call_v (impl_ProgOk_c x (by omega)) ?_
  simp only [WA, Nat.reduceEqDiff, Nat.reduceAdd, Nat.reduceLT, Nat.reduceLeDiff, Nat.reduceMul, reduceIte, reduceCtorEq, Int.reduceEq, Int.reduceLT, Int.reduceLE, Int.reduceNe]
  refine ite_intro (fun hq => ?_) (fun hq => ?_)
  · have hq : x.okM = false := by simpa using hq
    simp only [printP, hq, WA, Nat.reduceEqDiff, Nat.reduceAdd, Nat.reduceLT, Nat.reduceLeDiff, Nat.reduceMul, reduceIte, reduceCtorEq, Int.reduceEq, Int.reduceLT, Int.reduceLE, Int.reduceNe]
    try rfl
  · have hq : x.okM = true := by simpa using hq
    have hq2 := hq
    simp only [VProg.okM, Bool.and_eq_true, List.all_eq_true] at hq2
    have hs := VExp.sizes x.Body hq2.2 hi'.2
    have hr := roundB_size x.Body.form x.Body.level 0
    have hs6 : (x.Body.txt 0).size ≤ 100000000 := by rw [VExp.txt]; omega
    repeat' (first | (simp (disch := (first | omega | rfl | exact rfl | (simp only [cells_v, List.length_cons, List.length_nil]; done) | exact VProg.width _ | exact VExp.width _)) only [VProg.cells, VProg.isAgg, VProg.storable, VProg.eta, VProg.load_Body, VExp.eta, VExp.cells, VExp.isAgg, VExp.storable, VExp.eta, b10_l, wrapS, wrapA, wrapA1, lt0, WA, Nat.reduceEqDiff, Nat.reduceAdd, Nat.reduceLT, Nat.reduceLeDiff, Nat.reduceMul, reduceIte, reduceCtorEq, Int.reduceEq, Int.reduceLT, Int.reduceLE, Int.reduceNe]) | (refine ite_dec (fun hq => ?_) (fun hq => ?_) <;> (try simp only [hq, decide_true, decide_false, Bool.not_true, Bool.not_false, Bool.not_eq_true', Bool.not_eq_false'])) | (refine ite_ndec (fun hq => ?_) (fun hq => ?_) <;> (try simp only [hq, decide_true, decide_false, Bool.not_true, Bool.not_false, Bool.not_eq_true', Bool.not_eq_false'])) | (refine ite_intro (fun hq => ?_) (fun hq => ?_) <;> (try simp only [hq, decide_true, decide_false, Bool.not_true, Bool.not_false, Bool.not_eq_true', Bool.not_eq_false'])) | (refine bind_push ?_) | (refine call_v (impl_typesForm_c x.Types (by omega) hq2.1) ?_) | (refine call_v (impl_expForm_c x.Body 0 (by omega) (by omega) hq2.2 hi'.2) ?_) | (show ((_ : Nat) : Int) ≤ 9223372036854775807 ∧ _; refine ⟨by first | omega | (simp only [app_size]; omega), ?_⟩))
    simp only [printP, hq, appA, WA, Nat.reduceEqDiff, Nat.reduceAdd, Nat.reduceLT, Nat.reduceLeDiff, Nat.reduceMul, reduceIte, reduceCtorEq, Int.reduceEq, Int.reduceLT, Int.reduceLE, Int.reduceNe]
end Go.Proofs.Ab
