/-
  TREES: the law.
-/
import Derived.Test.YtimcinieaeaolaaGreatDoorCTree3
import Derived.Test.YtimcinieaeaolaaGreatDoorCPrint4
import Derived.Test.YtimcinieaeaolaaGreatDoorCSame
import Derived.Test.YtimcinieaeaolaaGreatDoorCSize
set_option linter.unusedVariables false
set_option linter.unusedSimpArgs false
set_option linter.defProp false
namespace Go.Ab
set_option maxRecDepth 100000
set_option maxHeartbeats 4000000
/- same trees have one size; a tree is its own like -/
theorem all2_refl {α : Type} {f : α → α → Bool} : ∀ (l : List α), (∀ x ∈ l, f x x = true) → all2 f l l = true
  | [], _ => by simp [all2]
  | x :: l, h => by
    simp only [all2, Bool.and_eq_true]
    exact ⟨h x (by simp), all2_refl l fun y hy => h y (by simp [hy])⟩
theorem all2_sum {α : Type} {f : α → α → Bool} (g : α → Nat) : ∀ (l m : List α), (∀ x ∈ l, ∀ y, f x y = true → g x = g y) → all2 f l m = true → (l.map g).sum = (m.map g).sum
  | [], [], _, _ => rfl
  | [], _ :: _, _, h => by simp [all2] at h
  | _ :: _, [], _, h => by simp [all2] at h
  | x :: l, y :: m, hf, h => by
    simp only [all2, Bool.and_eq_true] at h
    simp only [List.map_cons, List.sum_cons, hf x (by simp) y h.1, all2_sum g l m (fun x hx => hf x (by simp [hx])) h.2]
theorem VPat.same_refl (x : VPat) : x.same x = true := by
  rw [VPat.same_eq]
  simp only [decide_true, Bool.true_and]
  exact all2_refl _ fun y hy => VPat.same_refl y
termination_by SizeOf.sizeOf x
decreasing_by exact VPat.Kids_lt hy
theorem VTypeExp.same_refl (x : VTypeExp) : x.same x = true := by
  rw [VTypeExp.same_eq]
  simp only [decide_true, Bool.true_and]
  exact all2_refl _ fun y hy => VTypeExp.same_refl y
termination_by SizeOf.sizeOf x
decreasing_by exact VTypeExp.Kids_lt hy
theorem VExp.same_refl (x : VExp) : x.same x = true := by
  rw [VExp.same_eq]
  simp only [decide_true, Bool.true_and, Bool.and_eq_true]
  refine ⟨all2_refl _ fun y hy => VExp.same_refl y, all2_refl _ fun y hy => ?_⟩
  simp only [VArm.same, Bool.and_eq_true]
  exact ⟨VPat.same_refl _, VExp.same_refl y.E⟩
termination_by SizeOf.sizeOf x
decreasing_by all_goals first | exact VExp.Kids_lt hy | exact VArm.E_lt'' hy
theorem VPat.same_sz (x y : VPat) (h : x.same y = true) : x.sz = y.sz := by
  rw [VPat.same_eq] at h
  simp only [Bool.and_eq_true] at h
  rw [VPat.sz_eq, VPat.sz_eq, all2_sum VPat.sz _ _ (fun a ha b hab => VPat.same_sz a b hab) h.2]
termination_by SizeOf.sizeOf x
decreasing_by exact VPat.Kids_lt ha
theorem VExp.same_sz (x y : VExp) (h : x.same y = true) : x.sz = y.sz := by
  rw [VExp.same_eq] at h
  simp only [Bool.and_eq_true] at h
  rw [VExp.sz_eq, VExp.sz_eq, all2_sum VExp.sz _ _ (fun a ha b hab => VExp.same_sz a b hab) h.1.2, all2_sum VArm.sz _ _ (fun a ha b hab => ?_) h.2]
  simp only [VArm.same, Bool.and_eq_true] at hab
  rw [VArm.sz_eq, VArm.sz_eq, VPat.same_sz _ _ hab.1, VExp.same_sz a.E b.E hab.2]
termination_by SizeOf.sizeOf x
decreasing_by all_goals first | exact VExp.Kids_lt ha | exact VArm.E_lt'' ha
theorem VCtor.same_refl (x : VCtor) : x.same x = true := by simp [VCtor.same, VTypeExp.same_refl]
theorem VData.same_refl (x : VData) : x.same x = true := by
  simp only [VData.same, decide_true, Bool.true_and, Bool.and_eq_true]
  exact ⟨all2_refl _ fun y _ => by simp, all2_refl _ fun y _ => VCtor.same_refl y⟩
theorem VProg.same_refl (x : VProg) : x.same x = true := by
  simp only [VProg.same, Bool.and_eq_true]
  exact ⟨all2_refl _ fun y _ => VData.same_refl y, VExp.same_refl _⟩
/-- the program with its body twice -/
def dbl (x : VProg) (P : Int) : VProg := .mk x.Types (.mk 7 emp 0 emp P [x.Body, x.Body] [])
theorem dbl_sz (x : VProg) (P : Int) : (dbl x P).Body.sz = 2 * x.Body.sz + 1 := by
  rw [VExp.sz_eq]
  simp only [dbl, VProg.Body, VExp.Kids, VExp.Arms, List.map_cons, List.map_nil, List.sum_cons, List.sum_nil]
  omega
theorem dbl_same (x : VProg) (P : Int) : x.same (dbl x P) = false := by
  cases h : x.same (dbl x P) with
  | false => rfl
  | true =>
    simp only [VProg.same, Bool.and_eq_true] at h
    have h1 := VExp.same_sz _ _ h.2
    have h2 := dbl_sz x P
    have h3 := x.Body.sz_eq
    omega
theorem dbl_ok {B : Nat} {x : VProg} (h : QG B x) (P : Int) (hP : -1 ≤ P ∧ P ≤ 0) : (dbl x P).ok ∧ (dbl x P).wt ≤ 2 * B + 2 ∧ (dbl x P).okM = decide (0 ≤ P) := by
  have h1 := h.okM
  have h2 := h.ok
  have h3 := h.wt
  simp only [VProg.okM, Bool.and_eq_true] at h1
  rw [VProg.ok_iff] at h2
  rw [VProg.wt_eq] at h3
  refine ⟨?_, ?_, ?_⟩
  · rw [VProg.ok_iff]
    refine ⟨h2.1, ?_⟩
    simp only [dbl, VProg.Body]
    rw [VExp.ok_iff]
    simp only [VExp.Kind, VExp.Num, VExp.Pos, VExp.Kids, VExp.Arms, inR]
    refine ⟨⟨by omega, by omega⟩, ⟨by omega, by omega⟩, ⟨by omega, by omega⟩, fun y hy => ?_, by simp⟩
    simp only [List.mem_cons, List.not_mem_nil, or_false, or_self] at hy
    rw [hy]; exact h2.2
  · rw [VProg.wt_eq]
    have he : emp.size = 0 := rfl
    have : (dbl x P).Body.wt = 2 + 2 * x.Body.wt := by
      rw [VExp.wt_eq]
      simp only [dbl, VProg.Body, VExp.Name, VExp.Text, VExp.Kids, VExp.Arms, List.map_cons, List.map_nil, List.sum_cons, List.sum_nil, List.length_cons, List.length_nil, he]
      omega
    have ht : (dbl x P).Types = x.Types := rfl
    rw [this, ht]
    omega
  · have ht : (dbl x P).Types = x.Types := rfl
    rw [VProg.okM, ht, h1.1, Bool.true_and]
    have hbd : (dbl x P).Body = .mk 7 emp 0 emp P [x.Body, x.Body] [] := rfl
    rw [hbd, VExp.okM_eq]
    have hb := h1.2
    generalize x.Body = y at hb
    simp [VExp.headM, VExp.plainX, VExp.Kind, VExp.Name, VExp.Num, VExp.Text, VExp.Pos, VExp.Kids, VExp.Arms, hb]
    try exact decide_eq_decide.2 Iff.rfl
/- texts -/
theorem size0 {s : ByteArray} (h : s.size = 0) : s = ⟨#[]⟩ := by
  apply bytes_ext
  have : s.data.toList.length = 0 := h
  rw [List.length_eq_zero_iff.1 this]
theorem ne_pos {f : ByteArray → Bool} (h0 : f ⟨#[]⟩ = false) {s : ByteArray} (h : f s = true) : 0 < s.size := by
  rcases Nat.eq_zero_or_pos s.size with h1 | h1
  · rw [size0 h1, h0] at h; cases h
  · exact h1
theorem numB_pos {n : Int} (h : 0 ≤ n) : 0 < (numB n).size := by
  obtain ⟨u, rfl⟩ : ∃ u : Nat, n = u := ⟨n.toNat, by omega⟩
  rw [numB_nat, figB_eq]
  split
  · rw [byteB_size]; omega
  · rw [app_size, byteB_size]; omega
theorem ite_pos {c : Prop} [Decidable c] {a b : ByteArray} (h : c → 0 < a.size) (h' : ¬ c → 0 < b.size) : 0 < (if c then a else b).size := by
  by_cases hc : c
  · rw [if_pos hc]; exact h hc
  · rw [if_neg hc]; exact h' hc
theorem txt_pos (x : VExp) (h : x.okM = true) (a : Int) : 0 < (x.txt a).size := by
  have hf : 0 < x.form.size := by
    rw [VExp.okM_eq] at h
    simp only [Bool.and_eq_true] at h
    have hh := h.1.1
    have n1 : x.Kind = 1 → 0 ≤ x.Num := fun hk => by
      rw [VExp.headM, if_pos hk] at hh
      simp only [Bool.and_eq_true, decide_eq_true_eq] at hh
      exact hh.1.2
    have n5 : x.Kind = 5 → 0 < x.Name.size := fun hk => by
      rw [VExp.headM, if_neg (by omega), if_neg (by omega), if_neg (by omega), if_neg (by omega), if_pos hk] at hh
      simp only [Bool.and_eq_true, decide_eq_true_eq] at hh
      exact ne_pos (f := lowM) (by decide +kernel) hh.1.2
    have n6 : x.Kind = 6 ∨ x.Kind = 15 → 0 < x.Name.size := by
      rintro (hk | hk)
      · rw [VExp.headM, if_neg (by omega), if_neg (by omega), if_neg (by omega), if_neg (by omega), if_neg (by omega), if_pos hk] at hh
        simp only [Bool.and_eq_true, decide_eq_true_eq] at hh
        exact ne_pos (f := upM) (by decide +kernel) hh.1.2
      · rw [VExp.headM, if_neg (by omega), if_neg (by omega), if_neg (by omega), if_neg (by omega), if_neg (by omega), if_neg (by omega), if_neg (by omega), if_neg (by omega), if_neg (by omega), if_neg (by omega), if_neg (by omega), if_neg (by omega), if_neg (by omega), if_neg (by omega), if_pos hk] at hh
        simp only [Bool.and_eq_true, Bool.or_eq_true, decide_eq_true_eq] at hh
        rcases hh.2 with h | h
        · rw [h.1]; decide
        · exact ne_pos (f := prim1) (by decide +kernel) h.1
    rw [VExp.form_eq]
    have q1 : sFun.size = 4 := rfl
    have q2 : sSp.size = 1 := rfl
    have q3 : sLet.size = 4 := rfl
    have q4 : sLetRec.size = 8 := rfl
    have q5 : sIf.size = 3 := rfl
    have q6 : sMatch.size = 6 := rfl
    refine ite_pos (fun hk => numB_pos (n1 hk)) fun _ => ite_pos (fun _ => ?_) fun _ => ite_pos (fun _ => ?_) fun _ => ite_pos (fun _ => by decide) fun _ => ite_pos n5 fun _ => ite_pos (fun hk => ite_pos (fun _ => n6 hk) fun _ => ?_) fun _ => ite_pos (fun _ => ?_) fun _ => ite_pos (fun _ => ?_) fun _ => ite_pos (fun _ => ?_) fun _ => ite_pos (fun _ => ?_) fun _ => ite_pos (fun _ => ?_) fun _ => ite_pos (fun _ => ?_) fun _ => ite_pos (fun _ => ?_) fun _ => ?_
    · unfold quotedB; simp only [app_size, byteB_size]; omega
    · unfold boolB; exact ite_pos (fun _ => by decide) fun _ => by decide
    all_goals simp only [app_size, byteB_size]; omega
  unfold VExp.txt roundB
  split
  · simp only [app_size, byteB_size]; omega
  · exact hf
theorem ext_mid (A B C : ByteArray) : (A ++ (B ++ C)).extract A.size (A.size + B.size) = B := by
  apply bytes_ext
  have h1 : A.size = A.data.toList.length := rfl
  have h2 : B.size = B.data.toList.length := rfl
  rw [ByteArray.data_extract, Array.toList_extract, app_list, app_list, h1, h2]
  simp [List.extract_eq_take_drop]
theorem last_byte (A : ByteArray) (n : Int) : (A ++ byteB n).data.toList.getD A.size 0 = UInt8.ofNat n.toNat := by
  have h1 : A.size = A.data.toList.length := rfl
  rw [app_list, h1]
  simp [List.getD, byteB]
theorem leE2 {K M P : Int} {N U : ByteArray} {kids : List VExp} : AV.leD (.agg [avI K, avB N, avI M, avB U, avI P, .sl (kids.map VExp.av), .nils]) (VExp.mk K N M U P kids []).av := by
  rw [← VExp.eta]
  refine .agg _ _ rfl fun i c d hc hd => ?_
  rcases i with _ | _ | _ | _ | _ | _ | _ | i <;> simp [VExp.Kind, VExp.Name, VExp.Num, VExp.Text, VExp.Pos, VExp.Kids, VExp.Arms] at hc hd <;> subst hc <;> subst hd <;> first | exact .refl _ | exact .nil
theorem leQ2 (x : VProg) (P : Int) : AV.leD (.agg [.sl (x.Types.map VData.av), avI 7, avB ⟨#[]⟩, avI 0, avB ⟨#[]⟩, avI P, .sl [x.Body.av, x.Body.av], .nils]) (dbl x P).av := by
  rw [← VProg.eta]
  refine .agg _ _ rfl fun i c d hc hd => ?_
  rcases i with _ | _ | _ | _ | _ | _ | _ | _ | i <;> simp [dbl, VProg.Types, VProg.Body, VExp.Kind, VExp.Name, VExp.Num, VExp.Text, VExp.Pos, VExp.Kids, VExp.Arms] at hc hd <;> subst hc <;> subst hd <;> first | exact .refl _ | exact .nil
theorem idx_of {s : ByteArray} {k : IntKind} {i : Int} {K : AV → Prop} (h0 : 0 ≤ i) (h1 : i < s.size) (hk : goT K (.v (.int .u8 (s.data.toList.getD i.toNat 0).toNat))) : idxT (.v (.string s)) (.v (.int k i)) K := by
  rw [i_idx]; exact ⟨h0, h1, hk⟩
theorem leB (x : VProg) (P : Int) : AV.leD (.agg [avI 7, avB ⟨#[]⟩, avI 0, avB ⟨#[]⟩, avI P, .sl [x.Body.av, x.Body.av], .nils]) (dbl x P).Body.av := leE2 (kids := [x.Body, x.Body])
end Go.Ab
namespace Go.Proofs.Ab
open Go.Ab
set_option maxRecDepth 100000
set_option maxHeartbeats 4000000
theorem argD {f : FuncId} {a b res : AV} (h : PCon Tryz.prog f [b] res) (hle : AV.leD a b) : PCon Tryz.prog f [a] res :=
  h.argsD rfl fun i x y hx hy => by rcases i with _ | i <;> simp at hx hy; subst hx; subst hy; exact hle
theorem argD2 {f : FuncId} {c a b res : AV} (h : PCon Tryz.prog f [c, b] res) (hle : AV.leD a b) : PCon Tryz.prog f [c, a] res :=
  h.argsD rfl fun i x y hx hy => by
    rcases i with _ | _ | i <;> simp at hx hy
    · subst hx; subst hy; exact .refl _
    · subst hx; subst hy; exact hle
theorem laws_big_c (l : List Int) (hl : l.length ≤ 1048576) : PCon Tryz.prog F.laws_big [.sl (bys l)] (.v (.bool false)) := by
  refine T.laws_big_con rfl (by simp [AV.norefs, AV.noref, bys_noref]) ?_
  have d0 : decide ((1048576 : Int) < (l.length : Int)) = false := decide_eq_false (by omega)
  simp only [T.laws_big, List.length_map, d0, WA, Nat.reduceEqDiff, Nat.reduceAdd, Nat.reduceLT, Nat.reduceLeDiff, Nat.reduceMul, reduceIte, reduceCtorEq, Int.reduceEq, Int.reduceLT, Int.reduceLE, Int.reduceNe]
theorem law_FnTrees (x0 : List Int) (hb : x0.length ≤ 1048576) (ho0 : ∀ y ∈ x0, 0 ≤ y ∧ y < 256) : PCon Tryz.prog F.laws_FnTrees [.sl (x0.map fun y => .v (.int .u8 y))] (.v (.bool true)) := by
  obtain ⟨x, hx, hd⟩ := spec_DrawTree_c x0 hb ho0
  have hno : AV.norefs [AV.sl (x0.map fun y => .v (.int .u8 y))] = true := by simp [AV.norefs, AV.noref, norefsM (f := fun y => AV.v (.int .u8 y)) (l := x0) fun _ => rfl]
  obtain ⟨d1, d2, d3⟩ := dbl_ok hx 0 (by omega)
  obtain ⟨e1, e2, e3⟩ := dbl_ok hx (-1) (by omega)
  have hxw := hx.wt
  refine T.laws_FnTrees_con rfl hno ?_
  have hok := hx.okM
  have hi := hx.ok
  have hbo : x.Body.okM = true := by simp only [VProg.okM, Bool.and_eq_true] at hok; exact hok.2
  have hbi : x.Body.ok := ((VProg.ok_iff x).1 hi).2
  have hwe := x.wt_eq
  have hbw : x.Body.wt ≤ 300000 := by omega
  have hdw : (dbl x 0).Body.wt ≤ 1048576 := by have := (dbl x 0).wt_eq; omega
  have hBp := txt_pos x.Body hbo 0
  have hAs := typesB_size x.Types
  have hBs := x.Body.sizes hbo hbi
  have hBr := roundB_size x.Body.form x.Body.level 0
  have hBt : (x.Body.txt 0).size ≤ 64 * x.Body.wt + 26 := by unfold VExp.txt; omega
  have hsz := x.Body.sz_le
  have cP : PCon Tryz.prog F.impl_Print [x.av] (avB (typesB x.Types ++ (x.Body.txt 0 ++ byteB 10))) := by
    have := impl_Print_c x (by omega) hi
    rw [printP, if_pos hok] at this
    exact this
  have cE : PCon Tryz.prog F.impl_PrintExp [x.Body.av] (avB (x.Body.txt 0)) := by
    have := impl_PrintExp_c x.Body (by omega) hbi
    rw [printE, if_pos hbo] at this
    exact this
  have cN : PCon Tryz.prog F.impl_Print [(dbl x (-1)).av] (avB ⟨#[]⟩) := by
    have := impl_Print_c (dbl x (-1)) (by omega) e1
    rw [printP, if_neg (by rw [e3]; decide)] at this
    exact this
  have cS : PCon Tryz.prog F.impl_SameProg [x.av, x.av] (.v (.bool true)) := by
    have := impl_SameProg_c x x (by omega)
    rw [VProg.same_refl] at this
    exact this
  have cD : PCon Tryz.prog F.impl_SameProg [x.av, (dbl x 0).av] (.v (.bool false)) := by
    have := impl_SameProg_c x (dbl x 0) (by omega)
    rw [dbl_same] at this
    exact this
  have cO : PCon Tryz.prog F.impl_ProgOk [x.av] (.v (.bool true)) := by
    have := impl_ProgOk_c x (by omega)
    rw [hok] at this
    exact this
  have cQ : PCon Tryz.prog F.impl_ProgOk [(dbl x 0).av] (.v (.bool true)) := by
    have := impl_ProgOk_c (dbl x 0) (by omega)
    rw [d3] at this
    exact this
  have cZ : PCon Tryz.prog F.impl_ExpSize [(dbl x 0).Body.av] (.v (.int .i64 ((2 * x.Body.sz + 1 : Nat) : Int))) := by
    have := impl_ExpSize_c (dbl x 0).Body hdw
    rw [dbl_sz] at this
    exact this
  generalize hA : typesB x.Types = A at hAs cP
  generalize hB : x.Body.txt 0 = B at hBp hBt cP cE
  have hlo := last_byte (A ++ B) 10
  rw [app_size, appA] at hlo
  have hem := ext_mid A B (byteB 10)
  simp only [T.laws_FnTrees, WA, Nat.reduceEqDiff, Nat.reduceAdd, Nat.reduceLT, Nat.reduceLeDiff, Nat.reduceMul, reduceIte, reduceCtorEq, Int.reduceEq, Int.reduceLT, Int.reduceLE, Int.reduceNe]
  repeat' (first | (simp (disch := (first | omega | rfl | exact rfl | (simp only [cells_v, List.length_cons, List.length_nil]; done) | exact VProg.width _ | exact VExp.width _)) only [hd, VProg.cells, VProg.isAgg, VProg.storable, VProg.eta, VProg.load_Body, VExp.eta, VExp.cells, VExp.isAgg, VExp.storable, VExp.eta, VProg.eta, app_size, byteB_size, wrapI, wrapS, wrapA, wrapA1, lt0, WA, Nat.reduceEqDiff, Nat.reduceAdd, Nat.reduceLT, Nat.reduceLeDiff, Nat.reduceMul, reduceIte, reduceCtorEq, Int.reduceEq, Int.reduceLT, Int.reduceLE, Int.reduceNe]) | (simp (disch := (first | omega | rfl | exact rfl | (simp only [cells_v, List.length_cons, List.length_nil]; done) | exact VProg.width _ | exact VExp.width _)) only [VProg.cells, VProg.isAgg, VProg.storable, VProg.eta, VProg.load_Body, VExp.eta, VExp.cells, VExp.isAgg, VExp.storable, VExp.eta, VProg.eta, app_size, byteB_size, wrapI, wrapS, wrapA, wrapA1, lt0, WA, Nat.reduceEqDiff, Nat.reduceAdd, Nat.reduceLT, Nat.reduceLeDiff, Nat.reduceMul, reduceIte, reduceCtorEq, Int.reduceEq, Int.reduceLT, Int.reduceLE, Int.reduceNe]) | (refine ite_dec (fun hq => ?_) (fun hq => ?_) <;> (try simp only [hq, decide_true, decide_false, Bool.not_true, Bool.not_false, Bool.not_eq_true', Bool.not_eq_false'])) | (refine ite_ndec (fun hq => ?_) (fun hq => ?_) <;> (try simp only [hq, decide_true, decide_false, Bool.not_true, Bool.not_false, Bool.not_eq_true', Bool.not_eq_false'])) | (refine ite_intro (fun hq => ?_) (fun hq => ?_) <;> (try simp only [hq, decide_true, decide_false, Bool.not_true, Bool.not_false, Bool.not_eq_true', Bool.not_eq_false'])) | (refine bind_push ?_) | (refine call_v (laws_big_c x0 hb) ?_) | (refine call_p (hd) (VProg.noref _) ?_) | (refine call_v (cO) ?_) | (refine call_v (argD cQ (leQ2 x 0)) ?_) | (refine call_v (cS) ?_) | (refine call_v (argD2 cD (leQ2 x 0)) ?_) | (refine call_v (argD cZ (leB x 0)) ?_) | (refine call_v (impl_ExpSize_c x.Body (by omega)) ?_) | (refine call_v (cP) ?_) | (refine call_v (cE) ?_) | (refine call_v (argD cN (leQ2 x (-1))) ?_))
  all_goals try (exfalso; first | omega | (simp_all; done))
  have i1 : (((A.size + (B.size + 1) : Nat) : Int) - (B.size : Int) - 1).toNat = A.size := by omega
  have i2 : (((A.size + (B.size + 1) : Nat) : Int) - 1).toNat = A.size + B.size := by omega
  have hl2 : (((UInt8.ofNat (Int.toNat 10)).toNat : Nat) : Int) = 10 := rfl
  refine ⟨by omega, by omega, by omega, ?_⟩
  repeat' (first | (simp (disch := (first | omega | rfl | exact rfl | (simp only [cells_v, List.length_cons, List.length_nil]; done) | exact VProg.width _ | exact VExp.width _)) only [hd, VProg.cells, VProg.isAgg, VProg.storable, VProg.eta, VProg.load_Body, VExp.eta, VExp.cells, VExp.isAgg, VExp.storable, VExp.eta, i1, i2, hem, hlo, hl2, eq_self, decide_true, VProg.eta, app_size, byteB_size, wrapI, wrapS, wrapA, wrapA1, lt0, WA, Nat.reduceEqDiff, Nat.reduceAdd, Nat.reduceLT, Nat.reduceLeDiff, Nat.reduceMul, reduceIte, reduceCtorEq, Int.reduceEq, Int.reduceLT, Int.reduceLE, Int.reduceNe]) | (simp (disch := (first | omega | rfl | exact rfl | (simp only [cells_v, List.length_cons, List.length_nil]; done) | exact VProg.width _ | exact VExp.width _)) only [VProg.cells, VProg.isAgg, VProg.storable, VProg.eta, VProg.load_Body, VExp.eta, VExp.cells, VExp.isAgg, VExp.storable, VExp.eta, i1, i2, hem, hlo, hl2, eq_self, decide_true, VProg.eta, app_size, byteB_size, wrapI, wrapS, wrapA, wrapA1, lt0, WA, Nat.reduceEqDiff, Nat.reduceAdd, Nat.reduceLT, Nat.reduceLeDiff, Nat.reduceMul, reduceIte, reduceCtorEq, Int.reduceEq, Int.reduceLT, Int.reduceLE, Int.reduceNe]) | (refine ite_dec (fun hq => ?_) (fun hq => ?_) <;> (try simp only [hq, decide_true, decide_false, Bool.not_true, Bool.not_false, Bool.not_eq_true', Bool.not_eq_false'])) | (refine ite_ndec (fun hq => ?_) (fun hq => ?_) <;> (try simp only [hq, decide_true, decide_false, Bool.not_true, Bool.not_false, Bool.not_eq_true', Bool.not_eq_false'])) | (refine ite_intro (fun hq => ?_) (fun hq => ?_) <;> (try simp only [hq, decide_true, decide_false, Bool.not_true, Bool.not_false, Bool.not_eq_true', Bool.not_eq_false'])) | (refine bind_push ?_) | (refine call_v (argD cN (leQ2 x (-1))) ?_) | (refine idx_of (by omega) (by simp only [app_size, byteB_size]; omega) ?_))
  all_goals trace_state
end Go.Proofs.Ab
