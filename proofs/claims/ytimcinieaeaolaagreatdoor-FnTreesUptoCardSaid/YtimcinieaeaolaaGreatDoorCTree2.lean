/-
  TREES THAT ARE DRAWN: Exps.
-/
import Derived.Test.YtimcinieaeaolaaGreatDoorCTree
import Derived.Test.YtimcinieaeaolaaGreatDoorCExp
set_option linter.unusedVariables false
set_option linter.unusedSimpArgs false
set_option linter.defProp false
namespace Go.Ab
set_option maxRecDepth 100000
set_option maxHeartbeats 4000000
structure EG (B : Nat) (x : VExp) : Prop where
  okM : x.okM = true
  ok : x.ok
  wt : x.wt ≤ B
structure AG (B : Nat) (x : VArm) : Prop where
  P : PG 48 x.P
  E : EG B x.E
theorem EG.mono {B C : Nat} {x : VExp} (h : EG B x) (hb : B ≤ C) : EG C x := ⟨h.okM, h.ok, Nat.le_trans h.wt hb⟩
def EB : Nat → Nat
  | 0 => 5
  | n + 1 => 160 + 6 * EB n
theorem EB_ge (n : Nat) : 5 ≤ EB n := by induction n <;> simp only [EB] <;> omega
def txL : List ByteArray := [⟨#[]⟩, ⟨#[104, 105]⟩, ⟨#[97, 34, 98]⟩, ⟨#[10]⟩]
def inL : List Int := [0, 3, 17, 9223372036854775807]
def prL : List ByteArray := [⟨#[112, 114, 105, 110, 116]⟩, ⟨#[101, 120, 105, 116]⟩, ⟨#[115, 105, 122, 101]⟩, ⟨#[114, 101, 102]⟩, ⟨#[33]⟩]
def goodTxt (s : ByteArray) : Prop := plainM s = true ∧ s.size ≤ 4
def goodBin (s : ByteArray) : Prop := binM s = true ∧ s.size ≤ 4
def goodPrim (s : ByteArray) : Prop := prim1 s = true ∧ s.size ≤ 5
theorem txL_ok : ∀ s ∈ txL, goodTxt s := by unfold goodTxt txL; decide +kernel
theorem opL_ok : ∀ s ∈ binS, goodBin s := by unfold goodBin binS; decide +kernel
theorem prL_ok : ∀ s ∈ prL, goodPrim s := by unfold goodPrim prL; decide +kernel
theorem inL_ok : ∀ n ∈ inL, 0 ≤ n ∧ n ≤ 9223372036854775807 := by unfold inL; decide
theorem EG.of {K M P : Int} {N U : ByteArray} {kids : List VExp} {arms : List VArm} {b B : Nat} (hh : (VExp.mk K N M U P kids arms).headM = true) (hK : 0 ≤ K ∧ K ≤ 15) (hM : 0 ≤ M ∧ M ≤ 9223372036854775807) (hP : 0 ≤ P ∧ P ≤ 9)
    (hk : ∀ x ∈ kids, EG b x) (ha : ∀ x ∈ arms, AG b x) (hs : N.size + U.size + (kids.length + kids.length * b) + (arms.length + arms.length * (48 + b)) ≤ B) : EG B (.mk K N M U P kids arms) := by
  refine ⟨?_, ?_, ?_⟩
  · rw [VExp.okM_eq, hh]
    simp only [VExp.Kids, VExp.Arms, Bool.true_and, Bool.and_eq_true, List.all_eq_true, VArm.okM]
    exact ⟨fun x hx => (hk x hx).okM, fun x hx => ⟨(ha x hx).P.okM, (ha x hx).E.okM⟩⟩
  · rw [VExp.ok_iff]
    simp only [VExp.Kind, VExp.Num, VExp.Pos, VExp.Kids, VExp.Arms, inR, VArm.ok_iff]
    exact ⟨⟨by omega, by omega⟩, ⟨by omega, by omega⟩, ⟨by omega, by omega⟩, fun x hx => (hk x hx).ok, fun x hx => ⟨(ha x hx).P.ok, (ha x hx).E.ok⟩⟩
  · rw [VExp.wt_eq]
    simp only [VExp.Name, VExp.Text, VExp.Kids, VExp.Arms]
    have h1 := sum_le_len VExp.wt b kids fun x hx => (hk x hx).wt
    have h2 := sum_le_len VArm.wt (48 + b) arms fun x hx => by have := (ha x hx).P.wt; have := (ha x hx).E.wt; rw [VArm.wt_eq]; omega
    omega
theorem eg0 {B : Nat} {K M P : Int} {N U : ByteArray} (hB : 5 ≤ B) (hP : 0 ≤ P ∧ P ≤ 9)
    (h : (K = 1 ∧ N = emp ∧ U = emp ∧ 0 ≤ M ∧ M ≤ 9223372036854775807) ∨ (K = 2 ∧ N = emp ∧ goodTxt U ∧ M = 0) ∨ (K = 3 ∧ N = emp ∧ U = emp ∧ 0 ≤ M ∧ M ≤ 1) ∨ (K = 4 ∧ N = emp ∧ U = emp ∧ M = 0) ∨ (K = 5 ∧ goodLow N ∧ U = emp ∧ M = 0) ∨ (K = 6 ∧ goodUp N ∧ U = emp ∧ M = 0) ∨ (K = 15 ∧ N = sRead ∧ U = emp ∧ M = 0)) : EG B (.mk K N M U P [] []) := by
  have he : emp.size = 0 := rfl
  have hr : sRead.size = 4 := rfl
  rcases h with ⟨rfl, rfl, rfl, h1, h2⟩ | ⟨rfl, rfl, ⟨h1, h2⟩, rfl⟩ | ⟨rfl, rfl, rfl, h1, h2⟩ | ⟨rfl, rfl, rfl, rfl⟩ | ⟨rfl, ⟨h1, h2⟩, rfl, rfl⟩ | ⟨rfl, ⟨h1, h2⟩, rfl, rfl⟩ | ⟨rfl, rfl, rfl, rfl⟩
  all_goals refine EG.of (b := 0) ?_ (by omega) (by omega) hP (by simp) (by simp) (by simp only [List.length_nil]; omega)
  all_goals simp [VExp.headM, VExp.plainX, VExp.Kind, VExp.Name, VExp.Num, VExp.Text, VExp.Pos, VExp.Kids, VExp.Arms, hP.1, inB, *]
theorem eg1 {B b : Nat} {K P : Int} {N U : ByteArray} {kids : List VExp} {arms : List VArm} (hP : 0 ≤ P ∧ P ≤ 9) (hB : 160 + 6 * b ≤ B) (hk : ∀ x ∈ kids, EG b x) (ha : ∀ x ∈ arms, AG b x)
    (h : (K = 6 ∧ goodUp N ∧ U = emp ∧ arms = [] ∧ kids.length ≤ 1) ∨ (K = 7 ∧ N = emp ∧ U = emp ∧ arms = [] ∧ 2 ≤ kids.length ∧ kids.length ≤ 3) ∨ (K = 8 ∧ goodLow N ∧ U = emp ∧ arms = [] ∧ kids.length = 1) ∨ (K = 9 ∧ N = emp ∧ U = emp ∧ arms = [] ∧ kids.length = 2) ∨
      (K = 10 ∧ goodLow N ∧ U = emp ∧ arms = [] ∧ kids.length = 2) ∨ (K = 11 ∧ goodLow N ∧ goodLow U ∧ arms = [] ∧ kids.length = 2) ∨ (K = 12 ∧ N = emp ∧ U = emp ∧ arms = [] ∧ kids.length = 3) ∨ (K = 13 ∧ N = emp ∧ U = emp ∧ (0 < arms.length ∧ arms.length ≤ 3) ∧ kids.length = 1) ∨
      (K = 14 ∧ goodBin N ∧ U = emp ∧ arms = [] ∧ kids.length = 2) ∨ (K = 15 ∧ goodPrim N ∧ U = emp ∧ arms = [] ∧ kids.length = 1)) : EG B (.mk K N 0 U P kids arms) := by
  have he : emp.size = 0 := rfl
  have hkb : kids.length ≤ 3 → kids.length * b ≤ 3 * b := fun h => Nat.mul_le_mul_right _ h
  have hab : arms.length ≤ 3 → arms.length * (48 + b) ≤ 3 * (48 + b) := fun h => Nat.mul_le_mul_right _ h
  have hq : ∀ s, prim1 s = true → s ≠ sRead := fun s h hs => by subst hs; revert h; decide +kernel
  rcases h with ⟨rfl, ⟨h1, h2⟩, rfl, rfl, h3⟩ | ⟨rfl, rfl, rfl, rfl, h3, h4⟩ | ⟨rfl, ⟨h1, h2⟩, rfl, rfl, h3⟩ | ⟨rfl, rfl, rfl, rfl, h3⟩ | ⟨rfl, ⟨h1, h2⟩, rfl, rfl, h3⟩ | ⟨rfl, ⟨h1, h2⟩, ⟨h4, h5⟩, rfl, h3⟩ | ⟨rfl, rfl, rfl, rfl, h3⟩ | ⟨rfl, rfl, rfl, ⟨h1, h2⟩, h3⟩ | ⟨rfl, ⟨h1, h2⟩, rfl, rfl, h3⟩ | ⟨rfl, ⟨h1, h2⟩, rfl, rfl, h3⟩
  all_goals refine EG.of ?_ (by omega) (by omega) hP hk ha (by have := hkb (by omega); have := hab (by first | omega | (simp only [List.length_nil]; omega)); (try simp only [List.length_nil, Nat.zero_mul] at *); omega)
  all_goals simp [VExp.headM, VExp.plainX, VExp.Kind, VExp.Name, VExp.Num, VExp.Text, VExp.Pos, VExp.Kids, VExp.Arms, hP.1, *]
theorem leE {K M P : Int} {N U : ByteArray} : AV.leD (.agg [avI K, avB N, avI M, avB U, avI P, .nils, .nils]) (VExp.mk K N M U P [] []).av := by
  refine .agg _ _ rfl fun i c d hc hd => ?_
  rcases i with _ | _ | _ | _ | _ | _ | _ | i <;> simp [VExp.av, VExp.cs, VExp.avs, VArm.avs] at hc hd <;> subst hc <;> subst hd <;> first | exact .refl _ | exact .nil
theorem dxE_nil {c : Cur} (hc : c.ok) {K M P : Int} {N U : ByteArray} {good : VExp → Prop} (hg : good (.mk K N M U P [] [])) : retT (dx VExp.av good) [.agg [avI K, avB N, avI M, avB U, avI P, .nils, .nils], .sl (bys c.l), avI c.i, avI c.h] := dx_ret hc _ leE hg
theorem dxE_sl {c : Cur} (hc : c.ok) {K M P : Int} {N U : ByteArray} (kids : List VExp) (arms : List VArm) {good : VExp → Prop} (hg : good (.mk K N M U P kids arms)) :
    retT (dx VExp.av good) [.agg [avI K, avB N, avI M, avB U, avI P, .sl (kids.map VExp.av), .sl (arms.map VArm.av)], .sl (bys c.l), avI c.i, avI c.h] :=
  dx_ret hc _ (by rw [← VExp.eta]; exact .refl _) hg
theorem armE (p : VPat) (e : VExp) : AV.agg [avI p.Kind, avB p.Name, avI p.Num, avI p.Pos, .sl (p.Kids.map VPat.av), avI e.Kind, avB e.Name, avI e.Num, avB e.Text, avI e.Pos, .sl (e.Kids.map VExp.av), .sl (e.Arms.map VArm.av)] = (VArm.mk p e).av := VArm.eta (.mk p e)
theorem AG.of {b : Nat} {p : VPat} {e : VExp} (hp : PG 48 p) (he : EG b e) : AG b (.mk p e) := ⟨hp, he⟩
def esAv (xs : List VExp) : AV := .sl (xs.map VExp.av)
theorem esAv_eq (xs : List VExp) : esAv xs = .sl (xs.map VExp.av) := rfl
end Go.Ab
namespace Go.Proofs.Ab
open Go.Ab
set_option maxRecDepth 100000
set_option maxHeartbeats 4000000
abbrev DExp (d : Int) (B : Nat) (c : Cur) : Prop := Drawn Tryz.prog F.spec_l2DrawExp G.spec_l2DrawExp [.sl (bys c.l), avI c.i, avI c.h, avI d] VExp.av (EG B)
theorem dr_exp {d : Int} {B : Nat} (h : ∀ c : Cur, c.ok → DExp d B c) {c : Cur} (hc : c.ok) {K : AV → Prop} (k : ∀ (x : VExp) (c' : Cur), EG B x → c'.ok → goT K (.tup [x.av, .sl (bys c'.l), avI c'.i, avI c'.h])) : scallP Tryz.prog F.spec_l2DrawExp G.spec_l2DrawExp [.sl (bys c.l), avI c.i, avI c.h, avI d] K :=
  (h c hc).use rfl VExp.noref k
theorem drawLeaf_c {c : Cur} (hc : c.ok) : Drawn Tryz.prog F.spec_l2DrawLeaf G.spec_l2DrawLeaf [.sl (bys c.l), avI c.i, avI c.h] VExp.av (EG 5) := by
  refine Drawn.intro rfl rfl (fun outs ho hw => T.spec_l2DrawLeaf_scon rfl ho (by simp [AV.norefs, AV.noref, bys_noref]) hw) (.mk 4 emp 0 emp 0 [] []) (eg0 (Nat.le_refl _) (by omega) (.inr (.inr (.inr (.inl ⟨rfl, rfl, rfl, rfl⟩))))) c hc ?_
  simp only [T.spec_l2DrawLeaf, WA, Nat.reduceEqDiff, Nat.reduceAdd, Nat.reduceLT, Nat.reduceLeDiff, Nat.reduceMul, reduceIte, reduceCtorEq, Int.reduceEq, Int.reduceLT, Int.reduceLE, Int.reduceNe]
  repeat' (first | (simp (disch := (first | omega | rfl | exact rfl | (simp only [cells_v, List.length_cons, List.length_nil]; done) | exact VExp.width _)) only [VExp.cells, VExp.isAgg, VExp.storable, VExp.eta, wrapI, wrapS, wrapA, wrapA1, lt0, WA, Nat.reduceEqDiff, Nat.reduceAdd, Nat.reduceLT, Nat.reduceLeDiff, Nat.reduceMul, reduceIte, reduceCtorEq, Int.reduceEq, Int.reduceLT, Int.reduceLE, Int.reduceNe]) | (refine ite_dec (fun hq => ?_) (fun hq => ?_) <;> (try simp only [hq, decide_true, decide_false, Bool.not_true, Bool.not_false, Bool.not_eq_true', Bool.not_eq_false']) <;> (try (exfalso; omega))) | (refine ite_ndec (fun hq => ?_) (fun hq => ?_) <;> (try simp only [hq, decide_true, decide_false, Bool.not_true, Bool.not_false, Bool.not_eq_true', Bool.not_eq_false']) <;> (try (exfalso; omega))) | (refine ite_intro (fun hq => ?_) (fun hq => ?_) <;> (try simp only [hq, decide_true, decide_false, Bool.not_true, Bool.not_false, Bool.not_eq_true', Bool.not_eq_false']) <;> (try (exfalso; omega))) | (refine bind_push ?_) | (refine dr_below (by assumption) _ (by omega) fun m c' h0 h1 hc' => ?_) | (refine dr_name (by assumption) fun s c' hs hc' => ?_) | (refine dr_up (by assumption) fun s c' hs hc' => ?_) | (refine dr_once (by assumption) _ fun b c' hc' => ?_) | (refine dr_int (by assumption) inL (by simp [inL]) (by decide) fun m c' hm hc' => ?_; have hm2 := inL_ok _ hm) | (refine dr_str (by assumption) txL (by simp [txL]) (by decide) fun s c' hs hc' => ?_; have hs2 := txL_ok _ hs) | (refine dxE_nil (by assumption) ?_))
  all_goals first
    | exact eg0 (Nat.le_refl _) (by omega) (.inl ⟨by omega, rfl, rfl, by omega, by omega⟩)
    | exact eg0 (Nat.le_refl _) (by omega) (.inr (.inl ⟨by omega, rfl, by assumption, rfl⟩))
    | exact eg0 (Nat.le_refl _) (by omega) (.inr (.inr (.inl ⟨by omega, rfl, rfl, by omega, by omega⟩)))
    | exact eg0 (Nat.le_refl _) (by omega) (.inr (.inr (.inr (.inl ⟨by omega, rfl, rfl, rfl⟩))))
    | exact eg0 (Nat.le_refl _) (by omega) (.inr (.inr (.inr (.inr (.inl ⟨by omega, by assumption, rfl, rfl⟩)))))
    | exact eg0 (Nat.le_refl _) (by omega) (.inr (.inr (.inr (.inr (.inr (.inl ⟨by omega, by assumption, rfl, rfl⟩))))))
    | exact eg0 (Nat.le_refl _) (by omega) (.inr (.inr (.inr (.inr (.inr (.inr ⟨rfl, rfl, rfl, rfl⟩))))))
    | skip
  all_goals trace_state
theorem exps_c {d : Int} {B : Nat} (hd : 0 < d ∧ d ≤ 100) (hE : ∀ c : Cur, c.ok → DExp (d - 1) B c) {c : Cur} (hc : c.ok) (many : Int) (h0 : 0 ≤ many) (h3 : many ≤ 3) : Drawn Tryz.prog F.spec_l2DrawExps G.spec_l2DrawExps [.sl (bys c.l), avI c.i, avI c.h, avI d, avI many] esAv (fun xs => (xs.length : Int) = many ∧ ∀ x ∈ xs, EG B x) := by
  obtain ⟨x1, c1, hx1, hc1, _⟩ := hE c hc
  refine Drawn.intro rfl rfl (fun outs ho hw => T.spec_l2DrawExps_scon rfl ho (by simp [AV.norefs, AV.noref, bys_noref]) hw) (List.replicate many.toNat x1) ⟨by simp; omega, fun x hx => by rw [(List.mem_replicate.1 hx).2]; exact hx1⟩ c hc ?_
  simp only [T.spec_l2DrawExps, WA, Nat.reduceEqDiff, Nat.reduceAdd, Nat.reduceLT, Nat.reduceLeDiff, Nat.reduceMul, reduceIte, reduceCtorEq, Int.reduceEq, Int.reduceLT, Int.reduceLE, Int.reduceNe]
  repeat' (first | (simp (disch := (first | omega | rfl | exact rfl | (simp only [cells_v, List.length_cons, List.length_nil]; done) | exact VExp.width _)) only [hel, hely, hd, hdy, VExp.cells, VExp.isAgg, VExp.storable, VExp.eta, wrapI, wrapS, wrapA, wrapA1, lt0, WA, Nat.reduceEqDiff, Nat.reduceAdd, Nat.reduceLT, Nat.reduceLeDiff, Nat.reduceMul, reduceIte, reduceCtorEq, Int.reduceEq, Int.reduceLT, Int.reduceLE, Int.reduceNe]) | (simp (disch := (first | omega | rfl | exact rfl | (simp only [cells_v, List.length_cons, List.length_nil]; done) | exact VExp.width _)) only [hel, hd, VExp.cells, VExp.isAgg, VExp.storable, VExp.eta, wrapI, wrapS, wrapA, wrapA1, lt0, WA, Nat.reduceEqDiff, Nat.reduceAdd, Nat.reduceLT, Nat.reduceLeDiff, Nat.reduceMul, reduceIte, reduceCtorEq, Int.reduceEq, Int.reduceLT, Int.reduceLE, Int.reduceNe]) | (simp (disch := (first | omega | rfl | exact rfl | (simp only [cells_v, List.length_cons, List.length_nil]; done) | exact VExp.width _)) only [hd, hdy, VExp.cells, VExp.isAgg, VExp.storable, VExp.eta, wrapI, wrapS, wrapA, wrapA1, lt0, WA, Nat.reduceEqDiff, Nat.reduceAdd, Nat.reduceLT, Nat.reduceLeDiff, Nat.reduceMul, reduceIte, reduceCtorEq, Int.reduceEq, Int.reduceLT, Int.reduceLE, Int.reduceNe]) | (simp (disch := (first | omega | rfl | exact rfl | (simp only [cells_v, List.length_cons, List.length_nil]; done) | exact VExp.width _)) only [hix, hd, VExp.cells, VExp.isAgg, VExp.storable, VExp.eta, wrapI, wrapS, wrapA, wrapA1, lt0, WA, Nat.reduceEqDiff, Nat.reduceAdd, Nat.reduceLT, Nat.reduceLeDiff, Nat.reduceMul, reduceIte, reduceCtorEq, Int.reduceEq, Int.reduceLT, Int.reduceLE, Int.reduceNe]) | (simp (disch := (first | omega | rfl | exact rfl | (simp only [cells_v, List.length_cons, List.length_nil]; done) | exact VExp.width _)) only [hd, VExp.cells, VExp.isAgg, VExp.storable, VExp.eta, wrapI, wrapS, wrapA, wrapA1, lt0, WA, Nat.reduceEqDiff, Nat.reduceAdd, Nat.reduceLT, Nat.reduceLeDiff, Nat.reduceMul, reduceIte, reduceCtorEq, Int.reduceEq, Int.reduceLT, Int.reduceLE, Int.reduceNe]) | (simp (disch := (first | omega | rfl | exact rfl | (simp only [cells_v, List.length_cons, List.length_nil]; done) | exact VExp.width _)) only [VExp.cells, VExp.isAgg, VExp.storable, VExp.eta, wrapI, wrapS, wrapA, wrapA1, lt0, WA, Nat.reduceEqDiff, Nat.reduceAdd, Nat.reduceLT, Nat.reduceLeDiff, Nat.reduceMul, reduceIte, reduceCtorEq, Int.reduceEq, Int.reduceLT, Int.reduceLE, Int.reduceNe]) | (refine ite_dec (fun hq => ?_) (fun hq => ?_) <;> (try simp only [hq, decide_true, decide_false, Bool.not_true, Bool.not_false, Bool.not_eq_true', Bool.not_eq_false']) <;> (try (exfalso; omega))) | (refine ite_ndec (fun hq => ?_) (fun hq => ?_) <;> (try simp only [hq, decide_true, decide_false, Bool.not_true, Bool.not_false, Bool.not_eq_true', Bool.not_eq_false']) <;> (try (exfalso; omega))) | (refine ite_intro (fun hq => ?_) (fun hq => ?_) <;> (try simp only [hq, decide_true, decide_false, Bool.not_true, Bool.not_false, Bool.not_eq_true', Bool.not_eq_false']) <;> (try (exfalso; omega))) | (refine bind_push ?_) | (refine dr_exp hE (by assumption) fun x c' hx hc' => ?_) | (refine loop_upD VExp.av (EG B) (by assumption) many h0 fun c xs hc hxs hle => ?_))
  all_goals first
    | exact ⟨fun y hy => by rw [hy]; exact VExp.width _, by omega, by omega, _, _, by assumption, by assumption, rfl⟩
    | exact dx_ret (by assumption) _ (.refl _) ⟨by omega, by assumption⟩
    | skip
  all_goals trace_state
theorem drawExp_c (n : Nat) : ∀ (d : Int), 0 ≤ d → d ≤ n → n ≤ 100 → ∀ {c : Cur}, c.ok → DExp d (EB n) c := by
  induction n with
  | zero =>
    intro d hd0 hd _ c hc
    refine Drawn.intro rfl rfl (fun outs ho hw => T.spec_l2DrawExp_scon rfl ho (by simp [AV.norefs, AV.noref, bys_noref]) hw) (.mk 4 emp 0 emp 0 [] []) (eg0 (Nat.le_refl _) (by omega) (.inr (.inr (.inr (.inl ⟨rfl, rfl, rfl, rfl⟩))))) c hc ?_
    simp only [T.spec_l2DrawExp, WA, Nat.reduceEqDiff, Nat.reduceAdd, Nat.reduceLT, Nat.reduceLeDiff, Nat.reduceMul, reduceIte, reduceCtorEq, Int.reduceEq, Int.reduceLT, Int.reduceLE, Int.reduceNe]
    repeat' (first | (simp (disch := (first | omega | rfl | exact rfl | (simp only [cells_v, List.length_cons, List.length_nil]; done) | exact VExp.width _)) only [hd, VExp.cells, VExp.isAgg, VExp.storable, VExp.eta, wrapI, wrapS, wrapA, wrapA1, lt0, WA, Nat.reduceEqDiff, Nat.reduceAdd, Nat.reduceLT, Nat.reduceLeDiff, Nat.reduceMul, reduceIte, reduceCtorEq, Int.reduceEq, Int.reduceLT, Int.reduceLE, Int.reduceNe]) | (simp (disch := (first | omega | rfl | exact rfl | (simp only [cells_v, List.length_cons, List.length_nil]; done) | exact VExp.width _)) only [VExp.cells, VExp.isAgg, VExp.storable, VExp.eta, wrapI, wrapS, wrapA, wrapA1, lt0, WA, Nat.reduceEqDiff, Nat.reduceAdd, Nat.reduceLT, Nat.reduceLeDiff, Nat.reduceMul, reduceIte, reduceCtorEq, Int.reduceEq, Int.reduceLT, Int.reduceLE, Int.reduceNe]) | (refine ite_dec (fun hq => ?_) (fun hq => ?_) <;> (try simp only [hq, decide_true, decide_false, Bool.not_true, Bool.not_false, Bool.not_eq_true', Bool.not_eq_false']) <;> (try (exfalso; omega))) | (refine ite_ndec (fun hq => ?_) (fun hq => ?_) <;> (try simp only [hq, decide_true, decide_false, Bool.not_true, Bool.not_false, Bool.not_eq_true', Bool.not_eq_false']) <;> (try (exfalso; omega))) | (refine ite_intro (fun hq => ?_) (fun hq => ?_) <;> (try simp only [hq, decide_true, decide_false, Bool.not_true, Bool.not_false, Bool.not_eq_true', Bool.not_eq_false']) <;> (try (exfalso; omega))) | (refine bind_push ?_) | (refine (drawLeaf_c (by assumption)).use rfl VExp.noref fun x c' hx hc' => ?_))
    all_goals first
      | exact dx_ret (by assumption) _ (.refl _) (by assumption)
      | skip
    all_goals trace_state
  | succ n ih =>
    intro d hd0 hd hn c hc
    have ihe : 0 < d → ∀ c : Cur, c.ok → DExp (d - 1) (EB n) c := fun h0 c hc => ih (d - 1) (by omega) (by omega) (by omega) hc
    have hp : ∀ c : Cur, c.ok → DPat 2 48 c := fun c hc => drawPat_c 2 2 (by omega) (by omega) (by omega) hc
    refine Drawn.intro rfl rfl (fun outs ho hw => T.spec_l2DrawExp_scon rfl ho (by simp [AV.norefs, AV.noref, bys_noref]) hw) (.mk 4 emp 0 emp 0 [] []) (eg0 (EB_ge _) (by omega) (.inr (.inr (.inr (.inl ⟨rfl, rfl, rfl, rfl⟩))))) c hc ?_
    simp only [T.spec_l2DrawExp, WA, Nat.reduceEqDiff, Nat.reduceAdd, Nat.reduceLT, Nat.reduceLeDiff, Nat.reduceMul, reduceIte, reduceCtorEq, Int.reduceEq, Int.reduceLT, Int.reduceLE, Int.reduceNe]
    repeat' (first | (simp (disch := (first | omega | rfl | exact rfl | (simp only [cells_v, List.length_cons, List.length_nil]; done) | exact VExp.width _ | exact VPat.width _)) only [hel, hely, hd, hdy, VExp.cells, VExp.isAgg, VExp.storable, VExp.eta, VPat.cells, VPat.isAgg, VPat.storable, VPat.eta, wrapI, armE, esAv_eq, wrapS, wrapA, wrapA1, lt0, WA, Nat.reduceEqDiff, Nat.reduceAdd, Nat.reduceLT, Nat.reduceLeDiff, Nat.reduceMul, reduceIte, reduceCtorEq, Int.reduceEq, Int.reduceLT, Int.reduceLE, Int.reduceNe]) | (simp (disch := (first | omega | rfl | exact rfl | (simp only [cells_v, List.length_cons, List.length_nil]; done) | exact VExp.width _ | exact VPat.width _)) only [hel, hd, VExp.cells, VExp.isAgg, VExp.storable, VExp.eta, VPat.cells, VPat.isAgg, VPat.storable, VPat.eta, wrapI, armE, esAv_eq, wrapS, wrapA, wrapA1, lt0, WA, Nat.reduceEqDiff, Nat.reduceAdd, Nat.reduceLT, Nat.reduceLeDiff, Nat.reduceMul, reduceIte, reduceCtorEq, Int.reduceEq, Int.reduceLT, Int.reduceLE, Int.reduceNe]) | (simp (disch := (first | omega | rfl | exact rfl | (simp only [cells_v, List.length_cons, List.length_nil]; done) | exact VExp.width _ | exact VPat.width _)) only [hd, hdy, VExp.cells, VExp.isAgg, VExp.storable, VExp.eta, VPat.cells, VPat.isAgg, VPat.storable, VPat.eta, wrapI, armE, esAv_eq, wrapS, wrapA, wrapA1, lt0, WA, Nat.reduceEqDiff, Nat.reduceAdd, Nat.reduceLT, Nat.reduceLeDiff, Nat.reduceMul, reduceIte, reduceCtorEq, Int.reduceEq, Int.reduceLT, Int.reduceLE, Int.reduceNe]) | (simp (disch := (first | omega | rfl | exact rfl | (simp only [cells_v, List.length_cons, List.length_nil]; done) | exact VExp.width _ | exact VPat.width _)) only [hix, hd, VExp.cells, VExp.isAgg, VExp.storable, VExp.eta, VPat.cells, VPat.isAgg, VPat.storable, VPat.eta, wrapI, armE, esAv_eq, wrapS, wrapA, wrapA1, lt0, WA, Nat.reduceEqDiff, Nat.reduceAdd, Nat.reduceLT, Nat.reduceLeDiff, Nat.reduceMul, reduceIte, reduceCtorEq, Int.reduceEq, Int.reduceLT, Int.reduceLE, Int.reduceNe]) | (simp (disch := (first | omega | rfl | exact rfl | (simp only [cells_v, List.length_cons, List.length_nil]; done) | exact VExp.width _ | exact VPat.width _)) only [hd, VExp.cells, VExp.isAgg, VExp.storable, VExp.eta, VPat.cells, VPat.isAgg, VPat.storable, VPat.eta, wrapI, armE, esAv_eq, wrapS, wrapA, wrapA1, lt0, WA, Nat.reduceEqDiff, Nat.reduceAdd, Nat.reduceLT, Nat.reduceLeDiff, Nat.reduceMul, reduceIte, reduceCtorEq, Int.reduceEq, Int.reduceLT, Int.reduceLE, Int.reduceNe]) | (simp (disch := (first | omega | rfl | exact rfl | (simp only [cells_v, List.length_cons, List.length_nil]; done) | exact VExp.width _ | exact VPat.width _)) only [VExp.cells, VExp.isAgg, VExp.storable, VExp.eta, VPat.cells, VPat.isAgg, VPat.storable, VPat.eta, wrapI, armE, esAv_eq, wrapS, wrapA, wrapA1, lt0, WA, Nat.reduceEqDiff, Nat.reduceAdd, Nat.reduceLT, Nat.reduceLeDiff, Nat.reduceMul, reduceIte, reduceCtorEq, Int.reduceEq, Int.reduceLT, Int.reduceLE, Int.reduceNe]) | (refine ite_dec (fun hq => ?_) (fun hq => ?_) <;> (try simp only [hq, decide_true, decide_false, Bool.not_true, Bool.not_false, Bool.not_eq_true', Bool.not_eq_false']) <;> (try (exfalso; omega))) | (refine ite_ndec (fun hq => ?_) (fun hq => ?_) <;> (try simp only [hq, decide_true, decide_false, Bool.not_true, Bool.not_false, Bool.not_eq_true', Bool.not_eq_false']) <;> (try (exfalso; omega))) | (refine ite_intro (fun hq => ?_) (fun hq => ?_) <;> (try simp only [hq, decide_true, decide_false, Bool.not_true, Bool.not_false, Bool.not_eq_true', Bool.not_eq_false']) <;> (try (exfalso; omega))) | (refine bind_push ?_) | (refine (drawLeaf_c (by assumption)).use rfl VExp.noref fun x c' hx hc' => ?_) | (refine dr_below (by assumption) _ (by omega) fun m c' h0 h1 hc' => ?_) | (refine dr_name (by assumption) fun s c' hs hc' => ?_) | (refine dr_up (by assumption) fun s c' hs hc' => ?_) | (refine dr_once (by assumption) _ fun b c' hc' => ?_) | (refine dr_str (by assumption) binS (by simp [binS]) (by decide) fun s c' hs hc' => ?_; have hs2 := opL_ok _ hs) | (refine dr_str (by assumption) prL (by simp [prL]) (by decide) fun s c' hs hc' => ?_; have hs2 := prL_ok _ hs) | (refine dr_exp (ihe (by omega)) (by assumption) fun x c' hx hc' => ?_) | (refine dr_pat hp (by assumption) fun x c' hx hc' => ?_) | (refine (exps_c (by omega) (ihe (by omega)) (by assumption) _ (by omega) (by omega)).use rfl (fun xs => by simp [esAv, AV.noref, norefsM VExp.noref]) fun xs c' hx hc' => ?_; obtain ⟨hx1, hx2⟩ := hx) | (refine loop_down VArm.av (AG (EB n)) (by assumption) _ (by omega) fun c xs i hc hxs hi0 hin => ?_) | (refine dxE_sl (by assumption) _ [] ?_) | (refine dxE_sl (by assumption) _ _ ?_))
    all_goals first
      | exact dx_ret (by assumption) _ (.refl _) (EG.mono (by assumption) (EB_ge _))
      | exact eg1 (b := EB n) (by omega) (by simp only [EB]; omega) (by assumption) (by first | assumption | simp) (.inl ⟨rfl, by assumption, rfl, rfl, by omega⟩)
      | exact eg1 (b := EB n) (by omega) (by simp only [EB]; omega) (by assumption) (by first | assumption | simp) (.inr (.inl ⟨rfl, rfl, rfl, rfl, by omega, by omega⟩))
      | exact eg1 (b := EB n) (by omega) (by simp only [EB]; omega) (by assumption) (by first | assumption | simp) (.inr (.inr (.inl ⟨rfl, by assumption, rfl, rfl, by omega⟩)))
      | exact eg1 (b := EB n) (by omega) (by simp only [EB]; omega) (by assumption) (by first | assumption | simp) (.inr (.inr (.inr (.inl ⟨by omega, rfl, rfl, rfl, by omega⟩))))
      | exact eg1 (b := EB n) (by omega) (by simp only [EB]; omega) (by assumption) (by first | assumption | simp) (.inr (.inr (.inr (.inr (.inl ⟨rfl, by assumption, rfl, rfl, by omega⟩)))))
      | exact eg1 (b := EB n) (by omega) (by simp only [EB]; omega) (by assumption) (by first | assumption | simp) (.inr (.inr (.inr (.inr (.inr (.inl ⟨rfl, by assumption, by assumption, rfl, by omega⟩))))))
      | exact eg1 (b := EB n) (by omega) (by simp only [EB]; omega) (by assumption) (by first | assumption | simp) (.inr (.inr (.inr (.inr (.inr (.inr (.inl ⟨rfl, rfl, rfl, rfl, by omega⟩)))))))
      | exact eg1 (b := EB n) (by omega) (by simp only [EB]; omega) (by assumption) (by first | assumption | simp) (.inr (.inr (.inr (.inr (.inr (.inr (.inr (.inl ⟨rfl, rfl, rfl, ⟨by omega, by omega⟩, by omega⟩))))))))
      | exact eg1 (b := EB n) (by omega) (by simp only [EB]; omega) (by assumption) (by first | assumption | simp) (.inr (.inr (.inr (.inr (.inr (.inr (.inr (.inr (.inl ⟨rfl, by assumption, rfl, rfl, by omega⟩)))))))))
      | exact eg1 (b := EB n) (by omega) (by simp only [EB]; omega) (by assumption) (by first | assumption | simp) (.inr (.inr (.inr (.inr (.inr (.inr (.inr (.inr (.inr (⟨rfl, by assumption, rfl, rfl, by omega⟩))))))))))
      | exact ⟨rfl, VArm.width _, VArm.storable _, fun y hy => by rw [hy]; exact VArm.width _, by omega, by omega, _, _, by assumption, AG.of (by assumption) (by assumption), rfl⟩
      | skip
    all_goals trace_state
end Go.Proofs.Ab
