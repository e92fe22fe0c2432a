/-
  TREES THAT ARE DRAWN: types, programs.
-/
import Derived.Test.YtimcinieaeaolaaGreatDoorCTree2
set_option linter.unusedVariables false
set_option linter.unusedSimpArgs false
set_option linter.defProp false
namespace Go.Ab
set_option maxRecDepth 100000
set_option maxHeartbeats 4000000
theorem loop_upR {P : Program} {R : AV → Prop} {t : T} {r : List AV} {S : List (List AV → Prop)} {X : Type} (av : X → AV) (good : X → Prop) {c0 : Cur} (hc0 : c0.ok) (k : Nat) {n : Int} (hk : r.getD k .top = avI n) (hn : 0 ≤ n)
    (hr : ∀ (c : Cur) (xs : List X), c.ok → (∀ x ∈ xs, good x) → (xs.length : Int) ≤ n →
      wpT P LF R t (r ++ [.sl (bys c.l), avI c.i, avI c.h, .sl (xs.map av), avI (xs.length : Int)]) ((fun vs => (xs.length : Int) < n ∧ ∃ c' x, Cur.ok c' ∧ good x ∧ vs = [.sl (bys c'.l), avI c'.i, avI c'.h, .sl (xs.map av ++ [av x]), avI ((xs.length : Int) + 1)]) :: S)) :
    loopT P LF R [.sl (bys c0.l), avI c0.i, avI c0.h, .sl [], avI 0] t r S := loop_upD av good hc0 n hn hr
structure TG (B : Nat) (x : VTypeExp) : Prop where
  okM : x.okM = true
  ok : x.ok
  wt : x.wt ≤ B
theorem TG.mono {B C : Nat} {x : VTypeExp} (h : TG B x) (hb : B ≤ C) : TG C x := ⟨h.okM, h.ok, Nat.le_trans h.wt hb⟩
def TB : Nat → Nat
  | 0 => 4
  | n + 1 => 7 + 3 * TB n
theorem TB_ge (n : Nat) : 4 ≤ TB n := by induction n <;> simp only [TB] <;> omega
def tyL : List ByteArray := [⟨#[105, 110, 116]⟩, ⟨#[98, 111, 111, 108]⟩, ⟨#[117, 110, 105, 116]⟩, ⟨#[115, 116, 114]⟩, ⟨#[116]⟩]
def dtL : List ByteArray := [⟨#[116]⟩, ⟨#[117]⟩, ⟨#[108, 105, 115, 116]⟩]
theorem tyL_low : ∀ s ∈ tyL, goodLow s := by unfold goodLow tyL; decide +kernel
theorem dtL_low : ∀ s ∈ dtL, goodLow s := by unfold goodLow dtL; decide +kernel
theorem t_low : goodLow ⟨#[116]⟩ := by unfold goodLow; decide +kernel
theorem a_var : varM ⟨#[97]⟩ = true := by decide +kernel
theorem TG.of {K P : Int} {N : ByteArray} {kids : List VTypeExp} {b B : Nat} (hh : (VTypeExp.mk K N P kids).headT = true) (hK : 0 ≤ K ∧ K ≤ 9) (hP : 0 ≤ P ∧ P ≤ 9) (hk : ∀ x ∈ kids, TG b x) (hs : N.size + (kids.length + kids.length * b) ≤ B) : TG B (.mk K N P kids) := by
  refine ⟨?_, ?_, ?_⟩
  · rw [VTypeExp.okM_eq, hh, Bool.true_and, List.all_eq_true]
    exact fun x hx => (hk x hx).okM
  · rw [VTypeExp.ok_iff]
    simp only [VTypeExp.Kind, VTypeExp.Pos, VTypeExp.Kids, inR]
    exact ⟨⟨by omega, by omega⟩, ⟨by omega, by omega⟩, fun x hx => (hk x hx).ok⟩
  · rw [VTypeExp.wt_eq]
    simp only [VTypeExp.Name, VTypeExp.Kids]
    have := sum_le_len VTypeExp.wt b kids fun x hx => (hk x hx).wt
    omega
theorem tg {B b : Nat} {K : Int} {N : ByteArray} {kids : List VTypeExp} (hB : 7 + 3 * b ≤ B) (hk : ∀ x ∈ kids, TG b x) (h : (K = 1 ∧ goodLow N ∧ kids.length ≤ 3) ∨ (K = 3 ∧ N = emp ∧ kids.length = 2) ∨ (K = 4 ∧ N = emp ∧ 2 ≤ kids.length ∧ kids.length ≤ 3) ∨ (K = 5 ∧ N = emp ∧ kids.length = 1)) : TG B (.mk K N 0 kids) := by
  have he : emp.size = 0 := rfl
  have hkb : kids.length ≤ 3 → kids.length * b ≤ 3 * b := fun h => Nat.mul_le_mul_right _ h
  rcases h with ⟨rfl, ⟨h1, h2⟩, h3⟩ | ⟨rfl, rfl, h3⟩ | ⟨rfl, rfl, h3, h4⟩ | ⟨rfl, rfl, h3⟩
  all_goals refine TG.of ?_ (by omega) (by omega) hk (by have := hkb (by omega); omega)
  all_goals simp [VTypeExp.headT, VTypeExp.Kind, VTypeExp.Name, VTypeExp.Pos, VTypeExp.Kids, *]
theorem tg0 {B : Nat} {K : Int} {N : ByteArray} (hB : 4 ≤ B) (h : (K = 1 ∧ goodLow N) ∨ (K = 2 ∧ N = ⟨#[97]⟩)) : TG B (.mk K N 0 []) := by
  have h1 : (⟨#[97]⟩ : ByteArray).size = 1 := rfl
  rcases h with ⟨rfl, h2, h3⟩ | ⟨rfl, rfl⟩
  all_goals refine TG.of (b := 0) ?_ (by omega) (by omega) (by simp) (by simp only [List.length_nil]; omega)
  all_goals simp [VTypeExp.headT, VTypeExp.Kind, VTypeExp.Name, VTypeExp.Pos, VTypeExp.Kids, a_var, *]
theorem leT {K P : Int} {N : ByteArray} : AV.leD (.agg [avI K, avB N, avI P, .nils]) (VTypeExp.mk K N P []).av := by
  refine .agg _ _ rfl fun i c d hc hd => ?_
  rcases i with _ | _ | _ | _ | i <;> simp [VTypeExp.av, VTypeExp.cs, VTypeExp.avs] at hc hd <;> subst hc <;> subst hd <;> first | exact .refl _ | exact .nil
theorem dxT_nil {c : Cur} (hc : c.ok) {K P : Int} {N : ByteArray} {good : VTypeExp → Prop} (hg : good (.mk K N P [])) : retT (dx VTypeExp.av good) [.agg [avI K, avB N, avI P, .nils], .sl (bys c.l), avI c.i, avI c.h] := dx_ret hc _ leT hg
theorem dxT_sl {c : Cur} (hc : c.ok) {K P : Int} {N : ByteArray} (kids : List VTypeExp) {good : VTypeExp → Prop} (hg : good (.mk K N P kids)) : retT (dx VTypeExp.av good) [.agg [avI K, avB N, avI P, .sl (kids.map VTypeExp.av)], .sl (bys c.l), avI c.i, avI c.h] :=
  dx_ret hc _ (by rw [← VTypeExp.eta]; exact .refl _) hg
/- values whose parts may be nil -/
def leC (a b : AV) : Prop := a.cells.length = b.cells.length ∧ ∀ (j : Nat) (c d : AV), a.cells[j]? = some c → b.cells[j]? = some d → AV.leD c d
theorem leSl {V : Type} {av : V → AV} (qs : List (AV × V)) (h : ∀ q ∈ qs, leC q.1 (av q.2)) : AV.leD (.sl (qs.map Prod.fst)) (.sl ((qs.map Prod.snd).map av)) := by
  have key : ∀ (i : Nat) (x y : AV), (qs.map Prod.fst)[i]? = some x → ((qs.map Prod.snd).map av)[i]? = some y → leC x y := by
    intro i x y hx hy
    rw [List.getElem?_map] at hx
    rw [List.map_map, List.getElem?_map] at hy
    cases hq : qs[i]? with
    | none => rw [hq] at hx; simp at hx
    | some q =>
      rw [hq] at hx hy
      simp only [Option.map_some, Option.some.injEq, Function.comp_apply] at hx hy
      subst hx; subst hy
      exact h q (List.mem_of_getElem? hq)
  exact .sl _ _ (by simp) (fun i x y hx hy => (key i x y hx hy).1) fun i x y j c d hx hy hc hd => (key i x y hx hy).2 j c d hc hd
structure CG (B : Nat) (x : VCtor) : Prop where
  okM : x.okM = true
  ok : x.ok
  wt : x.wt ≤ B
structure DG (B : Nat) (x : VData) : Prop where
  okM : x.okM = true
  ok : x.ok
  wt : x.wt ≤ B
structure QG (B : Nat) (x : VProg) : Prop where
  okM : x.okM = true
  ok : x.ok
  wt : x.wt ≤ B
def CQ (q : AV × VCtor) : Prop := leC q.1 q.2.av ∧ q.1.noref = true ∧ q.1.cells.length = 7 ∧ CG 68 q.2
def DQ (q : AV × VData) : Prop := leC q.1 q.2.av ∧ q.1.noref = true ∧ q.1.cells.length = 4 ∧ DG 240 q.2
theorem cq1 {N : ByteArray} (hN : goodUp N) {x : VTypeExp} (hx : TG 64 x) : CQ (.agg [avB N, .v (.bool true), avI x.Kind, avB x.Name, avI x.Pos, .sl (x.Kids.map VTypeExp.av), avI 0], .mk N true x 0) := by
  have he : AV.agg [avB N, .v (.bool true), avI x.Kind, avB x.Name, avI x.Pos, .sl (x.Kids.map VTypeExp.av), avI 0] = (VCtor.mk N true x 0).av := VCtor.eta (.mk N true x 0)
  rw [he]
  refine ⟨⟨rfl, fun j c d hc hd => by rw [hc] at hd; cases hd; exact .refl _⟩, VCtor.noref _, VCtor.width _, ⟨?_, ?_, ?_⟩⟩
  · simp [VCtor.okM, VCtor.Name, VCtor.Has, VCtor.Arg, VCtor.Pos, hN.1, hx.okM]
  · rw [VCtor.ok_iff]; exact ⟨hx.ok, by simp [VCtor.Pos, inR]⟩
  · rw [VCtor.wt_eq]; have := hx.wt; have := hN.2; simp only [VCtor.Name, VCtor.Arg]; omega
theorem cq0 {N : ByteArray} (hN : goodUp N) : CQ (.agg [avB N, .v (.bool false), avI 0, avB ⟨#[]⟩, avI 0, .nils, avI 0], .mk N false (.mk 0 emp 0 []) 0) := by
  refine ⟨⟨by rw [VCtor.width]; rfl, fun j c d hc hd => ?_⟩, by simp [AV.noref, AV.norefs], rfl, ⟨?_, ?_, ?_⟩⟩
  · rw [VCtor.cells] at hd
    simp only [AV.cells, VCtor.Name, VCtor.Has, VCtor.Arg, VCtor.Pos, VTypeExp.Kind, VTypeExp.Name, VTypeExp.Pos, VTypeExp.Kids, List.map_nil] at hc hd
    rcases j with _ | _ | _ | _ | _ | _ | _ | j <;> simp at hc hd <;> subst hc <;> subst hd <;> first | exact .refl _ | exact .nil
  · simp [VCtor.okM, VCtor.Name, VCtor.Has, VCtor.Arg, VCtor.Pos, hN.1, VTypeExp.noneM, VTypeExp.Kind, VTypeExp.Name, VTypeExp.Pos, VTypeExp.Kids]
  · rw [VCtor.ok_iff, VTypeExp.ok_iff]
    simp only [VCtor.Pos, VCtor.Arg, VTypeExp.Kind, VTypeExp.Pos, VTypeExp.Kids, inR]
    exact ⟨⟨⟨by decide, by decide⟩, ⟨by decide, by decide⟩, by simp⟩, by decide, by decide⟩
  · rw [VCtor.wt_eq]; have := hN.2
    have he : emp.size = 0 := rfl
    simp only [VCtor.Name, VCtor.Arg, VTypeExp.wt_eq, VTypeExp.Name, VTypeExp.Kids, List.length_nil, List.map_nil, List.sum_nil, he]; omega
theorem dq {N : ByteArray} (hN : goodLow N) {vs : AV} {vars : List ByteArray} (hv : AV.leD vs (.sl (vars.map avB))) (hvn : vs.noref = true) (hva : vars = [] ∨ vars = [⟨#[97]⟩]) (qs : List (AV × VCtor)) (hq : ∀ q ∈ qs, CQ q) (h0 : 0 < qs.length) (h3 : qs.length ≤ 3) :
    DQ (.agg [avB N, vs, .sl (qs.map Prod.fst), avI 0], .mk N vars (qs.map Prod.snd) 0) := by
  refine ⟨⟨by rw [VData.width]; rfl, fun j c d hc hd => ?_⟩, ?_, rfl, ⟨?_, ?_, ?_⟩⟩
  · rw [VData.cells] at hd
    simp only [AV.cells, VData.Name, VData.Vars, VData.Ctors, VData.Pos] at hc hd
    rcases j with _ | _ | _ | _ | j <;> simp only [List.getElem?_cons_zero, List.getElem?_cons_succ, List.getElem?_nil, Option.some.injEq, reduceCtorEq] at hc hd <;> subst hc <;> subst hd
    · exact .refl _
    · exact hv
    · exact leSl qs fun q h => (hq q h).1
    · exact .refl _
  · simp only [AV.noref, AV.norefs, hvn, Bool.true_and, Bool.and_true]
    exact norefs_of fun a ha => by obtain ⟨q, h, rfl⟩ := List.mem_map.1 ha; exact (hq q h).2.1
  · simp only [VData.okM, VData.Name, VData.Pos, VData.Ctors, VData.Vars, hN.1, List.length_map, Bool.and_eq_true, decide_eq_true_eq, List.all_eq_true]
    refine ⟨⟨⟨⟨trivial, rfl⟩, h0⟩, fun v hv => ?_⟩, fun x hx => ?_⟩
    · rcases hva with rfl | rfl
      · simp at hv
      · rw [List.mem_singleton.1 hv]; exact a_var
    · obtain ⟨q, h, rfl⟩ := List.mem_map.1 hx
      exact (hq q h).2.2.2.okM
  · rw [VData.ok_iff]
    refine ⟨fun x hx => ?_, by simp [VData.Pos, inR]⟩
    obtain ⟨q, h, rfl⟩ := List.mem_map.1 hx
    exact (hq q h).2.2.2.ok
  · rw [VData.wt_eq]
    simp only [VData.Name, VData.Vars, VData.Ctors]
    have h1 := sum_le_len VCtor.wt 68 (qs.map Prod.snd) fun x hx => by obtain ⟨q, h, rfl⟩ := List.mem_map.1 hx; exact (hq q h).2.2.2.wt
    have h2 : vars.length + (vars.map fun x => x.size).sum ≤ 2 := by rcases hva with rfl | rfl <;> decide
    have := hN.2
    rw [List.length_map] at h1 ⊢
    omega
theorem qg {n : Nat} (qs : List (AV × VData)) (hq : ∀ q ∈ qs, DQ q) (h3 : qs.length ≤ 2) {x : VExp} (hx : EG (EB n) x) : QG (482 + EB n) (.mk (qs.map Prod.snd) x) := by
  refine ⟨?_, ?_, ?_⟩
  · simp only [VProg.okM, VProg.Types, VProg.Body, Bool.and_eq_true, List.all_eq_true]
    exact ⟨fun y hy => by obtain ⟨q, h, rfl⟩ := List.mem_map.1 hy; exact (hq q h).2.2.2.okM, hx.okM⟩
  · rw [VProg.ok_iff]
    exact ⟨fun y hy => by obtain ⟨q, h, rfl⟩ := List.mem_map.1 hy; exact (hq q h).2.2.2.ok, hx.ok⟩
  · rw [VProg.wt_eq]
    simp only [VProg.Types, VProg.Body]
    have h1 := sum_le_len VData.wt 240 (qs.map Prod.snd) fun x hx => by obtain ⟨q, h, rfl⟩ := List.mem_map.1 hx; exact (hq q h).2.2.2.wt
    have := hx.wt
    rw [List.length_map] at h1 ⊢
    omega
theorem leQ (qs : List (AV × VData)) (hq : ∀ q ∈ qs, DQ q) (x : VExp) : AV.leD (.agg [.sl (qs.map Prod.fst), avI x.Kind, avB x.Name, avI x.Num, avB x.Text, avI x.Pos, .sl (x.Kids.map VExp.av), .sl (x.Arms.map VArm.av)]) (VProg.mk (qs.map Prod.snd) x).av := by
  rw [← VProg.eta]
  refine .agg _ _ rfl fun i c d hc hd => ?_
  simp only [VProg.Types, VProg.Body] at hd
  rcases i with _ | i
  · simp only [List.getElem?_cons_zero, Option.some.injEq] at hc hd
    subst hc; subst hd
    exact leSl qs fun q h => (hq q h).1
  · simp only [List.getElem?_cons_succ] at hc hd
    rw [hc] at hd
    cases hd
    exact .refl _
end Go.Ab
namespace Go.Proofs.Ab
open Go.Ab
set_option maxRecDepth 100000
set_option maxHeartbeats 4000000
abbrev DTy (d : Int) (B : Nat) (c : Cur) : Prop := Drawn Tryz.prog F.spec_l2DrawType G.spec_l2DrawType [.sl (bys c.l), avI c.i, avI c.h, avI d] VTypeExp.av (TG B)
theorem dr_ty {d : Int} {B : Nat} (h : ∀ c : Cur, c.ok → DTy d B c) {c : Cur} (hc : c.ok) {K : AV → Prop} (k : ∀ (x : VTypeExp) (c' : Cur), TG B x → c'.ok → goT K (.tup [x.av, .sl (bys c'.l), avI c'.i, avI c'.h])) : scallP Tryz.prog F.spec_l2DrawType G.spec_l2DrawType [.sl (bys c.l), avI c.i, avI c.h, avI d] K :=
  (h c hc).use rfl VTypeExp.noref k
theorem drawType_0 {c : Cur} (hc : c.ok) : DTy 0 4 c := by
  refine Drawn.intro rfl rfl (fun outs ho hw => T.spec_l2DrawType_scon rfl ho (by simp [AV.norefs, AV.noref, bys_noref]) hw) (.mk 1 ⟨#[116]⟩ 0 []) (tg0 (Nat.le_refl _) (.inl ⟨rfl, t_low⟩)) c hc ?_
  simp only [T.spec_l2DrawType, WA, Nat.reduceEqDiff, Nat.reduceAdd, Nat.reduceLT, Nat.reduceLeDiff, Nat.reduceMul, reduceIte, reduceCtorEq, Int.reduceEq, Int.reduceLT, Int.reduceLE, Int.reduceNe]
  repeat' (first | (simp (disch := (first | omega | rfl | exact rfl | (simp only [cells_v, List.length_cons, List.length_nil]; done) | exact VTypeExp.width _)) only [VTypeExp.cells, VTypeExp.isAgg, VTypeExp.storable, VTypeExp.eta, wrapI, wrapS, wrapA, wrapA1, lt0, WA, Nat.reduceEqDiff, Nat.reduceAdd, Nat.reduceLT, Nat.reduceLeDiff, Nat.reduceMul, reduceIte, reduceCtorEq, Int.reduceEq, Int.reduceLT, Int.reduceLE, Int.reduceNe]) | (refine ite_dec (fun hq => ?_) (fun hq => ?_) <;> (try simp only [hq, decide_true, decide_false, Bool.not_true, Bool.not_false, Bool.not_eq_true', Bool.not_eq_false']) <;> (try (exfalso; omega))) | (refine ite_ndec (fun hq => ?_) (fun hq => ?_) <;> (try simp only [hq, decide_true, decide_false, Bool.not_true, Bool.not_false, Bool.not_eq_true', Bool.not_eq_false']) <;> (try (exfalso; omega))) | (refine ite_intro (fun hq => ?_) (fun hq => ?_) <;> (try simp only [hq, decide_true, decide_false, Bool.not_true, Bool.not_false, Bool.not_eq_true', Bool.not_eq_false']) <;> (try (exfalso; omega))) | (refine bind_push ?_) | (refine dr_once (by assumption) _ fun b c' hc' => ?_) | (refine dr_str (by assumption) tyL (by simp [tyL]) (by decide) fun s c' hs hc' => ?_; have hs2 := tyL_low _ hs) | (refine dxT_nil (by assumption) ?_))
  all_goals first
    | exact tg0 (Nat.le_refl _) (.inl ⟨rfl, by assumption⟩)
    | exact tg0 (Nat.le_refl _) (.inr ⟨rfl, rfl⟩)
    | skip
  all_goals trace_state
theorem drawType_c (n : Nat) : ∀ (d : Int), 0 ≤ d → d ≤ n → n ≤ 100 → ∀ {c : Cur}, c.ok → DTy d (TB n) c := by
  induction n with
  | zero =>
    intro d hd0 hd _ c hc
    have : d = 0 := by omega
    subst this
    exact drawType_0 hc
  | succ n ih =>
    intro d hd0 hd hn c hc
    have ihe : 0 < d → ∀ c : Cur, c.ok → DTy (d - 1) (TB n) c := fun h0 c hc => ih (d - 1) (by omega) (by omega) (by omega) hc
    have h00 : ∀ c : Cur, c.ok → DTy 0 4 c := fun c hc => drawType_0 hc
    refine Drawn.intro rfl rfl (fun outs ho hw => T.spec_l2DrawType_scon rfl ho (by simp [AV.norefs, AV.noref, bys_noref]) hw) (.mk 1 ⟨#[116]⟩ 0 []) (tg0 (TB_ge _) (.inl ⟨rfl, t_low⟩)) c hc ?_
    simp only [T.spec_l2DrawType, WA, Nat.reduceEqDiff, Nat.reduceAdd, Nat.reduceLT, Nat.reduceLeDiff, Nat.reduceMul, reduceIte, reduceCtorEq, Int.reduceEq, Int.reduceLT, Int.reduceLE, Int.reduceNe]
    repeat' (first | (simp (disch := (first | omega | rfl | exact rfl | (simp only [cells_v, List.length_cons, List.length_nil]; done) | exact VTypeExp.width _)) only [hel, hely, hd, hdy, VTypeExp.cells, VTypeExp.isAgg, VTypeExp.storable, VTypeExp.eta, wrapI, wrapS, wrapA, wrapA1, lt0, WA, Nat.reduceEqDiff, Nat.reduceAdd, Nat.reduceLT, Nat.reduceLeDiff, Nat.reduceMul, reduceIte, reduceCtorEq, Int.reduceEq, Int.reduceLT, Int.reduceLE, Int.reduceNe]) | (simp (disch := (first | omega | rfl | exact rfl | (simp only [cells_v, List.length_cons, List.length_nil]; done) | exact VTypeExp.width _)) only [hel, hd, VTypeExp.cells, VTypeExp.isAgg, VTypeExp.storable, VTypeExp.eta, wrapI, wrapS, wrapA, wrapA1, lt0, WA, Nat.reduceEqDiff, Nat.reduceAdd, Nat.reduceLT, Nat.reduceLeDiff, Nat.reduceMul, reduceIte, reduceCtorEq, Int.reduceEq, Int.reduceLT, Int.reduceLE, Int.reduceNe]) | (simp (disch := (first | omega | rfl | exact rfl | (simp only [cells_v, List.length_cons, List.length_nil]; done) | exact VTypeExp.width _)) only [hd, hdy, VTypeExp.cells, VTypeExp.isAgg, VTypeExp.storable, VTypeExp.eta, wrapI, wrapS, wrapA, wrapA1, lt0, WA, Nat.reduceEqDiff, Nat.reduceAdd, Nat.reduceLT, Nat.reduceLeDiff, Nat.reduceMul, reduceIte, reduceCtorEq, Int.reduceEq, Int.reduceLT, Int.reduceLE, Int.reduceNe]) | (simp (disch := (first | omega | rfl | exact rfl | (simp only [cells_v, List.length_cons, List.length_nil]; done) | exact VTypeExp.width _)) only [hix, hd, VTypeExp.cells, VTypeExp.isAgg, VTypeExp.storable, VTypeExp.eta, wrapI, wrapS, wrapA, wrapA1, lt0, WA, Nat.reduceEqDiff, Nat.reduceAdd, Nat.reduceLT, Nat.reduceLeDiff, Nat.reduceMul, reduceIte, reduceCtorEq, Int.reduceEq, Int.reduceLT, Int.reduceLE, Int.reduceNe]) | (simp (disch := (first | omega | rfl | exact rfl | (simp only [cells_v, List.length_cons, List.length_nil]; done) | exact VTypeExp.width _)) only [hd, VTypeExp.cells, VTypeExp.isAgg, VTypeExp.storable, VTypeExp.eta, wrapI, wrapS, wrapA, wrapA1, lt0, WA, Nat.reduceEqDiff, Nat.reduceAdd, Nat.reduceLT, Nat.reduceLeDiff, Nat.reduceMul, reduceIte, reduceCtorEq, Int.reduceEq, Int.reduceLT, Int.reduceLE, Int.reduceNe]) | (simp (disch := (first | omega | rfl | exact rfl | (simp only [cells_v, List.length_cons, List.length_nil]; done) | exact VTypeExp.width _)) only [VTypeExp.cells, VTypeExp.isAgg, VTypeExp.storable, VTypeExp.eta, wrapI, wrapS, wrapA, wrapA1, lt0, WA, Nat.reduceEqDiff, Nat.reduceAdd, Nat.reduceLT, Nat.reduceLeDiff, Nat.reduceMul, reduceIte, reduceCtorEq, Int.reduceEq, Int.reduceLT, Int.reduceLE, Int.reduceNe]) | (refine ite_dec (fun hq => ?_) (fun hq => ?_) <;> (try simp only [hq, decide_true, decide_false, Bool.not_true, Bool.not_false, Bool.not_eq_true', Bool.not_eq_false']) <;> (try (exfalso; omega))) | (refine ite_ndec (fun hq => ?_) (fun hq => ?_) <;> (try simp only [hq, decide_true, decide_false, Bool.not_true, Bool.not_false, Bool.not_eq_true', Bool.not_eq_false']) <;> (try (exfalso; omega))) | (refine ite_intro (fun hq => ?_) (fun hq => ?_) <;> (try simp only [hq, decide_true, decide_false, Bool.not_true, Bool.not_false, Bool.not_eq_true', Bool.not_eq_false']) <;> (try (exfalso; omega))) | (refine bind_push ?_) | (refine dr_below (by assumption) _ (by omega) fun m c' h0 h1 hc' => ?_) | (refine dr_once (by assumption) _ fun b c' hc' => ?_) | (refine dr_str (by assumption) tyL (by simp [tyL]) (by decide) fun s c' hs hc' => ?_; have hs2 := tyL_low _ hs) | (refine dr_ty h00 (by assumption) fun x c' hx hc' => ?_) | (refine dr_ty (ihe (by omega)) (by assumption) fun x c' hx hc' => ?_) | (refine dxT_nil (by assumption) ?_) | (refine dxT_sl (by assumption) _ ?_) | (refine loop_upR VTypeExp.av (TG (TB n)) (by assumption) 12 rfl (by omega) fun c xs hc hxs hle => ?_))
    all_goals first
      | exact tg0 (TB_ge _) (.inl ⟨rfl, by assumption⟩)
      | exact tg0 (TB_ge _) (.inr ⟨rfl, rfl⟩)
      | exact dx_ret (by assumption) _ (.refl _) (TG.mono (by assumption) (TB_ge _))
      | exact ⟨fun y hy => by rw [hy]; exact VTypeExp.width _, by omega, by omega, _, _, by assumption, by assumption, rfl⟩
      | exact ⟨fun y hy => by rw [hy]; exact VTypeExp.width _, by omega, by omega, by omega, _, _, by assumption, by assumption, rfl⟩
      | exact tg (b := TB n) (by simp only [TB]; omega) (by assumption) (.inl ⟨rfl, t_low, by omega⟩)
      | exact tg (b := TB n) (by simp only [TB]; omega) (by assumption) (.inr (.inl ⟨rfl, rfl, by omega⟩))
      | exact tg (b := TB n) (by simp only [TB]; omega) (by assumption) (.inr (.inr (.inl ⟨rfl, rfl, by omega, by omega⟩)))
      | exact tg (b := TB n) (by simp only [TB]; omega) (by assumption) (.inr (.inr (.inr ⟨rfl, rfl, by omega⟩)))
      | skip
    all_goals trace_state
theorem drawProg_c {n : Nat} {d : Int} (h0 : 0 ≤ d) (hd : d ≤ n) (hn : n ≤ 100) {c : Cur} (hc : c.ok) : Drawn Tryz.prog F.spec_l2DrawProg G.spec_l2DrawProg [.sl (bys c.l), avI c.i, avI c.h, avI d] VProg.av (QG (482 + EB n)) := by
  have hx0 : EG (EB n) (.mk 4 emp 0 emp 0 [] []) := eg0 (EB_ge n) (by omega) (.inr (.inr (.inr (.inl ⟨rfl, rfl, rfl, rfl⟩))))
  have hE : ∀ c : Cur, c.ok → DExp d (EB n) c := fun c hc => drawExp_c n d h0 hd hn hc
  have hT : ∀ c : Cur, c.ok → DTy 2 64 c := fun c hc => (drawType_c 2 2 (by omega) (by omega) (by omega) hc)
  refine Drawn.intro rfl rfl (fun outs ho hw => T.spec_l2DrawProg_scon rfl ho (by simp [AV.norefs, AV.noref, bys_noref]) hw) (.mk [] (.mk 4 emp 0 emp 0 [] [])) (qg [] (by simp) (by simp) hx0) c hc ?_
  simp only [T.spec_l2DrawProg, WA, Nat.reduceEqDiff, Nat.reduceAdd, Nat.reduceLT, Nat.reduceLeDiff, Nat.reduceMul, reduceIte, reduceCtorEq, Int.reduceEq, Int.reduceLT, Int.reduceLE, Int.reduceNe]
  refine bind_push ?_
  simp only [WA, Nat.reduceEqDiff, Nat.reduceAdd, Nat.reduceLT, Nat.reduceLeDiff, Nat.reduceMul, reduceIte, reduceCtorEq, Int.reduceEq, Int.reduceLT, Int.reduceLE, Int.reduceNe]
  refine dr_below hc _ (by omega) fun m c1 h0' h1' hc1 => ?_
  simp only [WA, Nat.reduceEqDiff, Nat.reduceAdd, Nat.reduceLT, Nat.reduceLeDiff, Nat.reduceMul, reduceIte, reduceCtorEq, Int.reduceEq, Int.reduceLT, Int.reduceLE, Int.reduceNe]
  refine loop_down (Prod.fst (α := AV) (β := VData)) DQ hc1 _ (by omega) fun c ds i hc hds hi0 hin => ?_
  repeat' (first | (simp (disch := (first | omega | rfl | exact rfl | (simp only [cells_v, List.length_cons, List.length_nil]; done) | exact VExp.width _ | exact VTypeExp.width _)) only [hel, hely, hd, hdy, VExp.cells, VExp.isAgg, VExp.storable, VExp.eta, VTypeExp.cells, VTypeExp.isAgg, VTypeExp.storable, VTypeExp.eta, wrapI, wrapS, wrapA, wrapA1, lt0, WA, Nat.reduceEqDiff, Nat.reduceAdd, Nat.reduceLT, Nat.reduceLeDiff, Nat.reduceMul, reduceIte, reduceCtorEq, Int.reduceEq, Int.reduceLT, Int.reduceLE, Int.reduceNe]) | (simp (disch := (first | omega | rfl | exact rfl | (simp only [cells_v, List.length_cons, List.length_nil]; done) | exact VExp.width _ | exact VTypeExp.width _)) only [hel, hd, VExp.cells, VExp.isAgg, VExp.storable, VExp.eta, VTypeExp.cells, VTypeExp.isAgg, VTypeExp.storable, VTypeExp.eta, wrapI, wrapS, wrapA, wrapA1, lt0, WA, Nat.reduceEqDiff, Nat.reduceAdd, Nat.reduceLT, Nat.reduceLeDiff, Nat.reduceMul, reduceIte, reduceCtorEq, Int.reduceEq, Int.reduceLT, Int.reduceLE, Int.reduceNe]) | (simp (disch := (first | omega | rfl | exact rfl | (simp only [cells_v, List.length_cons, List.length_nil]; done) | exact VExp.width _ | exact VTypeExp.width _)) only [hd, hdy, VExp.cells, VExp.isAgg, VExp.storable, VExp.eta, VTypeExp.cells, VTypeExp.isAgg, VTypeExp.storable, VTypeExp.eta, wrapI, wrapS, wrapA, wrapA1, lt0, WA, Nat.reduceEqDiff, Nat.reduceAdd, Nat.reduceLT, Nat.reduceLeDiff, Nat.reduceMul, reduceIte, reduceCtorEq, Int.reduceEq, Int.reduceLT, Int.reduceLE, Int.reduceNe]) | (simp (disch := (first | omega | rfl | exact rfl | (simp only [cells_v, List.length_cons, List.length_nil]; done) | exact VExp.width _ | exact VTypeExp.width _)) only [hix, hd, VExp.cells, VExp.isAgg, VExp.storable, VExp.eta, VTypeExp.cells, VTypeExp.isAgg, VTypeExp.storable, VTypeExp.eta, wrapI, wrapS, wrapA, wrapA1, lt0, WA, Nat.reduceEqDiff, Nat.reduceAdd, Nat.reduceLT, Nat.reduceLeDiff, Nat.reduceMul, reduceIte, reduceCtorEq, Int.reduceEq, Int.reduceLT, Int.reduceLE, Int.reduceNe]) | (simp (disch := (first | omega | rfl | exact rfl | (simp only [cells_v, List.length_cons, List.length_nil]; done) | exact VExp.width _ | exact VTypeExp.width _)) only [hd, VExp.cells, VExp.isAgg, VExp.storable, VExp.eta, VTypeExp.cells, VTypeExp.isAgg, VTypeExp.storable, VTypeExp.eta, wrapI, wrapS, wrapA, wrapA1, lt0, WA, Nat.reduceEqDiff, Nat.reduceAdd, Nat.reduceLT, Nat.reduceLeDiff, Nat.reduceMul, reduceIte, reduceCtorEq, Int.reduceEq, Int.reduceLT, Int.reduceLE, Int.reduceNe]) | (simp (disch := (first | omega | rfl | exact rfl | (simp only [cells_v, List.length_cons, List.length_nil]; done) | exact VExp.width _ | exact VTypeExp.width _)) only [VExp.cells, VExp.isAgg, VExp.storable, VExp.eta, VTypeExp.cells, VTypeExp.isAgg, VTypeExp.storable, VTypeExp.eta, wrapI, wrapS, wrapA, wrapA1, lt0, WA, Nat.reduceEqDiff, Nat.reduceAdd, Nat.reduceLT, Nat.reduceLeDiff, Nat.reduceMul, reduceIte, reduceCtorEq, Int.reduceEq, Int.reduceLT, Int.reduceLE, Int.reduceNe]) | (refine ite_dec (fun hq => ?_) (fun hq => ?_) <;> (try simp only [hq, decide_true, decide_false, Bool.not_true, Bool.not_false, Bool.not_eq_true', Bool.not_eq_false']) <;> (try (exfalso; omega))) | (refine ite_ndec (fun hq => ?_) (fun hq => ?_) <;> (try simp only [hq, decide_true, decide_false, Bool.not_true, Bool.not_false, Bool.not_eq_true', Bool.not_eq_false']) <;> (try (exfalso; omega))) | (refine ite_intro (fun hq => ?_) (fun hq => ?_) <;> (try simp only [hq, decide_true, decide_false, Bool.not_true, Bool.not_false, Bool.not_eq_true', Bool.not_eq_false']) <;> (try (exfalso; omega))) | (refine bind_push ?_) | (refine dr_below (by assumption) _ (by omega) fun m c' h0 h1 hc' => ?_) | (refine dr_up (by assumption) fun s c' hs hc' => ?_) | (refine dr_once (by assumption) _ fun b c' hc' => ?_) | (refine dr_str (by assumption) dtL (by simp [dtL]) (by decide) fun s c' hs hc' => ?_; have hs2 := dtL_low _ hs) | (refine dr_exp hE (by assumption) fun x c' hx hc' => ?_) | (refine dr_ty hT (by assumption) fun x c' hx hc' => ?_) | (refine loop_down (Prod.fst (α := AV) (β := VCtor)) CQ (by assumption) _ (by omega) fun c qs i hc hqs hi0 hin => ?_))
  all_goals first
    | exact ⟨fun y hy => by rw [hy]; rfl, by omega, by omega, _, (_, .mk _ true _ 0), by assumption, cq1 (by assumption) (by assumption), rfl⟩
    | exact ⟨fun y hy => by rw [hy]; rfl, by omega, by omega, _, (_, .mk _ false _ 0), by assumption, cq0 (by assumption), rfl⟩
    | exact ⟨fun y hy => by rw [hy]; rfl, by omega, by omega, _, (_, _), by assumption, dq (vars := [⟨#[97]⟩]) (by assumption) (.refl _) rfl (.inr rfl) _ (by assumption) (by omega) (by omega), rfl⟩
    | exact ⟨fun y hy => by rw [hy]; rfl, by omega, by omega, _, (_, _), by assumption, dq (vars := []) (by assumption) .nil rfl (.inl rfl) _ (by assumption) (by omega) (by omega), rfl⟩
    | exact dx_ret (by assumption) _ (leQ _ (by assumption) _) (qg _ (by assumption) (by omega) (by assumption))
    | skip
  all_goals trace_state
theorem spec_DrawTree_c (l : List Int) (hl : l.length ≤ 1048576) (hb : ∀ x ∈ l, 0 ≤ x ∧ x < 256) : ∃ x : VProg, QG 300000 x ∧ PCon Tryz.prog F.spec_DrawTree [.sl (bys l)] x.av := by
  obtain ⟨c, hc, rfl, hnew⟩ := spec_l1New_c l hl hb
  have hno : AV.norefs [AV.sl (bys c.l)] = true := by simp [AV.norefs, AV.noref, bys_noref]
  obtain ⟨o1, o2, o3⟩ := Cur.below_ok hc 4
  have o3 := o3 (by decide)
  obtain ⟨x, c', hx, hc', hs⟩ := drawProg_c (n := 5) (d := 2 + (c.below 4).1) (by omega) (by omega) (by omega) o1
  have hw : IntKind.i64.wrap (2 + (c.below 4).1) = 2 + (c.below 4).1 := wrapI (by omega) (by omega)
  refine ⟨x, ⟨hx.okM, hx.ok, Nat.le_trans hx.wt (by decide)⟩, T.spec_DrawTree_con rfl hno ?_⟩
  simp only [T.spec_DrawTree, WA, Nat.reduceEqDiff, Nat.reduceAdd, Nat.reduceLT, Nat.reduceLeDiff, Nat.reduceMul, reduceIte, reduceCtorEq, Int.reduceEq, Int.reduceLT, Int.reduceLE, Int.reduceNe]
  refine scall_v hnew rfl (Cur.noref _) ?_
  simp only [Cur.avs, WA, Nat.reduceEqDiff, Nat.reduceAdd, Nat.reduceLT, Nat.reduceLeDiff, Nat.reduceMul, reduceIte, reduceCtorEq, Int.reduceEq, Int.reduceLT, Int.reduceLE, Int.reduceNe]
  refine scall_v (spec_l1Below_c hc 4) rfl (by simp [Cur.avs, AV.norefs, AV.noref, bys_noref]) ?_
  simp only [Cur.avs, hw, WA, Nat.reduceEqDiff, Nat.reduceAdd, Nat.reduceLT, Nat.reduceLeDiff, Nat.reduceMul, reduceIte, reduceCtorEq, Int.reduceEq, Int.reduceLT, Int.reduceLE, Int.reduceNe]
  refine scall_v hs rfl (by simp [Cur.avs, AV.norefs, AV.noref, bys_noref, VProg.noref]) ?_
  simp only [Cur.avs, WA, Nat.reduceEqDiff, Nat.reduceAdd, Nat.reduceLT, Nat.reduceLeDiff, Nat.reduceMul, reduceIte, reduceCtorEq, Int.reduceEq, Int.reduceLT, Int.reduceLE, Int.reduceNe]
  repeat' (first | (simp (disch := (first | omega | rfl | exact rfl | (simp only [cells_v, List.length_cons, List.length_nil]; done) | exact VProg.width _)) only [VProg.cells, VProg.isAgg, VProg.storable, VProg.eta, VProg.load_Body, VExp.eta, VProg.eta, wrapS, wrapA, wrapA1, lt0, WA, Nat.reduceEqDiff, Nat.reduceAdd, Nat.reduceLT, Nat.reduceLeDiff, Nat.reduceMul, reduceIte, reduceCtorEq, Int.reduceEq, Int.reduceLT, Int.reduceLE, Int.reduceNe]) | (refine ite_dec (fun hq => ?_) (fun hq => ?_) <;> (try simp only [hq, decide_true, decide_false, Bool.not_true, Bool.not_false, Bool.not_eq_true', Bool.not_eq_false'])) | (refine ite_ndec (fun hq => ?_) (fun hq => ?_) <;> (try simp only [hq, decide_true, decide_false, Bool.not_true, Bool.not_false, Bool.not_eq_true', Bool.not_eq_false'])) | (refine ite_intro (fun hq => ?_) (fun hq => ?_) <;> (try simp only [hq, decide_true, decide_false, Bool.not_true, Bool.not_false, Bool.not_eq_true', Bool.not_eq_false'])) | (refine bind_push ?_))
  all_goals trace_state
end Go.Proofs.Ab
