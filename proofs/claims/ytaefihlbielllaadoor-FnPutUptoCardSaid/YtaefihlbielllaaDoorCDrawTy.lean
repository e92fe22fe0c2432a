/-
  TYPES THAT ARE DRAWN.
-/
import Derived.Test.YtaefihlbielllaaDoorCDr
set_option linter.unusedVariables false
set_option linter.unusedSimpArgs false
set_option linter.defProp false
namespace Go.Ab
set_option maxRecDepth 100000
set_option maxHeartbeats 4000000
theorem loop_upY {P : Program} {R : AV → Prop} {t : T} {r : List AV} {S : List (List AV → Prop)} {X : Type} (av : X → AV) (good : X → Prop) {c0 : Cur} (hc0 : c0.ok) (k : Nat) {n : Int} (hk : r.getD k .top = avI n) (hn : 0 ≤ n)
    (hr : ∀ (c : Cur) (xs : List X), c.ok → (∀ x ∈ xs, good x) → (xs.length : Int) ≤ n →
      wpT P LF R t (r ++ [.sl (bys c.l), avI c.i, avI c.h, .sl (xs.map av), avI (xs.length : Int)]) ((fun vs => (xs.length : Int) < n ∧ ∃ c' x, Cur.ok c' ∧ good x ∧ vs = [.sl (bys c'.l), avI c'.i, avI c'.h, .sl (xs.map av ++ [av x]), avI ((xs.length : Int) + 1)]) :: S)) :
    loopT P LF R [.sl (bys c0.l), avI c0.i, avI c0.h, .sl [], avI 0] t r S := loop_upD av good hc0 n hn hr
structure YG (B : Nat) (x : VTy) : Prop where
  ok : x.ok
  wt : x.wt ≤ B
theorem YG.mono {B C : Nat} {x : VTy} (h : YG B x) (hb : B ≤ C) : YG C x := ⟨h.ok, Nat.le_trans h.wt hb⟩
def YB : Nat → Nat
  | 0 => 7
  | n + 1 => 7 + 3 * YB n
theorem sum_leY {α : Type} (f : α → Nat) (b : Nat) : ∀ (l : List α), (∀ x ∈ l, f x ≤ b) → (l.map f).sum ≤ l.length * b
  | [], _ => by simp
  | x :: l, h => by
    have := sum_leY f b l fun y hy => h y (by simp [hy])
    have := h x (by simp)
    simp only [List.map_cons, List.sum_cons, List.length_cons, Nat.add_mul, Nat.one_mul]
    omega
theorem yg {B b : Nat} {K N : Int} {S : ByteArray} {kids : List VTy} (hK : inR K) (hN : inR N) (hS : S.size ≤ 4) (hk : ∀ x ∈ kids, YG b x) (h3 : (kids.length : Int) ≤ 3) (hB : 7 + 3 * b ≤ B) : YG B (.mk K N S kids) := by
  refine ⟨(VTy.ok_iff _).2 ⟨hK, hN, fun y hy => (hk y hy).ok⟩, ?_⟩
  rw [VTy.wt_eq]
  simp only [VTy.Name_mk, VTy.Kids_mk]
  have h1 := sum_leY VTy.wt b kids fun x hx => (hk x hx).wt
  have h2 : kids.length * b ≤ 3 * b := Nat.mul_le_mul_right _ (by omega)
  omega
theorem yg0 {B : Nat} {K N : Int} {S : ByteArray} (hK : inR K) (hN : inR N) (hS : S.size ≤ 4) (hB : 4 ≤ B) : YG B (.mk K N S []) := by
  refine ⟨(VTy.ok_iff _).2 ⟨hK, hN, fun y hy => by cases hy⟩, ?_⟩
  rw [VTy.wt_eq]
  simp only [VTy.Name_mk, VTy.Kids_mk, List.length_nil, List.map_nil, List.sum_nil]
  omega
theorem YB_ge (n : Nat) : 7 ≤ YB n := by cases n <;> simp only [YB] <;> omega
theorem ygA {B : Nat} {K N K' N' : Int} {S S' : ByteArray} {kids : List VTy} (h : YG B (.mk K N S kids)) (hK : inR K') (hN : inR N') (hS : S' = S ∨ S'.size ≤ 4) : YG (B + 4) (.mk K' N' S' kids) := by
  have h1 := (VTy.ok_iff _).1 h.ok
  have h2 := h.wt
  rw [VTy.wt_eq] at h2
  refine ⟨(VTy.ok_iff _).2 ⟨hK, hN, h1.2.2⟩, ?_⟩
  rw [VTy.wt_eq]
  simp only [VTy.Name_mk, VTy.Kids_mk] at h2 ⊢
  rcases hS with rfl | hS <;> omega
theorem ygB {B : Nat} {K N : Int} {S : ByteArray} {kids : List VTy} (h : YG B (.mk K N S kids)) : YG (B + 4) (.mk K N S (kids ++ [.mk 1 0 ⟨#[]⟩ []])) := by
  have h1 := (VTy.ok_iff _).1 h.ok
  have h2 := h.wt
  rw [VTy.wt_eq] at h2
  refine ⟨(VTy.ok_iff _).2 ⟨h1.1, h1.2.1, fun y hy => ?_⟩, ?_⟩
  · rcases List.mem_append.1 hy with hy | hy
    · exact h1.2.2 y hy
    · rw [List.mem_singleton.1 hy]
      exact (VTy.ok_iff _).2 ⟨by unfold inR; simp only [VTy.Kind_mk]; omega, by unfold inR; simp only [VTy.N_mk]; omega, fun z hz => by cases hz⟩
  have h0 : (VTy.mk 1 0 ⟨#[]⟩ []).wt = 0 := by rw [VTy.wt_eq]; rfl
  rw [VTy.wt_eq]
  simp only [VTy.Name_mk, VTy.Kids_mk, List.length_append, List.map_append, List.sum_append, List.length_cons, List.length_nil, List.map_cons, List.map_nil, List.sum_cons, List.sum_nil, h0] at h2 ⊢
  omega
theorem ygIn {B : Nat} {K N : Int} {S : ByteArray} {kids : List VTy} (h : YG B (.mk K N S kids)) : inR K ∧ inR N := ⟨((VTy.ok_iff _).1 h.ok).1, ((VTy.ok_iff _).1 h.ok).2.1⟩
theorem leY {K N : Int} {S : ByteArray} : AV.leD (.agg [avI K, avI N, avB S, .nils]) (VTy.mk K N S []).av := by
  rw [← VTy.eta]
  refine .agg _ _ rfl fun i c d hc hd => ?_
  rcases i with _ | _ | _ | _ | i <;> simp at hc hd <;> subst hc <;> subst hd <;> first | exact .refl _ | exact .nil
theorem etaY {K N : Int} {S : ByteArray} {kids : List VTy} : AV.agg [avI K, avI N, avB S, .sl (kids.map VTy.av)] = (VTy.mk K N S kids).av := by rw [← VTy.eta]; rfl
theorem dxY_nil {c : Cur} (hc : c.ok) {K N : Int} {S : ByteArray} {good : VTy → Prop} (hg : good (.mk K N S [])) : retT (dx VTy.av good) [.agg [avI K, avI N, avB S, .nils], .sl (bys c.l), avI c.i, avI c.h] := dx_ret hc _ leY hg
theorem dxY_sl {c : Cur} (hc : c.ok) {K N : Int} {S : ByteArray} (kids : List VTy) {good : VTy → Prop} (hg : good (.mk K N S kids)) : retT (dx VTy.av good) [.agg [avI K, avI N, avB S, .sl (kids.map VTy.av)], .sl (bys c.l), avI c.i, avI c.h] :=
  dx_ret hc _ (by rw [etaY]; exact .refl _) hg
/-- a tree whose slice is a row -/
def dxR (good : VTy → Prop) : AV → Prop := ex 7 fun outs => ∃ K N S kids c, outs = [avI K, .sl (bys c.l), avI c.i, avI c.h, avI N, avB S, .sl (kids.map VTy.av)] ∧ good (.mk K N S kids) ∧ Cur.ok c
theorem dxR_sl {c : Cur} (hc : c.ok) {K N : Int} {S : ByteArray} (kids : List VTy) {good : VTy → Prop} (hg : good (.mk K N S kids)) : retT (dxR good) [avI K, .sl (bys c.l), avI c.i, avI c.h, avI N, avB S, .sl (kids.map VTy.av)] := by
  unfold retT dxR ex
  exact ⟨_, rfl, ⟨K, N, S, kids, c, rfl, hg, hc⟩, rfl⟩
theorem dxR_nil {c : Cur} (hc : c.ok) {K N : Int} {S : ByteArray} {good : VTy → Prop} (hg : good (.mk K N S [])) : retT (dxR good) [avI K, .sl (bys c.l), avI c.i, avI c.h, avI N, avB S, .sl []] := dxR_sl hc [] hg
theorem leYs (kids : List VTy) : AV.leD (.sl (kids.map VTy.av ++ [.agg [avI 1, avI 0, avB ⟨#[]⟩, .nils]])) (.sl ((kids ++ [VTy.mk 1 0 ⟨#[]⟩ []]).map VTy.av)) := by
  have e : VTy.av (.mk 1 0 ⟨#[]⟩ []) = .agg [avI 1, avI 0, avB ⟨#[]⟩, .sl []] := (etaY (K := 1) (N := 0) (S := ⟨#[]⟩) (kids := [])).symm
  rw [List.map_append, List.map_cons, List.map_nil, e]
  have key : ∀ (i : Nat) (x y : AV), (kids.map VTy.av ++ [.agg [avI 1, avI 0, avB ⟨#[]⟩, .nils]])[i]? = some x → (kids.map VTy.av ++ [.agg [avI 1, avI 0, avB ⟨#[]⟩, .sl []]])[i]? = some y → x = y ∨ (x = .agg [avI 1, avI 0, avB ⟨#[]⟩, .nils] ∧ y = .agg [avI 1, avI 0, avB ⟨#[]⟩, .sl []]) := by
    intro i x y hx hy
    by_cases h : i < (kids.map VTy.av).length
    · rw [List.getElem?_append_left h] at hx hy
      exact .inl (by rw [hx] at hy; exact Option.some.inj hy)
    · rw [List.getElem?_append_right (by omega)] at hx hy
      rcases hn : i - (kids.map VTy.av).length with _ | n
      · rw [hn] at hx hy
        simp only [List.getElem?_cons_zero, Option.some.injEq] at hx hy
        exact .inr ⟨hx.symm, hy.symm⟩
      · rw [hn] at hx
        simp at hx
  refine .sl _ _ (by simp) (fun i x y hx hy => ?_) fun i x y j c d hx hy hc hd => ?_
  · rcases key i x y hx hy with rfl | ⟨rfl, rfl⟩ <;> rfl
  · rcases key i x y hx hy with rfl | ⟨rfl, rfl⟩
    · rw [hc] at hd; cases hd; exact .refl _
    · rcases j with _ | _ | _ | _ | j <;> simp [AV.cells] at hc hd <;> subst hc <;> subst hd <;> first | exact .refl _ | exact .nil
theorem dxY_app {c : Cur} (hc : c.ok) {K N : Int} {S : ByteArray} (kids : List VTy) {good : VTy → Prop} (hg : good (.mk K N S (kids ++ [.mk 1 0 ⟨#[]⟩ []]))) :
    retT (dx VTy.av good) [.agg [avI K, avI N, avB S, .sl (kids.map VTy.av ++ [.agg [avI 1, avI 0, avB ⟨#[]⟩, .nils]])], .sl (bys c.l), avI c.i, avI c.h] := by
  refine dx_ret hc _ ?_ hg
  rw [← etaY]
  refine .agg _ _ rfl fun i c d hc hd => ?_
  rcases i with _ | _ | _ | _ | i
  · simp at hc hd; subst hc; subst hd; exact .refl _
  · simp at hc hd; subst hc; subst hd; exact .refl _
  · simp at hc hd; subst hc; subst hd; exact .refl _
  · simp only [List.getElem?_cons_succ, List.getElem?_cons_zero, Option.some.injEq] at hc hd; subst hc; subst hd; exact leYs kids
  · simp at hc
def tyN : List ByteArray := [⟨#[116]⟩, ⟨#[108, 105, 115, 116]⟩, ⟨#[117]⟩]
theorem tyN_sz : ∀ s ∈ tyN, s.size ≤ 4 := by unfold tyN; decide +kernel
def tyM : List ByteArray := [⟨#[]⟩, ⟨#[120]⟩, ⟨#[76, 101, 116]⟩]
theorem tyM_sz : ∀ s ∈ tyM, s.size ≤ 4 := by unfold tyM; decide +kernel
end Go.Ab
namespace Go.Proofs.Ab
open Go.Ab
set_option maxRecDepth 100000
set_option maxHeartbeats 4000000
abbrev DYs (d m : Int) (B : Nat) (c : Cur) : Prop := Drawn Tryd.prog F.spec_l4Draw G.spec_l4Draw_s1 [.sl (bys c.l), avI c.i, avI c.h, avI d, avI m] VTy.av (YG B)
theorem dr_yS {d m : Int} {B : Nat} (h : ∀ c : Cur, c.ok → DYs d m B c) {c : Cur} (hc : c.ok) {K : AV → Prop} (k : ∀ (x : VTy) (c' : Cur), YG B x → c'.ok → goT K (.tup [x.av, .sl (bys c'.l), avI c'.i, avI c'.h])) : scallP Tryd.prog F.spec_l4Draw G.spec_l4Draw_s1 [.sl (bys c.l), avI c.i, avI c.h, avI d, avI m] K :=
  (h c hc).use rfl VTy.noref k
theorem drawYs_c (n : Nat) : ∀ (d m : Int), d ≤ n → n ≤ 100 → -100 ≤ d → m ≤ 1000000 → ∀ {c : Cur}, c.ok → DYs d m (YB n) c := by
  induction n with
  | zero =>
    intro d m hd _ hd0 hm c hc
    refine Drawn.intro rfl rfl (fun outs ho hw => T.spec_l4Draw_s1_scon rfl ho (by simp [AV.norefs, AV.noref, bys_noref]) hw) (.mk 1 0 ⟨#[]⟩ []) (yg0 (by unfold inR; omega) (by unfold inR; omega) (by decide) (by decide)) c hc ?_
    have hz : ByteArray.size ⟨#[]⟩ ≤ 4 := by decide
    simp only [T.spec_l4Draw_s1, WA, Nat.reduceEqDiff, Nat.reduceAdd, Nat.reduceLT, Nat.reduceLeDiff, Nat.reduceMul, reduceIte, reduceCtorEq, Int.reduceEq, Int.reduceLT, Int.reduceLE, Int.reduceNe]
    repeat' (first | (simp (disch := (first | omega | rfl | exact rfl | (simp only [cells_v, List.length_cons, List.length_nil]; done) | exact VTy.width _)) only [hd, VTy.cells, VTy.isAgg, VTy.storable, VTy.eta, wrapI, wrapS, wrapA, wrapA1, lt0, WA, Nat.reduceEqDiff, Nat.reduceAdd, Nat.reduceLT, Nat.reduceLeDiff, Nat.reduceMul, reduceIte, reduceCtorEq, Int.reduceEq, Int.reduceLT, Int.reduceLE, Int.reduceNe]) | (simp (disch := (first | omega | rfl | exact rfl | (simp only [cells_v, List.length_cons, List.length_nil]; done) | exact VTy.width _)) only [VTy.cells, VTy.isAgg, VTy.storable, VTy.eta, wrapI, wrapS, wrapA, wrapA1, lt0, WA, Nat.reduceEqDiff, Nat.reduceAdd, Nat.reduceLT, Nat.reduceLeDiff, Nat.reduceMul, reduceIte, reduceCtorEq, Int.reduceEq, Int.reduceLT, Int.reduceLE, Int.reduceNe]) | (refine ite_dec (fun hq => ?_) (fun hq => ?_) <;> (try simp only [hq, decide_true, decide_false, Bool.not_true, Bool.not_false, Bool.not_eq_true', Bool.not_eq_false']) <;> (try (exfalso; omega))) | (refine ite_ndec (fun hq => ?_) (fun hq => ?_) <;> (try simp only [hq, decide_true, decide_false, Bool.not_true, Bool.not_false, Bool.not_eq_true', Bool.not_eq_false']) <;> (try (exfalso; omega))) | (refine ite_intro (fun hq => ?_) (fun hq => ?_) <;> (try simp only [hq, decide_true, decide_false, Bool.not_true, Bool.not_false, Bool.not_eq_true', Bool.not_eq_false']) <;> (try (exfalso; omega))) | (refine bind_push ?_) | (refine dr_below (by assumption) _ (by omega) fun m c' h0 h1 hc' => ?_) | (refine dr_once (by assumption) _ fun b c' hc' => ?_) | (refine dxY_nil (by assumption) ?_))
    all_goals first
      | exact yg0 (by unfold inR; omega) (by unfold inR; omega) hz (by decide)
      | trace_state
  | succ n ih =>
    intro d m hd hn hd0 hm c hc
    have ihe : 0 < d → ∀ c : Cur, c.ok → DYs (d - 1) m (YB n) c := fun h0 c hc => ih (d - 1) m (by omega) (by omega) (by omega) hm hc
    refine Drawn.intro rfl rfl (fun outs ho hw => T.spec_l4Draw_s1_scon rfl ho (by simp [AV.norefs, AV.noref, bys_noref]) hw) (.mk 1 0 ⟨#[]⟩ []) (yg0 (by unfold inR; omega) (by unfold inR; omega) (by decide) (by have := YB_ge (n + 1); omega)) c hc ?_
    have hz : ByteArray.size ⟨#[]⟩ ≤ 4 := by decide
    simp only [T.spec_l4Draw_s1, WA, Nat.reduceEqDiff, Nat.reduceAdd, Nat.reduceLT, Nat.reduceLeDiff, Nat.reduceMul, reduceIte, reduceCtorEq, Int.reduceEq, Int.reduceLT, Int.reduceLE, Int.reduceNe]
    repeat' (first | (simp (disch := (first | omega | rfl | exact rfl | (simp only [cells_v, List.length_cons, List.length_nil]; done) | exact VTy.width _)) only [hel, hely, hd, hdy, VTy.cells, VTy.isAgg, VTy.storable, VTy.eta, wrapI, wrapS, wrapA, wrapA1, lt0, WA, Nat.reduceEqDiff, Nat.reduceAdd, Nat.reduceLT, Nat.reduceLeDiff, Nat.reduceMul, reduceIte, reduceCtorEq, Int.reduceEq, Int.reduceLT, Int.reduceLE, Int.reduceNe]) | (simp (disch := (first | omega | rfl | exact rfl | (simp only [cells_v, List.length_cons, List.length_nil]; done) | exact VTy.width _)) only [hel, hd, VTy.cells, VTy.isAgg, VTy.storable, VTy.eta, wrapI, wrapS, wrapA, wrapA1, lt0, WA, Nat.reduceEqDiff, Nat.reduceAdd, Nat.reduceLT, Nat.reduceLeDiff, Nat.reduceMul, reduceIte, reduceCtorEq, Int.reduceEq, Int.reduceLT, Int.reduceLE, Int.reduceNe]) | (simp (disch := (first | omega | rfl | exact rfl | (simp only [cells_v, List.length_cons, List.length_nil]; done) | exact VTy.width _)) only [hd, hdy, VTy.cells, VTy.isAgg, VTy.storable, VTy.eta, wrapI, wrapS, wrapA, wrapA1, lt0, WA, Nat.reduceEqDiff, Nat.reduceAdd, Nat.reduceLT, Nat.reduceLeDiff, Nat.reduceMul, reduceIte, reduceCtorEq, Int.reduceEq, Int.reduceLT, Int.reduceLE, Int.reduceNe]) | (simp (disch := (first | omega | rfl | exact rfl | (simp only [cells_v, List.length_cons, List.length_nil]; done) | exact VTy.width _)) only [hix, hd, VTy.cells, VTy.isAgg, VTy.storable, VTy.eta, wrapI, wrapS, wrapA, wrapA1, lt0, WA, Nat.reduceEqDiff, Nat.reduceAdd, Nat.reduceLT, Nat.reduceLeDiff, Nat.reduceMul, reduceIte, reduceCtorEq, Int.reduceEq, Int.reduceLT, Int.reduceLE, Int.reduceNe]) | (simp (disch := (first | omega | rfl | exact rfl | (simp only [cells_v, List.length_cons, List.length_nil]; done) | exact VTy.width _)) only [hd, VTy.cells, VTy.isAgg, VTy.storable, VTy.eta, wrapI, wrapS, wrapA, wrapA1, lt0, WA, Nat.reduceEqDiff, Nat.reduceAdd, Nat.reduceLT, Nat.reduceLeDiff, Nat.reduceMul, reduceIte, reduceCtorEq, Int.reduceEq, Int.reduceLT, Int.reduceLE, Int.reduceNe]) | (simp (disch := (first | omega | rfl | exact rfl | (simp only [cells_v, List.length_cons, List.length_nil]; done) | exact VTy.width _)) only [VTy.cells, VTy.isAgg, VTy.storable, VTy.eta, wrapI, wrapS, wrapA, wrapA1, lt0, WA, Nat.reduceEqDiff, Nat.reduceAdd, Nat.reduceLT, Nat.reduceLeDiff, Nat.reduceMul, reduceIte, reduceCtorEq, Int.reduceEq, Int.reduceLT, Int.reduceLE, Int.reduceNe]) | (refine ite_dec (fun hq => ?_) (fun hq => ?_) <;> (try simp only [hq, decide_true, decide_false, Bool.not_true, Bool.not_false, Bool.not_eq_true', Bool.not_eq_false']) <;> (try (exfalso; omega))) | (refine ite_ndec (fun hq => ?_) (fun hq => ?_) <;> (try simp only [hq, decide_true, decide_false, Bool.not_true, Bool.not_false, Bool.not_eq_true', Bool.not_eq_false']) <;> (try (exfalso; omega))) | (refine ite_intro (fun hq => ?_) (fun hq => ?_) <;> (try simp only [hq, decide_true, decide_false, Bool.not_true, Bool.not_false, Bool.not_eq_true', Bool.not_eq_false']) <;> (try (exfalso; omega))) | (refine bind_push ?_) | (refine dr_below (by assumption) _ (by omega) fun m c' h0 h1 hc' => ?_) | (refine dr_once (by assumption) _ fun b c' hc' => ?_) | (refine dr_str (by assumption) tyN (by simp [tyN]) (by decide) fun s c' hs hc' => ?_; have hs2 := tyN_sz _ hs) | (refine dr_yS (ihe (by omega)) (by assumption) fun x c' hx hc' => ?_) | (refine dxY_nil (by assumption) ?_) | (refine dxY_sl (by assumption) _ ?_) | (refine loop_upY VTy.av (YG (YB n)) (by assumption) 14 rfl (by omega) fun c xs hc hxs hle => ?_))
    all_goals first
      | exact yg0 (by unfold inR; omega) (by unfold inR; omega) hz (by have := YB_ge (n + 1); omega)
      | exact ⟨fun y hy => by rw [hy]; exact VTy.width _, by omega, by omega, _, _, by assumption, by assumption, rfl⟩
      | exact ⟨fun y hy => by rw [hy]; exact VTy.width _, by omega, by omega, by omega, _, _, by assumption, by assumption, rfl⟩
      | exact yg (b := YB n) (by unfold inR; omega) (by unfold inR; omega) (by assumption) (by assumption) (by omega) (by simp only [YB]; omega)
      | trace_state
/-- with its slice a row -/
def DYr (d m : Int) (B : Nat) (c : Cur) : Prop := ∃ K N S kids c', YG B (.mk K N S kids) ∧ Cur.ok c' ∧ SCon Tryd.prog F.spec_l4Draw G.spec_l4Draw [.sl (bys c.l), avI c.i, avI c.h, avI d, avI m] [avI K, .sl (bys c'.l), avI c'.i, avI c'.h, avI N, avB S, .sl (kids.map VTy.av)]
theorem drawYr_c (n : Nat) (d m : Int) (hd : d ≤ n + 1) (hn : n ≤ 100) (hd0 : -99 ≤ d) (hm : m ≤ 1000000) {c : Cur} (hc : c.ok) : DYr d m (YB (n + 1)) c := by
  have ihe : 0 < d → ∀ c : Cur, c.ok → DYs (d - 1) m (YB n) c := fun h0 c hc => drawYs_c n (d - 1) m (by omega) (by omega) (by omega) hm hc
  have hz : ByteArray.size ⟨#[]⟩ ≤ 4 := by decide
  have hne : ∃ outs : List AV, outs.length = 7 ∧ ∃ K N S kids c, outs = [avI K, .sl (bys c.l), avI c.i, avI c.h, avI N, avB S, .sl (kids.map VTy.av)] ∧ YG (YB (n + 1)) (.mk K N S kids) ∧ Cur.ok c :=
    ⟨_, rfl, 1, 0, ⟨#[]⟩, [], c, rfl, yg0 (by unfold inR; omega) (by unfold inR; omega) hz (by have := YB_ge (n + 1); omega), hc⟩
  have hw : wpT Tryd.prog LF (dxR (YG (YB (n + 1)))) T.spec_l4Draw [.sl (bys c.l), avI c.i, avI c.h, avI d, avI m] [] := by
    simp only [T.spec_l4Draw, WA, Nat.reduceEqDiff, Nat.reduceAdd, Nat.reduceLT, Nat.reduceLeDiff, Nat.reduceMul, reduceIte, reduceCtorEq, Int.reduceEq, Int.reduceLT, Int.reduceLE, Int.reduceNe]
    repeat' (first | (simp (disch := (first | omega | rfl | exact rfl | (simp only [cells_v, List.length_cons, List.length_nil]; done) | exact VTy.width _)) only [hel, hely, hd, hdy, VTy.cells, VTy.isAgg, VTy.storable, VTy.eta, wrapI, wrapS, wrapA, wrapA1, lt0, WA, Nat.reduceEqDiff, Nat.reduceAdd, Nat.reduceLT, Nat.reduceLeDiff, Nat.reduceMul, reduceIte, reduceCtorEq, Int.reduceEq, Int.reduceLT, Int.reduceLE, Int.reduceNe]) | (simp (disch := (first | omega | rfl | exact rfl | (simp only [cells_v, List.length_cons, List.length_nil]; done) | exact VTy.width _)) only [hel, hd, VTy.cells, VTy.isAgg, VTy.storable, VTy.eta, wrapI, wrapS, wrapA, wrapA1, lt0, WA, Nat.reduceEqDiff, Nat.reduceAdd, Nat.reduceLT, Nat.reduceLeDiff, Nat.reduceMul, reduceIte, reduceCtorEq, Int.reduceEq, Int.reduceLT, Int.reduceLE, Int.reduceNe]) | (simp (disch := (first | omega | rfl | exact rfl | (simp only [cells_v, List.length_cons, List.length_nil]; done) | exact VTy.width _)) only [hd, hdy, VTy.cells, VTy.isAgg, VTy.storable, VTy.eta, wrapI, wrapS, wrapA, wrapA1, lt0, WA, Nat.reduceEqDiff, Nat.reduceAdd, Nat.reduceLT, Nat.reduceLeDiff, Nat.reduceMul, reduceIte, reduceCtorEq, Int.reduceEq, Int.reduceLT, Int.reduceLE, Int.reduceNe]) | (simp (disch := (first | omega | rfl | exact rfl | (simp only [cells_v, List.length_cons, List.length_nil]; done) | exact VTy.width _)) only [hix, hd, VTy.cells, VTy.isAgg, VTy.storable, VTy.eta, wrapI, wrapS, wrapA, wrapA1, lt0, WA, Nat.reduceEqDiff, Nat.reduceAdd, Nat.reduceLT, Nat.reduceLeDiff, Nat.reduceMul, reduceIte, reduceCtorEq, Int.reduceEq, Int.reduceLT, Int.reduceLE, Int.reduceNe]) | (simp (disch := (first | omega | rfl | exact rfl | (simp only [cells_v, List.length_cons, List.length_nil]; done) | exact VTy.width _)) only [hd, VTy.cells, VTy.isAgg, VTy.storable, VTy.eta, wrapI, wrapS, wrapA, wrapA1, lt0, WA, Nat.reduceEqDiff, Nat.reduceAdd, Nat.reduceLT, Nat.reduceLeDiff, Nat.reduceMul, reduceIte, reduceCtorEq, Int.reduceEq, Int.reduceLT, Int.reduceLE, Int.reduceNe]) | (simp (disch := (first | omega | rfl | exact rfl | (simp only [cells_v, List.length_cons, List.length_nil]; done) | exact VTy.width _)) only [VTy.cells, VTy.isAgg, VTy.storable, VTy.eta, wrapI, wrapS, wrapA, wrapA1, lt0, WA, Nat.reduceEqDiff, Nat.reduceAdd, Nat.reduceLT, Nat.reduceLeDiff, Nat.reduceMul, reduceIte, reduceCtorEq, Int.reduceEq, Int.reduceLT, Int.reduceLE, Int.reduceNe]) | (refine ite_dec (fun hq => ?_) (fun hq => ?_) <;> (try simp only [hq, decide_true, decide_false, Bool.not_true, Bool.not_false, Bool.not_eq_true', Bool.not_eq_false']) <;> (try (exfalso; omega))) | (refine ite_ndec (fun hq => ?_) (fun hq => ?_) <;> (try simp only [hq, decide_true, decide_false, Bool.not_true, Bool.not_false, Bool.not_eq_true', Bool.not_eq_false']) <;> (try (exfalso; omega))) | (refine ite_intro (fun hq => ?_) (fun hq => ?_) <;> (try simp only [hq, decide_true, decide_false, Bool.not_true, Bool.not_false, Bool.not_eq_true', Bool.not_eq_false']) <;> (try (exfalso; omega))) | (refine bind_push ?_) | (refine dr_below (by assumption) _ (by omega) fun m c' h0 h1 hc' => ?_) | (refine dr_once (by assumption) _ fun b c' hc' => ?_) | (refine dr_str (by assumption) tyN (by simp [tyN]) (by decide) fun s c' hs hc' => ?_; have hs2 := tyN_sz _ hs) | (refine dr_yS (ihe (by omega)) (by assumption) fun x c' hx hc' => ?_) | (refine dxR_nil (by assumption) ?_) | (refine dxR_sl (by assumption) _ ?_) | (refine loop_upY VTy.av (YG (YB n)) (by assumption) 14 rfl (by omega) fun c xs hc hxs hle => ?_))
    all_goals first
      | exact yg0 (by unfold inR; omega) (by unfold inR; omega) hz (by have := YB_ge (n + 1); omega)
      | exact ⟨fun y hy => by rw [hy]; exact VTy.width _, by omega, by omega, _, _, by assumption, by assumption, rfl⟩
      | exact ⟨fun y hy => by rw [hy]; exact VTy.width _, by omega, by omega, by omega, _, _, by assumption, by assumption, rfl⟩
      | exact yg (b := YB n) (by unfold inR; omega) (by unfold inR; omega) (by assumption) (by assumption) (by omega) (by simp only [YB]; omega)
      | trace_state
  obtain ⟨outs, hl, ⟨K, N, S, kids, c', rfl, hg, hc'⟩, h⟩ := ex_intro hne hw
  exact ⟨K, N, S, kids, c', hg, hc', T.spec_l4Draw_scon rfl rfl (by simp [AV.norefs, AV.noref, bys_noref]) h⟩
theorem dr_yR {d m : Int} {B : Nat} {c : Cur} (h : DYr d m B c) {Z : AV → Prop} (k : ∀ (K N : Int) (S : ByteArray) (kids : List VTy) (c' : Cur), YG B (.mk K N S kids) → c'.ok → goT Z (.tup [avI K, .sl (bys c'.l), avI c'.i, avI c'.h, avI N, avB S, .sl (kids.map VTy.av)])) : scallP Tryd.prog F.spec_l4Draw G.spec_l4Draw [.sl (bys c.l), avI c.i, avI c.h, avI d, avI m] Z := by
  obtain ⟨K, N, S, kids, c', hg, hc', h⟩ := h
  exact scall_v h rfl (by simp [AV.norefs, AV.noref, bys_noref, norefsM (f := VTy.av) (l := kids) VTy.noref]) (k K N S kids c' hg hc')
theorem drawAny_c {c : Cur} (hc : c.ok) : Drawn Tryd.prog F.spec_l4DrawAny G.spec_l4DrawAny [.sl (bys c.l), avI c.i, avI c.h] VTy.av (YG (YB 4 + 4)) := by
  refine Drawn.intro rfl rfl (fun outs ho hw => T.spec_l4DrawAny_scon rfl ho (by simp [AV.norefs, AV.noref, bys_noref]) hw) (.mk 1 0 ⟨#[]⟩ []) (yg0 (by unfold inR; omega) (by unfold inR; omega) (by decide) (by decide)) c hc ?_
  simp only [T.spec_l4DrawAny, WA, Nat.reduceEqDiff, Nat.reduceAdd, Nat.reduceLT, Nat.reduceLeDiff, Nat.reduceMul, reduceIte, reduceCtorEq, Int.reduceEq, Int.reduceLT, Int.reduceLE, Int.reduceNe]
  refine dr_yR (drawYr_c 3 4 3 (by omega) (by omega) (by omega) (by omega) hc) fun K N S kids c1 hg hc1 => ?_
  have hg : YG (YB 4) (.mk K N S kids) := hg
  have hin := ygIn hg
  have hkl : kids.length ≤ YB 4 := by
    have := hg.wt
    rw [VTy.wt_eq] at this
    simp only [VTy.Kids_mk] at this
    omega
  have hyb : YB 4 ≤ 1000000 := by decide
  repeat' (first | (simp (disch := (first | omega | rfl | exact rfl | (simp only [cells_v, List.length_cons, List.length_nil]; done) | exact VTy.width _)) only [VTy.cells, VTy.isAgg, VTy.storable, VTy.eta, wrapI, List.length_map, wrapS, wrapA, wrapA1, lt0, WA, Nat.reduceEqDiff, Nat.reduceAdd, Nat.reduceLT, Nat.reduceLeDiff, Nat.reduceMul, reduceIte, reduceCtorEq, Int.reduceEq, Int.reduceLT, Int.reduceLE, Int.reduceNe]) | (refine ite_dec (fun hq => ?_) (fun hq => ?_) <;> (try simp only [hq, decide_true, decide_false, Bool.not_true, Bool.not_false, Bool.not_eq_true', Bool.not_eq_false']) <;> (try (exfalso; omega))) | (refine ite_ndec (fun hq => ?_) (fun hq => ?_) <;> (try simp only [hq, decide_true, decide_false, Bool.not_true, Bool.not_false, Bool.not_eq_true', Bool.not_eq_false']) <;> (try (exfalso; omega))) | (refine ite_intro (fun hq => ?_) (fun hq => ?_) <;> (try simp only [hq, decide_true, decide_false, Bool.not_true, Bool.not_false, Bool.not_eq_true', Bool.not_eq_false']) <;> (try (exfalso; omega))) | (refine bind_push ?_) | (refine dr_below (by assumption) _ (by omega) fun m c' h0 h1 hc' => ?_) | (refine dr_str (by assumption) tyM (by simp [tyM]) (by decide) fun s c' hs hc' => ?_; have hs2 := tyM_sz _ hs) | (refine dr_int (by assumption) [_, _, _, _, _] (by simp) (by decide) fun m c' hm hc' => ?_; simp only [List.mem_cons, List.not_mem_nil, or_false] at hm) | (refine dr_int (by assumption) [_, _] (by simp) (by decide) fun m c' hm hc' => ?_; simp only [List.mem_cons, List.not_mem_nil, or_false] at hm) | (refine dxY_app (by assumption) _ ?_) | (refine dxY_sl (by assumption) _ ?_))
  all_goals first
    | exact ygB hg
    | exact ⟨fun y hy => by rw [hy]; rfl, by omega, by omega, dxY_app (by assumption) _ (ygB hg)⟩
    | exact ygA hg hin.1 hin.2 (.inl rfl)
    | exact ygA hg hin.1 hin.2 (.inr (by assumption))
    | exact ygA hg hin.1 (by unfold inR; omega) (.inl rfl)
    | exact ygA hg (by unfold inR; omega) hin.2 (.inl rfl)
    | trace_state
/-- what is drawn for Put -/
theorem spec_DrawPut_c (l : List Int) (hl : l.length ≤ 1048576) (hb : ∀ x ∈ l, 0 ≤ x ∧ x < 256) : ∃ (x : VTy) (k : Int) (ts : List VTy), YG 1000000 x ∧ (∀ y ∈ ts, YG 1000 y) ∧ ts.length ≤ 4 ∧ inR k ∧ PCon Tryd.prog F.spec_DrawPut [.sl (bys l)] (.tup [x.av, avI k, .sl (ts.map VTy.av)]) := by
  obtain ⟨c, hc, rfl, hnew⟩ := spec_l1New_c l hl hb
  have hnr : AV.norefs c.avs = true := c.noref
  have key : ∃ outs : List AV, outs.length = 3 ∧ (∃ (x : VTy) (k : Int) (ts : List VTy), YG 1000000 x ∧ (∀ y ∈ ts, YG 1000 y) ∧ ts.length ≤ 4 ∧ inR k ∧ outs = [x.av, avI k, .sl (ts.map VTy.av)]) ∧ wpT Tryd.prog LF (fun a => a = packR outs) T.spec_DrawPut [.sl (bys c.l)] [] := by
    refine ex_intro ⟨[(VTy.mk 1 0 ⟨#[]⟩ []).av, avI 0, .sl (([] : List VTy).map VTy.av)], rfl, _, 0, [], yg0 (by unfold inR; omega) (by unfold inR; omega) (by decide) (by decide), by simp, by simp, by unfold inR; omega, rfl⟩ ?_
    simp only [T.spec_DrawPut, WA, Nat.reduceEqDiff, Nat.reduceAdd, Nat.reduceLT, Nat.reduceLeDiff, Nat.reduceMul, reduceIte, reduceCtorEq, Int.reduceEq, Int.reduceLT, Int.reduceLE, Int.reduceNe]
    refine scall_v hnew rfl hnr ?_
    simp only [Cur.avs, WA, Nat.reduceEqDiff, Nat.reduceAdd, Nat.reduceLT, Nat.reduceLeDiff, Nat.reduceMul, reduceIte, reduceCtorEq, Int.reduceEq, Int.reduceLT, Int.reduceLE, Int.reduceNe]
    refine (drawAny_c hc).use rfl VTy.noref fun x c1 hx hc1 => ?_
    simp only [VTy.isAgg, VTy.width, VTy.storable, VTy.cells, WA, Nat.reduceEqDiff, Nat.reduceAdd, Nat.reduceLT, Nat.reduceLeDiff, Nat.reduceMul, reduceIte, reduceCtorEq, Int.reduceEq, Int.reduceLT, Int.reduceLE, Int.reduceNe]
    refine bind_post (fun vs => ∃ (c' : Cur) (ts : List VTy), c'.ok ∧ (∀ y ∈ ts, YG 1000 y) ∧ ts.length ≤ 4 ∧ vs = [.sl (bys c'.l), avI c'.i, avI c'.h, .sl (ts.map VTy.av)]) ?_ ?_
    · simp only [WA, Nat.reduceEqDiff, Nat.reduceAdd, Nat.reduceLT, Nat.reduceLeDiff, Nat.reduceMul, reduceIte, reduceCtorEq, Int.reduceEq, Int.reduceLT, Int.reduceLE, Int.reduceNe]
      refine dr_below hc1 4 (by omega) fun m c2 h0 h1 hc2 => ?_
      simp only [WA, Nat.reduceEqDiff, Nat.reduceAdd, Nat.reduceLT, Nat.reduceLeDiff, Nat.reduceMul, reduceIte, reduceCtorEq, Int.reduceEq, Int.reduceLT, Int.reduceLE, Int.reduceNe]
      refine loop_down VTy.av (YG 1000) hc2 m h0 fun c3 xs i hc3 hxs hi0 hin => ?_
      simp only [WA, Nat.reduceEqDiff, Nat.reduceAdd, Nat.reduceLT, Nat.reduceLeDiff, Nat.reduceMul, reduceIte, reduceCtorEq, Int.reduceEq, Int.reduceLT, Int.reduceLE, Int.reduceNe]
      refine ite_dec (fun hq => ?_) (fun hq => ?_)
      · simp only [WA, Nat.reduceEqDiff, Nat.reduceAdd, Nat.reduceLT, Nat.reduceLeDiff, Nat.reduceMul, reduceIte, reduceCtorEq, Int.reduceEq, Int.reduceLT, Int.reduceLE, Int.reduceNe]
        refine dr_yR (drawYr_c 1 2 2 (by omega) (by omega) (by omega) (by omega) hc3) fun K N S kids c4 hg hc4 => ?_
        simp (disch := omega) only [List.length_map, List.length_cons, List.length_nil, wrapS, WA, Nat.reduceEqDiff, Nat.reduceAdd, Nat.reduceLT, Nat.reduceLeDiff, Nat.reduceMul, reduceIte, reduceCtorEq, Int.reduceEq, Int.reduceLT, Int.reduceLE, Int.reduceNe]
        have hg' : YG 1000 (.mk K N S kids) := hg.mono (show YB 2 ≤ 1000 by decide)
        rw [show IntKind.i64.wrap (i - 1) = i - 1 from wrapI (by omega) (by omega)]
        exact ⟨fun y hy => by rw [hy]; rfl, by omega, by omega, by omega, c4, .mk K N S kids, hc4, hg', by rw [etaY]⟩
      · simp only [WA, Nat.reduceEqDiff, Nat.reduceAdd, Nat.reduceLT, Nat.reduceLeDiff, Nat.reduceMul, reduceIte, reduceCtorEq, Int.reduceEq, Int.reduceLT, Int.reduceLE, Int.reduceNe]
        exact ⟨c3, xs, hc3, hxs, by omega, rfl⟩
    · rintro vs ⟨c', ts, hc', hts, hlen, rfl⟩ _
      simp only [VTy.isAgg, VTy.width, VTy.storable, VTy.cells, VTy.eta, WA, Nat.reduceEqDiff, Nat.reduceAdd, Nat.reduceLT, Nat.reduceLeDiff, Nat.reduceMul, reduceIte, reduceCtorEq, Int.reduceEq, Int.reduceLT, Int.reduceLE, Int.reduceNe]
      repeat (refine And.intro (by first | omega | rfl | (intro y hy; subst hy; first | rfl | exact VTy.width _)) ?_)
      refine dr_int hc' [_, _, _, _, _, _] (by simp) (by simp) fun k c2 hk hc2 => ?_
      simp only [List.mem_cons, List.not_mem_nil, or_false] at hk
      simp only [VTy.isAgg, VTy.width, VTy.storable, VTy.cells, VTy.eta, WA, Nat.reduceEqDiff, Nat.reduceAdd, Nat.reduceLT, Nat.reduceLeDiff, Nat.reduceMul, reduceIte, reduceCtorEq, Int.reduceEq, Int.reduceLT, Int.reduceLE, Int.reduceNe]
      repeat (refine And.intro (by first | omega | rfl | (intro y hy; subst hy; first | rfl | exact VTy.width _)) ?_)
      unfold retT ex
      exact ⟨_, rfl, ⟨x, k, ts, hx.mono (by decide), hts, hlen, by unfold inR; omega, by first | rfl | rw [VTy.eta]⟩, rfl⟩
  obtain ⟨outs, h1, ⟨x, k, ts, h2, h3, h5, h6, rfl⟩, h4⟩ := key
  exact ⟨x, k, ts, h2, h3, h5, h6, T.spec_DrawPut_con rfl (by simp [AV.norefs, AV.noref, bys_noref]) h4⟩
end Go.Proofs.Ab
