/-
  TOKENS THAT ARE DRAWN.
-/
import Derived.Test.YtlhnahogacofoaaDoorCDr
import Derived.Test.YtlhnahogacofoaaDoorCSpelled
set_option linter.unusedVariables false
set_option linter.unusedSimpArgs false
set_option linter.defProp false
namespace Go.Ab
set_option maxRecDepth 100000
set_option maxHeartbeats 4000000
structure TG (x : VToken) : Prop where
  ok : x.ok
  wt : x.Text.size ≤ 13
theorem TG.mk' {K : Int} {X : ByteArray} {N P : Int} (h1 : inR K) (h2 : X.size ≤ 13) (h3 : inR N) (h4 : inR P) : TG (.mk K X N P) := by
  refine ⟨(VToken.ok_iff _).2 ⟨?_, ?_, ?_⟩, ?_⟩
  · rw [VToken.Kind_mk]; exact h1
  · rw [VToken.Num_mk]; exact h3
  · rw [VToken.Pos_mk]; exact h4
  · rw [VToken.Text_mk]; exact h2
theorem dxT {c : Cur} (hc : c.ok) {K : Int} {X : ByteArray} {N P : Int} (h : TG (.mk K X N P)) : retT (dx VToken.av TG) [.agg [avI K, avB X, avI N, avI P], .sl (bys c.l), avI c.i, avI c.h] :=
  dx_ret hc (.mk K X N P) (by rw [tok_av]; exact .refl _) h
end Go.Ab
namespace Go.Proofs.Ab
open Go.Ab
set_option maxRecDepth 100000
set_option maxHeartbeats 4000000
theorem dr_strB {c : Cur} (hc : c.ok) (l : List ByteArray) (hl : l ≠ []) (hlen : l.length ≤ 1048576) (hB : ∀ s ∈ l, s.size ≤ 13) {K : AV → Prop} (k : ∀ (s : ByteArray) (c' : Cur), s.size ≤ 13 → c'.ok → goT K (.tup [avB s, .sl (bys c'.l), avI c'.i, avI c'.h])) : scallP Tryd.prog F.spec_l1Str G.spec_l1Str [.sl (bys c.l), avI c.i, avI c.h, .sl (l.map avB)] K :=
  dr_str hc l hl hlen fun s c' hs hc' => k s c' (hB s hs) hc'
theorem dr_intB {c : Cur} (hc : c.ok) (l : List Int) (hl : l ≠ []) (hlen : l.length ≤ 1048576) (hB : ∀ m ∈ l, inR m) {K : AV → Prop} (k : ∀ (m : Int) (c' : Cur), inR m → c'.ok → goT K (.tup [avI m, .sl (bys c'.l), avI c'.i, avI c'.h])) : scallP Tryd.prog F.spec_l1Int G.spec_l1Int [.sl (bys c.l), avI c.i, avI c.h, .sl (l.map avI)] K :=
  dr_int hc l hl hlen fun m c' hm hc' => k m c' (hB m hm) hc'
theorem dr_odd {c : Cur} (hc : c.ok) {K : AV → Prop} (k : ∀ (m : Int) (c' : Cur), inR m → c'.ok → goT K (.tup [avI m, .sl (bys c'.l), avI c'.i, avI c'.h])) : scallP Tryd.prog F.spec_l1Odd G.spec_l1Odd [.sl (bys c.l), avI c.i, avI c.h] K := by
  obtain ⟨n, h1, h2, c', hc', h⟩ := spec_l1Odd_c hc
  exact scall_v h rfl (by simp [Cur.avs, AV.norefs, AV.noref, bys_noref]) (k n c' ⟨h1, h2⟩ hc')
theorem sizes_dec (l : List ByteArray) (h : l.all (fun s => decide (s.size ≤ 13)) = true) : ∀ s ∈ l, s.size ≤ 13 := fun s hs => by simpa using List.all_eq_true.1 h s hs
theorem drawTok_c {c : Cur} (hc : c.ok) : Drawn Tryd.prog F.spec_l1DrawToken G.spec_l1DrawToken [.sl (bys c.l), avI c.i, avI c.h] VToken.av TG := by
  have hsg : ∀ s ∈ signsM, s.size ≤ 13 := sizes_dec _ (by decide)
  refine Drawn.intro rfl rfl (fun outs ho hw => T.spec_l1DrawToken_scon rfl ho (by simp [AV.norefs, AV.noref, bys_noref]) hw) (.mk 0 ⟨#[]⟩ 0 0) (.mk' (by unfold inR; omega) (by decide) (by unfold inR; omega) (by unfold inR; omega)) c hc ?_
  have hz : ByteArray.size ⟨#[]⟩ ≤ 13 := by decide
  simp only [T.spec_l1DrawToken, WA, Nat.reduceEqDiff, Nat.reduceAdd, Nat.reduceLT, Nat.reduceLeDiff, Nat.reduceMul, reduceIte, reduceCtorEq, Int.reduceEq, Int.reduceLT, Int.reduceLE, Int.reduceNe]
  repeat' (first | (simp (disch := (first | omega | rfl | exact rfl | (simp only [cells_v, List.length_cons, List.length_nil]; done) | exact VToken.width _)) only [VToken.cells, VToken.isAgg, VToken.storable, VToken.eta, wrapI, wrapS, wrapA, wrapA1, lt0, WA, Nat.reduceEqDiff, Nat.reduceAdd, Nat.reduceLT, Nat.reduceLeDiff, Nat.reduceMul, reduceIte, reduceCtorEq, Int.reduceEq, Int.reduceLT, Int.reduceLE, Int.reduceNe]) | (refine ite_dec (fun hq => ?_) (fun hq => ?_) <;> (try simp only [hq, decide_true, decide_false, Bool.not_true, Bool.not_false, Bool.not_eq_true', Bool.not_eq_false']) <;> (try (exfalso; omega))) | (refine ite_ndec (fun hq => ?_) (fun hq => ?_) <;> (try simp only [hq, decide_true, decide_false, Bool.not_true, Bool.not_false, Bool.not_eq_true', Bool.not_eq_false']) <;> (try (exfalso; omega))) | (refine ite_intro (fun hq => ?_) (fun hq => ?_) <;> (try simp only [hq, decide_true, decide_false, Bool.not_true, Bool.not_false, Bool.not_eq_true', Bool.not_eq_false']) <;> (try (exfalso; omega))) | (refine bind_push ?_) | (refine dr_below (by assumption) _ (by omega) fun m c' h0 h1 hc' => ?_) | (refine dr_odd (by assumption) fun m c' hm hc' => ?_) | (refine call_p (spec_l1Signs_c) (norefsM (f := avB) fun _ => rfl) ?_) | (refine dr_strB (by assumption) signsM (by simp [signsM]) (by decide) hsg fun s c' hs hc' => ?_) | (refine dr_intB (by assumption) [_, _, _, _, _] (by simp) (by simp) (by simp only [List.mem_cons, List.not_mem_nil, or_false, forall_eq_or_imp, forall_eq, inR]; omega) fun m c' hm hc' => ?_) | (refine dr_intB (by assumption) [_, _, _] (by simp) (by decide) (by simp only [List.mem_cons, List.not_mem_nil, or_false, forall_eq_or_imp, forall_eq, inR]; omega) fun m c' hm hc' => ?_) | (refine dr_intB (by assumption) [_, _] (by simp) (by decide) (by simp only [List.mem_cons, List.not_mem_nil, or_false, forall_eq_or_imp, forall_eq, inR]; omega) fun m c' hm hc' => ?_) | (refine dr_strB (by assumption) [_, _, _, _, _, _, _] (by simp) (by decide) (sizes_dec _ (by decide)) fun s c' hs hc' => ?_) | (refine dr_strB (by assumption) [_, _, _, _, _, _] (by simp) (by decide) (sizes_dec _ (by decide)) fun s c' hs hc' => ?_) | (refine dr_strB (by assumption) [_, _, _, _, _] (by simp) (by decide) (sizes_dec _ (by decide)) fun s c' hs hc' => ?_) | (refine dr_strB (by assumption) [_, _, _, _] (by simp) (by decide) (sizes_dec _ (by decide)) fun s c' hs hc' => ?_) | (refine dr_strB (by assumption) [_, _, _] (by simp) (by decide) (sizes_dec _ (by decide)) fun s c' hs hc' => ?_) | (refine dxT (by assumption) (.mk' ?_ ?_ ?_ ?_)))
  all_goals first
    | assumption
    | (simp only [inR]; omega)
    | skip
theorem spec_l1Size_c (l : List Int) (most : Int) (hl : l.length ≤ 1048576) (hm : 3 ≤ most) : ∃ n : Int, 0 ≤ n ∧ n ≤ most ∧ PCon Tryd.prog F.spec_l1Size [.sl (bys l), avI most] (avI n) := by
  have w : IntKind.i64.wrap ((l.length : Int).tdiv 12) = (l.length : Int).tdiv 12 := by
    rw [Int.tdiv_eq_ediv_of_nonneg (by omega)]; exact wrapI (by omega) (by omega)
  have w2 : IntKind.i64.wrap (3 + (l.length : Int).tdiv 12) = 3 + (l.length : Int).tdiv 12 := by
    rw [Int.tdiv_eq_ediv_of_nonneg (by omega)]; exact wrapI (by omega) (by omega)
  have h0 : 0 ≤ (l.length : Int).tdiv 12 := Int.tdiv_nonneg (by omega) (by omega)
  by_cases h : most < 3 + (l.length : Int).tdiv 12
  · refine ⟨most, by omega, Int.le_refl _, T.spec_l1Size_con rfl (by simp [AV.norefs, AV.noref, bys_noref]) ?_⟩
    simp only [T.spec_l1Size, List.length_map, w, w2, decide_eq_true h, WA, Nat.reduceEqDiff, Nat.reduceAdd, Nat.reduceLT, Nat.reduceLeDiff, Nat.reduceMul, reduceIte, reduceCtorEq, Int.reduceEq, Int.reduceLT, Int.reduceLE, Int.reduceNe]
    repeat' (first | (simp (disch := omega) only [WA, Nat.reduceEqDiff, Nat.reduceAdd, Nat.reduceLT, Nat.reduceLeDiff, Nat.reduceMul, reduceIte, reduceCtorEq, Int.reduceEq, Int.reduceLT, Int.reduceLE, Int.reduceNe]) | (refine ite_dec (fun _ => ?_) (fun _ => ?_)) | (refine ite_ndec (fun _ => ?_) (fun _ => ?_)) | (refine ite_intro (fun _ => ?_) (fun _ => ?_)) | (refine bind_push ?_))
  · refine ⟨3 + (l.length : Int).tdiv 12, by omega, by omega, T.spec_l1Size_con rfl (by simp [AV.norefs, AV.noref, bys_noref]) ?_⟩
    simp only [T.spec_l1Size, List.length_map, w, w2, decide_eq_false h, WA, Nat.reduceEqDiff, Nat.reduceAdd, Nat.reduceLT, Nat.reduceLeDiff, Nat.reduceMul, reduceIte, reduceCtorEq, Int.reduceEq, Int.reduceLT, Int.reduceLE, Int.reduceNe]
    repeat' (first | (simp (disch := omega) only [WA, Nat.reduceEqDiff, Nat.reduceAdd, Nat.reduceLT, Nat.reduceLeDiff, Nat.reduceMul, reduceIte, reduceCtorEq, Int.reduceEq, Int.reduceLT, Int.reduceLE, Int.reduceNe]) | (refine ite_dec (fun _ => ?_) (fun _ => ?_)) | (refine ite_ndec (fun _ => ?_) (fun _ => ?_)) | (refine ite_intro (fun _ => ?_) (fun _ => ?_)) | (refine bind_push ?_))
theorem tokenOk_T {x : VToken} (h : TG x) : PCon Tryd.prog F.spec_TokenOk [x.av] (.v (.bool (tokenM x))) := spec_TokenOk_c x (by rw [VToken.wt_eq]; have := h.wt; omega)
/-- what is drawn: some tokens, not too many -/
theorem spec_DrawSpell_c (l : List Int) (hl : l.length ≤ 1048576) (hb : ∀ x ∈ l, 0 ≤ x ∧ x < 256) : ∃ ts : List VToken, (∀ x ∈ ts, TG x) ∧ ts.length ≤ 1202 ∧ PCon Tryd.prog F.spec_DrawSpell [.sl (bys l)] (.sl (ts.map VToken.av)) := by
  obtain ⟨c, hc, rfl, hnew⟩ := spec_l1New_c l hl hb
  obtain ⟨n, n0, n1, hsz⟩ := spec_l1Size_c c.l 30 hl (by omega)
  have hnr : AV.norefs c.avs = true := c.noref
  have key : ∃ outs : List AV, outs.length = 1 ∧ (∃ ts : List VToken, (∀ x ∈ ts, TG x) ∧ ts.length ≤ 1202 ∧ outs = [.sl (ts.map VToken.av)]) ∧ wpT Tryd.prog LF (fun a => a = packR outs) T.spec_DrawSpell [.sl (bys c.l)] [] := by
    refine ex_intro ⟨[.sl (([] : List VToken).map VToken.av)], rfl, [], by simp, by simp, rfl⟩ ?_
    have fin : ∀ ts : List VToken, (∀ x ∈ ts, TG x) → ts.length ≤ 1202 → ex 1 (fun outs => ∃ ts : List VToken, (∀ x ∈ ts, TG x) ∧ ts.length ≤ 1202 ∧ outs = [.sl (ts.map VToken.av)]) (.sl (ts.map VToken.av)) :=
      fun ts h1 h2 => ⟨_, rfl, ⟨ts, h1, h2, rfl⟩, rfl⟩
    simp only [T.spec_DrawSpell, WA, Nat.reduceEqDiff, Nat.reduceAdd, Nat.reduceLT, Nat.reduceLeDiff, Nat.reduceMul, reduceIte, reduceCtorEq, Int.reduceEq, Int.reduceLT, Int.reduceLE, Int.reduceNe]
    refine scall_v hnew rfl hnr ?_
    simp only [Cur.avs, WA, Nat.reduceEqDiff, Nat.reduceAdd, Nat.reduceLT, Nat.reduceLeDiff, Nat.reduceMul, reduceIte, reduceCtorEq, Int.reduceEq, Int.reduceLT, Int.reduceLE, Int.reduceNe]
    refine bind_post (fun vs => ∃ (c' : Cur) (ts : List VToken), c'.ok ∧ (∀ x ∈ ts, TG x) ∧ ts.length ≤ 30 ∧ vs = [.sl (bys c'.l), avI c'.i, avI c'.h, .sl (ts.map VToken.av)]) ?_ ?_
    · simp only [WA, Nat.reduceEqDiff, Nat.reduceAdd, Nat.reduceLT, Nat.reduceLeDiff, Nat.reduceMul, reduceIte, reduceCtorEq, Int.reduceEq, Int.reduceLT, Int.reduceLE, Int.reduceNe]
      refine call_v hsz ?_
      simp only [WA, Nat.reduceEqDiff, Nat.reduceAdd, Nat.reduceLT, Nat.reduceLeDiff, Nat.reduceMul, reduceIte, reduceCtorEq, Int.reduceEq, Int.reduceLT, Int.reduceLE, Int.reduceNe]
      obtain ⟨a1, a2, a3⟩ := Cur.below_ok hc n
      refine scall_v (spec_l1Below_c hc n) rfl (by simp [Cur.avs, AV.norefs, AV.noref, bys_noref]) ?_
      simp only [Cur.avs, WA, Nat.reduceEqDiff, Nat.reduceAdd, Nat.reduceLT, Nat.reduceLeDiff, Nat.reduceMul, reduceIte, reduceCtorEq, Int.reduceEq, Int.reduceLT, Int.reduceLE, Int.reduceNe]
      have hm : (c.below n).1 ≤ 30 := by
        by_cases h : 0 < n
        · have := a3 h; omega
        · unfold Cur.below; rw [if_pos (by omega)]; simp
      generalize (c.below n).1 = m at a2 hm ⊢
      generalize (c.below n).2 = c1 at a1 ⊢
      refine loop_intro (ι := Cur × List VToken × Int) (fun q => q.1.ok ∧ (∀ x ∈ q.2.1, TG x) ∧ 0 ≤ q.2.2 ∧ (q.2.1.length : Int) + q.2.2 ≤ 30) (fun q => [.sl (bys q.1.l), avI q.1.i, avI q.1.h, .sl (q.2.1.map VToken.av), avI q.2.2]) (fun q => q.2.2.toNat) (c1, [], m) ⟨a1, by simp, a2, by simpa using hm⟩ rfl ?_
      rintro ⟨c, ts, i⟩ ⟨hc, hts, hi0, hi⟩
      simp only at hc hts hi0 hi
      simp only [WA, Nat.reduceEqDiff, Nat.reduceAdd, Nat.reduceLT, Nat.reduceLeDiff, Nat.reduceMul, reduceIte, reduceCtorEq, Int.reduceEq, Int.reduceLT, Int.reduceLE, Int.reduceNe]
      refine ite_dec (fun hq => ?_) (fun hq => ?_)
      · simp only [WA, Nat.reduceEqDiff, Nat.reduceAdd, Nat.reduceLT, Nat.reduceLeDiff, Nat.reduceMul, reduceIte, reduceCtorEq, Int.reduceEq, Int.reduceLT, Int.reduceLE, Int.reduceNe]
        refine bind_post (fun vs => ∃ (c' : Cur) (ts' : List VToken) (x : VToken), c'.ok ∧ (∀ x ∈ ts', TG x) ∧ ts'.length ≤ ts.length + 1 ∧ vs = [.sl (bys c'.l), avI c'.i, avI c'.h, .sl (ts'.map VToken.av), avI x.Kind, avB x.Text, avI x.Num, avI x.Pos]) ?_ ?_
        · simp only [WA, Nat.reduceEqDiff, Nat.reduceAdd, Nat.reduceLT, Nat.reduceLeDiff, Nat.reduceMul, reduceIte, reduceCtorEq, Int.reduceEq, Int.reduceLT, Int.reduceLE, Int.reduceNe]
          refine (drawTok_c hc).use rfl VToken.noref fun x c' hx hc' => ?_
          simp only [VToken.isAgg, VToken.width, VToken.storable, VToken.cells, VToken.eta, WA, Nat.reduceEqDiff, Nat.reduceAdd, Nat.reduceLT, Nat.reduceLeDiff, Nat.reduceMul, reduceIte, reduceCtorEq, Int.reduceEq, Int.reduceLT, Int.reduceLE, Int.reduceNe]
          refine bind_post (fun vs => ∃ (c2 : Cur) (b : Bool), c2.ok ∧ vs = [.sl (bys c2.l), avI c2.i, avI c2.h, .v (.bool b)]) ?_ ?_
          · simp only [VToken.isAgg, VToken.width, VToken.storable, VToken.cells, VToken.eta, WA, Nat.reduceEqDiff, Nat.reduceAdd, Nat.reduceLT, Nat.reduceLeDiff, Nat.reduceMul, reduceIte, reduceCtorEq, Int.reduceEq, Int.reduceLT, Int.reduceLE, Int.reduceNe]
            refine call_v (tokenOk_T hx) ?_
            simp only [WA, Nat.reduceEqDiff, Nat.reduceAdd, Nat.reduceLT, Nat.reduceLeDiff, Nat.reduceMul, reduceIte, reduceCtorEq, Int.reduceEq, Int.reduceLT, Int.reduceLE, Int.reduceNe]
            refine ite_intro (fun h1 => ?_) (fun h1 => ?_)
            · simp only [VToken.isAgg, VToken.width, VToken.storable, VToken.cells, VToken.eta, WA, Nat.reduceEqDiff, Nat.reduceAdd, Nat.reduceLT, Nat.reduceLeDiff, Nat.reduceMul, reduceIte, reduceCtorEq, Int.reduceEq, Int.reduceLT, Int.reduceLE, Int.reduceNe]
              refine ite_ndec (fun h2 => ?_) (fun h2 => ?_)
              · simp only [WA, Nat.reduceEqDiff, Nat.reduceAdd, Nat.reduceLT, Nat.reduceLeDiff, Nat.reduceMul, reduceIte, reduceCtorEq, Int.reduceEq, Int.reduceLT, Int.reduceLE, Int.reduceNe]
                exact ⟨c', true, hc', rfl⟩
              · simp only [WA, Nat.reduceEqDiff, Nat.reduceAdd, Nat.reduceLT, Nat.reduceLeDiff, Nat.reduceMul, reduceIte, reduceCtorEq, Int.reduceEq, Int.reduceLT, Int.reduceLE, Int.reduceNe]
                refine dr_once hc' 8 fun b c2 hc2 => ?_
                simp only [WA, Nat.reduceEqDiff, Nat.reduceAdd, Nat.reduceLT, Nat.reduceLeDiff, Nat.reduceMul, reduceIte, reduceCtorEq, Int.reduceEq, Int.reduceLT, Int.reduceLE, Int.reduceNe]
                exact ⟨c2, b, hc2, rfl⟩
            · simp only [WA, Nat.reduceEqDiff, Nat.reduceAdd, Nat.reduceLT, Nat.reduceLeDiff, Nat.reduceMul, reduceIte, reduceCtorEq, Int.reduceEq, Int.reduceLT, Int.reduceLE, Int.reduceNe]
              refine dr_once hc' 8 fun b c2 hc2 => ?_
              simp only [WA, Nat.reduceEqDiff, Nat.reduceAdd, Nat.reduceLT, Nat.reduceLeDiff, Nat.reduceMul, reduceIte, reduceCtorEq, Int.reduceEq, Int.reduceLT, Int.reduceLE, Int.reduceNe]
              exact ⟨c2, b, hc2, rfl⟩
          · rintro vs ⟨c2, b, hc2, rfl⟩ _
            simp only [WA, Nat.reduceEqDiff, Nat.reduceAdd, Nat.reduceLT, Nat.reduceLeDiff, Nat.reduceMul, reduceIte, reduceCtorEq, Int.reduceEq, Int.reduceLT, Int.reduceLE, Int.reduceNe]
            refine ite_intro (fun h1 => ?_) (fun h1 => ?_)
            · simp only [VToken.isAgg, VToken.width, VToken.storable, VToken.cells, VToken.eta, List.length_map, List.length_cons, List.length_nil, WA, Nat.reduceEqDiff, Nat.reduceAdd, Nat.reduceLT, Nat.reduceLeDiff, Nat.reduceMul, reduceIte, reduceCtorEq, Int.reduceEq, Int.reduceLT, Int.reduceLE, Int.reduceNe]
              repeat (refine And.intro (by first | omega | rfl | (intro y hy; subst hy; first | rfl | exact VToken.width _)) ?_)
              refine ⟨c2, ts ++ [x], x, hc2, fun y hy => ?_, by simp, by simp only [List.map_append, List.map_cons, List.map_nil]⟩
              rcases List.mem_append.1 hy with hy | hy
              · exact hts y hy
              · rw [List.mem_singleton.1 hy]; exact hx
            · simp only [VToken.cells, WA, Nat.reduceEqDiff, Nat.reduceAdd, Nat.reduceLT, Nat.reduceLeDiff, Nat.reduceMul, reduceIte, reduceCtorEq, Int.reduceEq, Int.reduceLT, Int.reduceLE, Int.reduceNe]
              exact ⟨c2, ts, x, hc2, hts, by omega, rfl⟩
        · rintro vs ⟨c2, ts', x, hc2, hts', hlen, rfl⟩ _
          simp only [show IntKind.i64.wrap (i - 1) = i - 1 from wrapI (by omega) (by omega), WA, Nat.reduceEqDiff, Nat.reduceAdd, Nat.reduceLT, Nat.reduceLeDiff, Nat.reduceMul, reduceIte, reduceCtorEq, Int.reduceEq, Int.reduceLT, Int.reduceLE, Int.reduceNe]
          exact ⟨(c2, ts', i - 1), ⟨hc2, hts', by simp only; omega, by simp only; omega⟩, by simp only; omega, rfl⟩
      · simp only [WA, Nat.reduceEqDiff, Nat.reduceAdd, Nat.reduceLT, Nat.reduceLeDiff, Nat.reduceMul, reduceIte, reduceCtorEq, Int.reduceEq, Int.reduceLT, Int.reduceLE, Int.reduceNe]
        exact ⟨c, ts, hc, hts, by omega, rfl⟩
    · rintro vs ⟨c', ts, hc', hts, hlen, rfl⟩ _
      simp only [WA, Nat.reduceEqDiff, Nat.reduceAdd, Nat.reduceLT, Nat.reduceLeDiff, Nat.reduceMul, reduceIte, reduceCtorEq, Int.reduceEq, Int.reduceLT, Int.reduceLE, Int.reduceNe]
      refine dr_once hc' 60 fun b c2 hc2 => ?_
      simp only [WA, Nat.reduceEqDiff, Nat.reduceAdd, Nat.reduceLT, Nat.reduceLeDiff, Nat.reduceMul, reduceIte, reduceCtorEq, Int.reduceEq, Int.reduceLT, Int.reduceLE, Int.reduceNe]
      refine ite_intro (fun h1 => ?_) (fun h1 => ?_)
      · simp only [WA, Nat.reduceEqDiff, Nat.reduceAdd, Nat.reduceLT, Nat.reduceLeDiff, Nat.reduceMul, reduceIte, reduceCtorEq, Int.reduceEq, Int.reduceLT, Int.reduceLE, Int.reduceNe]
        refine dr_below hc2 2 (by omega) fun m c3 hm0 hm1 hc3 => ?_
        obtain ⟨k, hk⟩ : ∃ k : Nat, 1200 + m = k := ⟨(1200 + m).toNat, by omega⟩
        simp only [hk, show IntKind.i64.wrap (k : Int) = k from wrapI (by omega) (by omega), WA, Nat.reduceEqDiff, Nat.reduceAdd, Nat.reduceLT, Nat.reduceLeDiff, Nat.reduceMul, reduceIte, reduceCtorEq, Int.reduceEq, Int.reduceLT, Int.reduceLE, Int.reduceNe]
        repeat (refine And.intro (by first | omega | rfl) ?_)
        have hzz : AV.agg [.v (.int .i64 0), .v (.string ⟨#[]⟩), .v (.int .i64 0), .v (.int .i64 0)] = (VToken.mk 0 ⟨#[]⟩ 0 0).av := rfl
        have z1 : VToken.mk 0 ⟨#[]⟩ 0 0 = VToken.mk 0 ⟨#[]⟩ 0 0 := rfl
        refine loop_up k (fun i => [.sl ((List.replicate i (VToken.mk 1 ⟨#[]⟩ 0 0) ++ List.replicate (k - i) (VToken.mk 0 ⟨#[]⟩ 0 0)).map VToken.av), avI i]) (by simp [hzz, Int.toNat_natCast]) fun i hi => ?_
        have hlen2 : (List.replicate i (VToken.mk 1 ⟨#[]⟩ 0 0) ++ List.replicate (k - i) (VToken.mk 0 ⟨#[]⟩ 0 0)).length = k := by simp; omega
        simp only [List.length_map, hlen2, WA, Nat.reduceEqDiff, Nat.reduceAdd, Nat.reduceLT, Nat.reduceLeDiff, Nat.reduceMul, reduceIte, reduceCtorEq, Int.reduceEq, Int.reduceLT, Int.reduceLE, Int.reduceNe]
        refine ite_dec (fun h2 => ?_) (fun h2 => ?_)
        · have hlt : i < k := by omega
          have hg : ((List.replicate i (VToken.mk 1 ⟨#[]⟩ 0 0) ++ List.replicate (k - i) (VToken.mk 0 ⟨#[]⟩ 0 0)).map VToken.av).getD i .top = (VToken.mk 0 ⟨#[]⟩ 0 0).av := by
            obtain ⟨d, hd⟩ : ∃ d, k - i = d + 1 := ⟨k - i - 1, by omega⟩
            simp [List.getD, List.getElem?_append_right, hd, List.replicate_succ]
          have hu : upd (VToken.mk 0 ⟨#[]⟩ 0 0).av 0 (avI 1) = (VToken.mk 1 ⟨#[]⟩ 0 0).av := by unfold upd; rw [VToken.cells, tok_av]; rfl
          have hst : ((List.replicate i (VToken.mk 1 ⟨#[]⟩ 0 0) ++ List.replicate (k - i) (VToken.mk 0 ⟨#[]⟩ 0 0)).map VToken.av).set i (VToken.mk 1 ⟨#[]⟩ 0 0).av = (List.replicate (i + 1) (VToken.mk 1 ⟨#[]⟩ 0 0) ++ List.replicate (k - (i + 1)) (VToken.mk 0 ⟨#[]⟩ 0 0)).map VToken.av := by
            rw [← List.map_set, List.set_append_right _ _ (by simp), List.length_replicate, Nat.sub_self, show k - i = (k - (i + 1)) + 1 by omega, List.replicate_succ, List.set_cons_zero, show List.replicate (i + 1) (VToken.mk 1 ⟨#[]⟩ 0 0) = List.replicate i (VToken.mk 1 ⟨#[]⟩ 0 0) ++ [VToken.mk 1 ⟨#[]⟩ 0 0] from List.replicate_succ']
            simp
          have hlm : ((List.replicate i (VToken.mk 1 ⟨#[]⟩ 0 0) ++ List.replicate (k - i) (VToken.mk 0 ⟨#[]⟩ 0 0)).map VToken.av).length = k := by rw [List.length_map, hlen2]
          simp (disch := omega) only [hlm, hg, hu, hst, VToken.width, wrapA1, WA, Nat.reduceEqDiff, Nat.reduceAdd, Nat.reduceLT, Nat.reduceLeDiff, Nat.reduceMul, reduceIte, reduceCtorEq, Int.reduceEq, Int.reduceLT, Int.reduceLE, Int.reduceNe]
          repeat (refine And.intro (by first | omega | rfl) ?_)
          first | trivial | exact hlt | exact ⟨hlt, rfl⟩
        · have he : i = k := by omega
          subst he
          simp only [retT_ex, WA, Nat.reduceEqDiff, Nat.reduceAdd, Nat.reduceLT, Nat.reduceLeDiff, Nat.reduceMul, reduceIte, reduceCtorEq, Int.reduceEq, Int.reduceLT, Int.reduceLE, Int.reduceNe]
          rw [Nat.sub_self, List.replicate_zero, List.append_nil]
          refine fin _ (fun x hx => ?_) (by simp; omega)
          rw [(List.mem_replicate.1 hx).2]
          exact .mk' (by unfold inR; omega) (by decide) (by unfold inR; omega) (by unfold inR; omega)
      · simp only [retT_ex, WA, Nat.reduceEqDiff, Nat.reduceAdd, Nat.reduceLT, Nat.reduceLeDiff, Nat.reduceMul, reduceIte, reduceCtorEq, Int.reduceEq, Int.reduceLT, Int.reduceLE, Int.reduceNe]
        exact fin ts hts (by omega)
  obtain ⟨outs, h1, ⟨ts, h2, h3, rfl⟩, h4⟩ := key
  exact ⟨ts, h2, h3, T.spec_DrawSpell_con rfl (by simp [AV.norefs, AV.noref, bys_noref]) h4⟩
end Go.Proofs.Ab
