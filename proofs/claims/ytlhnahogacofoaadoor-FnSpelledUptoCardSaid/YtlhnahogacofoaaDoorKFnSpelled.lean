/- Part of a proof: the functions that the law reaches, walked by the abstract logic of the texts Ab. -/
import Derived.Test.YtlhnahogacofoaaDoorH
import Derived.Test.YtlhnahogacofoaaDoorCDrawTok
set_option linter.unusedVariables false
set_option linter.unusedSimpArgs false
set_option linter.defProp false
namespace Go.Ab
set_option maxRecDepth 100000
set_option maxHeartbeats 4000000
theorem tokenM_at {t : VToken} (h : tokenM t = true) (q : Nat) : tokenM ⟨t.Kind, t.Text, t.Num, q⟩ = true := by
  unfold tokenM at h ⊢
  simp only [VToken.Kind_mk, VToken.Text_mk, VToken.Num_mk, VToken.Pos_mk, Bool.and_eq_true, decide_eq_true_eq] at h ⊢
  exact ⟨⟨⟨by omega, h.1.1.2⟩, h.1.2⟩, h.2⟩
end Go.Ab
namespace Go.Proofs.Ab
open Go.Ab
set_option maxRecDepth 100000
set_option maxHeartbeats 4000000
theorem laws_big_c (l : List Int) (hl : l.length ≤ 1048576) : PCon Tryd.prog F.laws_big [.sl (bys l)] (.v (.bool false)) := by
  refine T.laws_big_con rfl (by simp [AV.norefs, AV.noref, bys_noref]) ?_
  have d0 : decide ((1048576 : Int) < (l.length : Int)) = false := decide_eq_false (by omega)
  simp only [T.laws_big, List.length_map, d0, WA, Nat.reduceEqDiff, Nat.reduceAdd, Nat.reduceLT, Nat.reduceLeDiff, Nat.reduceMul, reduceIte, reduceCtorEq, Int.reduceEq, Int.reduceLT, Int.reduceLE, Int.reduceNe]
theorem law_FnSpelled (x0 : List Int) (hb : x0.length ≤ 1048576) (ho0 : ∀ y ∈ x0, 0 ≤ y ∧ y < 256) : PCon Tryd.prog F.laws_FnSpelled [.sl (x0.map fun y => .v (.int .u8 y))] (.v (.bool true)) := by
  obtain ⟨ts, hts, hlen, hd⟩ := spec_DrawSpell_c x0 hb ho0
  have hno : AV.norefs [AV.sl (x0.map fun y => .v (.int .u8 y))] = true := by simp [AV.norefs, AV.noref, norefsM (f := fun y => AV.v (.int .u8 y)) (l := x0) fun _ => rfl]
  refine T.laws_FnSpelled_con rfl hno ?_
  simp only [T.laws_FnSpelled, WA, Nat.reduceEqDiff, Nat.reduceAdd, Nat.reduceLT, Nat.reduceLeDiff, Nat.reduceMul, reduceIte, reduceCtorEq, Int.reduceEq, Int.reduceLT, Int.reduceLE, Int.reduceNe]
  refine call_v (laws_big_c x0 hb) ?_
  simp only [WA, Nat.reduceEqDiff, Nat.reduceAdd, Nat.reduceLT, Nat.reduceLeDiff, Nat.reduceMul, reduceIte, reduceCtorEq, Int.reduceEq, Int.reduceLT, Int.reduceLE, Int.reduceNe]
  refine call_p hd (by simp [AV.noref, norefsM (f := VToken.av) VToken.noref]) ?_
  simp only [WA, Nat.reduceEqDiff, Nat.reduceAdd, Nat.reduceLT, Nat.reduceLeDiff, Nat.reduceMul, reduceIte, reduceCtorEq, Int.reduceEq, Int.reduceLT, Int.reduceLE, Int.reduceNe]
  refine bind_post (fun vs => ∃ l : List VToken, (∀ t ∈ l, TG t ∧ tokenM t = true ∧ t.Kind ≠ 8) ∧ l.length ≤ 200 ∧ vs = [.sl (l.map VToken.av)]) ?_ ?_
  · simp only [WA, Nat.reduceEqDiff, Nat.reduceAdd, Nat.reduceLT, Nat.reduceLeDiff, Nat.reduceMul, reduceIte, reduceCtorEq, Int.reduceEq, Int.reduceLT, Int.reduceLE, Int.reduceNe]
    refine loop_intro (ι := Nat × List VToken) (fun q => q.1 ≤ ts.length ∧ q.2.length ≤ q.1 ∧ q.2.length ≤ 200 ∧ q.1 ≤ 200 ∧ ∀ t ∈ q.2, TG t ∧ tokenM t = true ∧ t.Kind ≠ 8) (fun q => [.sl (q.2.map VToken.av), avI q.1]) (fun q => ts.length - q.1) (0, [])
      ⟨Nat.zero_le _, by simp, by simp, by simp, by simp⟩ rfl ?_
    rintro ⟨i, l⟩ ⟨hi, hl1, hl2, hi2, hl⟩
    simp only at hi hl1 hl2 hi2 hl
    simp only [List.length_map, WA, Nat.reduceEqDiff, Nat.reduceAdd, Nat.reduceLT, Nat.reduceLeDiff, Nat.reduceMul, reduceIte, reduceCtorEq, Int.reduceEq, Int.reduceLT, Int.reduceLE, Int.reduceNe]
    refine bind_push ?_
    simp only [List.length_map, WA, Nat.reduceEqDiff, Nat.reduceAdd, Nat.reduceLT, Nat.reduceLeDiff, Nat.reduceMul, reduceIte, reduceCtorEq, Int.reduceEq, Int.reduceLT, Int.reduceLE, Int.reduceNe]
    refine bind_push ?_
    simp only [List.length_map, WA, Nat.reduceEqDiff, Nat.reduceAdd, Nat.reduceLT, Nat.reduceLeDiff, Nat.reduceMul, reduceIte, reduceCtorEq, Int.reduceEq, Int.reduceLT, Int.reduceLE, Int.reduceNe]
    have done : ∃ l' : List VToken, (∀ t ∈ l', TG t ∧ tokenM t = true ∧ t.Kind ≠ 8) ∧ l'.length ≤ 200 ∧ [AV.sl (l.map VToken.av)] = [.sl (l'.map VToken.av)] := ⟨l, hl, hl2, rfl⟩
    refine ite_dec (fun h1 => ?_) (fun h1 => ?_)
    · have hlt : i < ts.length := by omega
      have ht := hts _ (List.getElem_mem hlt)
      simp only [WA, Nat.reduceEqDiff, Nat.reduceAdd, Nat.reduceLT, Nat.reduceLeDiff, Nat.reduceMul, reduceIte, reduceCtorEq, Int.reduceEq, Int.reduceLT, Int.reduceLE, Int.reduceNe]
      refine ite_dec (fun h2 => ?_) (fun h2 => ?_)
      · simp only [WA, Nat.reduceEqDiff, Nat.reduceAdd, Nat.reduceLT, Nat.reduceLeDiff, Nat.reduceMul, reduceIte, reduceCtorEq, Int.reduceEq, Int.reduceLT, Int.reduceLE, Int.reduceNe]
        have hel : ∀ (s : Nat) (kk : IntKind) (K : AV → Prop), (ts[i]).av.cells.length = s → elemP s (.sl (ts.map VToken.av)) (.v (.int kk (i : Int))) K = goT K (ts[i]).av := fun s kk K hs => elem_at i (List.getElem?_eq_getElem hlt) VToken.av s kk K hs
        generalize ts[i] = x at ht hel
        have next : ∀ l' : List VToken, (∀ t ∈ l', TG t ∧ tokenM t = true ∧ t.Kind ≠ 8) → l'.length ≤ i + 1 → ∃ j : Nat × List VToken, (j.1 ≤ ts.length ∧ j.2.length ≤ j.1 ∧ j.2.length ≤ 200 ∧ j.1 ≤ 200 ∧ ∀ t ∈ j.2, TG t ∧ tokenM t = true ∧ t.Kind ≠ 8) ∧ ts.length - j.1 < ts.length - i ∧ [AV.sl (l'.map VToken.av), avI (i + 1 : Nat)] = [.sl (j.2.map VToken.av), avI j.1] :=
          fun l' h3 h4 => ⟨(i + 1, l'), ⟨by simp only; omega, h4, by simp only; omega, by simp only; omega, h3⟩, by simp only; omega, rfl⟩
        refine bind_push ?_
        simp only [WA, Nat.reduceEqDiff, Nat.reduceAdd, Nat.reduceLT, Nat.reduceLeDiff, Nat.reduceMul, reduceIte, reduceCtorEq, Int.reduceEq, Int.reduceLT, Int.reduceLE, Int.reduceNe]
        refine bind_push ?_
        simp (disch := exact VToken.width _) only [hel, VToken.isAgg, VToken.width, VToken.storable, WA, Nat.reduceEqDiff, Nat.reduceAdd, Nat.reduceLT, Nat.reduceLeDiff, Nat.reduceMul, reduceIte, reduceCtorEq, Int.reduceEq, Int.reduceLT, Int.reduceLE, Int.reduceNe]
        refine call_v (tokenOk_T ht) ?_
        simp only [WA, Nat.reduceEqDiff, Nat.reduceAdd, Nat.reduceLT, Nat.reduceLeDiff, Nat.reduceMul, reduceIte, reduceCtorEq, Int.reduceEq, Int.reduceLT, Int.reduceLE, Int.reduceNe]
        refine ite_intro (fun h3 => ?_) (fun h3 => ?_)
        · simp (disch := exact VToken.width _) only [hel, VToken.cells, List.length_cons, List.length_nil, WA, Nat.reduceEqDiff, Nat.reduceAdd, Nat.reduceLT, Nat.reduceLeDiff, Nat.reduceMul, reduceIte, reduceCtorEq, Int.reduceEq, Int.reduceLT, Int.reduceLE, Int.reduceNe]
          refine ite_ndec (fun h4 => ?_) (fun h4 => ?_)
          · simp (disch := (first | exact VToken.width _ | omega)) only [hel, VToken.isAgg, VToken.width, VToken.storable, VToken.eta, List.length_map, List.length_cons, List.length_nil, wrapA1, WA, Nat.reduceEqDiff, Nat.reduceAdd, Nat.reduceLT, Nat.reduceLeDiff, Nat.reduceMul, reduceIte, reduceCtorEq, Int.reduceEq, Int.reduceLT, Int.reduceLE, Int.reduceNe]
            repeat (refine And.intro (by first | omega | rfl | (intro y hy; subst hy; first | rfl | exact VToken.width _)) ?_)
            have := next (l ++ [x]) (fun t ht' => by
              rcases List.mem_append.1 ht' with h | h
              · exact hl t h
              · rw [List.mem_singleton.1 h]; exact ⟨ht, h3, h4⟩) (by simp; omega)
            simpa only [List.map_append, List.map_cons, List.map_nil] using this
          · simp (disch := omega) only [wrapA1, WA, Nat.reduceEqDiff, Nat.reduceAdd, Nat.reduceLT, Nat.reduceLeDiff, Nat.reduceMul, reduceIte, reduceCtorEq, Int.reduceEq, Int.reduceLT, Int.reduceLE, Int.reduceNe]
            exact next l hl (by omega)
        · simp (disch := omega) only [wrapA1, WA, Nat.reduceEqDiff, Nat.reduceAdd, Nat.reduceLT, Nat.reduceLeDiff, Nat.reduceMul, reduceIte, reduceCtorEq, Int.reduceEq, Int.reduceLT, Int.reduceLE, Int.reduceNe]
          exact next l hl (by omega)
      · simp only [WA, Nat.reduceEqDiff, Nat.reduceAdd, Nat.reduceLT, Nat.reduceLeDiff, Nat.reduceMul, reduceIte, reduceCtorEq, Int.reduceEq, Int.reduceLT, Int.reduceLE, Int.reduceNe]
        exact done
    · simp only [WA, Nat.reduceEqDiff, Nat.reduceAdd, Nat.reduceLT, Nat.reduceLeDiff, Nat.reduceMul, reduceIte, reduceCtorEq, Int.reduceEq, Int.reduceLT, Int.reduceLE, Int.reduceNe]
      exact done
  rintro vs ⟨l, hl, hl200, rfl⟩ _
  have hok : ∀ t ∈ l, tokenM t = true ∧ t.Kind ≠ 8 ∧ t.ok := fun t ht => ⟨(hl t ht).2.1, (hl t ht).2.2, (hl t ht).1.ok⟩
  have hwt : ∀ t ∈ l, t.wt ≤ 13 := fun t ht => by rw [VToken.wt_eq]; exact (hl t ht).1.wt
  have hsum : (l.map VToken.wt).sum ≤ l.length * 13 := by
    have : ∀ m : List VToken, (∀ x ∈ m, x.wt ≤ 13) → (m.map VToken.wt).sum ≤ m.length * 13 := by
      intro m
      induction m with
      | nil => intro _; simp
      | cons x m ih =>
        intro h
        have h1 := h x (by simp)
        have h2 := ih fun y hy => h y (by simp [hy])
        simp only [List.map_cons, List.sum_cons, List.length_cons]
        omega
    exact this l hwt
  have hsp := impl_Spell_c l (by omega) (fun t ht => (hok t ht).2.2)
  have hsz := spell_sizes l (fun t ht => (hok t ht).2.2)
  have hjs := joinB_size byteSp (l.map tokB)
  have hal := allM_spell 1200 l 0 [] hok (by simp; omega)
  have hm : spellM l = joinB byteSp (l.map tokB) := by
    unfold spellM
    have hall : l.all spellOk = true := by
      rw [List.all_eq_true]
      intro t ht
      obtain ⟨h1, h2, _⟩ := hok t ht
      simp [spellOk, h1, h2]
    exact if_pos ⟨by omega, hall⟩
  rw [hm] at hsp
  have hb1 : byteSp.size = 1 := rfl
  rw [List.length_map, hb1] at hjs
  generalize joinB byteSp (l.map tokB) = s at hsp hal hjs
  have hss : s.size ≤ 1048576 := by omega
  have hlex := impl_Lex_c s hss
  simp only [WA, Nat.reduceEqDiff, Nat.reduceAdd, Nat.reduceLT, Nat.reduceLeDiff, Nat.reduceMul, reduceIte, reduceCtorEq, Int.reduceEq, Int.reduceLT, Int.reduceLE, Int.reduceNe]
  refine call_v hsp ?_
  simp only [WA, Nat.reduceEqDiff, Nat.reduceAdd, Nat.reduceLT, Nat.reduceLeDiff, Nat.reduceMul, reduceIte, reduceCtorEq, Int.reduceEq, Int.reduceLT, Int.reduceLE, Int.reduceNe]
  by_cases h4 : 4000 < s.size
  · have hq : lexAllM s = ([], (5, 0)) := by unfold lexAllM; rw [if_pos h4]
    rw [hq] at hlex
    refine scall_v hlex rfl rfl ?_
    simp only [WA, Nat.reduceEqDiff, Nat.reduceAdd, Nat.reduceLT, Nat.reduceLeDiff, Nat.reduceMul, reduceIte, reduceCtorEq, Int.reduceEq, Int.reduceLT, Int.reduceLE, Int.reduceNe]
    refine bind_push ?_
    simp only [WA, Nat.reduceEqDiff, Nat.reduceAdd, Nat.reduceLT, Nat.reduceLeDiff, Nat.reduceMul, reduceIte, reduceCtorEq, Int.reduceEq, Int.reduceLT, Int.reduceLE, Int.reduceNe]
    refine bind_push ?_
    simp only [show decide ((4000 : Int) < (s.size : Int)) = true from by simp; omega, WA, Nat.reduceEqDiff, Nat.reduceAdd, Nat.reduceLT, Nat.reduceLeDiff, Nat.reduceMul, reduceIte, reduceCtorEq, Int.reduceEq, Int.reduceLT, Int.reduceLE, Int.reduceNe]
  · obtain ⟨e, hal⟩ := hal
    have hq : lexAllM s = (atP 0 l ++ [⟨8, ⟨#[]⟩, 0, e⟩], (0, 0)) := by
      unfold lexAllM; rw [if_neg h4, hal]; simp
    rw [hq] at hlex
    have hzl : (atP 0 l ++ [VToken.mk 8 ⟨#[]⟩ 0 e]).length = l.length + 1 := by simp [atP_len]
    have hend : ((atP 0 l ++ [VToken.mk 8 ⟨#[]⟩ 0 e]).map VToken.av).getD l.length .top = (VToken.mk 8 ⟨#[]⟩ 0 e).av := by
      rw [List.map_append, List.getD, List.getElem?_append_right (by simp [atP_len])]
      simp [atP_len]
    have hget : ∀ i (h : i < l.length), ∃ q : Nat, ((atP 0 l ++ [VToken.mk 8 ⟨#[]⟩ 0 e]).map VToken.av).getD i .top = (VToken.mk (l[i]).Kind (l[i]).Text (l[i]).Num q).av := fun i h => by
      obtain ⟨q, hq⟩ := atP_get 0 l i h
      refine ⟨q, ?_⟩
      rw [List.getD, List.getElem?_map, List.getElem?_append_left (by rw [atP_len]; exact h), hq]
      rfl
    have hnz : AV.norefs [.sl ((atP 0 l ++ [VToken.mk 8 ⟨#[]⟩ 0 e]).map VToken.av), fAV (0, 0)] = true := by
      have := norefsM (f := VToken.av) (l := atP 0 l ++ [VToken.mk 8 ⟨#[]⟩ 0 e]) VToken.noref
      simp only [AV.norefs, AV.noref, this]; rfl
    generalize atP 0 l ++ [VToken.mk 8 ⟨#[]⟩ 0 e] = Z at hlex hzl hend hget hnz
    refine scall_v hlex rfl hnz ?_
    simp only [WA, Nat.reduceEqDiff, Nat.reduceAdd, Nat.reduceLT, Nat.reduceLeDiff, Nat.reduceMul, reduceIte, reduceCtorEq, Int.reduceEq, Int.reduceLT, Int.reduceLE, Int.reduceNe]
    refine bind_push ?_
    simp only [WA, Nat.reduceEqDiff, Nat.reduceAdd, Nat.reduceLT, Nat.reduceLeDiff, Nat.reduceMul, reduceIte, reduceCtorEq, Int.reduceEq, Int.reduceLT, Int.reduceLE, Int.reduceNe]
    refine bind_push ?_
    simp only [WA, Nat.reduceEqDiff, Nat.reduceAdd, Nat.reduceLT, Nat.reduceLeDiff, Nat.reduceMul, reduceIte, reduceCtorEq, Int.reduceEq, Int.reduceLT, Int.reduceLE, Int.reduceNe]
    refine bind_push ?_
    have hw1 : IntKind.i64.wrap ((l.length : Int) + 1) = ((l.length + 1 : Nat) : Int) := wrapA1 (by omega)
    simp only [List.length_map, hzl, hw1, hend, VToken.width, VToken.cells, VToken.Kind_mk, List.length_cons, List.length_nil, decide_true, Bool.not_true, WA, Nat.reduceEqDiff, Nat.reduceAdd, Nat.reduceLT, Nat.reduceLeDiff, Nat.reduceMul, reduceIte, reduceCtorEq, Int.reduceEq, Int.reduceLT, Int.reduceLE, Int.reduceNe]
    repeat (refine And.intro (by first | omega | rfl) ?_)
    refine bind_post (fun _ => True) ?_ ?_
    · simp only [WA, Nat.reduceEqDiff, Nat.reduceAdd, Nat.reduceLT, Nat.reduceLeDiff, Nat.reduceMul, reduceIte, reduceCtorEq, Int.reduceEq, Int.reduceLT, Int.reduceLE, Int.reduceNe]
      refine loop_up l.length (fun i => [avI i]) rfl fun i hi => ?_
      simp only [List.length_map, WA, Nat.reduceEqDiff, Nat.reduceAdd, Nat.reduceLT, Nat.reduceLeDiff, Nat.reduceMul, reduceIte, reduceCtorEq, Int.reduceEq, Int.reduceLT, Int.reduceLE, Int.reduceNe]
      refine ite_dec (fun h5 => ?_) (fun h5 => ?_)
      · have hlt : i < l.length := by omega
        obtain ⟨q, hgq⟩ := hget i hlt
        have hgl : (l.map VToken.av).getD i .top = (l[i]).av := by simp [List.getD, hlt]
        have htk := (hok _ (List.getElem_mem hlt)).1
        have hw13 := hwt _ (List.getElem_mem hlt)
        rw [VToken.wt_eq] at hw13
        have hto := impl_TokenOk_c ⟨(l[i]).Kind, (l[i]).Text, (l[i]).Num, q⟩ (by rw [VToken.wt_eq, VToken.Text_mk]; omega)
        rw [tokenM_at htk] at hto
        simp only [WA, Nat.reduceEqDiff, Nat.reduceAdd, Nat.reduceLT, Nat.reduceLeDiff, Nat.reduceMul, reduceIte, reduceCtorEq, Int.reduceEq, Int.reduceLT, Int.reduceLE, Int.reduceNe]
        refine bind_push ?_
        simp only [WA, Nat.reduceEqDiff, Nat.reduceAdd, Nat.reduceLT, Nat.reduceLeDiff, Nat.reduceMul, reduceIte, reduceCtorEq, Int.reduceEq, Int.reduceLT, Int.reduceLE, Int.reduceNe]
        refine bind_push ?_
        have hlw : loadC (some 4) (VToken.mk (l[i]).Kind (l[i]).Text (l[i]).Num q).av 0 = (VToken.mk (l[i]).Kind (l[i]).Text (l[i]).Num q).av := loadC_whole rfl (VToken.width _)
        simp only [List.length_map, hzl, hgq, hgl, hlw, VToken.width, VToken.cells, VToken.Kind_mk, VToken.Text_mk, VToken.Num_mk, List.length_cons, List.length_nil, decide_true, Bool.not_true, WA, Nat.reduceEqDiff, Nat.reduceAdd, Nat.reduceLT, Nat.reduceLeDiff, Nat.reduceMul, reduceIte, reduceCtorEq, Int.reduceEq, Int.reduceLT, Int.reduceLE, Int.reduceNe]
        repeat (refine And.intro (by first | omega | rfl) ?_)
        refine call_v hto ?_
        simp (disch := omega) only [Bool.not_true, wrapA1, WA, Nat.reduceEqDiff, Nat.reduceAdd, Nat.reduceLT, Nat.reduceLeDiff, Nat.reduceMul, reduceIte, reduceCtorEq, Int.reduceEq, Int.reduceLT, Int.reduceLE, Int.reduceNe]
        first | exact hlt | exact ⟨hlt, rfl⟩
      · simp only [WA, Nat.reduceEqDiff, Nat.reduceAdd, Nat.reduceLT, Nat.reduceLeDiff, Nat.reduceMul, reduceIte, reduceCtorEq, Int.reduceEq, Int.reduceLT, Int.reduceLE, Int.reduceNe]
    · intro vs _ hlen'
      obtain rfl := List.eq_nil_of_length_eq_zero hlen'
      simp only [WA, Nat.reduceEqDiff, Nat.reduceAdd, Nat.reduceLT, Nat.reduceLeDiff, Nat.reduceMul, reduceIte, reduceCtorEq, Int.reduceEq, Int.reduceLT, Int.reduceLE, Int.reduceNe]
end Go.Proofs.Ab
