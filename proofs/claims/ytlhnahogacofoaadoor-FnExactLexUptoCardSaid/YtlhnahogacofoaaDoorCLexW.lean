/-
  WHAT THE LEXER GIVES IS NO GREATER THAN ITS TEXT; tokens marked and held.
-/
import Derived.Test.YtlhnahogacofoaaDoorCLexI
import Derived.Test.YtlhnahogacofoaaDoorCOwn0
set_option linter.unusedVariables false
set_option linter.unusedSimpArgs false
set_option linter.defProp false
namespace Go.Ab
open Go.Proofs.Ab
set_option maxRecDepth 100000
set_option maxHeartbeats 4000000
theorem strM_len : ∀ {l : List Int} {q : List Int × Nat}, strM l = some q → q.1.length ≤ q.2
  | [], q, h => by rw [strM.eq_def] at h; cases h
  | c :: r, q, h => by
    rw [strM.eq_def] at h
    simp only at h
    split at h
    · cases h; exact Nat.zero_le _
    · split at h
      · split at h
        · rename_i d r'
          split at h
          · simp only [Option.map_eq_some_iff] at h
            obtain ⟨q', h1, rfl⟩ := h
            have := strM_len h1
            simp only [List.length_cons]; omega
          · split at h
            · simp only [Option.map_eq_some_iff] at h
              obtain ⟨q', h1, rfl⟩ := h
              have := strM_len h1
              simp only [List.length_cons]; omega
            · cases h
        · cases h
      · split at h
        · simp only [Option.map_eq_some_iff] at h
          obtain ⟨q', h1, rfl⟩ := h
          have := strM_len h1
          simp only [List.length_cons]; omega
        · cases h
theorem lexM_wt {l : List Int} {p : Int} {t : VToken} {n : Nat} (h : lexM l p = .inr (t, n)) : t.wt ≤ n := by
  rw [VToken.wt_eq]
  have hz : ByteArray.size ⟨#[]⟩ = 0 := rfl
  unfold lexM at h
  split at h
  · cases h
  · split at h
    · split at h
      · cases h
      · cases h; rw [VToken.Text_mk, hz]; omega
    · split at h
      · split at h
        · cases h
        · cases h; rw [VToken.Text_mk, ofL_size]; omega
      · split at h
        · split at h
          · cases h
          · cases h; rw [VToken.Text_mk, ofL_size]; omega
        · split at h
          · split at h
            · cases h
            · rename_i q hq
              have := strM_len hq
              cases h; rw [VToken.Text_mk, ofL_size]; omega
          · unfold signTok at h
            split at h
            · cases h
            · cases h; rw [VToken.Text_mk]; omega
theorem allM_wt (most : Nat) : ∀ (N : Nat) (l : List Int) (p : Nat) (acc : List VToken), l.length ≤ N → ((allM most l p acc).1.map VToken.wt).sum ≤ (acc.map VToken.wt).sum + l.length ∧ (allM most l p acc).1.length ≤ acc.length + l.length + 1 := by
  intro N
  induction N with
  | zero =>
    intro l p acc hl
    obtain rfl := List.eq_nil_of_length_eq_zero (Nat.le_zero.1 hl)
    rw [allM_nil]
    have hz : ∀ q : Int, (VToken.mk 8 ⟨#[]⟩ 0 q).wt = 0 := fun q => by rw [VToken.wt_eq, VToken.Text_mk]; rfl
    simp [hz]
  | succ N ih =>
    intro l p acc hl
    rw [allM]
    have hz : ∀ q : Int, (VToken.mk 8 ⟨#[]⟩ 0 q).wt = 0 := fun q => by rw [VToken.wt_eq, VToken.Text_mk]; rfl
    split
    · rename_i hk
      split
      · simp
      · rename_i t n hq
        have hw := lexM_wt hq
        obtain ⟨h1, h2⟩ := lexM_pos hq
        split
        · simp
        · have h3 := ih (l.drop (skipB false l + 1 + (n - 1))) (p + skipB false l + 1 + (n - 1)) (acc ++ [t]) (by rw [List.length_drop]; omega)
          rw [List.length_drop] at h2
          simp only [List.map_append, List.sum_append, List.map_cons, List.map_nil, List.sum_cons, List.sum_nil, List.length_append, List.length_cons, List.length_nil, List.length_drop] at h3
          omega
    · simp [hz]
theorem lex_small (s : ByteArray) : (lexAllM s).1.length ≤ 4001 ∧ (lexAllM s).1.length + ((lexAllM s).1.map VToken.wt).sum ≤ 8001 := by
  unfold lexAllM
  split
  · simp
  · have h := allM_wt 1200 _ (bs s) 0 [] (Nat.le_refl _)
    rw [bs_len] at h
    simp only [List.map_nil, List.sum_nil, List.length_nil] at h
    omega
/-- a token with marks in it -/
def mkTok (k : Nat) : VToken := ⟨k, markT (k + 1), (k + 2 : Nat), (k + 3 : Nat)⟩
def mkToks (k : Nat) : Nat → List VToken
  | 0 => []
  | n + 1 => mkTok k :: mkToks (k + 4) n
theorem mkToks_len (k n : Nat) : (mkToks k n).length = n := by
  induction n generalizing k with
  | zero => rfl
  | succ n ih => simp [mkToks, ih]
theorem mkToks_get (k n i : Nat) (h : i < n) : (mkToks k n)[i]? = some (mkTok (k + 4 * i)) := by
  induction n generalizing k i with
  | zero => omega
  | succ n ih =>
    cases i with
    | zero => rfl
    | succ i =>
      simp only [mkToks, List.getElem?_cons_succ]
      rw [ih (k + 4) i (by omega)]
      congr 2; omega
end Go.Ab
namespace Go.Proofs.Ab
open Go.Ab
set_option maxRecDepth 100000
set_option maxHeartbeats 4000000
theorem eqFault_c (a : Int × Int) : PCon Tryd.prog F.laws_eqFault [fAV a, fAV a] (.v (.bool true)) := by
  refine T.laws_eqFault_con rfl rfl ?_
  simp only [T.laws_eqFault, WA, Nat.reduceEqDiff, Nat.reduceAdd, Nat.reduceLT, Nat.reduceLeDiff, Nat.reduceMul, reduceIte, reduceCtorEq, Int.reduceEq, Int.reduceLT, Int.reduceLE, Int.reduceNe]
  repeat' (first | (simp (disch := omega) only [WA, Nat.reduceEqDiff, Nat.reduceAdd, Nat.reduceLT, Nat.reduceLeDiff, Nat.reduceMul, reduceIte, reduceCtorEq, Int.reduceEq, Int.reduceLT, Int.reduceLE, Int.reduceNe]) | (refine ite_dec (fun _ => ?_) (fun _ => ?_)) | (refine ite_ndec (fun _ => ?_) (fun _ => ?_)) | (refine ite_intro (fun _ => ?_) (fun _ => ?_)) | (refine bind_push ?_))
theorem markTokenS_c (l : List VToken) (k : Nat) (hl : l.length ≤ 1048576) (hk : k ≤ 1048576) : SCon Tryd.prog F.laws_markTokenS G.laws_markTokenS [.sl (l.map VToken.av), avI k] [.sl ((mkToks k l.length).map VToken.av), avI (k + 4 * l.length : Nat)] := by
  refine T.laws_markTokenS_scon rfl rfl (by simp [AV.norefs, AV.noref, norefsM (f := VToken.av) VToken.noref]) ?_
  simp only [T.laws_markTokenS, WA, Nat.reduceEqDiff, Nat.reduceAdd, Nat.reduceLT, Nat.reduceLeDiff, Nat.reduceMul, reduceIte, reduceCtorEq, Int.reduceEq, Int.reduceLT, Int.reduceLE, Int.reduceNe]
  refine bind_cut [.sl ((mkToks k l.length).map VToken.av), avI (k + 4 * l.length : Nat)] rfl ?_ (by simp only [WA, Nat.reduceEqDiff, Nat.reduceAdd, Nat.reduceLT, Nat.reduceLeDiff, Nat.reduceMul, reduceIte, reduceCtorEq, Int.reduceEq, Int.reduceLT, Int.reduceLE, Int.reduceNe])
  simp only [WA, Nat.reduceEqDiff, Nat.reduceAdd, Nat.reduceLT, Nat.reduceLeDiff, Nat.reduceMul, reduceIte, reduceCtorEq, Int.reduceEq, Int.reduceLT, Int.reduceLE, Int.reduceNe]
  refine loop_up l.length (fun i => [.sl (((mkToks k l.length).take i ++ l.drop i).map VToken.av), avI (k + 4 * i : Nat), avI i]) (by simp) fun i hi => ?_
  have hlen : ((mkToks k l.length).take i ++ l.drop i).length = l.length := by simp [mkToks_len]; omega
  simp only [List.length_map, hlen, WA, Nat.reduceEqDiff, Nat.reduceAdd, Nat.reduceLT, Nat.reduceLeDiff, Nat.reduceMul, reduceIte, reduceCtorEq, Int.reduceEq, Int.reduceLT, Int.reduceLE, Int.reduceNe]
  refine ite_dec (fun h => ?_) (fun h => ?_)
  · have hlt : i < l.length := by omega
    generalize hL : (mkToks k l.length).take i ++ l.drop i = L0 at hlen
    have hLi : L0[i]? = some l[i] := by
      rw [← hL, List.getElem?_append_right (by simp [mkToks_len]; omega), List.getElem?_drop]
      have : ((mkToks k l.length).take i).length = i := by simp [mkToks_len]; omega
      rw [this, Nat.sub_self, Nat.add_zero, List.getElem?_eq_getElem hlt]
    have hiL : i < L0.length := by omega
    have h0 : L0 = L0.set i l[i] := by
      apply List.ext_getElem?
      intro j
      rw [List.getElem?_set]
      by_cases hj : i = j
      · subst hj; rw [if_pos rfl, if_pos hiL, hLi]
      · rw [if_neg hj]
    have hln : ∀ y : VToken, (L0.set i y).length = l.length := fun y => by rw [List.length_set, hlen]
    have hget : ∀ y : VToken, ((L0.set i y).map VToken.av).getD i .top = y.av := fun y => by simp [List.getD, hiL]
    have hset : ∀ y z : VToken, ((L0.set i y).map VToken.av).set i z.av = (L0.set i z).map VToken.av := fun y z => by rw [← List.map_set, List.set_set]
    have u0 : ∀ (y : VToken) (a : Int), upd y.av 0 (avI a) = (VToken.mk a y.Text y.Num y.Pos).av := fun y a => by unfold upd; rw [VToken.cells, tok_av]; rfl
    have u1 : ∀ (y : VToken) (a : ByteArray), upd y.av 1 (avB a) = (VToken.mk y.Kind a y.Num y.Pos).av := fun y a => by unfold upd; rw [VToken.cells, tok_av]; rfl
    have u2 : ∀ (y : VToken) (a : Int), upd y.av 2 (avI a) = (VToken.mk y.Kind y.Text a y.Pos).av := fun y a => by unfold upd; rw [VToken.cells, tok_av]; rfl
    have u3 : ∀ (y : VToken) (a : Int), upd y.av 3 (avI a) = (VToken.mk y.Kind y.Text y.Num a).av := fun y a => by unfold upd; rw [VToken.cells, tok_av]; rfl
    have w1 : IntKind.i64.wrap (((k + 4 * i : Nat) : Int) + 1) = ((k + 4 * i + 1 : Nat) : Int) := wrapA1 (by omega)
    have w2 : IntKind.i64.wrap (((k + 4 * i + 1 : Nat) : Int) + 1) = ((k + 4 * i + 2 : Nat) : Int) := wrapA1 (by omega)
    have w3 : IntKind.i64.wrap (((k + 4 * i + 2 : Nat) : Int) + 1) = ((k + 4 * i + 3 : Nat) : Int) := wrapA1 (by omega)
    have w4 : IntKind.i64.wrap (((k + 4 * i + 3 : Nat) : Int) + 1) = ((k + 4 * (i + 1) : Nat) : Int) := by rw [wrapA1 (by omega)]; congr 1
    have wi : IntKind.i64.wrap ((i : Int) + 1) = ((i + 1 : Nat) : Int) := wrapA1 (by omega)
    have hlm : ∀ y : VToken, ((L0.set i y).map VToken.av).length = l.length := fun y => by rw [List.length_map, hln]
    rw [h0]
    simp only [hlm, hget, hset, u0, VToken.width, idxOf_nat, w1, WA, Nat.reduceEqDiff, Nat.reduceAdd, Nat.reduceLT, Nat.reduceLeDiff, Nat.reduceMul, reduceIte, reduceCtorEq, Int.reduceEq, Int.reduceLT, Int.reduceLE, Int.reduceNe]
    repeat (refine And.intro (by first | omega | rfl) ?_)
    refine call_v (markText_c (k + 4 * i + 1) (by omega)) ?_
    simp only [hlm, hget, hset, u1, u2, u3, VToken.width, idxOf_nat, w2, w3, w4, wi, VToken.Kind_mk, VToken.Text_mk, VToken.Num_mk, VToken.Pos_mk, WA, Nat.reduceEqDiff, Nat.reduceAdd, Nat.reduceLT, Nat.reduceLeDiff, Nat.reduceMul, reduceIte, reduceCtorEq, Int.reduceEq, Int.reduceLT, Int.reduceLE, Int.reduceNe]
    repeat (refine And.intro (by first | omega | rfl) ?_)
    have hfin : L0.set i (mkTok (k + 4 * i)) = (mkToks k l.length).take (i + 1) ++ l.drop (i + 1) := by
      rw [← hL]
      have h1 : ((mkToks k l.length).take i).length = i := by simp [mkToks_len]; omega
      rw [List.set_append_right _ _ (by omega), h1, Nat.sub_self, dropC hlt, List.set_cons_zero, List.take_add_one, mkToks_get k l.length i hlt]
      simp
    first
      | (rw [← hfin]; rfl)
      | (refine ⟨hlt, ?_⟩; rw [← hfin]; rfl)
  · have he : i = l.length := by omega
    subst he
    have e : (mkToks k l.length).take l.length ++ l.drop l.length = mkToks k l.length := by
      rw [List.drop_length, List.append_nil, List.take_of_length_le (by rw [mkToks_len]; omega)]
    simp only [e, WA, Nat.reduceEqDiff, Nat.reduceAdd, Nat.reduceLT, Nat.reduceLeDiff, Nat.reduceMul, reduceIte, reduceCtorEq, Int.reduceEq, Int.reduceLT, Int.reduceLE, Int.reduceNe]
theorem heldTokenS_c (n k : Nat) (hl : n ≤ 1048576) (hk : k ≤ 1048576) : PCon Tryd.prog F.laws_heldTokenS [.sl ((mkToks k n).map VToken.av), avI k] (avI (k + 4 * n : Nat)) := by
  have hln := mkToks_len k n
  refine T.laws_heldTokenS_con rfl (by simp [AV.norefs, AV.noref, norefsM (f := VToken.av) VToken.noref]) ?_
  simp only [T.laws_heldTokenS, WA, Nat.reduceEqDiff, Nat.reduceAdd, Nat.reduceLT, Nat.reduceLeDiff, Nat.reduceMul, reduceIte, reduceCtorEq, Int.reduceEq, Int.reduceLT, Int.reduceLE, Int.reduceNe]
  refine bind_cut [avI (k + 4 * n : Nat)] rfl ?_ (by simp only [WA, Nat.reduceEqDiff, Nat.reduceAdd, Nat.reduceLT, Nat.reduceLeDiff, Nat.reduceMul, reduceIte, reduceCtorEq, Int.reduceEq, Int.reduceLT, Int.reduceLE, Int.reduceNe])
  simp only [WA, Nat.reduceEqDiff, Nat.reduceAdd, Nat.reduceLT, Nat.reduceLeDiff, Nat.reduceMul, reduceIte, reduceCtorEq, Int.reduceEq, Int.reduceLT, Int.reduceLE, Int.reduceNe]
  refine loop_up n (fun i => [avI (k + 4 * i : Nat), avI i]) (by simp) fun i hi => ?_
  simp only [List.length_map, hln, WA, Nat.reduceEqDiff, Nat.reduceAdd, Nat.reduceLT, Nat.reduceLeDiff, Nat.reduceMul, reduceIte, reduceCtorEq, Int.reduceEq, Int.reduceLT, Int.reduceLE, Int.reduceNe]
  refine ite_dec (fun h => ?_) (fun h => ?_)
  · have hlt : i < n := by omega
    have hel : ∀ (s : Nat) (kk : IntKind) (K : AV → Prop), (mkTok (k + 4 * i)).av.cells.length = s → elemP s (.sl ((mkToks k n).map VToken.av)) (.v (.int kk (i : Int))) K = goT K (mkTok (k + 4 * i)).av := fun s kk K hs => elem_at i (mkToks_get k n i hlt) VToken.av s kk K hs
    have hcl : (mkTok (k + 4 * i)).av.cells = [avI (k + 4 * i : Nat), avB (markT (k + 4 * i + 1)), avI (k + 4 * i + 2 : Nat), avI (k + 4 * i + 3 : Nat)] := rfl
    have w1 : IntKind.i64.wrap (((k + 4 * i : Nat) : Int) + 1) = ((k + 4 * i + 1 : Nat) : Int) := wrapA1 (by omega)
    have w2 : IntKind.i64.wrap (((k + 4 * i + 1 : Nat) : Int) + 1) = ((k + 4 * i + 2 : Nat) : Int) := wrapA1 (by omega)
    have w3 : IntKind.i64.wrap (((k + 4 * i + 2 : Nat) : Int) + 1) = ((k + 4 * i + 3 : Nat) : Int) := wrapA1 (by omega)
    have w4 : IntKind.i64.wrap (((k + 4 * i + 3 : Nat) : Int) + 1) = ((k + 4 * (i + 1) : Nat) : Int) := by rw [wrapA1 (by omega)]; congr 1
    have wi : IntKind.i64.wrap ((i : Int) + 1) = ((i + 1 : Nat) : Int) := wrapA1 (by omega)
    simp (disch := (first | exact VToken.width _)) only [hel, hcl, w1, List.length_cons, List.length_nil, WA, Nat.reduceEqDiff, Nat.reduceAdd, Nat.reduceLT, Nat.reduceLeDiff, Nat.reduceMul, reduceIte, reduceCtorEq, Int.reduceEq, Int.reduceLT, Int.reduceLE, Int.reduceNe]
    refine call_v (markText_c (k + 4 * i + 1) (by omega)) ?_
    simp (disch := (first | exact VToken.width _)) only [hel, hcl, w1, w2, w3, w4, wi, List.length_cons, List.length_nil, WA, Nat.reduceEqDiff, Nat.reduceAdd, Nat.reduceLT, Nat.reduceLeDiff, Nat.reduceMul, reduceIte, reduceCtorEq, Int.reduceEq, Int.reduceLT, Int.reduceLE, Int.reduceNe]
    first | exact hlt | exact ⟨hlt, rfl⟩
  · have he : i = n := by omega
    subst he
    simp only [WA, Nat.reduceEqDiff, Nat.reduceAdd, Nat.reduceLT, Nat.reduceLeDiff, Nat.reduceMul, reduceIte, reduceCtorEq, Int.reduceEq, Int.reduceLT, Int.reduceLE, Int.reduceNe]
end Go.Proofs.Ab
