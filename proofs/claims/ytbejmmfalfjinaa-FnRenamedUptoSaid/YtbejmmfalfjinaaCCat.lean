/-
  slices.Concat OF TWO LISTS OF STRINGS.
-/
import Derived.Test.YtbejmmfalfjinaaCSl
set_option linter.unusedVariables false
set_option linter.unusedSimpArgs false
set_option linter.defProp false
namespace Go.Ab
set_option maxRecDepth 100000
set_option maxHeartbeats 4000000
/-- a nil slice is an empty one, too -/
inductive AV.les : AV → AV → Prop
  | refl (a : AV) : AV.les a a
  | nil : AV.les .nils (.sl [])
theorem AV.les.sound {I : Imm} {L : Nat → Loc} {O : List AObj} {a b : AV} (h : AV.les a b) {x : Value} (hr : R I L O a x) : R I L O b x := by
  cases h with
  | refl => exact hr
  | nil => cases hr; exact .sl0 _ _
theorem PCon.args {P : Program} {f : FuncId} {as' bs : List AV} {res : AV} (h : PCon P f bs res) (hl : as'.length = bs.length) (hle : ∀ (i : Nat) (a b : AV), as'[i]? = some a → bs[i]? = some b → AV.les a b) : PCon P f as' res := by
  refine ⟨h.1, fun I L w vs hi hr => h.2 I L w vs hi ⟨by rw [← hl]; exact hr.1, fun i b x hb hx => ?_⟩⟩
  have hlt : i < as'.length := by have := (List.getElem?_eq_some_iff.1 hb).1; omega
  have ha : as'[i]? = some as'[i] := List.getElem?_eq_getElem hlt
  exact (hle i _ _ ha hb).sound (hr.2 i _ x ha hx)
theorem PCon.res {P : Program} {f : FuncId} {as' : List AV} {r s : AV} (h : PCon P f as' r) (hle : AV.les r s) : PCon P f as' s := by
  refine ⟨h.1, fun I L w vs hi hr => (h.2 I L w vs hi hr).mono ?_⟩
  rintro e w' ⟨y, I', L', h1, h2, h3⟩
  exact ⟨y, I', L', h1, hle.sound h2, h3⟩
end Go.Ab
namespace Go.Proofs.Ab
open Go.Ab
set_option maxRecDepth 100000
set_option maxHeartbeats 4000000
theorem growA_c (n : Nat) (hn : 0 < n) (hb : n ≤ 8796093022208) : SCon Try.prog F.slices_Grow_impl_names_string G.slices_Grow_impl_names_string [avI n] [.sl []] := by
  have d1 : decide ((n : Int) < 0) = false := decide_eq_false (by omega)
  have d2 : decide ((0 : Int) < (n : Int)) = true := decide_eq_true (by omega)
  have w0 : IntKind.i64.wrap ((0 : Int) - 0) = 0 := wrapI (by omega) (by omega)
  have w1 : IntKind.i64.wrap ((n : Int) - 0) = n := wrapI (by omega) (by omega)
  refine T.slices_Grow_impl_names_string_scon rfl rfl rfl ?_
  simp only [T.slices_Grow_impl_names_string, d1, d2, w0, w1, Int.toNat_natCast, W00, W01, W02, W03, W04, W05, W06, W07, W08, W09, Nat.reduceEqDiff, Nat.reduceAdd, Nat.reduceLT, Nat.reduceLeDiff, Nat.reduceMul, reduceIte, reduceCtorEq, Int.reduceEq, Int.reduceLT, Int.reduceLE, Int.reduceNe]
  refine ⟨by omega, by omega, by omega, ?_⟩
  simp only [ne_eq, List.replicate_eq_nil_iff]
  omega
theorem growB_c : SCon Try.prog F.slices_Grow_impl_names_string G.slices_Grow_impl_names_string_s1 [avI 0] [] := by
  have d1 : decide ((0 : Int) < 0) = false := by decide
  have w0 : IntKind.i64.wrap ((0 : Int) - 0) = 0 := wrapI (by omega) (by omega)
  refine T.slices_Grow_impl_names_string_s1_scon rfl rfl rfl ?_
  simp only [T.slices_Grow_impl_names_string_s1, d1, w0, W00, W01, W02, W03, W04, W05, W06, W07, W08, W09, Nat.reduceEqDiff, Nat.reduceAdd, Nat.reduceLT, Nat.reduceLeDiff, Nat.reduceMul, reduceIte, reduceCtorEq, Int.reduceEq, Int.reduceLT, Int.reduceLE, Int.reduceNe]
def avL (l : List ByteArray) : AV := .sl (l.map avB)
theorem avL_nor (l : List ByteArray) : (avL l).noref = true := norS l
theorem catA_c (ls : List (List ByteArray)) (hn : 0 < (ls.map List.length).sum) (hb : (ls.map List.length).sum ≤ 4398046511104) (hl : ls.length ≤ 1048576) : PCon Try.prog F.slices_Concat_impl_names_string [.sl (ls.map avL)] (.sl (ls.flatten.map avB)) := by
  have hno : AV.norefs [AV.sl (ls.map avL)] = true := by simp only [AV.norefs, AV.noref, Bool.and_true]; exact norefsM avL_nor
  generalize hN : (ls.map List.length).sum = N at hn hb
  refine T.slices_Concat_impl_names_string_con rfl hno ?_
  simp only [T.slices_Concat_impl_names_string, W00, W01, W02, W03, W04, W05, W06, W07, W08, W09, Nat.reduceEqDiff, Nat.reduceAdd, Nat.reduceLT, Nat.reduceLeDiff, Nat.reduceMul, reduceIte, reduceCtorEq, Int.reduceEq, Int.reduceLT, Int.reduceLE, Int.reduceNe]
  refine bind_cut [avI N] rfl ?_ ?_
  · simp only [List.length_map, W00, W01, W02, W03, W04, W05, W06, W07, W08, W09, Nat.reduceEqDiff, Nat.reduceAdd, Nat.reduceLT, Nat.reduceLeDiff, Nat.reduceMul, reduceIte, reduceCtorEq, Int.reduceEq, Int.reduceLT, Int.reduceLE, Int.reduceNe]
    refine loop_list ls (fun i (acc : Nat) => [avI acc, avI i]) (fun _ rest acc => acc + (rest.map List.length).sum = N) 0 rfl (by omega) (fun i x rest acc hi hx hm hel hd hg => ?_) (fun acc hd hg => ?_)
    · simp only [List.map_cons, List.sum_cons] at hg
      simp only [hd, W00, W01, W02, W03, W04, W05, W06, W07, W08, W09, Nat.reduceEqDiff, Nat.reduceAdd, Nat.reduceLT, Nat.reduceLeDiff, Nat.reduceMul, reduceIte, reduceCtorEq, Int.reduceEq, Int.reduceLT, Int.reduceLE, Int.reduceNe]
      refine bind_cut [avI ((acc + x.length : Nat) : Int)] rfl ?_ ?_
      · simp only [W00, W01, W02, W03, W04, W05, W06, W07, W08, W09, Nat.reduceEqDiff, Nat.reduceAdd, Nat.reduceLT, Nat.reduceLeDiff, Nat.reduceMul, reduceIte, reduceCtorEq, Int.reduceEq, Int.reduceLT, Int.reduceLE, Int.reduceNe]
        rw [hel avL 1 _ _ rfl]
        have d1 : decide (((acc + x.length : Nat) : Int) < 0) = false := decide_eq_false (by omega)
        simp (disch := omega) only [avL, List.length_map, wrapA, d1, W00, W01, W02, W03, W04, W05, W06, W07, W08, W09, Nat.reduceEqDiff, Nat.reduceAdd, Nat.reduceLT, Nat.reduceLeDiff, Nat.reduceMul, reduceIte, reduceCtorEq, Int.reduceEq, Int.reduceLT, Int.reduceLE, Int.reduceNe]
      · simp (disch := omega) only [wrapA1, W00, W01, W02, W03, W04, W05, W06, W07, W08, W09, Nat.reduceEqDiff, Nat.reduceAdd, Nat.reduceLT, Nat.reduceLeDiff, Nat.reduceMul, reduceIte, reduceCtorEq, Int.reduceEq, Int.reduceLT, Int.reduceLE, Int.reduceNe]
        exact ⟨hi, _, by omega, rfl⟩
    · simp only [List.map_nil, List.sum_nil, Nat.add_zero] at hg
      simp only [hd, hg, W00, W01, W02, W03, W04, W05, W06, W07, W08, W09, Nat.reduceEqDiff, Nat.reduceAdd, Nat.reduceLT, Nat.reduceLeDiff, Nat.reduceMul, reduceIte, reduceCtorEq, Int.reduceEq, Int.reduceLT, Int.reduceLE, Int.reduceNe]
  · simp only [W00, W01, W02, W03, W04, W05, W06, W07, W08, W09, Nat.reduceEqDiff, Nat.reduceAdd, Nat.reduceLT, Nat.reduceLeDiff, Nat.reduceMul, reduceIte, reduceCtorEq, Int.reduceEq, Int.reduceLT, Int.reduceLE, Int.reduceNe]
    refine scall_v (growA_c N hn (by omega)) rfl rfl ?_
    simp only [W00, W01, W02, W03, W04, W05, W06, W07, W08, W09, Nat.reduceEqDiff, Nat.reduceAdd, Nat.reduceLT, Nat.reduceLeDiff, Nat.reduceMul, reduceIte, reduceCtorEq, Int.reduceEq, Int.reduceLT, Int.reduceLE, Int.reduceNe]
    refine bind_push ?_
    simp only [List.length_map, W00, W01, W02, W03, W04, W05, W06, W07, W08, W09, Nat.reduceEqDiff, Nat.reduceAdd, Nat.reduceLT, Nat.reduceLeDiff, Nat.reduceMul, reduceIte, reduceCtorEq, Int.reduceEq, Int.reduceLT, Int.reduceLE, Int.reduceNe]
    have hfl : ls.flatten.length = N := by rw [List.length_flatten, hN]
    refine loop_list ls (fun i (acc : List ByteArray) => [.sl (acc.map avB), avI i]) (fun _ rest acc => acc ++ rest.flatten = ls.flatten) [] rfl (by simp) (fun i x rest acc hi hx hm hel hd hg => ?_) (fun acc hd hg => ?_)
    · have hl2 := congrArg List.length hg
      simp only [List.length_append, List.flatten_cons, hfl] at hl2
      simp only [hd, W00, W01, W02, W03, W04, W05, W06, W07, W08, W09, Nat.reduceEqDiff, Nat.reduceAdd, Nat.reduceLT, Nat.reduceLeDiff, Nat.reduceMul, reduceIte, reduceCtorEq, Int.reduceEq, Int.reduceLT, Int.reduceLE, Int.reduceNe]
      rw [hel avL 1 _ _ rfl]
      simp (disch := omega) only [avL, List.length_map, wrapA1, W00, W01, W02, W03, W04, W05, W06, W07, W08, W09, Nat.reduceEqDiff, Nat.reduceAdd, Nat.reduceLT, Nat.reduceLeDiff, Nat.reduceMul, reduceIte, reduceCtorEq, Int.reduceEq, Int.reduceLT, Int.reduceLE, Int.reduceNe]
      refine ⟨fun y hy => by obtain ⟨z, _, rfl⟩ := List.mem_map.1 hy; rfl, by omega, by omega, ?_⟩
      refine ⟨hi, acc ++ x, ?_, by rw [List.map_append]⟩
      rw [List.flatten_cons, ← List.append_assoc] at hg
      exact hg
    · rw [List.flatten_nil, List.append_nil] at hg
      simp only [hd, hg, W00, W01, W02, W03, W04, W05, W06, W07, W08, W09, Nat.reduceEqDiff, Nat.reduceAdd, Nat.reduceLT, Nat.reduceLeDiff, Nat.reduceMul, reduceIte, reduceCtorEq, Int.reduceEq, Int.reduceLT, Int.reduceLE, Int.reduceNe]
theorem catB_c (ls : List (List ByteArray)) (hN : (ls.map List.length).sum = 0) (hl : ls.length ≤ 1048576) : PCon Try.prog F.slices_Concat_impl_names_string [.sl (ls.map avL)] (.sl (ls.flatten.map avB)) := by
  have hno : AV.norefs [AV.sl (ls.map avL)] = true := by simp only [AV.norefs, AV.noref, Bool.and_true]; exact norefsM avL_nor
  refine T.slices_Concat_impl_names_string_B_con rfl hno ?_
  simp only [T.slices_Concat_impl_names_string_B, W00, W01, W02, W03, W04, W05, W06, W07, W08, W09, Nat.reduceEqDiff, Nat.reduceAdd, Nat.reduceLT, Nat.reduceLeDiff, Nat.reduceMul, reduceIte, reduceCtorEq, Int.reduceEq, Int.reduceLT, Int.reduceLE, Int.reduceNe]
  refine bind_cut [avI 0] rfl ?_ ?_
  · simp only [List.length_map, W00, W01, W02, W03, W04, W05, W06, W07, W08, W09, Nat.reduceEqDiff, Nat.reduceAdd, Nat.reduceLT, Nat.reduceLeDiff, Nat.reduceMul, reduceIte, reduceCtorEq, Int.reduceEq, Int.reduceLT, Int.reduceLE, Int.reduceNe]
    refine loop_list ls (fun i (acc : Nat) => [avI acc, avI i]) (fun _ rest acc => acc + (rest.map List.length).sum = 0) 0 rfl (by omega) (fun i x rest acc hi hx hm hel hd hg => ?_) (fun acc hd hg => ?_)
    · simp only [List.map_cons, List.sum_cons] at hg
      simp only [hd, W00, W01, W02, W03, W04, W05, W06, W07, W08, W09, Nat.reduceEqDiff, Nat.reduceAdd, Nat.reduceLT, Nat.reduceLeDiff, Nat.reduceMul, reduceIte, reduceCtorEq, Int.reduceEq, Int.reduceLT, Int.reduceLE, Int.reduceNe]
      refine bind_cut [avI ((acc + x.length : Nat) : Int)] rfl ?_ ?_
      · simp only [W00, W01, W02, W03, W04, W05, W06, W07, W08, W09, Nat.reduceEqDiff, Nat.reduceAdd, Nat.reduceLT, Nat.reduceLeDiff, Nat.reduceMul, reduceIte, reduceCtorEq, Int.reduceEq, Int.reduceLT, Int.reduceLE, Int.reduceNe]
        rw [hel avL 1 _ _ rfl]
        have d1 : decide (((acc + x.length : Nat) : Int) < 0) = false := decide_eq_false (by omega)
        simp (disch := omega) only [avL, List.length_map, wrapA, d1, W00, W01, W02, W03, W04, W05, W06, W07, W08, W09, Nat.reduceEqDiff, Nat.reduceAdd, Nat.reduceLT, Nat.reduceLeDiff, Nat.reduceMul, reduceIte, reduceCtorEq, Int.reduceEq, Int.reduceLT, Int.reduceLE, Int.reduceNe]
      · simp (disch := omega) only [wrapA1, W00, W01, W02, W03, W04, W05, W06, W07, W08, W09, Nat.reduceEqDiff, Nat.reduceAdd, Nat.reduceLT, Nat.reduceLeDiff, Nat.reduceMul, reduceIte, reduceCtorEq, Int.reduceEq, Int.reduceLT, Int.reduceLE, Int.reduceNe]
        exact ⟨hi, _, by omega, rfl⟩
    · simp only [List.map_nil, List.sum_nil, Nat.add_zero] at hg
      simp only [hd, hg, W00, W01, W02, W03, W04, W05, W06, W07, W08, W09, Nat.reduceEqDiff, Nat.reduceAdd, Nat.reduceLT, Nat.reduceLeDiff, Nat.reduceMul, reduceIte, reduceCtorEq, Int.reduceEq, Int.reduceLT, Int.reduceLE, Int.reduceNe]
      rfl
  · simp only [W00, W01, W02, W03, W04, W05, W06, W07, W08, W09, Nat.reduceEqDiff, Nat.reduceAdd, Nat.reduceLT, Nat.reduceLeDiff, Nat.reduceMul, reduceIte, reduceCtorEq, Int.reduceEq, Int.reduceLT, Int.reduceLE, Int.reduceNe]
    refine scall_v growB_c rfl rfl ?_
    simp only [W00, W01, W02, W03, W04, W05, W06, W07, W08, W09, Nat.reduceEqDiff, Nat.reduceAdd, Nat.reduceLT, Nat.reduceLeDiff, Nat.reduceMul, reduceIte, reduceCtorEq, Int.reduceEq, Int.reduceLT, Int.reduceLE, Int.reduceNe]
    refine bind_push ?_
    simp only [List.length_map, W00, W01, W02, W03, W04, W05, W06, W07, W08, W09, Nat.reduceEqDiff, Nat.reduceAdd, Nat.reduceLT, Nat.reduceLeDiff, Nat.reduceMul, reduceIte, reduceCtorEq, Int.reduceEq, Int.reduceLT, Int.reduceLE, Int.reduceNe]
    have hfl : ls.flatten.length = 0 := by rw [List.length_flatten, hN]
    refine loop_list ls (fun i (acc : List ByteArray) => [.sl (acc.map avB), avI i]) (fun _ rest acc => acc ++ rest.flatten = ls.flatten) [] rfl (by simp) (fun i x rest acc hi hx hm hel hd hg => ?_) (fun acc hd hg => ?_)
    · have hl2 := congrArg List.length hg
      simp only [List.length_append, List.flatten_cons, hfl] at hl2
      simp only [hd, W00, W01, W02, W03, W04, W05, W06, W07, W08, W09, Nat.reduceEqDiff, Nat.reduceAdd, Nat.reduceLT, Nat.reduceLeDiff, Nat.reduceMul, reduceIte, reduceCtorEq, Int.reduceEq, Int.reduceLT, Int.reduceLE, Int.reduceNe]
      rw [hel avL 1 _ _ rfl]
      simp (disch := omega) only [avL, List.length_map, wrapA1, W00, W01, W02, W03, W04, W05, W06, W07, W08, W09, Nat.reduceEqDiff, Nat.reduceAdd, Nat.reduceLT, Nat.reduceLeDiff, Nat.reduceMul, reduceIte, reduceCtorEq, Int.reduceEq, Int.reduceLT, Int.reduceLE, Int.reduceNe]
      refine ⟨fun y hy => by obtain ⟨z, _, rfl⟩ := List.mem_map.1 hy; rfl, by omega, by omega, ?_⟩
      refine ⟨hi, acc ++ x, ?_, by rw [List.map_append]⟩
      rw [List.flatten_cons, ← List.append_assoc] at hg
      exact hg
    · rw [List.flatten_nil, List.append_nil] at hg
      simp only [hd, hg, W00, W01, W02, W03, W04, W05, W06, W07, W08, W09, Nat.reduceEqDiff, Nat.reduceAdd, Nat.reduceLT, Nat.reduceLeDiff, Nat.reduceMul, reduceIte, reduceCtorEq, Int.reduceEq, Int.reduceLT, Int.reduceLE, Int.reduceNe]
theorem cat_c (a b : List ByteArray) (hb : a.length + b.length ≤ 4398046511104) : PCon Try.prog F.slices_Concat_impl_names_string [.sl [.sl (a.map avB), .sl (b.map avB)]] (.sl ((a ++ b).map avB)) := by
  have hs : ([a, b].map List.length).sum = a.length + b.length := by simp
  have hf : [a, b].flatten = a ++ b := by simp
  rcases Nat.eq_zero_or_pos (a.length + b.length) with h | h
  · have := catB_c [a, b] (by omega) (by simp)
    rwa [hf] at this
  · have := catA_c [a, b] (by omega) (by omega) (by simp)
    rwa [hf] at this
end Go.Proofs.Ab
