/-
  BYTES: the laws' helpers, and numbers as few bytes.
-/
import Derived.Test.YtjklngbcegdjhaaST
import Derived.Test.YtjklngbcegdjhaaGM
import Derived.Test.YtjklngbcegdjhaaCLex

set_option linter.unusedVariables false
set_option linter.unusedSimpArgs false
set_option linter.defProp false

namespace Go.Proofs.Ab
open Go.Ab
set_option maxRecDepth 100000
set_option maxHeartbeats 4000000
theorem eqByteS_c (l : List Int) (hm : l.length ≤ 1048576) : PCon Try.prog F.laws_eqByteS [.sl (bys l), .sl (bys l)] (.v (.bool true)) :=
  T.laws_eqByteS_con rfl (by simp [AV.norefs, AV.noref, bys_noref]) (eqI_T (g := fun n : Int => .int .u8 n) (fun x K => neqI .u8 x K) hm)
theorem toByteS_c (l : List Int) (hm : l.length ≤ 1048576) : PCon Try.prog F.laws_toByteS [.sl (bys l)] (.sl (bys l)) :=
  T.laws_toByteS_con rfl (by simp [AV.norefs, AV.noref, bys_noref]) (toI_T (g := fun n : Int => .int .u8 n) rfl (by decide) hm)
theorem markByteS_c (l : List Int) (b : Nat) (hm : l.length ≤ 1048576) (hb : b ≤ 1048576) : SCon Try.prog F.laws_markByteS G.laws_markByteS [.sl (bys l), .v (.int .i64 b)] [.sl (bys (marks b l.length)), .v (.int .i64 (b + l.length : Nat))] := by
  refine T.laws_markByteS_scon rfl rfl (by simp [AV.norefs, AV.noref, bys_noref]) ?_
  simp only [T.laws_markByteS, W00, W01, W02, W03, W04, W05, W06, W07, W08, W09, Nat.reduceEqDiff, Nat.reduceAdd, Nat.reduceLT, Nat.reduceLeDiff, Nat.reduceMul, reduceIte, reduceCtorEq, Int.reduceEq, Int.reduceLT, Int.reduceLE, Int.reduceNe]
  refine bind_push ?_
  simp only [W00, W01, W02, W03, W04, W05, W06, W07, W08, W09, Nat.reduceEqDiff, Nat.reduceAdd, Nat.reduceLT, Nat.reduceLeDiff, Nat.reduceMul, reduceIte, reduceCtorEq, Int.reduceEq, Int.reduceLT, Int.reduceLE, Int.reduceNe]
  refine loop_up l.length (fun i => [.sl (bys (markTo l b i)), .v (.int .i64 (b + i : Nat)), .v (.int .i64 i)]) (by simp [markTo, marks]) fun i hi => ?_
  have hl := markTo_len l b i hi
  simp only [List.length_map, hl, W00, W01, W02, W03, W04, W05, W06, W07, W08, W09, Nat.reduceEqDiff, Nat.reduceAdd, Nat.reduceLT, Nat.reduceLeDiff, Nat.reduceMul, reduceIte, reduceCtorEq, Int.reduceEq, Int.reduceLT, Int.reduceLE, Int.reduceNe]
  refine ite_dec (fun h => ?_) (fun h => ?_)
  · have hlt : i < l.length := by omega
    simp (disch := omega) only [h_idxE, h_one, cells_v, isCell_v, List.length_map, hl, wrapA1, W00, W01, W02, W03, W04, W05, W06, W07, W08, W09, Nat.reduceEqDiff, Nat.reduceAdd, Nat.reduceLT, Nat.reduceLeDiff, Nat.reduceMul, reduceIte, reduceCtorEq, Int.reduceEq, Int.reduceLT, Int.reduceLE, Int.reduceNe]
    refine ⟨by omega, hlt, cellsD (by omega), hlt, ?_⟩
    rw [upd_cell (by omega), markTo_set l b i hlt]
    rfl
  · have he : i = l.length := by omega
    subst he
    rw [markTo_end _ _ _ (Nat.le_refl _)]
    simp only [W00, W01, W02, W03, W04, W05, W06, W07, W08, W09, Nat.reduceEqDiff, Nat.reduceAdd, Nat.reduceLT, Nat.reduceLeDiff, Nat.reduceMul, reduceIte, reduceCtorEq, Int.reduceEq, Int.reduceLT, Int.reduceLE, Int.reduceNe]
theorem heldByteS_c (b n : Nat) (hm : n ≤ 1048576) (hb : b ≤ 1048576) : PCon Try.prog F.laws_heldByteS [.sl (bys (marks b n)), .v (.int .i64 b)] (.v (.int .i64 (b + n : Nat))) := by
  refine T.laws_heldByteS_con rfl (by simp [AV.norefs, AV.noref, bys_noref]) ?_
  simp only [T.laws_heldByteS, W00, W01, W02, W03, W04, W05, W06, W07, W08, W09, Nat.reduceEqDiff, Nat.reduceAdd, Nat.reduceLT, Nat.reduceLeDiff, Nat.reduceMul, reduceIte, reduceCtorEq, Int.reduceEq, Int.reduceLT, Int.reduceLE, Int.reduceNe]
  refine bind_push ?_
  simp only [W00, W01, W02, W03, W04, W05, W06, W07, W08, W09, Nat.reduceEqDiff, Nat.reduceAdd, Nat.reduceLT, Nat.reduceLeDiff, Nat.reduceMul, reduceIte, reduceCtorEq, Int.reduceEq, Int.reduceLT, Int.reduceLE, Int.reduceNe]
  have hl := marks_len b n
  refine loop_up n (fun i => [.v (.int .i64 (b + i : Nat)), .v (.int .i64 i)]) (by simp) fun i hi => ?_
  simp only [List.length_map, hl, W00, W01, W02, W03, W04, W05, W06, W07, W08, W09, Nat.reduceEqDiff, Nat.reduceAdd, Nat.reduceLT, Nat.reduceLeDiff, Nat.reduceMul, reduceIte, reduceCtorEq, Int.reduceEq, Int.reduceLT, Int.reduceLE, Int.reduceNe]
  refine ite_dec (fun h => ?_) (fun h => ?_)
  · have hlt : i < n := by omega
    have hlt2 : i < (marks b n).length := by omega
    simp only [W00, W01, W02, W03, W04, W05, W06, W07, W08, W09, Nat.reduceEqDiff, Nat.reduceAdd, Nat.reduceLT, Nat.reduceLeDiff, Nat.reduceMul, reduceIte, reduceCtorEq, Int.reduceEq, Int.reduceLT, Int.reduceLE, Int.reduceNe]
    refine elemM by1 hlt2 rfl ?_
    have hv : (marks b n)[i] = IntKind.u8.wrap ((b + i : Nat) : Int) := by simp [marks]
    simp (disch := omega) only [hv, wrapA1, W00, W01, W02, W03, W04, W05, W06, W07, W08, W09, Nat.reduceEqDiff, Nat.reduceAdd, Nat.reduceLT, Nat.reduceLeDiff, Nat.reduceMul, reduceIte, reduceCtorEq, Int.reduceEq, Int.reduceLT, Int.reduceLE, Int.reduceNe]
    exact ⟨hlt, rfl⟩
  · have he : i = n := by omega
    subst he
    simp only [W00, W01, W02, W03, W04, W05, W06, W07, W08, W09, Nat.reduceEqDiff, Nat.reduceAdd, Nat.reduceLT, Nat.reduceLeDiff, Nat.reduceMul, reduceIte, reduceCtorEq, Int.reduceEq, Int.reduceLT, Int.reduceLE, Int.reduceNe]
theorem impl_turned_c (n : Int) (h1 : -9223372036854775808 ≤ n) (h2 : n ≤ 9223372036854775807) : PCon Try.prog F.impl_turned [avI n] (.v (.int .u64 (zz n))) := by
  refine T.impl_turned_con rfl rfl ?_
  simp only [T.impl_turned, W00, W01, W02, W03, W04, W05, W06, W07, W08, W09, Nat.reduceEqDiff, Nat.reduceAdd, Nat.reduceLT, Nat.reduceLeDiff, Nat.reduceMul, reduceIte, reduceCtorEq, Int.reduceEq, Int.reduceLT, Int.reduceLE, Int.reduceNe]
  rw [turned_eq n h1 h2]
/-- the loop's state -/
def putOk (z : Nat) (q : List Int × Nat) : Prop := q.1 ++ putL q.2 = putL z ∧ q.2 < 2 ^ 64
theorem putOk.len {z : Nat} {q : List Int × Nat} (h : putOk z q) (hz : z < 2 ^ 64) : q.1.length ≤ 10 := by
  have := putL_10 z hz
  rw [← h.1] at this
  simp at this; omega
theorem putOk.more {z : Nat} {q : List Int × Nat} (h : putOk z q) (hv : 128 ≤ q.2) : putOk z (q.1 ++ [((q.2 % 128 + 128 : Nat) : Int)], q.2 / 128) := by
  refine ⟨?_, by have := h.2; simp only; omega⟩
  rw [← h.1, List.append_assoc, putL_more q.2 hv]; rfl
theorem putOk.last {z : Nat} {q : List Int × Nat} (h : putOk z q) (hv : q.2 < 128) : q.1 ++ [(q.2 : Int)] = putL z := by rw [← h.1, putL_last q.2 hv]
theorem u8small (v : Nat) (h : v < 128) : IntKind.u8.wrap (v : Int) = v := by rw [wrapB]; omega
theorem bysA (l : List Int) (n : Int) : bys l ++ [AV.v (.int .u8 n)] = bys (l ++ [n]) := by simp
theorem impl_PutShort_f (n : Int) (h1 : -9223372036854775808 ≤ n) (h2 : n ≤ 9223372036854775807) : FCon Try.prog F.impl_PutShort [avI n] true 5 1 (bys (putL (zz n))) := by
  refine T.impl_PutShort_fcon rfl rfl ?_
  have hzl := zz_lt n h1 h2
  generalize hz : zz n = z at hzl ⊢
  simp only [T.impl_PutShort, W00, W01, W02, W03, W04, W05, W06, W07, W08, W09, Nat.reduceEqDiff, Nat.reduceAdd, Nat.reduceLT, Nat.reduceLeDiff, Nat.reduceMul, reduceIte, reduceCtorEq, Int.reduceEq, Int.reduceLT, Int.reduceLE, Int.reduceNe]
  refine call_v (hz ▸ impl_turned_c n h1 h2) ?_
  simp only [W00, W01, W02, W03, W04, W05, W06, W07, W08, W09, Nat.reduceEqDiff, Nat.reduceAdd, Nat.reduceLT, Nat.reduceLeDiff, Nat.reduceMul, reduceIte, reduceCtorEq, Int.reduceEq, Int.reduceLT, Int.reduceLE, Int.reduceNe]
  refine bind_push ?_
  simp only [W00, W01, W02, W03, W04, W05, W06, W07, W08, W09, Nat.reduceEqDiff, Nat.reduceAdd, Nat.reduceLT, Nat.reduceLeDiff, Nat.reduceMul, reduceIte, reduceCtorEq, Int.reduceEq, Int.reduceLT, Int.reduceLE, Int.reduceNe]
  refine loop_intro (ι := List Int × Nat) (putOk z) (fun q => [.sl (bys q.1), .v (.int .u64 q.2)]) (fun q => q.2) ([], z) ⟨by simp, hzl⟩ rfl fun q hq => ?_
  have hq10 := hq.len hzl
  have hq64 := hq.2
  obtain ⟨pre, v⟩ := q
  simp only at hq10 hq64
  simp only [W00, W01, W02, W03, W04, W05, W06, W07, W08, W09, Nat.reduceEqDiff, Nat.reduceAdd, Nat.reduceLT, Nat.reduceLeDiff, Nat.reduceMul, reduceIte, reduceCtorEq, Int.reduceEq, Int.reduceLT, Int.reduceLE, Int.reduceNe]
  refine ite_dec (fun h => ?_) (fun h => ?_)
  · have hv : 128 ≤ v := by omega
    simp only [List.length_map, W00, W01, W02, W03, W04, W05, W06, W07, W08, W09, Nat.reduceEqDiff, Nat.reduceAdd, Nat.reduceLT, Nat.reduceLeDiff, Nat.reduceMul, reduceIte, reduceCtorEq, Int.reduceEq, Int.reduceLT, Int.reduceLE, Int.reduceNe]
    refine ⟨fun y hy => by rw [hy]; rfl, by omega, by omega, ?_⟩
    exact ⟨_, hq.more hv, by simp only; omega, by rw [byteI v hq64, shr7, bysA]⟩
  · have hv : v < 128 := by omega
    simp only [List.length_map, W00, W01, W02, W03, W04, W05, W06, W07, W08, W09, Nat.reduceEqDiff, Nat.reduceAdd, Nat.reduceLT, Nat.reduceLeDiff, Nat.reduceMul, reduceIte, reduceCtorEq, Int.reduceEq, Int.reduceLT, Int.reduceLE, Int.reduceNe]
    refine ⟨fun y hy => by rw [hy]; rfl, by omega, by omega, ?_⟩
    rw [u8small v hv, bysA, hq.last hv]
theorem spec_PutShort_f (n : Int) (h1 : -9223372036854775808 ≤ n) (h2 : n ≤ 9223372036854775807) : FCon Try.prog F.spec_PutShort [avI n] false 5 1 (bys (putL (zz n))) := by
  refine T.spec_PutShort_fcon rfl rfl ?_
  obtain ⟨q1, q2⟩ := spec_zz n h1 h2
  have hzl := zz_lt n h1 h2
  generalize hz : zz n = z at hzl q1 q2 ⊢
  simp only [T.spec_PutShort, W00, W01, W02, W03, W04, W05, W06, W07, W08, W09, Nat.reduceEqDiff, Nat.reduceAdd, Nat.reduceLT, Nat.reduceLeDiff, Nat.reduceMul, reduceIte, reduceCtorEq, Int.reduceEq, Int.reduceLT, Int.reduceLE, Int.reduceNe]
  refine bind_cut [.v (.int .u64 z)] rfl ?_ ?_
  · simp only [W00, W01, W02, W03, W04, W05, W06, W07, W08, W09, Nat.reduceEqDiff, Nat.reduceAdd, Nat.reduceLT, Nat.reduceLeDiff, Nat.reduceMul, reduceIte, reduceCtorEq, Int.reduceEq, Int.reduceLT, Int.reduceLE, Int.reduceNe]
    refine ite_dec (fun h => ?_) (fun h => ?_)
    · have e1 : IntKind.i64.wrap (n + 1) = n + 1 := wrapI (by omega) (by omega)
      have e2 : IntKind.i64.wrap (-(n + 1)) = -(n + 1) := wrapI (by omega) (by omega)
      simp only [e1, e2, W00, W01, W02, W03, W04, W05, W06, W07, W08, W09, Nat.reduceEqDiff, Nat.reduceAdd, Nat.reduceLT, Nat.reduceLeDiff, Nat.reduceMul, reduceIte, reduceCtorEq, Int.reduceEq, Int.reduceLT, Int.reduceLE, Int.reduceNe]
      rw [q2 h]
    · simp only [W00, W01, W02, W03, W04, W05, W06, W07, W08, W09, Nat.reduceEqDiff, Nat.reduceAdd, Nat.reduceLT, Nat.reduceLeDiff, Nat.reduceMul, reduceIte, reduceCtorEq, Int.reduceEq, Int.reduceLT, Int.reduceLE, Int.reduceNe]
      rw [q1 (by omega)]
  · simp only [W00, W01, W02, W03, W04, W05, W06, W07, W08, W09, Nat.reduceEqDiff, Nat.reduceAdd, Nat.reduceLT, Nat.reduceLeDiff, Nat.reduceMul, reduceIte, reduceCtorEq, Int.reduceEq, Int.reduceLT, Int.reduceLE, Int.reduceNe]
    refine bind_push ?_
    simp only [W00, W01, W02, W03, W04, W05, W06, W07, W08, W09, Nat.reduceEqDiff, Nat.reduceAdd, Nat.reduceLT, Nat.reduceLeDiff, Nat.reduceMul, reduceIte, reduceCtorEq, Int.reduceEq, Int.reduceLT, Int.reduceLE, Int.reduceNe]
    refine loop_intro (ι := List Int × Nat) (putOk z) (fun q => [.sl (bys q.1), .v (.int .u64 q.2)]) (fun q => q.2) ([], z) ⟨by simp, hzl⟩ rfl fun q hq => ?_
    have hq10 := hq.len hzl
    have hq64 := hq.2
    obtain ⟨pre, v⟩ := q
    simp only at hq10 hq64
    simp only [W00, W01, W02, W03, W04, W05, W06, W07, W08, W09, Nat.reduceEqDiff, Nat.reduceAdd, Nat.reduceLT, Nat.reduceLeDiff, Nat.reduceMul, reduceIte, reduceCtorEq, Int.reduceEq, Int.reduceLT, Int.reduceLE, Int.reduceNe]
    refine ite_dec (fun h => ?_) (fun h => ?_)
    · have hv : 128 ≤ v := by omega
      simp only [List.length_map, W00, W01, W02, W03, W04, W05, W06, W07, W08, W09, Nat.reduceEqDiff, Nat.reduceAdd, Nat.reduceLT, Nat.reduceLeDiff, Nat.reduceMul, reduceIte, reduceCtorEq, Int.reduceEq, Int.reduceLT, Int.reduceLE, Int.reduceNe]
      refine ⟨fun y hy => by rw [hy]; rfl, by omega, by omega, ?_⟩
      exact ⟨_, hq.more hv, by simp only; omega, by rw [byteS v hq64, shr7, bysA]⟩
    · have hv : v < 128 := by omega
      simp only [List.length_map, W00, W01, W02, W03, W04, W05, W06, W07, W08, W09, Nat.reduceEqDiff, Nat.reduceAdd, Nat.reduceLT, Nat.reduceLeDiff, Nat.reduceMul, reduceIte, reduceCtorEq, Int.reduceEq, Int.reduceLT, Int.reduceLE, Int.reduceNe]
      refine ⟨fun y hy => by rw [hy]; rfl, by omega, by omega, ?_⟩
      rw [u8small v hv, bysA, hq.last hv]
theorem law_PutShort (n : Int) (h1 : -9223372036854775808 ≤ n) (h2 : n ≤ 9223372036854775807) : PCon Try.prog F.laws_FnExactPutShort [avI n] (.v (.bool true)) := by
  refine T.laws_FnExactPutShort_con rfl rfl ?_
  have hzl := putL_10 _ (zz_lt n h1 h2)
  simp only [T.laws_FnExactPutShort, W00, W01, W02, W03, W04, W05, W06, W07, W08, W09, Nat.reduceEqDiff, Nat.reduceAdd, Nat.reduceLT, Nat.reduceLeDiff, Nat.reduceMul, reduceIte, reduceCtorEq, Int.reduceEq, Int.reduceLT, Int.reduceLE, Int.reduceNe]
  refine fcall_v (spec_PutShort_f n h1 h2) (bys_noref _) ?_
  simp only [W00, W01, W02, W03, W04, W05, W06, W07, W08, W09, Nat.reduceEqDiff, Nat.reduceAdd, Nat.reduceLT, Nat.reduceLeDiff, Nat.reduceMul, reduceIte, reduceCtorEq, Int.reduceEq, Int.reduceLT, Int.reduceLE, Int.reduceNe]
  refine fcall_v (impl_PutShort_f n h1 h2) (bys_noref _) ?_
  simp only [W00, W01, W02, W03, W04, W05, W06, W07, W08, W09, Nat.reduceEqDiff, Nat.reduceAdd, Nat.reduceLT, Nat.reduceLeDiff, Nat.reduceMul, reduceIte, reduceCtorEq, Int.reduceEq, Int.reduceLT, Int.reduceLE, Int.reduceNe]
  refine call_v (eqByteS_c _ (by omega)) ?_
  simp only [W00, W01, W02, W03, W04, W05, W06, W07, W08, W09, Nat.reduceEqDiff, Nat.reduceAdd, Nat.reduceLT, Nat.reduceLeDiff, Nat.reduceMul, reduceIte, reduceCtorEq, Int.reduceEq, Int.reduceLT, Int.reduceLE, Int.reduceNe]
  refine scall_v (markByteS_c _ 1 (by omega) (by omega)) rfl (by simp [AV.norefs, AV.noref, bys_noref]) ?_
  simp only [marks_len, List.length_map, W00, W01, W02, W03, W04, W05, W06, W07, W08, W09, Nat.reduceEqDiff, Nat.reduceAdd, Nat.reduceLT, Nat.reduceLeDiff, Nat.reduceMul, reduceIte, reduceCtorEq, Int.reduceEq, Int.reduceLT, Int.reduceLE, Int.reduceNe]
  refine call_v (heldByteS_c 1 _ (by omega) (by omega)) ?_
  simp (disch := omega) only [lt0, W00, W01, W02, W03, W04, W05, W06, W07, W08, W09, Nat.reduceEqDiff, Nat.reduceAdd, Nat.reduceLT, Nat.reduceLeDiff, Nat.reduceMul, reduceIte, reduceCtorEq, Int.reduceEq, Int.reduceLT, Int.reduceLE, Int.reduceNe]
  refine fcall_v (impl_PutShort_f n h1 h2) (bys_noref _) ?_
  simp only [W00, W01, W02, W03, W04, W05, W06, W07, W08, W09, Nat.reduceEqDiff, Nat.reduceAdd, Nat.reduceLT, Nat.reduceLeDiff, Nat.reduceMul, reduceIte, reduceCtorEq, Int.reduceEq, Int.reduceLT, Int.reduceLE, Int.reduceNe]
  refine call_v (eqByteS_c _ (by omega)) ?_
  simp only [W00, W01, W02, W03, W04, W05, W06, W07, W08, W09, Nat.reduceEqDiff, Nat.reduceAdd, Nat.reduceLT, Nat.reduceLeDiff, Nat.reduceMul, reduceIte, reduceCtorEq, Int.reduceEq, Int.reduceLT, Int.reduceLE, Int.reduceNe]
  refine call_v (heldByteS_c 1 _ (by omega) (by omega)) ?_
  simp (disch := omega) only [lt0, W00, W01, W02, W03, W04, W05, W06, W07, W08, W09, Nat.reduceEqDiff, Nat.reduceAdd, Nat.reduceLT, Nat.reduceLeDiff, Nat.reduceMul, reduceIte, reduceCtorEq, Int.reduceEq, Int.reduceLT, Int.reduceLE, Int.reduceNe]
theorem spec_l20Same_c (p q : List Int) (hp : p.length ≤ 1048576) : PCon Try.prog F.spec_l20Same [.sl (bys p), .sl (bys q)] (.v (.bool (decide (p = q)))) := by
  refine T.spec_l20Same_con rfl (by simp [AV.norefs, AV.noref, bys_noref]) ?_
  simp only [T.spec_l20Same, W00, W01, W02, W03, W04, W05, W06, W07, W08, W09, Nat.reduceEqDiff, Nat.reduceAdd, Nat.reduceLT, Nat.reduceLeDiff, Nat.reduceMul, reduceIte, reduceCtorEq, Int.reduceEq, Int.reduceLT, Int.reduceLE, Int.reduceNe]
  refine ite_ndec (fun h => ?_) (fun h => ?_)
  · have : p ≠ q := fun he => h (by rw [he])
    simp only [decide_eq_false this, W00, W01, W02, W03, W04, W05, W06, W07, W08, W09, Nat.reduceEqDiff, Nat.reduceAdd, Nat.reduceLT, Nat.reduceLeDiff, Nat.reduceMul, reduceIte, reduceCtorEq, Int.reduceEq, Int.reduceLT, Int.reduceLE, Int.reduceNe]
  · have hlen : p.length = q.length := by
      omega
    simp only [W00, W01, W02, W03, W04, W05, W06, W07, W08, W09, Nat.reduceEqDiff, Nat.reduceAdd, Nat.reduceLT, Nat.reduceLeDiff, Nat.reduceMul, reduceIte, reduceCtorEq, Int.reduceEq, Int.reduceLT, Int.reduceLE, Int.reduceNe]
    refine bind_push ?_
    simp only [W00, W01, W02, W03, W04, W05, W06, W07, W08, W09, Nat.reduceEqDiff, Nat.reduceAdd, Nat.reduceLT, Nat.reduceLeDiff, Nat.reduceMul, reduceIte, reduceCtorEq, Int.reduceEq, Int.reduceLT, Int.reduceLE, Int.reduceNe]
    refine loop_zip p q hlen (fun i (_ : Unit) => [avI i]) (fun _ rest resty _ => (p = q ↔ rest = resty)) () rfl Iff.rfl (fun i x y rest resty b hi hm hmy hel hely hd hdy hg => ?_) (fun b hd hdy hg => ?_)
    · simp only [List.length_map, hd, W00, W01, W02, W03, W04, W05, W06, W07, W08, W09, Nat.reduceEqDiff, Nat.reduceAdd, Nat.reduceLT, Nat.reduceLeDiff, Nat.reduceMul, reduceIte, reduceCtorEq, Int.reduceEq, Int.reduceLT, Int.reduceLE, Int.reduceNe]
      rw [hel by1 1 _ _ rfl]
      simp only [W00, W01, W02, W03, W04, W05, W06, W07, W08, W09, Nat.reduceEqDiff, Nat.reduceAdd, Nat.reduceLT, Nat.reduceLeDiff, Nat.reduceMul, reduceIte, reduceCtorEq, Int.reduceEq, Int.reduceLT, Int.reduceLE, Int.reduceNe]
      rw [hely by1 1 _ _ rfl]
      simp only [W00, W01, W02, W03, W04, W05, W06, W07, W08, W09, Nat.reduceEqDiff, Nat.reduceAdd, Nat.reduceLT, Nat.reduceLeDiff, Nat.reduceMul, reduceIte, reduceCtorEq, Int.reduceEq, Int.reduceLT, Int.reduceLE, Int.reduceNe]
      refine ite_ndec (fun hq => ?_) (fun hq => ?_)
      · have : p ≠ q := fun he => by
          have := hg.1 he
          simp only [List.cons.injEq] at this
          exact hq this.1
        simp only [decide_eq_false this, W00, W01, W02, W03, W04, W05, W06, W07, W08, W09, Nat.reduceEqDiff, Nat.reduceAdd, Nat.reduceLT, Nat.reduceLeDiff, Nat.reduceMul, reduceIte, reduceCtorEq, Int.reduceEq, Int.reduceLT, Int.reduceLE, Int.reduceNe]
      · simp (disch := omega) only [wrapA1, W00, W01, W02, W03, W04, W05, W06, W07, W08, W09, Nat.reduceEqDiff, Nat.reduceAdd, Nat.reduceLT, Nat.reduceLeDiff, Nat.reduceMul, reduceIte, reduceCtorEq, Int.reduceEq, Int.reduceLT, Int.reduceLE, Int.reduceNe]
        exact ⟨hi, (), by rw [hg, hq]; simp⟩
    · simp only [List.length_map, hd, W00, W01, W02, W03, W04, W05, W06, W07, W08, W09, Nat.reduceEqDiff, Nat.reduceAdd, Nat.reduceLT, Nat.reduceLeDiff, Nat.reduceMul, reduceIte, reduceCtorEq, Int.reduceEq, Int.reduceLT, Int.reduceLE, Int.reduceNe]
      have : p = q := hg.2 rfl
      simp only [decide_eq_true this, W00, W01, W02, W03, W04, W05, W06, W07, W08, W09, Nat.reduceEqDiff, Nat.reduceAdd, Nat.reduceLT, Nat.reduceLeDiff, Nat.reduceMul, reduceIte, reduceCtorEq, Int.reduceEq, Int.reduceLT, Int.reduceLE, Int.reduceNe]
/-- the state of both loops -/
structure gOk (l : List Int) (at' : Nat) (G : Int × Int × Bool) (q : Nat × Nat) : Prop where
  k : q.1 ≤ 10
  le : at' + q.1 ≤ l.length
  go : G = gs at' q.1 q.2 (l.drop (at' + q.1))
  acc : q.1 ≤ 9 → q.2 < 128 ^ q.1 ∧ val ((l.drop at').take q.1) = q.2
  big : q.2 < 2 ^ 64
  ge : ∀ x ∈ (l.drop at').take q.1, 128 ≤ x ∧ x < 256
theorem gOk.next {l : List Int} {at' : Nat} {G : Int × Int × Bool} {k acc : Nat} (h : gOk l at' G (k, acc)) (hr : ∀ x ∈ l, 0 ≤ x ∧ x < 256) (hk : k < 10) (hlt : at' + k < l.length) (hc : 127 < l[at' + k]) : gOk l at' G (k + 1, put7 acc k l[at' + k]) := by
  have hgo := h.go
  simp only at hgo
  rw [dropC hlt, gs, if_neg (by omega), if_pos hc] at hgo
  obtain ⟨a1, a2⟩ := h.acc (show k ≤ 9 by omega)
  simp only at a1 a2
  have htk : (l.drop at').take (k + 1) = (l.drop at').take k ++ [l[at' + k]] := by
    rw [List.take_add_one, List.getElem?_drop, List.getElem?_eq_getElem hlt]; rfl
  have hlk : ((l.drop at').take k).length = k := by rw [List.length_take, List.length_drop]; omega
  refine ⟨by simp only; omega, by simp only; omega, ?_, fun h9 => ?_, Nat.mod_lt _ (by decide), fun x hx => ?_⟩
  · simp only
    rw [hgo, ← Nat.add_assoc]
    by_cases h9 : k + 1 ≤ 9
    · rw [(put7_lt acc k h9 a1 _).1]
    · rw [gs_10 _ _ _ _ (by omega), gs_10 _ _ _ _ (by omega)]
  · simp only at h9 ⊢
    obtain ⟨e1, e2⟩ := put7_lt acc k h9 a1 l[at' + k]
    refine ⟨e2, ?_⟩
    rw [htk, val_append, a2, hlk, e1]
    simp only [val]; rw [Nat.mul_zero, Nat.add_zero, Nat.mul_comm]
  · simp only at hx
    rw [htk, List.mem_append] at hx
    rcases hx with hx | hx
    · exact h.ge x hx
    · simp at hx; subst hx
      exact ⟨by omega, (hr _ (List.getElem_mem hlt)).2⟩
def gAV (g : Int × Int × Bool) : AV := .tup [avI g.1, avI g.2.1, .v (.bool g.2.2)]
theorem impl_GetShort_c (l : List Int) (hr : ∀ x ∈ l, 0 ≤ x ∧ x < 256) (hl : l.length ≤ 1048576) (n : Int) :
    PCon Try.prog F.impl_GetShort [.sl (bys l), avI n] (gAV (if inB n 0 ((l.length : Int) - 1) = true then gs n 0 0 (l.drop n.toNat) else (0, 0, false))) := by
  refine T.impl_GetShort_con rfl (by simp [AV.norefs, AV.noref, bys_noref]) ?_
  have s1 : IntKind.i64.wrap ((l.length : Int) - 1) = (l.length : Int) - 1 := wrapI (by omega) (by omega)
  simp only [T.impl_GetShort, List.length_map, s1, W00, W01, W02, W03, W04, W05, W06, W07, W08, W09, Nat.reduceEqDiff, Nat.reduceAdd, Nat.reduceLT, Nat.reduceLeDiff, Nat.reduceMul, reduceIte, reduceCtorEq, Int.reduceEq, Int.reduceLT, Int.reduceLE, Int.reduceNe]
  refine call_v (impl_within_c _ _ _) ?_
  simp only [W00, W01, W02, W03, W04, W05, W06, W07, W08, W09, Nat.reduceEqDiff, Nat.reduceAdd, Nat.reduceLT, Nat.reduceLeDiff, Nat.reduceMul, reduceIte, reduceCtorEq, Int.reduceEq, Int.reduceLT, Int.reduceLE, Int.reduceNe]
  cases hin : inB n 0 ((l.length : Int) - 1)
  · simp only [gAV, if_neg Bool.false_ne_true, W00, W01, W02, W03, W04, W05, W06, W07, W08, W09, Nat.reduceEqDiff, Nat.reduceAdd, Nat.reduceLT, Nat.reduceLeDiff, Nat.reduceMul, reduceIte, reduceCtorEq, Int.reduceEq, Int.reduceLT, Int.reduceLE, Int.reduceNe]
  simp only [inB, Bool.and_eq_true, decide_eq_true_eq] at hin
  obtain ⟨at', rfl⟩ : ∃ a : Nat, n = a := ⟨n.toNat, by omega⟩
  generalize hG : gs (at' : Int) 0 0 (l.drop (Int.toNat (at' : Int))) = G
  rw [Int.toNat_natCast] at hG
  simp only [if_true, W00, W01, W02, W03, W04, W05, W06, W07, W08, W09, Nat.reduceEqDiff, Nat.reduceAdd, Nat.reduceLT, Nat.reduceLeDiff, Nat.reduceMul, reduceIte, reduceCtorEq, Int.reduceEq, Int.reduceLT, Int.reduceLE, Int.reduceNe]
  refine bind_push ?_
  simp only [W00, W01, W02, W03, W04, W05, W06, W07, W08, W09, Nat.reduceEqDiff, Nat.reduceAdd, Nat.reduceLT, Nat.reduceLeDiff, Nat.reduceMul, reduceIte, reduceCtorEq, Int.reduceEq, Int.reduceLT, Int.reduceLE, Int.reduceNe]
  refine loop_intro (ι := Nat × Nat) (gOk l at' G) (fun q => [.v (.int .u64 q.2), avI q.1]) (fun q => 10 - q.1) (0, 0) ⟨by decide, by simp only; omega, by rw [← hG]; rfl, fun _ => ⟨by decide, rfl⟩, by decide, by simp⟩ rfl fun q hq => ?_
  obtain ⟨k, acc⟩ := q
  have hk := hq.k
  have hle := hq.le
  have hgo := hq.go
  have hbig := hq.big
  simp only at hk hle hgo hbig
  simp only [W00, W01, W02, W03, W04, W05, W06, W07, W08, W09, Nat.reduceEqDiff, Nat.reduceAdd, Nat.reduceLT, Nat.reduceLeDiff, Nat.reduceMul, reduceIte, reduceCtorEq, Int.reduceEq, Int.reduceLT, Int.reduceLE, Int.reduceNe]
  refine bind_push ?_
  simp only [W00, W01, W02, W03, W04, W05, W06, W07, W08, W09, Nat.reduceEqDiff, Nat.reduceAdd, Nat.reduceLT, Nat.reduceLeDiff, Nat.reduceMul, reduceIte, reduceCtorEq, Int.reduceEq, Int.reduceLT, Int.reduceLE, Int.reduceNe]
  refine bind_push ?_
  simp only [W00, W01, W02, W03, W04, W05, W06, W07, W08, W09, Nat.reduceEqDiff, Nat.reduceAdd, Nat.reduceLT, Nat.reduceLeDiff, Nat.reduceMul, reduceIte, reduceCtorEq, Int.reduceEq, Int.reduceLT, Int.reduceLE, Int.reduceNe]
  by_cases hk10 : k < 10
  · have d1 : decide ((k : Int) < 10) = true := decide_eq_true (by omega)
    simp (disch := omega) only [d1, wrapA, List.length_map, W00, W01, W02, W03, W04, W05, W06, W07, W08, W09, Nat.reduceEqDiff, Nat.reduceAdd, Nat.reduceLT, Nat.reduceLeDiff, Nat.reduceMul, reduceIte, reduceCtorEq, Int.reduceEq, Int.reduceLT, Int.reduceLE, Int.reduceNe]
    refine ite_dec (fun hlt => ?_) (fun hlt => ?_)
    · have hlt : at' + k < l.length := by omega
      obtain ⟨a1, a2⟩ := hq.acc (show k ≤ 9 by omega)
      simp only at a1 a2
      simp only [W00, W01, W02, W03, W04, W05, W06, W07, W08, W09, Nat.reduceEqDiff, Nat.reduceAdd, Nat.reduceLT, Nat.reduceLeDiff, Nat.reduceMul, reduceIte, reduceCtorEq, Int.reduceEq, Int.reduceLT, Int.reduceLE, Int.reduceNe]
      refine bind_push ?_
      simp (disch := omega) only [wrapA, W00, W01, W02, W03, W04, W05, W06, W07, W08, W09, Nat.reduceEqDiff, Nat.reduceAdd, Nat.reduceLT, Nat.reduceLeDiff, Nat.reduceMul, reduceIte, reduceCtorEq, Int.reduceEq, Int.reduceLT, Int.reduceLE, Int.reduceNe]
      refine elemM by1 hlt rfl ?_
      obtain ⟨c0, c1⟩ := hr _ (List.getElem_mem hlt)
      have hnext := hq.next hr hk10 hlt
      rw [dropC hlt, gs, if_neg (by omega)] at hgo
      generalize l[at' + k] = c at *
      have m7 : IntKind.i64.wrap (7 * (k : Int)) = ((7 * k : Nat) : Int) := by rw [wrapI (by omega) (by omega)]; omega
      have w64 : IntKind.u64.wrap (c % 128) = c % 128 := by rw [wrapU]; omega
      simp only [and127b c c0 c1, w64, m7, W00, W01, W02, W03, W04, W05, W06, W07, W08, W09, Nat.reduceEqDiff, Nat.reduceAdd, Nat.reduceLT, Nat.reduceLeDiff, Nat.reduceMul, reduceIte, reduceCtorEq, Int.reduceEq, Int.reduceLT, Int.reduceLE, Int.reduceNe]
      simp only [Int.toNat_natCast, shl7 k (by omega) c, or7 acc k (by omega) a1 c, W00, W01, W02, W03, W04, W05, W06, W07, W08, W09, Nat.reduceEqDiff, Nat.reduceAdd, Nat.reduceLT, Nat.reduceLeDiff, Nat.reduceMul, reduceIte, reduceCtorEq, Int.reduceEq, Int.reduceLT, Int.reduceLE, Int.reduceNe]
      refine ite_dec (fun hc => ?_) (fun hc => ?_)
      · simp (disch := omega) only [wrapA1, W00, W01, W02, W03, W04, W05, W06, W07, W08, W09, Nat.reduceEqDiff, Nat.reduceAdd, Nat.reduceLT, Nat.reduceLeDiff, Nat.reduceMul, reduceIte, reduceCtorEq, Int.reduceEq, Int.reduceLT, Int.reduceLE, Int.reduceNe]
        exact ⟨(k + 1, put7 acc k c), hnext hc, by simp only; omega, rfl⟩
      · rw [if_neg hc] at hgo
        simp only [W00, W01, W02, W03, W04, W05, W06, W07, W08, W09, Nat.reduceEqDiff, Nat.reduceAdd, Nat.reduceLT, Nat.reduceLeDiff, Nat.reduceMul, reduceIte, reduceCtorEq, Int.reduceEq, Int.reduceLT, Int.reduceLE, Int.reduceNe]
        refine bind_push ?_
        simp only [W00, W01, W02, W03, W04, W05, W06, W07, W08, W09, Nat.reduceEqDiff, Nat.reduceAdd, Nat.reduceLT, Nat.reduceLeDiff, Nat.reduceMul, reduceIte, reduceCtorEq, Int.reduceEq, Int.reduceLT, Int.reduceLE, Int.reduceNe]
        have hfin : ¬ ((0 < k ∧ c = 0) ∨ (k = 9 ∧ 1 < c)) → wpT Try.prog (fun _ _ _ => False) (fun a => a = gAV G) (.ret [.c (avI (unz (put7 acc k c))), .c (avI (at' + k + 1)), .c (.v (.bool true))]) [] [] := by
          intro hb
          rw [if_neg hb, ← (put7_fit acc k (by omega) a1 c (fun h => hb (.inr h)) c0 (by omega)).1] at hgo
          simp only [hgo, gAV, W00, W01, W02, W03, W04, W05, W06, W07, W08, W09, Nat.reduceEqDiff, Nat.reduceAdd, Nat.reduceLT, Nat.reduceLeDiff, Nat.reduceMul, reduceIte, reduceCtorEq, Int.reduceEq, Int.reduceLT, Int.reduceLE, Int.reduceNe]
        have hbad : ((0 < k ∧ c = 0) ∨ (k = 9 ∧ 1 < c)) → AV.tup [avI 0, avI 0, .v (.bool false)] = gAV G := by
          intro hb
          rw [if_pos hb] at hgo
          rw [hgo]; rfl
        have hp7 : put7 acc k c < 2 ^ 64 := Nat.mod_lt _ (by decide)
        by_cases k0 : 0 < k
        · have d2 : decide ((0 : Int) < (k : Int)) = true := decide_eq_true (by omega)
          refine bind_push ?_
          simp only [d2, W00, W01, W02, W03, W04, W05, W06, W07, W08, W09, Nat.reduceEqDiff, Nat.reduceAdd, Nat.reduceLT, Nat.reduceLeDiff, Nat.reduceMul, reduceIte, reduceCtorEq, Int.reduceEq, Int.reduceLT, Int.reduceLE, Int.reduceNe]
          refine ite_dec (fun hz => ?_) (fun hz => ?_)
          · simp only [W00, W01, W02, W03, W04, W05, W06, W07, W08, W09, Nat.reduceEqDiff, Nat.reduceAdd, Nat.reduceLT, Nat.reduceLeDiff, Nat.reduceMul, reduceIte, reduceCtorEq, Int.reduceEq, Int.reduceLT, Int.reduceLE, Int.reduceNe]
            exact hbad (.inl ⟨k0, hz⟩)
          · simp only [W00, W01, W02, W03, W04, W05, W06, W07, W08, W09, Nat.reduceEqDiff, Nat.reduceAdd, Nat.reduceLT, Nat.reduceLeDiff, Nat.reduceMul, reduceIte, reduceCtorEq, Int.reduceEq, Int.reduceLT, Int.reduceLE, Int.reduceNe]
            refine ite_dec (fun h9 => ?_) (fun h9 => ?_)
            · simp only [W00, W01, W02, W03, W04, W05, W06, W07, W08, W09, Nat.reduceEqDiff, Nat.reduceAdd, Nat.reduceLT, Nat.reduceLeDiff, Nat.reduceMul, reduceIte, reduceCtorEq, Int.reduceEq, Int.reduceLT, Int.reduceLE, Int.reduceNe]
              refine ite_dec (fun h1 => ?_) (fun h1 => ?_)
              · simp only [W00, W01, W02, W03, W04, W05, W06, W07, W08, W09, Nat.reduceEqDiff, Nat.reduceAdd, Nat.reduceLT, Nat.reduceLeDiff, Nat.reduceMul, reduceIte, reduceCtorEq, Int.reduceEq, Int.reduceLT, Int.reduceLE, Int.reduceNe]
                exact hbad (.inr ⟨by omega, h1⟩)
              · have hf := hfin (fun h => by exact h.elim (fun h => hz h.2) (fun h => h1 h.2))
                simp only [W00, W01, W02, W03, W04, W05, W06, W07, W08, W09, Nat.reduceEqDiff, Nat.reduceAdd, Nat.reduceLT, Nat.reduceLeDiff, Nat.reduceMul, reduceIte, reduceCtorEq, Int.reduceEq, Int.reduceLT, Int.reduceLE, Int.reduceNe] at hf
                simp only [W00, W01, W02, W03, W04, W05, W06, W07, W08, W09, Nat.reduceEqDiff, Nat.reduceAdd, Nat.reduceLT, Nat.reduceLeDiff, Nat.reduceMul, reduceIte, reduceCtorEq, Int.reduceEq, Int.reduceLT, Int.reduceLE, Int.reduceNe]
                simp (disch := omega) only [back_i _ hp7, wrapA, wrapA1, W00, W01, W02, W03, W04, W05, W06, W07, W08, W09, Nat.reduceEqDiff, Nat.reduceAdd, Nat.reduceLT, Nat.reduceLeDiff, Nat.reduceMul, reduceIte, reduceCtorEq, Int.reduceEq, Int.reduceLT, Int.reduceLE, Int.reduceNe]
                exact hf
            · have hf := hfin (fun h => by exact h.elim (fun h => hz h.2) (fun h => h9 (by omega)))
              simp only [W00, W01, W02, W03, W04, W05, W06, W07, W08, W09, Nat.reduceEqDiff, Nat.reduceAdd, Nat.reduceLT, Nat.reduceLeDiff, Nat.reduceMul, reduceIte, reduceCtorEq, Int.reduceEq, Int.reduceLT, Int.reduceLE, Int.reduceNe] at hf
              simp only [W00, W01, W02, W03, W04, W05, W06, W07, W08, W09, Nat.reduceEqDiff, Nat.reduceAdd, Nat.reduceLT, Nat.reduceLeDiff, Nat.reduceMul, reduceIte, reduceCtorEq, Int.reduceEq, Int.reduceLT, Int.reduceLE, Int.reduceNe]
              simp (disch := omega) only [back_i _ hp7, wrapA, wrapA1, W00, W01, W02, W03, W04, W05, W06, W07, W08, W09, Nat.reduceEqDiff, Nat.reduceAdd, Nat.reduceLT, Nat.reduceLeDiff, Nat.reduceMul, reduceIte, reduceCtorEq, Int.reduceEq, Int.reduceLT, Int.reduceLE, Int.reduceNe]
              exact hf
        · have d2 : decide ((0 : Int) < (k : Int)) = false := decide_eq_false (by omega)
          have d3 : decide ((k : Int) = 9) = false := decide_eq_false (by omega)
          refine bind_push ?_
          simp only [d2, d3, W00, W01, W02, W03, W04, W05, W06, W07, W08, W09, Nat.reduceEqDiff, Nat.reduceAdd, Nat.reduceLT, Nat.reduceLeDiff, Nat.reduceMul, reduceIte, reduceCtorEq, Int.reduceEq, Int.reduceLT, Int.reduceLE, Int.reduceNe]
          have hf := hfin (fun h => by rcases h with h | h <;> omega)
          simp only [W00, W01, W02, W03, W04, W05, W06, W07, W08, W09, Nat.reduceEqDiff, Nat.reduceAdd, Nat.reduceLT, Nat.reduceLeDiff, Nat.reduceMul, reduceIte, reduceCtorEq, Int.reduceEq, Int.reduceLT, Int.reduceLE, Int.reduceNe] at hf
          simp (disch := omega) only [back_i _ hp7, wrapA, wrapA1, W00, W01, W02, W03, W04, W05, W06, W07, W08, W09, Nat.reduceEqDiff, Nat.reduceAdd, Nat.reduceLT, Nat.reduceLeDiff, Nat.reduceMul, reduceIte, reduceCtorEq, Int.reduceEq, Int.reduceLT, Int.reduceLE, Int.reduceNe]
          exact hf
    · rw [List.drop_eq_nil_of_le (by omega)] at hgo
      simp only [gs] at hgo
      simp only [hgo, gAV, W00, W01, W02, W03, W04, W05, W06, W07, W08, W09, Nat.reduceEqDiff, Nat.reduceAdd, Nat.reduceLT, Nat.reduceLeDiff, Nat.reduceMul, reduceIte, reduceCtorEq, Int.reduceEq, Int.reduceLT, Int.reduceLE, Int.reduceNe]
  · have d1 : decide ((k : Int) < 10) = false := decide_eq_false (by omega)
    rw [gs_10 _ _ _ _ (by omega)] at hgo
    simp only [d1, hgo, gAV, W00, W01, W02, W03, W04, W05, W06, W07, W08, W09, Nat.reduceEqDiff, Nat.reduceAdd, Nat.reduceLT, Nat.reduceLeDiff, Nat.reduceMul, reduceIte, reduceCtorEq, Int.reduceEq, Int.reduceLT, Int.reduceLE, Int.reduceNe]
theorem spec_PutShort_c (n : Int) (h1 : -9223372036854775808 ≤ n) (h2 : n ≤ 9223372036854775807) : PCon Try.prog F.spec_PutShort [avI n] (.sl (bys (putL (zz n)))) := (spec_PutShort_f n h1 h2).plain (bys_noref _)
theorem spec_GetShort_c (l : List Int) (hr : ∀ x ∈ l, 0 ≤ x ∧ x < 256) (hl : l.length ≤ 1048576) (n : Int) :
    PCon Try.prog F.spec_GetShort [.sl (bys l), avI n] (gAV (if inB n 0 ((l.length : Int) - 1) = true then gs n 0 0 (l.drop n.toNat) else (0, 0, false))) := by
  refine T.spec_GetShort_con rfl (by simp [AV.norefs, AV.noref, bys_noref]) ?_
  have s1 : IntKind.i64.wrap ((l.length : Int) - 1) = (l.length : Int) - 1 := wrapI (by omega) (by omega)
  simp only [T.spec_GetShort, List.length_map, s1, W00, W01, W02, W03, W04, W05, W06, W07, W08, W09, Nat.reduceEqDiff, Nat.reduceAdd, Nat.reduceLT, Nat.reduceLeDiff, Nat.reduceMul, reduceIte, reduceCtorEq, Int.reduceEq, Int.reduceLT, Int.reduceLE, Int.reduceNe]
  refine call_v (spec_l1In_c _ _ _) ?_
  simp only [W00, W01, W02, W03, W04, W05, W06, W07, W08, W09, Nat.reduceEqDiff, Nat.reduceAdd, Nat.reduceLT, Nat.reduceLeDiff, Nat.reduceMul, reduceIte, reduceCtorEq, Int.reduceEq, Int.reduceLT, Int.reduceLE, Int.reduceNe]
  cases hin : inB n 0 ((l.length : Int) - 1)
  · simp only [gAV, if_neg Bool.false_ne_true, W00, W01, W02, W03, W04, W05, W06, W07, W08, W09, Nat.reduceEqDiff, Nat.reduceAdd, Nat.reduceLT, Nat.reduceLeDiff, Nat.reduceMul, reduceIte, reduceCtorEq, Int.reduceEq, Int.reduceLT, Int.reduceLE, Int.reduceNe]
  simp only [inB, Bool.and_eq_true, decide_eq_true_eq] at hin
  obtain ⟨at', rfl⟩ : ∃ a : Nat, n = a := ⟨n.toNat, by omega⟩
  generalize hG : gs (at' : Int) 0 0 (l.drop (Int.toNat (at' : Int))) = G
  rw [Int.toNat_natCast] at hG
  simp only [if_true, W00, W01, W02, W03, W04, W05, W06, W07, W08, W09, Nat.reduceEqDiff, Nat.reduceAdd, Nat.reduceLT, Nat.reduceLeDiff, Nat.reduceMul, reduceIte, reduceCtorEq, Int.reduceEq, Int.reduceLT, Int.reduceLE, Int.reduceNe]
  refine bind_push ?_
  simp only [W00, W01, W02, W03, W04, W05, W06, W07, W08, W09, Nat.reduceEqDiff, Nat.reduceAdd, Nat.reduceLT, Nat.reduceLeDiff, Nat.reduceMul, reduceIte, reduceCtorEq, Int.reduceEq, Int.reduceLT, Int.reduceLE, Int.reduceNe]
  refine loop_intro (ι := Nat × Nat) (gOk l at' G) (fun q => [.v (.int .u64 q.2), avI q.1]) (fun q => 10 - q.1) (0, 0) ⟨by decide, by simp only; omega, by rw [← hG]; rfl, fun _ => ⟨by decide, rfl⟩, by decide, by simp⟩ rfl fun q hq => ?_
  obtain ⟨k, acc⟩ := q
  have hk := hq.k
  have hle := hq.le
  have hgo := hq.go
  have hbig := hq.big
  have hge := hq.ge
  simp only at hk hle hgo hbig hge
  simp only [W00, W01, W02, W03, W04, W05, W06, W07, W08, W09, Nat.reduceEqDiff, Nat.reduceAdd, Nat.reduceLT, Nat.reduceLeDiff, Nat.reduceMul, reduceIte, reduceCtorEq, Int.reduceEq, Int.reduceLT, Int.reduceLE, Int.reduceNe]
  refine bind_push ?_
  simp only [W00, W01, W02, W03, W04, W05, W06, W07, W08, W09, Nat.reduceEqDiff, Nat.reduceAdd, Nat.reduceLT, Nat.reduceLeDiff, Nat.reduceMul, reduceIte, reduceCtorEq, Int.reduceEq, Int.reduceLT, Int.reduceLE, Int.reduceNe]
  refine bind_push ?_
  simp only [W00, W01, W02, W03, W04, W05, W06, W07, W08, W09, Nat.reduceEqDiff, Nat.reduceAdd, Nat.reduceLT, Nat.reduceLeDiff, Nat.reduceMul, reduceIte, reduceCtorEq, Int.reduceEq, Int.reduceLT, Int.reduceLE, Int.reduceNe]
  by_cases hk10 : k < 10
  · have d1 : decide ((k : Int) < 10) = true := decide_eq_true (by omega)
    simp (disch := omega) only [d1, wrapA, List.length_map, W00, W01, W02, W03, W04, W05, W06, W07, W08, W09, Nat.reduceEqDiff, Nat.reduceAdd, Nat.reduceLT, Nat.reduceLeDiff, Nat.reduceMul, reduceIte, reduceCtorEq, Int.reduceEq, Int.reduceLT, Int.reduceLE, Int.reduceNe]
    refine ite_dec (fun hlt => ?_) (fun hlt => ?_)
    · have hlt : at' + k < l.length := by omega
      obtain ⟨a1, a2⟩ := hq.acc (show k ≤ 9 by omega)
      simp only at a1 a2
      simp only [W00, W01, W02, W03, W04, W05, W06, W07, W08, W09, Nat.reduceEqDiff, Nat.reduceAdd, Nat.reduceLT, Nat.reduceLeDiff, Nat.reduceMul, reduceIte, reduceCtorEq, Int.reduceEq, Int.reduceLT, Int.reduceLE, Int.reduceNe]
      refine bind_push ?_
      simp (disch := omega) only [wrapA, W00, W01, W02, W03, W04, W05, W06, W07, W08, W09, Nat.reduceEqDiff, Nat.reduceAdd, Nat.reduceLT, Nat.reduceLeDiff, Nat.reduceMul, reduceIte, reduceCtorEq, Int.reduceEq, Int.reduceLT, Int.reduceLE, Int.reduceNe]
      refine elemM by1 hlt rfl ?_
      obtain ⟨c0, c1⟩ := hr _ (List.getElem_mem hlt)
      have hnext := hq.next hr hk10 hlt
      have htk : (l.drop at').take (k + 1) = (l.drop at').take k ++ [l[at' + k]] := by
        rw [List.take_add_one, List.getElem?_drop, List.getElem?_eq_getElem hlt]; rfl
      have hlk : ((l.drop at').take k).length = k := by rw [List.length_take, List.length_drop]; omega
      have hsl : (l.take (at' + k + 1)).drop at' = (l.drop at').take (k + 1) := by rw [List.drop_take]; congr 1; omega
      rw [dropC hlt, gs, if_neg (by omega)] at hgo
      have hel : ∀ K : AV → Prop, elemP 1 (.sl (bys l)) (.v (.int .i64 ((at' + k : Nat) : Int))) K = goT K (by1 l[at' + k]) := fun K => propext ⟨fun h => by
        unfold elemP at h
        simp only [Int.toNat_natCast, List.getD, List.getElem?_map, List.getElem?_eq_getElem hlt, Option.map_some, Option.getD_some] at h
        simp only [goT]; exact h.2.2.2, fun h => elemM by1 hlt rfl h⟩
      generalize l[at' + k] = c at *
      have m7 : IntKind.i64.wrap (7 * (k : Int)) = ((7 * k : Nat) : Int) := by rw [wrapI (by omega) (by omega)]; omega
      have u7 : IntKind.u64.wrap ((7 * k : Nat) : Int) = ((7 * k : Nat) : Int) := by rw [wrapU]; omega
      have w64 : IntKind.u64.wrap (c % 128) = c % 128 := by rw [wrapU]; omega
      simp only [and127b c c0 c1, w64, m7, u7, W00, W01, W02, W03, W04, W05, W06, W07, W08, W09, Nat.reduceEqDiff, Nat.reduceAdd, Nat.reduceLT, Nat.reduceLeDiff, Nat.reduceMul, reduceIte, reduceCtorEq, Int.reduceEq, Int.reduceLT, Int.reduceLE, Int.reduceNe]
      simp (disch := omega) only [Int.toNat_natCast, shl7 k (by omega) c, add7 acc k c, wrapA, hel, W00, W01, W02, W03, W04, W05, W06, W07, W08, W09, Nat.reduceEqDiff, Nat.reduceAdd, Nat.reduceLT, Nat.reduceLeDiff, Nat.reduceMul, reduceIte, reduceCtorEq, Int.reduceEq, Int.reduceLT, Int.reduceLE, Int.reduceNe]
      refine ite_dec (fun hc => ?_) (fun hc => ?_)
      · rw [if_neg (by omega)] at hgo
        have hp7 : put7 acc k c < 2 ^ 64 := Nat.mod_lt _ (by decide)
        obtain ⟨b1, b2⟩ := back_s _ hp7
        have hsame := same_bytes ((l.drop at').take k) c acc hge (by rw [hlk]; omega) a2 c0 hc
        rw [hlk, ← htk, ← hsl] at hsame
        have hfit := put7_fit acc k (by omega) a1 c
        generalize put7 acc k c = x at *
        have hun : unz x = if x % 2 = 1 then -((x / 2 : Nat) : Int) - 1 else ((x / 2 : Nat) : Int) := rfl
        obtain ⟨r1, r2⟩ := unz_range x hp7
        simp only [b1, b2, W00, W01, W02, W03, W04, W05, W06, W07, W08, W09, Nat.reduceEqDiff, Nat.reduceAdd, Nat.reduceLT, Nat.reduceLeDiff, Nat.reduceMul, reduceIte, reduceCtorEq, Int.reduceEq, Int.reduceLT, Int.reduceLE, Int.reduceNe]
        refine bind_cut [avI (unz x)] rfl ?_ ?_
        · simp only [b2, W00, W01, W02, W03, W04, W05, W06, W07, W08, W09, Nat.reduceEqDiff, Nat.reduceAdd, Nat.reduceLT, Nat.reduceLeDiff, Nat.reduceMul, reduceIte, reduceCtorEq, Int.reduceEq, Int.reduceLT, Int.reduceLE, Int.reduceNe]
          refine ite_dec (fun hx => ?_) (fun hx => ?_)
          · have e1 : IntKind.i64.wrap (-((x / 2 : Nat) : Int)) = -((x / 2 : Nat) : Int) := wrapI (by omega) (by omega)
            have e2 : IntKind.i64.wrap (-((x / 2 : Nat) : Int) - 1) = -((x / 2 : Nat) : Int) - 1 := wrapI (by omega) (by omega)
            simp only [e1, e2, W00, W01, W02, W03, W04, W05, W06, W07, W08, W09, Nat.reduceEqDiff, Nat.reduceAdd, Nat.reduceLT, Nat.reduceLeDiff, Nat.reduceMul, reduceIte, reduceCtorEq, Int.reduceEq, Int.reduceLT, Int.reduceLE, Int.reduceNe]
            rw [hun, if_pos (by omega)]
          · simp only [W00, W01, W02, W03, W04, W05, W06, W07, W08, W09, Nat.reduceEqDiff, Nat.reduceAdd, Nat.reduceLT, Nat.reduceLeDiff, Nat.reduceMul, reduceIte, reduceCtorEq, Int.reduceEq, Int.reduceLT, Int.reduceLE, Int.reduceNe]
            rw [hun, if_neg (by omega)]
        · simp only [W00, W01, W02, W03, W04, W05, W06, W07, W08, W09, Nat.reduceEqDiff, Nat.reduceAdd, Nat.reduceLT, Nat.reduceLeDiff, Nat.reduceMul, reduceIte, reduceCtorEq, Int.reduceEq, Int.reduceLT, Int.reduceLE, Int.reduceNe]
          refine call_p (spec_PutShort_c _ r1 r2) (by simp [AV.noref, bys_noref]) ?_
          rw [zz_unz]
          simp (disch := omega) only [wrapA, wrapA1, List.length_map, Int.toNat_natCast, W00, W01, W02, W03, W04, W05, W06, W07, W08, W09, Nat.reduceEqDiff, Nat.reduceAdd, Nat.reduceLT, Nat.reduceLeDiff, Nat.reduceMul, reduceIte, reduceCtorEq, Int.reduceEq, Int.reduceLT, Int.reduceLE, Int.reduceNe]
          refine ⟨by omega, by omega, fun y hy => ?_, ?_⟩
          · obtain ⟨z, _, rfl⟩ := List.mem_map.1 hy; rfl
          · have hmap : ((bys l).take (at' + k + 1)).drop at' = bys ((l.take (at' + k + 1)).drop at') := by simp [List.map_take, List.map_drop]
            rw [hmap]
            refine call_v (spec_l20Same_c _ _ (by have := putL_10 x hp7; omega)) ?_
            rw [hsame]
            simp only [W00, W01, W02, W03, W04, W05, W06, W07, W08, W09, Nat.reduceEqDiff, Nat.reduceAdd, Nat.reduceLT, Nat.reduceLeDiff, Nat.reduceMul, reduceIte, reduceCtorEq, Int.reduceEq, Int.reduceLT, Int.reduceLE, Int.reduceNe]
            refine ite_dec (fun hb => ?_) (fun hb => ?_)
            · rw [if_pos hb] at hgo
              simp only [hgo, gAV, W00, W01, W02, W03, W04, W05, W06, W07, W08, W09, Nat.reduceEqDiff, Nat.reduceAdd, Nat.reduceLT, Nat.reduceLeDiff, Nat.reduceMul, reduceIte, reduceCtorEq, Int.reduceEq, Int.reduceLT, Int.reduceLE, Int.reduceNe]
            · rw [if_neg hb] at hgo
              simp (disch := omega) only [wrapA, wrapA1, hgo, gAV, W00, W01, W02, W03, W04, W05, W06, W07, W08, W09, Nat.reduceEqDiff, Nat.reduceAdd, Nat.reduceLT, Nat.reduceLeDiff, Nat.reduceMul, reduceIte, reduceCtorEq, Int.reduceEq, Int.reduceLT, Int.reduceLE, Int.reduceNe]
              rw [(hfit (fun h => hb (.inr h)) c0 hc).1, show ((at' + k + 1 : Nat) : Int) = (at' : Int) + k + 1 by omega]
      · rw [if_pos (by omega)] at hgo
        simp (disch := omega) only [wrapA1, W00, W01, W02, W03, W04, W05, W06, W07, W08, W09, Nat.reduceEqDiff, Nat.reduceAdd, Nat.reduceLT, Nat.reduceLeDiff, Nat.reduceMul, reduceIte, reduceCtorEq, Int.reduceEq, Int.reduceLT, Int.reduceLE, Int.reduceNe]
        exact ⟨(k + 1, put7 acc k c), hnext (by omega), by simp only; omega, rfl⟩
    · rw [List.drop_eq_nil_of_le (by omega)] at hgo
      simp only [gs] at hgo
      simp only [hgo, gAV, W00, W01, W02, W03, W04, W05, W06, W07, W08, W09, Nat.reduceEqDiff, Nat.reduceAdd, Nat.reduceLT, Nat.reduceLeDiff, Nat.reduceMul, reduceIte, reduceCtorEq, Int.reduceEq, Int.reduceLT, Int.reduceLE, Int.reduceNe]
  · have d1 : decide ((k : Int) < 10) = false := decide_eq_false (by omega)
    rw [gs_10 _ _ _ _ (by omega)] at hgo
    simp only [d1, hgo, gAV, W00, W01, W02, W03, W04, W05, W06, W07, W08, W09, Nat.reduceEqDiff, Nat.reduceAdd, Nat.reduceLT, Nat.reduceLeDiff, Nat.reduceMul, reduceIte, reduceCtorEq, Int.reduceEq, Int.reduceLT, Int.reduceLE, Int.reduceNe]
theorem gAV_noref (g : Int × Int × Bool) : (gAV g).noref = true := rfl
theorem law_GetShort (l : List Int) (hr : ∀ x ∈ l, 0 ≤ x ∧ x < 256) (hl : l.length ≤ 1048576) (n : Int) : PCon Try.prog F.laws_FnExactGetShort [.sl (bys l), avI n] (.v (.bool true)) := by
  refine T.laws_FnExactGetShort_con rfl (by simp [AV.norefs, AV.noref, bys_noref]) ?_
  have d0 : decide ((1048576 : Int) < (l.length : Int)) = false := decide_eq_false (by omega)
  simp only [T.laws_FnExactGetShort, List.length_map, d0, W00, W01, W02, W03, W04, W05, W06, W07, W08, W09, Nat.reduceEqDiff, Nat.reduceAdd, Nat.reduceLT, Nat.reduceLeDiff, Nat.reduceMul, reduceIte, reduceCtorEq, Int.reduceEq, Int.reduceLT, Int.reduceLE, Int.reduceNe]
  refine call_p (toByteS_c l hl) (by simp [AV.noref, bys_noref]) ?_
  simp only [W00, W01, W02, W03, W04, W05, W06, W07, W08, W09, Nat.reduceEqDiff, Nat.reduceAdd, Nat.reduceLT, Nat.reduceLeDiff, Nat.reduceMul, reduceIte, reduceCtorEq, Int.reduceEq, Int.reduceLT, Int.reduceLE, Int.reduceNe]
  refine call_p (spec_GetShort_c l hr hl n) (gAV_noref _) ?_
  simp only [gAV, W00, W01, W02, W03, W04, W05, W06, W07, W08, W09, Nat.reduceEqDiff, Nat.reduceAdd, Nat.reduceLT, Nat.reduceLeDiff, Nat.reduceMul, reduceIte, reduceCtorEq, Int.reduceEq, Int.reduceLT, Int.reduceLE, Int.reduceNe]
  refine call_p (toByteS_c l hl) (by simp [AV.noref, bys_noref]) ?_
  simp only [W00, W01, W02, W03, W04, W05, W06, W07, W08, W09, Nat.reduceEqDiff, Nat.reduceAdd, Nat.reduceLT, Nat.reduceLeDiff, Nat.reduceMul, reduceIte, reduceCtorEq, Int.reduceEq, Int.reduceLT, Int.reduceLE, Int.reduceNe]
  refine call_p (impl_GetShort_c l hr hl n) (gAV_noref _) ?_
  generalize (if inB n 0 ((l.length : Int) - 1) = true then gs n 0 0 (l.drop n.toNat) else (0, 0, false)) = g
  simp only [gAV, W00, W01, W02, W03, W04, W05, W06, W07, W08, W09, Nat.reduceEqDiff, Nat.reduceAdd, Nat.reduceLT, Nat.reduceLeDiff, Nat.reduceMul, reduceIte, reduceCtorEq, Int.reduceEq, Int.reduceLT, Int.reduceLE, Int.reduceNe]
  refine bind_push ?_
  simp only [W00, W01, W02, W03, W04, W05, W06, W07, W08, W09, Nat.reduceEqDiff, Nat.reduceAdd, Nat.reduceLT, Nat.reduceLeDiff, Nat.reduceMul, reduceIte, reduceCtorEq, Int.reduceEq, Int.reduceLT, Int.reduceLE, Int.reduceNe]
  refine bind_push ?_
  simp only [W00, W01, W02, W03, W04, W05, W06, W07, W08, W09, Nat.reduceEqDiff, Nat.reduceAdd, Nat.reduceLT, Nat.reduceLeDiff, Nat.reduceMul, reduceIte, reduceCtorEq, Int.reduceEq, Int.reduceLT, Int.reduceLE, Int.reduceNe]
  refine call_p (toByteS_c l hl) (by simp [AV.noref, bys_noref]) ?_
  simp only [W00, W01, W02, W03, W04, W05, W06, W07, W08, W09, Nat.reduceEqDiff, Nat.reduceAdd, Nat.reduceLT, Nat.reduceLeDiff, Nat.reduceMul, reduceIte, reduceCtorEq, Int.reduceEq, Int.reduceLT, Int.reduceLE, Int.reduceNe]
  refine call_v (eqByteS_c l hl) ?_
  simp only [W00, W01, W02, W03, W04, W05, W06, W07, W08, W09, Nat.reduceEqDiff, Nat.reduceAdd, Nat.reduceLT, Nat.reduceLeDiff, Nat.reduceMul, reduceIte, reduceCtorEq, Int.reduceEq, Int.reduceLT, Int.reduceLE, Int.reduceNe]
end Go.Proofs.Ab
