/-
  NUMBERS THAT ARE DRAWN, THERE AND BACK.
-/
import Derived.Test.YtjklngbcegdjhaaCByte
import Derived.Test.YtjklngbcegdjhaaCDraw

set_option linter.unusedVariables false
set_option linter.unusedSimpArgs false
set_option linter.defProp false

namespace Go.Ab
set_option maxRecDepth 100000
set_option maxHeartbeats 4000000
/-- reading what was put: canonical bytes behind others, and more behind them -/
theorem gs_putL (at' : Int) : ∀ (v k acc : Nat) (r : List Int), k + (putL v).length ≤ 10 → v * 128 ^ k < 2 ^ 64 → (0 < k → 0 < v) → gs at' k acc (putL v ++ r) = (unz (acc + v * 128 ^ k), at' + k + (putL v).length, true) := by
  intro v
  induction v using Nat.strongRecOn with
  | _ v ih =>
    intro k acc r hk h9 h0
    by_cases hv : v < 128
    · rw [putL_last v hv] at hk ⊢
      simp only [List.cons_append, List.nil_append, gs, List.length_cons, List.length_nil] at hk ⊢
      rw [if_neg (by omega), if_neg (by omega), if_neg (by
        rintro (⟨a, b⟩ | ⟨a, b⟩)
        · omega
        · subst a
          have h5 : 2 * 128 ^ 9 = 2 ^ 64 := by decide
          have h6 := Nat.mul_le_mul_right (128 ^ 9) (show 2 ≤ v by omega)
          omega)]
      have : ((v : Int) % 128).toNat = v := by omega
      rw [this]
      simp
    · have hlen : (putL v).length = (putL (v / 128)).length + 1 := by rw [putL_more v (by omega)]; simp
      rw [putL_more v (by omega)]
      simp only [List.cons_append, gs]
      have hpos : 0 < (putL (v / 128)).length := by
        by_cases h : v / 128 < 128
        · rw [putL_last _ h]; simp
        · rw [putL_more _ (by omega)]; simp
      rw [if_neg (by omega), if_pos (by omega)]
      have hle : v / 128 * 128 ^ (k + 1) ≤ v * 128 ^ k := by
        rw [Nat.pow_succ, Nat.mul_comm (128 ^ k) 128, ← Nat.mul_assoc]
        exact Nat.mul_le_mul_right _ (Nat.div_mul_le_self v 128)
      rw [ih (v / 128) (by omega) (k + 1) _ r (by omega) (by omega) (fun _ => by omega)]
      have e1 : (((v % 128 + 128 : Nat) : Int) % 128).toNat = v % 128 := by omega
      rw [e1]
      have e2 : acc + v % 128 * 128 ^ k + v / 128 * 128 ^ (k + 1) = acc + v * 128 ^ k := by
        rw [Nat.pow_succ, ← Nat.mul_assoc, Nat.mul_right_comm, Nat.add_assoc, ← Nat.add_mul]
        congr 2; omega
      rw [e2]
      simp only [List.length_cons]
      refine Prod.ext rfl (Prod.ext ?_ rfl)
      simp only; omega
theorem gs_put (at' : Int) (v : Nat) (hv : v < 2 ^ 64) (r : List Int) : gs at' 0 0 (putL v ++ r) = (unz v, at' + (putL v).length, true) := by
  rw [gs_putL at' v 0 0 r (by have := putL_10 v hv; omega) (by simpa using hv) (by simp)]
  simp
/-- no byte more than they need -/
theorem gs_more (at' : Int) : ∀ (l : List Int) (k acc : Nat), l ≠ [] → (∀ x ∈ l, 128 ≤ x) → (gs at' k acc (l ++ [0])).2.2 = false := by
  intro l
  induction l with
  | nil => intro k acc h; exact (h rfl).elim
  | cons c l ih =>
    intro k acc _ hl
    simp only [List.cons_append, gs]
    split
    · rfl
    · rw [if_pos (by have := hl c (by simp); omega)]
      cases l with
      | nil =>
        simp only [List.nil_append, gs]
        split
        · rfl
        · rw [if_neg (by omega), if_pos (by simp)]
      | cons d l => exact ih (k + 1) _ (by simp) fun x hx => hl x (by simp [hx])
theorem putL_ne (v : Nat) : putL v ≠ [] := by
  by_cases h : v < 128
  · rw [putL_last _ h]; simp
  · rw [putL_more _ (by omega)]; simp
theorem putL_range : ∀ (v : Nat), ∀ x ∈ putL v, 0 ≤ x ∧ x < 256 := by
  intro v
  induction v using Nat.strongRecOn with
  | _ v ih =>
    intro x hx
    by_cases h : v < 128
    · rw [putL_last _ h] at hx; simp at hx; omega
    · rw [putL_more _ (by omega)] at hx
      rcases List.mem_cons.1 hx with rfl | hx
      · omega
      · exact ih _ (by omega) x hx
/-- all but the last have their highest bit, the last has not -/
theorem putL_shape : ∀ (v : Nat), ∃ l c, putL v = l ++ [c] ∧ (∀ x ∈ l, 128 ≤ x ∧ x < 256) ∧ 0 ≤ c ∧ c < 128 := by
  intro v
  induction v using Nat.strongRecOn with
  | _ v ih =>
    by_cases h : v < 128
    · exact ⟨[], v, by rw [putL_last _ h]; rfl, by simp, by omega, by omega⟩
    · obtain ⟨l, c, h1, h2, h3⟩ := ih (v / 128) (by omega)
      refine ⟨_ :: l, c, by rw [putL_more _ (by omega), h1]; rfl, fun x hx => ?_, h3⟩
      rcases List.mem_cons.1 hx with rfl | hx
      · omega
      · exact h2 x hx
theorem unz_zz (n : Int) (h1 : -9223372036854775808 ≤ n) (h2 : n ≤ 9223372036854775807) : unz (zz n) = n := by
  unfold unz zz
  by_cases h : n < 0
  · rw [if_pos h, if_pos (by omega)]; omega
  · rw [if_neg h, if_neg (by omega)]; omega
end Go.Ab
namespace Go.Proofs.Ab
open Go.Ab
set_option maxRecDepth 100000
set_option maxHeartbeats 4000000
theorem laws_big_c (l : List Int) (hl : l.length ≤ 1048576) : PCon Try.prog F.laws_big [.sl (bys l)] (.v (.bool false)) := by
  refine T.laws_big_con rfl (by simp [AV.norefs, AV.noref, bys_noref]) ?_
  have d0 : decide ((1048576 : Int) < (l.length : Int)) = false := decide_eq_false (by omega)
  simp only [T.laws_big, List.length_map, d0, W00, W01, W02, W03, W04, W05, W06, W07, W08, W09, Nat.reduceEqDiff, Nat.reduceAdd, Nat.reduceLT, Nat.reduceLeDiff, Nat.reduceMul, reduceIte, reduceCtorEq, Int.reduceEq, Int.reduceLT, Int.reduceLE, Int.reduceNe]
theorem law_Short (l : List Int) (hl : l.length ≤ 1048576) (hb : ∀ x ∈ l, 0 ≤ x ∧ x < 256) : PCon Try.prog F.laws_FnShort [.sl (bys l)] (.v (.bool true)) := by
  obtain ⟨n, n1, n2, hdraw⟩ := spec_DrawPutShort_c l hl hb
  have hz := zz_lt n n1 n2
  have h10 := putL_10 _ hz
  obtain ⟨p, c, hp, hp1, c0, c1⟩ := putL_shape (zz n)
  have hlen : (putL (zz n)).length = p.length + 1 := by rw [hp]; simp
  have hput := impl_PutShort_f n n1 n2
  have hget := gs_put 2 (zz n) hz [200]
  rw [unz_zz n n1 n2] at hget
  have hrange := putL_range (zz n)
  generalize putL (zz n) = q at *
  subst hp
  refine T.laws_FnShort_con rfl (by simp [AV.norefs, AV.noref, bys_noref]) ?_
  simp only [T.laws_FnShort, W00, W01, W02, W03, W04, W05, W06, W07, W08, W09, Nat.reduceEqDiff, Nat.reduceAdd, Nat.reduceLT, Nat.reduceLeDiff, Nat.reduceMul, reduceIte, reduceCtorEq, Int.reduceEq, Int.reduceLT, Int.reduceLE, Int.reduceNe]
  refine call_v (laws_big_c l hl) ?_
  simp only [W00, W01, W02, W03, W04, W05, W06, W07, W08, W09, Nat.reduceEqDiff, Nat.reduceAdd, Nat.reduceLT, Nat.reduceLeDiff, Nat.reduceMul, reduceIte, reduceCtorEq, Int.reduceEq, Int.reduceLT, Int.reduceLE, Int.reduceNe]
  refine call_v hdraw ?_
  simp only [W00, W01, W02, W03, W04, W05, W06, W07, W08, W09, Nat.reduceEqDiff, Nat.reduceAdd, Nat.reduceLT, Nat.reduceLeDiff, Nat.reduceMul, reduceIte, reduceCtorEq, Int.reduceEq, Int.reduceLT, Int.reduceLE, Int.reduceNe]
  refine fcall_v hput (bys_noref _) ?_
  have e1 : [by1 9, by1 9] ++ bys (p ++ [c]) = bys ([9, 9] ++ (p ++ [c])) := by simp
  have e2 : bys ([9, 9] ++ (p ++ [c])) ++ [by1 200] = bys ([9, 9] ++ (p ++ [c]) ++ [200]) := by simp
  have hg1 := impl_GetShort_c ([9, 9] ++ (p ++ [c]) ++ [200]) (fun x hx => by
    simp only [List.mem_append, List.mem_cons, List.not_mem_nil, or_false] at hx
    rcases hx with ((hx | hx) | hx) | hx
    · omega
    · omega
    · exact hrange x (by simpa using hx)
    · omega) (by simp; simp at h10; omega) 2
  have hin1 : inB 2 0 ((([9, 9] ++ (p ++ [c]) ++ [200]).length : Int) - 1) = true := by
    simp only [inB, Bool.and_eq_true, decide_eq_true_eq, List.length_append, List.length_cons, List.length_nil]; omega
  have hd1 : ([9, 9] ++ (p ++ [c]) ++ [200]).drop (Int.toNat 2) = (p ++ [c]) ++ [200] := rfl
  rw [if_pos hin1, hd1, hget] at hg1
  have hl2 : (p ++ [c]).length ≤ 10 := h10
  rw [hlen] at h10 hg1
  have hgr := gs_more 0 (p ++ [c + 128]) 0 0 (by simp) (fun x hx => by
    rcases List.mem_append.1 hx with hx | hx
    · exact (hp1 x hx).1
    · simp at hx; omega)
  have hg2 := impl_GetShort_c (p ++ [c + 128, 0]) (fun x hx => by
    rcases List.mem_append.1 hx with hx | hx
    · exact ⟨by have := (hp1 x hx).1; omega, (hp1 x hx).2⟩
    · simp at hx; omega) (by simp; omega) 0
  have hin2 : inB 0 0 (((p ++ [c + 128, 0]).length : Int) - 1) = true := by
    simp only [inB, Bool.and_eq_true, decide_eq_true_eq, List.length_append, List.length_cons, List.length_nil]; omega
  rw [if_pos hin2] at hg2
  have hd2 : (p ++ [c + 128, 0]).drop (Int.toNat 0) = p ++ [c + 128] ++ [0] := by simp
  rw [hd2] at hg2
  generalize gs 0 0 0 (p ++ [c + 128] ++ [0]) = G at hg2 hgr
  obtain ⟨G1, G2, G3⟩ := G
  simp only at hgr
  subst hgr
  simp only [List.length_map, hlen, W00, W01, W02, W03, W04, W05, W06, W07, W08, W09, Nat.reduceEqDiff, Nat.reduceAdd, Nat.reduceLT, Nat.reduceLeDiff, Nat.reduceMul, reduceIte, reduceCtorEq, Int.reduceEq, Int.reduceLT, Int.reduceLE, Int.reduceNe]
  refine ⟨fun y hy => by obtain ⟨z, _, rfl⟩ := List.mem_map.1 hy; rfl, by omega, by omega, ?_⟩
  refine ⟨fun y hy => by rw [hy]; rfl, by omega, by omega, ?_⟩
  have e3 : bys ([9, 9] ++ (p ++ [c]) ++ [200]) = by1 9 :: by1 9 :: (bys (p ++ [c]) ++ [by1 200]) := by simp
  rw [e3] at hg1
  refine call_intro _ hg1 ?_ rfl fun _ => rfl
  have s1 : IntKind.i64.wrap (((p.length + 1 : Nat) : Int) - 1) = ((p.length : Nat) : Int) := by rw [wrapI (by omega) (by omega)]; omega
  have s2 : IntKind.u8.wrap (c + 128) = c + 128 := by rw [wrapB]; omega
  simp only [gAV, List.length_map, hlen, s1, Int.toNat_natCast, W00, W01, W02, W03, W04, W05, W06, W07, W08, W09, Nat.reduceEqDiff, Nat.reduceAdd, Nat.reduceLT, Nat.reduceLeDiff, Nat.reduceMul, reduceIte, reduceCtorEq, Int.reduceEq, Int.reduceLT, Int.reduceLE, Int.reduceNe]
  refine ⟨by omega, fun y hy => by obtain ⟨z, _, rfl⟩ := List.mem_map.1 hy; rfl, ?_⟩
  have e4 : List.drop (Int.toNat 0) (List.take p.length (bys (p ++ [c]))) = bys p := by simp
  rw [e4]
  refine ⟨fun y hy => by obtain ⟨z, _, rfl⟩ := List.mem_map.1 hy; rfl, by simp; omega, by simp; omega, ?_⟩
  have hlt : p.length < (p ++ [c]).length := by omega
  refine elemM by1 hlt rfl ?_
  have hel : (p ++ [c])[p.length] = c := by simp
  rw [hel]
  have e5 : bys p ++ [by1 (c + 128), by1 0] = bys (p ++ [c + 128, 0]) := by simp
  simp only [s2, List.length_map, W00, W01, W02, W03, W04, W05, W06, W07, W08, W09, Nat.reduceEqDiff, Nat.reduceAdd, Nat.reduceLT, Nat.reduceLeDiff, Nat.reduceMul, reduceIte, reduceCtorEq, Int.reduceEq, Int.reduceLT, Int.reduceLE, Int.reduceNe]
  refine ⟨fun y hy => by rcases hy with rfl | rfl <;> rfl, by omega, by omega, ?_⟩
  rw [e5]
  refine call_intro _ hg2 ?_ rfl fun _ => rfl
  have s3 : IntKind.i64.wrap (2 + ((p.length + 1 : Nat) : Int)) = 2 + ((p.length + 1 : Nat) : Int) := wrapI (by omega) (by omega)
  have d1 : decide ((1 : Int) ≤ ((p.length + 1 : Nat) : Int)) = true := decide_eq_true (by omega)
  have d2 : decide (((p.length + 1 : Nat) : Int) ≤ 10) = true := decide_eq_true (by omega)
  simp only [gAV, W00, W01, W02, W03, W04, W05, W06, W07, W08, W09, Nat.reduceEqDiff, Nat.reduceAdd, Nat.reduceLT, Nat.reduceLeDiff, Nat.reduceMul, reduceIte, reduceCtorEq, Int.reduceEq, Int.reduceLT, Int.reduceLE, Int.reduceNe]
  refine bind_cut [.v (.bool true)] rfl ?_ (by simp only [W00, W01, W02, W03, W04, W05, W06, W07, W08, W09, Nat.reduceEqDiff, Nat.reduceAdd, Nat.reduceLT, Nat.reduceLeDiff, Nat.reduceMul, reduceIte, reduceCtorEq, Int.reduceEq, Int.reduceLT, Int.reduceLE, Int.reduceNe])
  simp only [List.length_map, hlen, s3, d1, d2, W00, W01, W02, W03, W04, W05, W06, W07, W08, W09, Nat.reduceEqDiff, Nat.reduceAdd, Nat.reduceLT, Nat.reduceLeDiff, Nat.reduceMul, reduceIte, reduceCtorEq, Int.reduceEq, Int.reduceLT, Int.reduceLE, Int.reduceNe]
theorem law_FnShort (x0 : List Int) (hb : x0.length ≤ 1048576) (ho0 : ∀ y ∈ x0, 0 ≤ y ∧ y < 256) : PCon Try.prog F.laws_FnShort [.sl (x0.map fun y => .v (.int .u8 y))] (.v (.bool true)) := law_Short x0 hb ho0
end Go.Proofs.Ab
