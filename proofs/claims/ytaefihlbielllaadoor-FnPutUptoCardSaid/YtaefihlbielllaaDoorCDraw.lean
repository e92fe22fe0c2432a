/-
  THE CURSOR OVER A DRAW's BYTES.
-/
import Derived.Test.YtaefihlbielllaaDoorST
import Derived.Test.YtaefihlbielllaaDoorGM
set_option linter.unusedVariables false
set_option linter.unusedSimpArgs false
set_option linter.defProp false
namespace Go.Ab
set_option maxRecDepth 100000
set_option maxHeartbeats 4000000
def andI (a b : Int) : Int := IntKind.i64.wrap ((BitVec.ofInt IntKind.i64.bits a &&& BitVec.ofInt IntKind.i64.bits b).toNat : Int)
def xorI (a b : Int) : Int := IntKind.i64.wrap ((BitVec.ofInt IntKind.i64.bits a ^^^ BitVec.ofInt IntKind.i64.bits b).toNat : Int)
theorem andI_255 (a : Int) : 0 ≤ andI a 255 ∧ andI a 255 ≤ 255 := by
  unfold andI
  have e3 : IntKind.i64.bits = 64 := rfl
  rw [e3]
  have h : (BitVec.ofInt 64 a &&& BitVec.ofInt 64 255).toNat ≤ 255 := by
    rw [BitVec.toNat_and]
    exact Nat.le_trans Nat.and_le_right (by decide)
  rw [wrapI (by omega) (by omega)]
  omega
structure Cur where
  l : List Int
  i : Nat
  h : Int
structure Cur.ok (c : Cur) : Prop where
  le : c.i ≤ c.l.length
  len : c.l.length ≤ 1048576
  by_ : ∀ x ∈ c.l, 0 ≤ x ∧ x < 256
def Cur.avs (c : Cur) : List AV := [.sl (bys c.l), avI c.i, avI c.h]
theorem Cur.noref (c : Cur) : AV.norefs c.avs = true := by simp [Cur.avs, AV.norefs, AV.noref, bys_noref]
def stepH (h : Int) : Int := IntKind.i64.wrap (IntKind.i64.wrap (h * 6364136223846793005) + 1442695040888963407)
def stepX (h : Int) : Int := andI (xorI ((stepH h).fdiv (2 ^ min (Int.toNat 33) IntKind.i64.bits)) ((stepH h).fdiv (2 ^ min (Int.toNat 47) IntKind.i64.bits))) 255
def Cur.byte (c : Cur) : Int × Cur := match c.l[c.i]? with
  | some b => (andI (IntKind.i64.wrap (stepX c.h + b)) 255, ⟨c.l, c.i + 1, stepH c.h⟩)
  | none => (stepX c.h, ⟨c.l, c.i, stepH c.h⟩)
theorem Cur.byte_ok {c : Cur} (h : c.ok) : c.byte.2.ok ∧ 0 ≤ c.byte.1 ∧ c.byte.1 ≤ 255 := by
  unfold Cur.byte
  split
  · rename_i b hb
    have := (List.getElem?_eq_some_iff.1 hb).1
    exact ⟨⟨by simp only; omega, h.len, h.by_⟩, andI_255 _⟩
  · exact ⟨⟨h.le, h.len, h.by_⟩, andI_255 _⟩
def Cur.below (c : Cur) (n : Int) : Int × Cur :=
  if n ≤ 0 then (0, c)
  else if n ≤ 256 then (c.byte.1.tmod n, c.byte.2)
  else (((c.byte.1 * 65536 + c.byte.2.byte.1 * 256) + c.byte.2.byte.2.byte.1).tmod n, c.byte.2.byte.2.byte.2)
theorem tmod_range {a n : Int} (ha : 0 ≤ a) (hn : 0 < n) : 0 ≤ a.tmod n ∧ a.tmod n < n := ⟨Int.tmod_nonneg n ha, Int.tmod_lt_of_pos a hn⟩
theorem Cur.below_ok {c : Cur} (h : c.ok) (n : Int) : (c.below n).2.ok ∧ 0 ≤ (c.below n).1 ∧ (0 < n → (c.below n).1 < n) := by
  obtain ⟨a1, a2, a3⟩ := Cur.byte_ok h
  obtain ⟨b1, b2, b3⟩ := Cur.byte_ok a1
  obtain ⟨c1, c2, c3⟩ := Cur.byte_ok b1
  unfold Cur.below
  split
  · exact ⟨h, Int.le_refl _, fun h => by omega⟩
  · split
    · obtain ⟨q1, q2⟩ := tmod_range (a := c.byte.1) (n := n) a2 (by omega)
      exact ⟨a1, q1, fun _ => q2⟩
    · have ha : 0 ≤ (c.byte.1 * 65536 + c.byte.2.byte.1 * 256) + c.byte.2.byte.2.byte.1 := by omega
      obtain ⟨q1, q2⟩ := tmod_range (n := n) ha (by omega)
      exact ⟨c1, q1, fun _ => q2⟩
/-- one of a list -/
def Cur.pick (c : Cur) (l : List Int) : Int × Cur := (l.getD (c.below l.length).1.toNat 0, (c.below l.length).2)
theorem Cur.pick_ok {c : Cur} (h : c.ok) {l : List Int} (hl : l ≠ []) : (c.pick l).2.ok ∧ (c.pick l).1 ∈ l := by
  have hp := List.length_pos_iff.2 hl
  obtain ⟨h1, h2, h3⟩ := Cur.below_ok h l.length
  have h3 := h3 (by omega)
  refine ⟨h1, ?_⟩
  have hlt : (c.below l.length).1.toNat < l.length := by omega
  simp only [Cur.pick, List.getD, List.getElem?_eq_getElem hlt, Option.getD_some]
  exact List.getElem_mem hlt
end Go.Ab
namespace Go.Proofs.Ab
open Go.Ab
set_option maxRecDepth 100000
set_option maxHeartbeats 4000000
theorem spec_l1Byte_c {c : Cur} (hc : c.ok) : SCon Tryd.prog F.spec_l1Byte G.spec_l1Byte c.avs (avI c.byte.1 :: c.byte.2.avs) := by
  have hle := hc.le
  have hlen := hc.len
  have hby := hc.by_
  refine T.spec_l1Byte_scon rfl rfl c.noref ?_
  obtain ⟨l, i, h⟩ := c
  simp only at hle hlen hby
  simp only [Cur.avs, T.spec_l1Byte, WA, Nat.reduceEqDiff, Nat.reduceAdd, Nat.reduceLT, Nat.reduceLeDiff, Nat.reduceMul, reduceIte, reduceCtorEq, Int.reduceEq, Int.reduceLT, Int.reduceLE, Int.reduceNe]
  refine bind_push ?_
  simp only [List.length_map, WA, Nat.reduceEqDiff, Nat.reduceAdd, Nat.reduceLT, Nat.reduceLeDiff, Nat.reduceMul, reduceIte, reduceCtorEq, Int.reduceEq, Int.reduceLT, Int.reduceLE, Int.reduceNe]
  refine ite_dec (fun hlt => ?_) (fun hlt => ?_)
  · have hlt : i < l.length := by omega
    have hb := hby _ (List.getElem_mem hlt)
    simp only [WA, Nat.reduceEqDiff, Nat.reduceAdd, Nat.reduceLT, Nat.reduceLeDiff, Nat.reduceMul, reduceIte, reduceCtorEq, Int.reduceEq, Int.reduceLT, Int.reduceLE, Int.reduceNe]
    refine elemM by1 hlt rfl ?_
    have hg : l[i]? = some l[i] := List.getElem?_eq_getElem hlt
    have w8 : IntKind.i64.wrap l[i] = l[i] := wrapI (by omega) (by omega)
    simp (disch := omega) only [w8, wrapA1, WA, Nat.reduceEqDiff, Nat.reduceAdd, Nat.reduceLT, Nat.reduceLeDiff, Nat.reduceMul, reduceIte, reduceCtorEq, Int.reduceEq, Int.reduceLT, Int.reduceLE, Int.reduceNe]
    simp only [Cur.byte, hg, Cur.avs, andI, stepX, xorI, stepH]
  · have hg : l[i]? = none := List.getElem?_eq_none (by omega)
    simp only [WA, Nat.reduceEqDiff, Nat.reduceAdd, Nat.reduceLT, Nat.reduceLeDiff, Nat.reduceMul, reduceIte, reduceCtorEq, Int.reduceEq, Int.reduceLT, Int.reduceLE, Int.reduceNe]
    simp only [Cur.byte, hg, Cur.avs, andI, stepX, xorI, stepH]
theorem spec_l1Below_c {c : Cur} (hc : c.ok) (n : Int) : SCon Tryd.prog F.spec_l1Below G.spec_l1Below (c.avs ++ [avI n]) (avI (c.below n).1 :: (c.below n).2.avs) := by
  have hno := c.noref
  obtain ⟨a1, a2, a3⟩ := Cur.byte_ok hc
  obtain ⟨b1, b2, b3⟩ := Cur.byte_ok a1
  obtain ⟨c1, c2, c3⟩ := Cur.byte_ok b1
  refine T.spec_l1Below_scon rfl rfl (by simp [Cur.avs, AV.norefs, AV.noref, bys_noref]) ?_
  simp only [T.spec_l1Below, Cur.avs, WA, Nat.reduceEqDiff, Nat.reduceAdd, Nat.reduceLT, Nat.reduceLeDiff, Nat.reduceMul, reduceIte, reduceCtorEq, Int.reduceEq, Int.reduceLT, Int.reduceLE, Int.reduceNe]
  refine ite_dec (fun h0 => ?_) (fun h0 => ?_)
  · simp only [WA, Nat.reduceEqDiff, Nat.reduceAdd, Nat.reduceLT, Nat.reduceLeDiff, Nat.reduceMul, reduceIte, reduceCtorEq, Int.reduceEq, Int.reduceLT, Int.reduceLE, Int.reduceNe]
    simp only [Cur.below, if_pos h0]
  · simp only [WA, Nat.reduceEqDiff, Nat.reduceAdd, Nat.reduceLT, Nat.reduceLeDiff, Nat.reduceMul, reduceIte, reduceCtorEq, Int.reduceEq, Int.reduceLT, Int.reduceLE, Int.reduceNe]
    refine ite_dec (fun h1 => ?_) (fun h1 => ?_)
    · simp only [WA, Nat.reduceEqDiff, Nat.reduceAdd, Nat.reduceLT, Nat.reduceLeDiff, Nat.reduceMul, reduceIte, reduceCtorEq, Int.reduceEq, Int.reduceLT, Int.reduceLE, Int.reduceNe]
      refine scall_v (spec_l1Byte_c hc) rfl (by simp [Cur.avs, AV.norefs, AV.noref, bys_noref]) ?_
      simp only [Cur.avs, WA, Nat.reduceEqDiff, Nat.reduceAdd, Nat.reduceLT, Nat.reduceLeDiff, Nat.reduceMul, reduceIte, reduceCtorEq, Int.reduceEq, Int.reduceLT, Int.reduceLE, Int.reduceNe]
      refine ⟨by omega, ?_⟩
      simp only [Cur.below, if_neg h0, if_pos h1]
    · simp only [WA, Nat.reduceEqDiff, Nat.reduceAdd, Nat.reduceLT, Nat.reduceLeDiff, Nat.reduceMul, reduceIte, reduceCtorEq, Int.reduceEq, Int.reduceLT, Int.reduceLE, Int.reduceNe]
      refine scall_v (spec_l1Byte_c hc) rfl (by simp [Cur.avs, AV.norefs, AV.noref, bys_noref]) ?_
      simp only [Cur.avs, WA, Nat.reduceEqDiff, Nat.reduceAdd, Nat.reduceLT, Nat.reduceLeDiff, Nat.reduceMul, reduceIte, reduceCtorEq, Int.reduceEq, Int.reduceLT, Int.reduceLE, Int.reduceNe]
      refine scall_v (spec_l1Byte_c a1) rfl (by simp [Cur.avs, AV.norefs, AV.noref, bys_noref]) ?_
      simp only [Cur.avs, WA, Nat.reduceEqDiff, Nat.reduceAdd, Nat.reduceLT, Nat.reduceLeDiff, Nat.reduceMul, reduceIte, reduceCtorEq, Int.reduceEq, Int.reduceLT, Int.reduceLE, Int.reduceNe]
      refine scall_v (spec_l1Byte_c b1) rfl (by simp [Cur.avs, AV.norefs, AV.noref, bys_noref]) ?_
      have w1 : IntKind.i64.wrap (c.byte.1 * 65536) = c.byte.1 * 65536 := wrapI (by omega) (by omega)
      have w2 : IntKind.i64.wrap (c.byte.2.byte.1 * 256) = c.byte.2.byte.1 * 256 := wrapI (by omega) (by omega)
      have w3 : IntKind.i64.wrap (c.byte.1 * 65536 + c.byte.2.byte.1 * 256) = c.byte.1 * 65536 + c.byte.2.byte.1 * 256 := wrapI (by omega) (by omega)
      have w4 : IntKind.i64.wrap (c.byte.1 * 65536 + c.byte.2.byte.1 * 256 + c.byte.2.byte.2.byte.1) = c.byte.1 * 65536 + c.byte.2.byte.1 * 256 + c.byte.2.byte.2.byte.1 := wrapI (by omega) (by omega)
      simp only [Cur.avs, w1, w2, w3, w4, WA, Nat.reduceEqDiff, Nat.reduceAdd, Nat.reduceLT, Nat.reduceLeDiff, Nat.reduceMul, reduceIte, reduceCtorEq, Int.reduceEq, Int.reduceLT, Int.reduceLE, Int.reduceNe]
      refine ⟨by omega, ?_⟩
      simp only [Cur.below, if_neg h0, if_neg h1]
theorem spec_l1Once_c {c : Cur} (hc : c.ok) (n : Int) : SCon Tryd.prog F.spec_l1Once G.spec_l1Once (c.avs ++ [avI n]) (.v (.bool (decide ((c.below n).1 = 0))) :: (c.below n).2.avs) := by
  refine T.spec_l1Once_scon rfl rfl (by simp [Cur.avs, AV.norefs, AV.noref, bys_noref]) ?_
  simp only [T.spec_l1Once, Cur.avs, WA, Nat.reduceEqDiff, Nat.reduceAdd, Nat.reduceLT, Nat.reduceLeDiff, Nat.reduceMul, reduceIte, reduceCtorEq, Int.reduceEq, Int.reduceLT, Int.reduceLE, Int.reduceNe]
  refine scall_v (spec_l1Below_c hc n) rfl (by simp [Cur.avs, AV.norefs, AV.noref, bys_noref]) ?_
  simp only [Cur.avs, WA, Nat.reduceEqDiff, Nat.reduceAdd, Nat.reduceLT, Nat.reduceLeDiff, Nat.reduceMul, reduceIte, reduceCtorEq, Int.reduceEq, Int.reduceLT, Int.reduceLE, Int.reduceNe]
theorem spec_l1Int_c {c : Cur} (hc : c.ok) (l : List Int) (hl : l ≠ []) (hlen : l.length ≤ 1048576) : SCon Tryd.prog F.spec_l1Int G.spec_l1Int (c.avs ++ [.sl (l.map avI)]) (avI (c.pick l).1 :: (c.pick l).2.avs) := by
  have hp := List.length_pos_iff.2 hl
  obtain ⟨h1, h2, h3⟩ := Cur.below_ok hc l.length
  have h3 := h3 (by omega)
  refine T.spec_l1Int_scon rfl rfl (by simp [Cur.avs, AV.norefs, AV.noref, bys_noref, norefsM (f := avI) (l := l) fun _ => rfl]) ?_
  simp only [T.spec_l1Int, Cur.avs, List.length_map, WA, Nat.reduceEqDiff, Nat.reduceAdd, Nat.reduceLT, Nat.reduceLeDiff, Nat.reduceMul, reduceIte, reduceCtorEq, Int.reduceEq, Int.reduceLT, Int.reduceLE, Int.reduceNe]
  refine scall_v (spec_l1Below_c hc l.length) rfl (by simp [Cur.avs, AV.norefs, AV.noref, bys_noref]) ?_
  simp only [Cur.avs, WA, Nat.reduceEqDiff, Nat.reduceAdd, Nat.reduceLT, Nat.reduceLeDiff, Nat.reduceMul, reduceIte, reduceCtorEq, Int.reduceEq, Int.reduceLT, Int.reduceLE, Int.reduceNe]
  have hlt : (c.below l.length).1.toNat < l.length := by omega
  have he : (c.below l.length).1 = (((c.below l.length).1.toNat : Nat) : Int) := by omega
  rw [he]
  refine elemM avI hlt rfl ?_
  simp only [WA, Nat.reduceEqDiff, Nat.reduceAdd, Nat.reduceLT, Nat.reduceLeDiff, Nat.reduceMul, reduceIte, reduceCtorEq, Int.reduceEq, Int.reduceLT, Int.reduceLE, Int.reduceNe]
  simp only [Cur.pick, List.getD, List.getElem?_eq_getElem hlt, Option.getD_some]
theorem spec_l1New_c (l : List Int) (hl : l.length ≤ 1048576) (hb : ∀ x ∈ l, 0 ≤ x ∧ x < 256) : ∃ c : Cur, c.ok ∧ c.l = l ∧ SCon Tryd.prog F.spec_l1New G.spec_l1New [.sl (bys l)] c.avs := by
  let H : Nat → Int := fun n => Nat.rec (80080 + l.length : Int) (fun k h => andI (IntKind.i64.wrap (IntKind.i64.wrap (IntKind.i64.wrap (h * 137) + (l.getD k 0)) + 11)) 1073741823) n
  refine ⟨⟨l, 0, H (min l.length 4000)⟩, ⟨Nat.zero_le _, hl, hb⟩, rfl, ?_⟩
  have w0 : IntKind.i64.wrap (80080 + (l.length : Int)) = 80080 + l.length := wrapI (by omega) (by omega)
  refine T.spec_l1New_scon rfl rfl (by simp [AV.norefs, AV.noref, bys_noref]) ?_
  simp only [T.spec_l1New, Cur.avs, List.length_map, w0, WA, Nat.reduceEqDiff, Nat.reduceAdd, Nat.reduceLT, Nat.reduceLeDiff, Nat.reduceMul, reduceIte, reduceCtorEq, Int.reduceEq, Int.reduceLT, Int.reduceLE, Int.reduceNe]
  refine bind_cut [avI (H (min l.length 4000))] rfl ?_ ?_
  · simp only [WA, Nat.reduceEqDiff, Nat.reduceAdd, Nat.reduceLT, Nat.reduceLeDiff, Nat.reduceMul, reduceIte, reduceCtorEq, Int.reduceEq, Int.reduceLT, Int.reduceLE, Int.reduceNe]
    refine loop_up (min l.length 4000) (fun i => [avI (H i), avI i]) rfl fun i hi => ?_
    simp only [WA, Nat.reduceEqDiff, Nat.reduceAdd, Nat.reduceLT, Nat.reduceLeDiff, Nat.reduceMul, reduceIte, reduceCtorEq, Int.reduceEq, Int.reduceLT, Int.reduceLE, Int.reduceNe]
    refine bind_push ?_
    simp only [WA, Nat.reduceEqDiff, Nat.reduceAdd, Nat.reduceLT, Nat.reduceLeDiff, Nat.reduceMul, reduceIte, reduceCtorEq, Int.reduceEq, Int.reduceLT, Int.reduceLE, Int.reduceNe]
    refine bind_push ?_
    simp only [List.length_map, WA, Nat.reduceEqDiff, Nat.reduceAdd, Nat.reduceLT, Nat.reduceLeDiff, Nat.reduceMul, reduceIte, reduceCtorEq, Int.reduceEq, Int.reduceLT, Int.reduceLE, Int.reduceNe]
    refine ite_dec (fun h1 => ?_) (fun h1 => ?_)
    · have hlt : i < l.length := by omega
      simp only [WA, Nat.reduceEqDiff, Nat.reduceAdd, Nat.reduceLT, Nat.reduceLeDiff, Nat.reduceMul, reduceIte, reduceCtorEq, Int.reduceEq, Int.reduceLT, Int.reduceLE, Int.reduceNe]
      refine ite_dec (fun h2 => ?_) (fun h2 => ?_)
      · simp only [WA, Nat.reduceEqDiff, Nat.reduceAdd, Nat.reduceLT, Nat.reduceLeDiff, Nat.reduceMul, reduceIte, reduceCtorEq, Int.reduceEq, Int.reduceLT, Int.reduceLE, Int.reduceNe]
        refine elemM by1 hlt rfl ?_
        have hbx := hb _ (List.getElem_mem hlt)
        have w8 : IntKind.i64.wrap l[i] = l[i] := wrapI (by omega) (by omega)
        have hH : H (i + 1) = andI (IntKind.i64.wrap (IntKind.i64.wrap (IntKind.i64.wrap (H i * 137) + l[i]) + 11)) 1073741823 := by
          show andI (IntKind.i64.wrap (IntKind.i64.wrap (IntKind.i64.wrap (H i * 137) + (l.getD i 0)) + 11)) 1073741823 = _
          simp [List.getD, hlt]
        simp (disch := omega) only [w8, wrapA1, WA, Nat.reduceEqDiff, Nat.reduceAdd, Nat.reduceLT, Nat.reduceLeDiff, Nat.reduceMul, reduceIte, reduceCtorEq, Int.reduceEq, Int.reduceLT, Int.reduceLE, Int.reduceNe]
        exact ⟨by omega, by rw [hH]; rfl⟩
      · simp only [WA, Nat.reduceEqDiff, Nat.reduceAdd, Nat.reduceLT, Nat.reduceLeDiff, Nat.reduceMul, reduceIte, reduceCtorEq, Int.reduceEq, Int.reduceLT, Int.reduceLE, Int.reduceNe]
        rw [show i = min l.length 4000 by omega]
    · simp only [WA, Nat.reduceEqDiff, Nat.reduceAdd, Nat.reduceLT, Nat.reduceLeDiff, Nat.reduceMul, reduceIte, reduceCtorEq, Int.reduceEq, Int.reduceLT, Int.reduceLE, Int.reduceNe]
      rw [show i = min l.length 4000 by omega]
  · simp only [WA, Nat.reduceEqDiff, Nat.reduceAdd, Nat.reduceLT, Nat.reduceLeDiff, Nat.reduceMul, reduceIte, reduceCtorEq, Int.reduceEq, Int.reduceLT, Int.reduceLE, Int.reduceNe]
    rfl
end Go.Proofs.Ab
