/-
  THE FUNCTIONS OF PACKAGE slices, once for all element types; loops with what holds at each round.
-/
import Derived.Test.YtaaoifpijmbhoaaGT
set_option linter.unusedVariables false
set_option linter.unusedSimpArgs false
set_option linter.defProp false
namespace Go.Ab
set_option maxRecDepth 100000

section
variable {P : Program} {L : AX → SS → List AV → Prop} {R : AV → Prop} {t : T} {r : List AV} {S : List (List AV → Prop)}
/-- a loop that counts up, with what holds at each round -/
theorem loop_inv {init : List AV} (n : Nat) (I : Nat → Prop) (σ : Nat → List AV) (h0 : init = σ 0) (hI : I 0)
    (hr : ∀ i, i ≤ n → I i → wpT P L R t (r ++ σ i) ((fun vs => i < n ∧ I (i + 1) ∧ vs = σ (i + 1)) :: S)) : loopT P L R init t r S := by
  refine loop_intro (ι := Nat) (fun i => i ≤ n ∧ I i) σ (fun i => n - i) 0 ⟨Nat.zero_le _, hI⟩ h0 fun i hi => ?_
  refine wpT_mono (fun _ _ _ h => h) (fun _ h => h) t (.cons (fun vs hv => ?_) (.refl _)) (hr i hi.1 hi.2)
  exact ⟨i + 1, ⟨hv.1, hv.2.1⟩, by have := hv.1; omega, hv.2.2⟩
end

theorem dropC {α : Type} {l : List α} {i : Nat} (h : i < l.length) : l.drop i = l[i] :: l.drop (i + 1) := List.drop_eq_getElem_cons h
theorem dropE {α : Type} (l : List α) : l.drop l.length = [] := List.drop_length

/-- the first place from k on that passes -/
def idxR {α : Type} (p : α → Bool) : List α → Nat → Int
  | [], _ => -1
  | x :: r, k => if p x = true then (k : Int) else idxR p r (k + 1)
theorem idxR_any {α : Type} (p : α → Bool) : ∀ (l : List α) (k : Nat), decide (0 ≤ idxR p l k) = l.any p
  | [], _ => by simp [idxR]
  | x :: r, k => by
    unfold idxR
    by_cases h : p x = true
    · simp [h]
    · simp only [h, List.any_cons]; rw [if_neg (by simp), idxR_any p r (k + 1)]; simp

def TidxF (s : Nat) : T :=
.bind 0 (
 .op (.lenL (.x 0)) (
 .loop [(.c (.v (.int .i64 0)))] (
  .op (.bin .lss (.x 3) (.x 2)) (
  .ite (.x 4)
   (.op (.elem s (.x 0) (.x 3)) (
   .chk (.cells (.x 5) s) (
   .op (.callv (.x 1) [(.x 5)] false) (
   .ite (.x 6)
    (.esc (.esc (.ret [(.x 3)])))
    (.op (.bin .add (.x 3) (.c (.v (.int .i64 1)))) (
    .jump [(.x 7)]))))))
   (.esc (.jump [])))))) (
.ret [(.c (.v (.int .i64 (-1))))])
theorem idxF_T {P : Program} {L : AX → SS → List AV → Prop} {α : Type} {av : α → AV} {s : Nat} {g : FuncId} {caps : List AV} {l : List α} (p : α → Bool) (hs : ∀ x, (av x).isAgg = true ∧ (av x).cells.length = s ∧ (av x).storable = true)
    (hl : l.length ≤ 1073741824) (hc : ∀ x ∈ l, PCon P g (av x :: caps) (.v (.bool (p x)))) :
    wpT P L (fun a => a = .v (.int .i64 (idxR p l 0))) (TidxF s) [.sl (l.map av), .fn g caps] [] := by
  simp only [TidxF, W00, W01, W02, W03, W04, W05, W06, W07, W08, Nat.reduceEqDiff, Nat.reduceAdd, Nat.reduceLT, Nat.reduceLeDiff, Nat.reduceMul, reduceIte, reduceCtorEq, Int.reduceEq, Int.reduceLT, Int.reduceLE, Int.reduceNe]
  refine bind_push ?_
  simp only [W00, W01, W02, W03, W04, W05, W06, W07, W08, Nat.reduceEqDiff, Nat.reduceAdd, Nat.reduceLT, Nat.reduceLeDiff, Nat.reduceMul, reduceIte, reduceCtorEq, Int.reduceEq, Int.reduceLT, Int.reduceLE, Int.reduceNe]
  refine loop_inv l.length (fun i => idxR p l 0 = idxR p (l.drop i) i) (fun i => [.v (.int .i64 i)]) rfl rfl fun i hi hI => ?_
  simp only [W00, W01, W02, W03, W04, W05, W06, W07, W08, Nat.reduceEqDiff, Nat.reduceAdd, Nat.reduceLT, Nat.reduceLeDiff, Nat.reduceMul, reduceIte, reduceCtorEq, Int.reduceEq, Int.reduceLT, Int.reduceLE, Int.reduceNe]
  refine ite_dec (fun h => ?_) (fun h => ?_)
  · have hlt : i < l.length := by omega
    obtain ⟨x1, x2, x3⟩ := hs l[i]
    rw [dropC hlt, idxR] at hI
    simp only [W00, W01, W02, W03, W04, W05, W06, W07, W08, Nat.reduceEqDiff, Nat.reduceAdd, Nat.reduceLT, Nat.reduceLeDiff, Nat.reduceMul, reduceIte, reduceCtorEq, Int.reduceEq, Int.reduceLT, Int.reduceLE, Int.reduceNe]
    refine elemM av hlt x2 ?_
    simp only [x1, x2, x3, W00, W01, W02, W03, W04, W05, W06, W07, W08, Nat.reduceEqDiff, Nat.reduceAdd, Nat.reduceLT, Nat.reduceLeDiff, Nat.reduceMul, reduceIte, reduceCtorEq, Int.reduceEq, Int.reduceLT, Int.reduceLE, Int.reduceNe]
    refine call_v (hc _ (List.getElem_mem hlt)) ?_
    simp only [W00, W01, W02, W03, W04, W05, W06, W07, W08, Nat.reduceEqDiff, Nat.reduceAdd, Nat.reduceLT, Nat.reduceLeDiff, Nat.reduceMul, reduceIte, reduceCtorEq, Int.reduceEq, Int.reduceLT, Int.reduceLE, Int.reduceNe]
    refine ite_intro (fun h => ?_) (fun h => ?_)
    · simp only [h, if_pos] at hI
      simp only [hI, W00, W01, W02, W03, W04, W05, W06, W07, W08, Nat.reduceEqDiff, Nat.reduceAdd, Nat.reduceLT, Nat.reduceLeDiff, Nat.reduceMul, reduceIte, reduceCtorEq, Int.reduceEq, Int.reduceLT, Int.reduceLE, Int.reduceNe]
    · simp only [h] at hI
      simp (disch := omega) only [wrapA1, W00, W01, W02, W03, W04, W05, W06, W07, W08, Nat.reduceEqDiff, Nat.reduceAdd, Nat.reduceLT, Nat.reduceLeDiff, Nat.reduceMul, reduceIte, reduceCtorEq, Int.reduceEq, Int.reduceLT, Int.reduceLE, Int.reduceNe]
      exact ⟨hlt, by simpa using hI⟩
  · have he : i = l.length := by omega
    subst he
    rw [dropE, idxR] at hI
    simp only [hI, W00, W01, W02, W03, W04, W05, W06, W07, W08, Nat.reduceEqDiff, Nat.reduceAdd, Nat.reduceLT, Nat.reduceLeDiff, Nat.reduceMul, reduceIte, reduceCtorEq, Int.reduceEq, Int.reduceLT, Int.reduceLE, Int.reduceNe]

def TanyF (f : FuncId) : T :=
.op (.call f [(.x 0), (.x 1)] false) (
.op (.bin .geq (.x 2) (.c (.v (.int .i64 0)))) (
.ret [(.x 3)]))
theorem anyF_T {P : Program} {L : AX → SS → List AV → Prop} {α : Type} {a b : AV} {f : FuncId} {l : List α} {p : α → Bool} (hc : PCon P f [a, b] (.v (.int .i64 (idxR p l 0)))) :
    wpT P L (fun r => r = .v (.bool (l.any p))) (TanyF f) [a, b] [] := by
  simp only [TanyF, W00, W01, W02, W03, W04, W05, W06, W07, W08, Nat.reduceEqDiff, Nat.reduceAdd, Nat.reduceLT, Nat.reduceLeDiff, Nat.reduceMul, reduceIte, reduceCtorEq, Int.reduceEq, Int.reduceLT, Int.reduceLE, Int.reduceNe]
  refine call_v hc ?_
  simp only [idxR_any, W00, W01, W02, W03, W04, W05, W06, W07, W08, Nat.reduceEqDiff, Nat.reduceAdd, Nat.reduceLT, Nat.reduceLeDiff, Nat.reduceMul, reduceIte, reduceCtorEq, Int.reduceEq, Int.reduceLT, Int.reduceLE, Int.reduceNe]

def TidxE : T :=
.bind 0 (
 .op (.lenL (.x 0)) (
 .loop [(.c (.v (.int .i64 0)))] (
  .op (.bin .lss (.x 3) (.x 2)) (
  .ite (.x 4)
   (.op (.elem 1 (.x 0) (.x 3)) (
   .chk (.lt (.x 5) 0) (
   .op (.bin .eql (.x 1) (.cell 5 0)) (
   .ite (.x 6)
    (.esc (.esc (.ret [(.x 3)])))
    (.op (.bin .add (.x 3) (.c (.v (.int .i64 1)))) (
    .jump [(.x 7)]))))))
   (.esc (.jump [])))))) (
.ret [(.c (.v (.int .i64 (-1))))])
theorem idxE_T {P : Program} {L : AX → SS → List AV → Prop} {α : Type} [DecidableEq α] {g : α → Value} {l : List α} {x : α} (hg : ∀ (x y : α) (K : AV → Prop), goT K (.v (.bool (decide (x = y)))) → binT .eql (.v (g x)) (.v (g y)) K)
    (hl : l.length ≤ 1073741824) : wpT P L (fun a => a = .v (.int .i64 (idxR (fun y => decide (x = y)) l 0))) TidxE [.sl (l.map fun y => .v (g y)), .v (g x)] [] := by
  simp only [TidxE, W00, W01, W02, W03, W04, W05, W06, W07, W08, Nat.reduceEqDiff, Nat.reduceAdd, Nat.reduceLT, Nat.reduceLeDiff, Nat.reduceMul, reduceIte, reduceCtorEq, Int.reduceEq, Int.reduceLT, Int.reduceLE, Int.reduceNe]
  refine bind_push ?_
  simp only [W00, W01, W02, W03, W04, W05, W06, W07, W08, Nat.reduceEqDiff, Nat.reduceAdd, Nat.reduceLT, Nat.reduceLeDiff, Nat.reduceMul, reduceIte, reduceCtorEq, Int.reduceEq, Int.reduceLT, Int.reduceLE, Int.reduceNe]
  refine loop_inv l.length (fun i => idxR (fun y => decide (x = y)) l 0 = idxR (fun y => decide (x = y)) (l.drop i) i) (fun i => [.v (.int .i64 i)]) rfl rfl fun i hi hI => ?_
  simp only [W00, W01, W02, W03, W04, W05, W06, W07, W08, Nat.reduceEqDiff, Nat.reduceAdd, Nat.reduceLT, Nat.reduceLeDiff, Nat.reduceMul, reduceIte, reduceCtorEq, Int.reduceEq, Int.reduceLT, Int.reduceLE, Int.reduceNe]
  refine ite_dec (fun h => ?_) (fun h => ?_)
  · have hlt : i < l.length := by omega
    rw [dropC hlt, idxR] at hI
    simp only [W00, W01, W02, W03, W04, W05, W06, W07, W08, Nat.reduceEqDiff, Nat.reduceAdd, Nat.reduceLT, Nat.reduceLeDiff, Nat.reduceMul, reduceIte, reduceCtorEq, Int.reduceEq, Int.reduceLT, Int.reduceLE, Int.reduceNe]
    refine elemM (fun y => .v (g y)) hlt rfl ?_
    simp only [W00, W01, W02, W03, W04, W05, W06, W07, W08, Nat.reduceEqDiff, Nat.reduceAdd, Nat.reduceLT, Nat.reduceLeDiff, Nat.reduceMul, reduceIte, reduceCtorEq, Int.reduceEq, Int.reduceLT, Int.reduceLE, Int.reduceNe]
    refine hg _ _ _ ?_
    simp only [W00, W01, W02, W03, W04, W05, W06, W07, W08, Nat.reduceEqDiff, Nat.reduceAdd, Nat.reduceLT, Nat.reduceLeDiff, Nat.reduceMul, reduceIte, reduceCtorEq, Int.reduceEq, Int.reduceLT, Int.reduceLE, Int.reduceNe]
    refine ite_dec (fun h => ?_) (fun h => ?_)
    · rw [if_pos (decide_eq_true h)] at hI
      simp only [hI, W00, W01, W02, W03, W04, W05, W06, W07, W08, Nat.reduceEqDiff, Nat.reduceAdd, Nat.reduceLT, Nat.reduceLeDiff, Nat.reduceMul, reduceIte, reduceCtorEq, Int.reduceEq, Int.reduceLT, Int.reduceLE, Int.reduceNe]
    · rw [if_neg (by simpa using h)] at hI
      simp (disch := omega) only [wrapA1, W00, W01, W02, W03, W04, W05, W06, W07, W08, Nat.reduceEqDiff, Nat.reduceAdd, Nat.reduceLT, Nat.reduceLeDiff, Nat.reduceMul, reduceIte, reduceCtorEq, Int.reduceEq, Int.reduceLT, Int.reduceLE, Int.reduceNe]
      exact ⟨hlt, hI⟩
  · have he : i = l.length := by omega
    subst he
    rw [dropE, idxR] at hI
    simp only [hI, W00, W01, W02, W03, W04, W05, W06, W07, W08, Nat.reduceEqDiff, Nat.reduceAdd, Nat.reduceLT, Nat.reduceLeDiff, Nat.reduceMul, reduceIte, reduceCtorEq, Int.reduceEq, Int.reduceLT, Int.reduceLE, Int.reduceNe]
theorem eqlI (k : IntKind) (x y : Int) (K : AV → Prop) (h : goT K (.v (.bool (decide (x = y))))) : binT .eql (.v (.int k x)) (.v (.int k y)) K := by rw [b_eql]; exact h
theorem eqlS (x y : ByteArray) (K : AV → Prop) (h : goT K (.v (.bool (decide (x = y))))) : binT .eql (.v (.string x)) (.v (.string y)) K := by rw [b_seql]; exact h

/-- two lists, side by side -/
def all2 {α : Type} (p : α → α → Bool) : List α → List α → Bool
  | [], [] => true
  | x :: l, y :: m => p x y && all2 p l m
  | _, _ => false
theorem all2_len {α : Type} (p : α → α → Bool) : ∀ (l m : List α), l.length ≠ m.length → all2 p l m = false
  | [], [], h => (h rfl).elim
  | [], _ :: _, _ => rfl
  | _ :: _, [], _ => rfl
  | x :: l, y :: m, h => by simp only [all2, all2_len p l m (by simpa using h), Bool.and_false]

def TeqF (s : Nat) : T :=
.op (.lenL (.x 0)) (
.op (.lenL (.x 1)) (
.op (.bin .neq (.x 3) (.x 4)) (
.ite (.x 5)
 (.ret [(.c (.v (.bool false)))])
 (.bind 0 (
  .op (.lenL (.x 0)) (
  .loop [(.c (.v (.int .i64 0)))] (
   .op (.bin .lss (.x 7) (.x 6)) (
   .ite (.x 8)
    (.op (.elem s (.x 0) (.x 7)) (
    .chk (.cells (.x 9) s) (
    .chk (.cells (.x 9) s) (
    .op (.elem s (.x 1) (.x 7)) (
    .chk (.cells (.x 10) s) (
    .chk (.cells (.x 10) s) (
    .chk (.cells (.x 9) s) (
    .chk (.cells (.x 10) s) (
    .op (.callv (.x 2) [(.x 9), (.x 10)] false) (
    .op (.un .not (.x 11)) (
    .ite (.x 12)
     (.esc (.esc (.ret [(.c (.v (.bool false)))])))
     (.op (.bin .add (.x 7) (.c (.v (.int .i64 1)))) (
     .jump [(.x 13)])))))))))))))
    (.esc (.jump [])))))) (
 .ret [(.c (.v (.bool true)))])))))
theorem eqF_T {P : Program} {L : AX → SS → List AV → Prop} {α : Type} {av : α → AV} {s : Nat} {g : FuncId} {caps : List AV} {l m : List α} (p : α → α → Bool) (hs : ∀ x, (av x).isAgg = true ∧ (av x).cells.length = s ∧ (av x).storable = true)
    (hl : l.length ≤ 1073741824) (hc : ∀ x ∈ l, ∀ y ∈ m, PCon P g (av x :: av y :: caps) (.v (.bool (p x y)))) :
    wpT P L (fun a => a = .v (.bool (all2 p l m))) (TeqF s) [.sl (l.map av), .sl (m.map av), .fn g caps] [] := by
  simp only [TeqF, W00, W01, W02, W03, W04, W05, W06, W07, W08, Nat.reduceEqDiff, Nat.reduceAdd, Nat.reduceLT, Nat.reduceLeDiff, Nat.reduceMul, reduceIte, reduceCtorEq, Int.reduceEq, Int.reduceLT, Int.reduceLE, Int.reduceNe]
  refine ite_ndec (fun h => ?_) (fun h => ?_)
  · simp only [all2_len p l m (by omega), W00, W01, W02, W03, W04, W05, W06, W07, W08, Nat.reduceEqDiff, Nat.reduceAdd, Nat.reduceLT, Nat.reduceLeDiff, Nat.reduceMul, reduceIte, reduceCtorEq, Int.reduceEq, Int.reduceLT, Int.reduceLE, Int.reduceNe]
  · have hlm : l.length = m.length := by omega
    simp only [W00, W01, W02, W03, W04, W05, W06, W07, W08, Nat.reduceEqDiff, Nat.reduceAdd, Nat.reduceLT, Nat.reduceLeDiff, Nat.reduceMul, reduceIte, reduceCtorEq, Int.reduceEq, Int.reduceLT, Int.reduceLE, Int.reduceNe]
    refine bind_push ?_
    simp only [W00, W01, W02, W03, W04, W05, W06, W07, W08, Nat.reduceEqDiff, Nat.reduceAdd, Nat.reduceLT, Nat.reduceLeDiff, Nat.reduceMul, reduceIte, reduceCtorEq, Int.reduceEq, Int.reduceLT, Int.reduceLE, Int.reduceNe]
    refine loop_inv l.length (fun i => all2 p l m = all2 p (l.drop i) (m.drop i)) (fun i => [.v (.int .i64 i)]) rfl rfl fun i hi hI => ?_
    simp only [W00, W01, W02, W03, W04, W05, W06, W07, W08, Nat.reduceEqDiff, Nat.reduceAdd, Nat.reduceLT, Nat.reduceLeDiff, Nat.reduceMul, reduceIte, reduceCtorEq, Int.reduceEq, Int.reduceLT, Int.reduceLE, Int.reduceNe]
    refine ite_dec (fun h => ?_) (fun h => ?_)
    · have hlt : i < l.length := by omega
      have hlt' : i < m.length := by omega
      obtain ⟨x1, x2, x3⟩ := hs l[i]
      obtain ⟨y1, y2, y3⟩ := hs m[i]
      rw [dropC hlt, dropC hlt', all2] at hI
      simp only [W00, W01, W02, W03, W04, W05, W06, W07, W08, Nat.reduceEqDiff, Nat.reduceAdd, Nat.reduceLT, Nat.reduceLeDiff, Nat.reduceMul, reduceIte, reduceCtorEq, Int.reduceEq, Int.reduceLT, Int.reduceLE, Int.reduceNe]
      refine elemM av hlt x2 ?_
      simp only [x1, x2, x3, W00, W01, W02, W03, W04, W05, W06, W07, W08, Nat.reduceEqDiff, Nat.reduceAdd, Nat.reduceLT, Nat.reduceLeDiff, Nat.reduceMul, reduceIte, reduceCtorEq, Int.reduceEq, Int.reduceLT, Int.reduceLE, Int.reduceNe]
      refine elemM av hlt' y2 ?_
      simp only [x1, x2, x3, y1, y2, y3, W00, W01, W02, W03, W04, W05, W06, W07, W08, Nat.reduceEqDiff, Nat.reduceAdd, Nat.reduceLT, Nat.reduceLeDiff, Nat.reduceMul, reduceIte, reduceCtorEq, Int.reduceEq, Int.reduceLT, Int.reduceLE, Int.reduceNe]
      refine call_v (hc _ (List.getElem_mem hlt) _ (List.getElem_mem hlt')) ?_
      simp only [W00, W01, W02, W03, W04, W05, W06, W07, W08, Nat.reduceEqDiff, Nat.reduceAdd, Nat.reduceLT, Nat.reduceLeDiff, Nat.reduceMul, reduceIte, reduceCtorEq, Int.reduceEq, Int.reduceLT, Int.reduceLE, Int.reduceNe]
      refine ite_intro (fun h => ?_) (fun h => ?_)
      · have h : p l[i] m[i] = false := by simpa using h
        simp only [h, Bool.false_and] at hI
        simp only [hI, W00, W01, W02, W03, W04, W05, W06, W07, W08, Nat.reduceEqDiff, Nat.reduceAdd, Nat.reduceLT, Nat.reduceLeDiff, Nat.reduceMul, reduceIte, reduceCtorEq, Int.reduceEq, Int.reduceLT, Int.reduceLE, Int.reduceNe]
      · have h : p l[i] m[i] = true := by simpa using h
        simp only [h, Bool.true_and] at hI
        simp (disch := omega) only [wrapA1, W00, W01, W02, W03, W04, W05, W06, W07, W08, Nat.reduceEqDiff, Nat.reduceAdd, Nat.reduceLT, Nat.reduceLeDiff, Nat.reduceMul, reduceIte, reduceCtorEq, Int.reduceEq, Int.reduceLT, Int.reduceLE, Int.reduceNe]
        exact ⟨hlt, hI⟩
    · have he : i = l.length := by omega
      subst he
      rw [dropE, hlm, dropE, all2] at hI
      simp only [hI, W00, W01, W02, W03, W04, W05, W06, W07, W08, Nat.reduceEqDiff, Nat.reduceAdd, Nat.reduceLT, Nat.reduceLeDiff, Nat.reduceMul, reduceIte, reduceCtorEq, Int.reduceEq, Int.reduceLT, Int.reduceLE, Int.reduceNe]
end Go.Ab
