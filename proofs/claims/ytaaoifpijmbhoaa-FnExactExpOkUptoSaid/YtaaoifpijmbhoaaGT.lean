/-
  LISTS IN THE LAWS' OWN HELPERS, once for all element types: what is left of toXS, szXS, eqXS.
-/
import Derived.Test.YtaaoifpijmbhoaaAbT
set_option linter.unusedVariables false
set_option linter.unusedSimpArgs false
set_option linter.defProp false
namespace Go.Ab
set_option maxRecDepth 100000

theorem wrapI {n : Int} (h : -9223372036854775808 ≤ n) (h' : n ≤ 9223372036854775807) : IntKind.i64.wrap n = n := wrap_id h h'
theorem wrapS {a b : Nat} (h : b ≤ a) (h' : a ≤ 4611686018427387904) : IntKind.i64.wrap ((a : Int) - (b : Int)) = ((a - b : Nat) : Int) := by
  rw [wrapI (by omega) (by omega)]; omega
theorem wrapA {a b : Nat} (h : a + b ≤ 4611686018427387904) : IntKind.i64.wrap ((a : Int) + (b : Int)) = ((a + b : Nat) : Int) := by
  rw [wrapI (by omega) (by omega)]; omega
theorem wrapA1 {a : Nat} (h : a ≤ 4611686018427387904) : IntKind.i64.wrap ((a : Int) + 1) = ((a + 1 : Nat) : Int) := by
  rw [wrapI (by omega) (by omega)]; omega
theorem lt0 (n : Nat) : decide ((n : Int) < 0) = false := by simp
theorem getM {α : Type} (f : α → AV) {l : List α} {i : Nat} (h : i < l.length) : (l.map f)[i]? = some (f l[i]) := by simp [h]
theorem elemM {α : Type} (f : α → AV) {l : List α} {s n : Nat} {k : IntKind} {K : AV → Prop} (h : n < l.length) (hs : (f l[n]).cells.length = s) (hk : goT K (f l[n])) : elemP s (.sl (l.map f)) (.v (.int k (n : Int))) K :=
  elem_intro _ (getM f h) hs hk
theorem norefsM {α : Type} {f : α → AV} {l : List α} (h : ∀ x, (f x).noref = true) : AV.norefs (l.map f) = true := norefs_of fun a ha => by
  obtain ⟨x, _, rfl⟩ := List.mem_map.1 ha; exact h x

section
variable {P : Program} {L : AX → SS → List AV → Prop} {R : AV → Prop} {t : T} {r : List AV} {S : List (List AV → Prop)}
/-- a loop that counts up -/
theorem loop_up {init : List AV} (n : Nat) (σ : Nat → List AV) (h0 : init = σ 0)
    (hr : ∀ i, i ≤ n → wpT P L R t (r ++ σ i) ((fun vs => i < n ∧ vs = σ (i + 1)) :: S)) : loopT P L R init t r S := by
  refine loop_intro (ι := Nat) (fun i => i ≤ n) σ (fun i => n - i) 0 (Nat.zero_le _) h0 fun i hi => ?_
  refine wpT_mono (fun _ _ _ h => h) (fun _ h => h) t (.cons (fun vs hv => ?_) (.refl _)) (hr i hi)
  exact ⟨i + 1, hv.1, by have := hv.1; omega, hv.2⟩
end

def TszS (s : Nat) (f : FuncId) : T :=
.op (.lenL (.x 0)) (
.op (.bin .sub (.x 1) (.x 2)) (
.op (.bin .lss (.x 3) (.c (.v (.int .i64 0)))) (
.ite (.x 4)
 (.ret [(.c (.v (.int .i64 (-1))))])
 (.bind 1 (
  .loop [(.x 3), (.c (.v (.int .i64 0)))] (
   .op (.lenL (.x 0)) (
   .op (.bin .lss (.x 6) (.x 7)) (
   .ite (.x 8)
    (.op (.elem s (.x 0) (.x 6)) (
    .chk (.cells (.x 9) s) (
    .op (.call f [(.x 9), (.x 5)] false) (
    .op (.bin .lss (.x 10) (.c (.v (.int .i64 0)))) (
    .ite (.x 11)
     (.esc (.esc (.ret [(.c (.v (.int .i64 (-1))))])))
     (.op (.bin .add (.x 6) (.c (.v (.int .i64 1)))) (
     .jump [(.x 10), (.x 12)])))))))
    (.esc (.jump [(.x 5)])))))) (
 .ret [(.x 5)])))))

theorem sum_take {α : Type} (wt : α → Nat) (l : List α) (i : Nat) (h : i < l.length) : ((l.take (i + 1)).map wt).sum = ((l.take i).map wt).sum + wt l[i] := by
  rw [List.take_add_one, List.getElem?_eq_getElem h]
  simp only [Option.toList_some, List.map_append, List.sum_append, List.map_cons, List.map_nil, List.sum_cons, List.sum_nil, Nat.add_zero]
theorem sum_le {α : Type} (wt : α → Nat) (l : List α) (i : Nat) : ((l.take i).map wt).sum ≤ (l.map wt).sum := by
  conv => rhs; rw [← List.take_append_drop i l]
  rw [List.map_append, List.sum_append]; omega

theorem szS_T {P : Program} {L : AX → SS → List AV → Prop} {α : Type} {av : α → AV} {wt : α → Nat} {s : Nat} {f : FuncId} {l : List α} (hs : ∀ x, (av x).isAgg = true ∧ (av x).cells.length = s ∧ (av x).storable = true)
    {b : Nat} (hb : l.length + (l.map wt).sum ≤ b) (hb' : b ≤ 1048576) (hc : ∀ x ∈ l, ∀ c : Nat, wt x ≤ c → c ≤ 1048576 → PCon P f [av x, .v (.int .i64 c)] (.v (.int .i64 (c - wt x : Nat)))) :
    wpT P L (fun a => a = .v (.int .i64 (b - (l.length + (l.map wt).sum) : Nat))) (TszS s f) [.sl (l.map av), .v (.int .i64 b)] [] := by
  simp (disch := omega) only [TszS, wrapS, lt0, W00, W01, W02, W03, W04, W05, W06, W07, W08, Nat.reduceEqDiff, Nat.reduceAdd, Nat.reduceLT, Nat.reduceLeDiff, Nat.reduceMul, reduceIte, reduceCtorEq, Int.reduceEq, Int.reduceLT, Int.reduceLE, Int.reduceNe]
  refine bind_cut [.v (.int .i64 (b - (l.length + (l.map wt).sum) : Nat))] rfl ?_ (by simp only [W00, W01, W02, W03, W04, W05, W06, W07, W08, Nat.reduceEqDiff, Nat.reduceAdd, Nat.reduceLT, Nat.reduceLeDiff, Nat.reduceMul, reduceIte, reduceCtorEq, Int.reduceEq, Int.reduceLT, Int.reduceLE, Int.reduceNe])
  simp only [W00, W01, W02, W03, W04, W05, W06, W07, W08, Nat.reduceEqDiff, Nat.reduceAdd, Nat.reduceLT, Nat.reduceLeDiff, Nat.reduceMul, reduceIte, reduceCtorEq, Int.reduceEq, Int.reduceLT, Int.reduceLE, Int.reduceNe]
  refine loop_up l.length (fun i => [.v (.int .i64 (b - (l.length + ((l.take i).map wt).sum) : Nat)), .v (.int .i64 i)]) (by simp) fun i hi => ?_
  simp only [W00, W01, W02, W03, W04, W05, W06, W07, W08, Nat.reduceEqDiff, Nat.reduceAdd, Nat.reduceLT, Nat.reduceLeDiff, Nat.reduceMul, reduceIte, reduceCtorEq, Int.reduceEq, Int.reduceLT, Int.reduceLE, Int.reduceNe]
  refine ite_dec (fun h => ?_) (fun h => ?_)
  · have hlt : i < l.length := by omega
    have h1 := sum_take wt l i hlt
    have h2 := sum_le wt l (i + 1)
    obtain ⟨x1, x2, x3⟩ := hs l[i]
    simp only [W00, W01, W02, W03, W04, W05, W06, W07, W08, Nat.reduceEqDiff, Nat.reduceAdd, Nat.reduceLT, Nat.reduceLeDiff, Nat.reduceMul, reduceIte, reduceCtorEq, Int.reduceEq, Int.reduceLT, Int.reduceLE, Int.reduceNe]
    refine elemM av hlt x2 ?_
    simp only [x1, x2, x3, W00, W01, W02, W03, W04, W05, W06, W07, W08, Nat.reduceEqDiff, Nat.reduceAdd, Nat.reduceLT, Nat.reduceLeDiff, Nat.reduceMul, reduceIte, reduceCtorEq, Int.reduceEq, Int.reduceLT, Int.reduceLE, Int.reduceNe]
    refine call_v (hc _ (List.getElem_mem hlt) _ (by omega) (by omega)) ?_
    simp (disch := omega) only [lt0, wrapA1, W00, W01, W02, W03, W04, W05, W06, W07, W08, Nat.reduceEqDiff, Nat.reduceAdd, Nat.reduceLT, Nat.reduceLeDiff, Nat.reduceMul, reduceIte, reduceCtorEq, Int.reduceEq, Int.reduceLT, Int.reduceLE, Int.reduceNe]
    exact ⟨hlt, by rw [h1, Nat.sub_sub, Nat.add_assoc]⟩
  · have he : i = l.length := by omega
    subst he
    simp only [List.take_length, W00, W01, W02, W03, W04, W05, W06, W07, W08, Nat.reduceEqDiff, Nat.reduceAdd, Nat.reduceLT, Nat.reduceLeDiff, Nat.reduceMul, reduceIte, reduceCtorEq, Int.reduceEq, Int.reduceLT, Int.reduceLE, Int.reduceNe]

def TszB : T :=
.op (.lenL (.x 0)) (
.op (.bin .sub (.x 1) (.x 2)) (
.op (.bin .lss (.x 3) (.c (.v (.int .i64 0)))) (
.ite (.x 4)
 (.ret [(.c (.v (.int .i64 (-1))))])
 (.bind 1 (
  .loop [(.x 3), (.c (.v (.int .i64 0)))] (
   .op (.lenL (.x 0)) (
   .op (.bin .lss (.x 6) (.x 7)) (
   .ite (.x 8)
    (.op (.elem 1 (.x 0) (.x 6)) (
    .chk (.lt (.x 9) 0) (
    .op (.lenS (.cell 9 0)) (
    .op (.bin .sub (.x 5) (.x 10)) (
    .op (.bin .lss (.x 11) (.c (.v (.int .i64 0)))) (
    .ite (.x 12)
     (.esc (.esc (.ret [(.c (.v (.int .i64 (-1))))])))
     (.op (.bin .add (.x 6) (.c (.v (.int .i64 1)))) (
     .jump [(.x 11), (.x 13)]))))))))
    (.esc (.jump [(.x 5)])))))) (
 .ret [(.x 5)])))))
theorem szB_T {P : Program} {L : AX → SS → List AV → Prop} {l : List ByteArray} {b : Nat} (hb : l.length + (l.map fun y => y.size).sum ≤ b) (hb' : b ≤ 1048576) :
    wpT P L (fun a => a = .v (.int .i64 (b - (l.length + (l.map fun y => y.size).sum) : Nat))) TszB [.sl (l.map fun y => .v (.string y)), .v (.int .i64 b)] [] := by
  simp (disch := omega) only [TszB, wrapS, lt0, W00, W01, W02, W03, W04, W05, W06, W07, W08, Nat.reduceEqDiff, Nat.reduceAdd, Nat.reduceLT, Nat.reduceLeDiff, Nat.reduceMul, reduceIte, reduceCtorEq, Int.reduceEq, Int.reduceLT, Int.reduceLE, Int.reduceNe]
  refine bind_cut [.v (.int .i64 (b - (l.length + (l.map fun y => y.size).sum) : Nat))] rfl ?_ (by simp only [W00, W01, W02, W03, W04, W05, W06, W07, W08, Nat.reduceEqDiff, Nat.reduceAdd, Nat.reduceLT, Nat.reduceLeDiff, Nat.reduceMul, reduceIte, reduceCtorEq, Int.reduceEq, Int.reduceLT, Int.reduceLE, Int.reduceNe])
  simp only [W00, W01, W02, W03, W04, W05, W06, W07, W08, Nat.reduceEqDiff, Nat.reduceAdd, Nat.reduceLT, Nat.reduceLeDiff, Nat.reduceMul, reduceIte, reduceCtorEq, Int.reduceEq, Int.reduceLT, Int.reduceLE, Int.reduceNe]
  refine loop_up l.length (fun i => [.v (.int .i64 (b - (l.length + ((l.take i).map fun y => y.size).sum) : Nat)), .v (.int .i64 i)]) (by simp) fun i hi => ?_
  simp only [W00, W01, W02, W03, W04, W05, W06, W07, W08, Nat.reduceEqDiff, Nat.reduceAdd, Nat.reduceLT, Nat.reduceLeDiff, Nat.reduceMul, reduceIte, reduceCtorEq, Int.reduceEq, Int.reduceLT, Int.reduceLE, Int.reduceNe]
  refine ite_dec (fun h => ?_) (fun h => ?_)
  · have hlt : i < l.length := by omega
    have h1 := sum_take (fun y : ByteArray => y.size) l i hlt
    have h2 := sum_le (fun y : ByteArray => y.size) l (i + 1)
    simp only [W00, W01, W02, W03, W04, W05, W06, W07, W08, Nat.reduceEqDiff, Nat.reduceAdd, Nat.reduceLT, Nat.reduceLeDiff, Nat.reduceMul, reduceIte, reduceCtorEq, Int.reduceEq, Int.reduceLT, Int.reduceLE, Int.reduceNe]
    refine elemM (fun y => .v (.string y)) hlt rfl ?_
    simp (disch := omega) only [wrapS, lt0, wrapA1, W00, W01, W02, W03, W04, W05, W06, W07, W08, Nat.reduceEqDiff, Nat.reduceAdd, Nat.reduceLT, Nat.reduceLeDiff, Nat.reduceMul, reduceIte, reduceCtorEq, Int.reduceEq, Int.reduceLT, Int.reduceLE, Int.reduceNe]
    exact ⟨hlt, by rw [h1, Nat.sub_sub, Nat.add_assoc]⟩
  · have he : i = l.length := by omega
    subst he
    simp only [List.take_length, W00, W01, W02, W03, W04, W05, W06, W07, W08, Nat.reduceEqDiff, Nat.reduceAdd, Nat.reduceLT, Nat.reduceLeDiff, Nat.reduceMul, reduceIte, reduceCtorEq, Int.reduceEq, Int.reduceLT, Int.reduceLE, Int.reduceNe]

def TtoS (s b : Nat) (z : AV) (f : FuncId) : T :=
.op (.lenL (.x 0)) (
.op (.rep b z (.x 1) (.x 1)) (
.bind 1 (
 .loop [(.x 2), (.c (.v (.int .i64 0)))] (
  .op (.lenL (.x 0)) (
  .op (.bin .lss (.x 4) (.x 5)) (
  .ite (.x 6)
   (.op (.elem s (.x 0) (.x 4)) (
   .chk (.cells (.x 7) s) (
   .op (.call f [(.x 7)] false) (
   .chk (.idx (.x 3) (.x 4)) (
   .chk (.cells (.x 8) s) (
   .op (.set (.x 3) (.x 4) 0 s (.x 8)) (
   .op (.bin .add (.x 4) (.c (.v (.int .i64 1)))) (
   .jump [(.x 9), (.x 10)]))))))))
   (.esc (.jump [(.x 3)])))))) (
.ret [(.sl (.x 3))])))

/-- a list that is filled from the left -/
def fillL {α : Type} (av : α → AV) (z : AV) (l : List α) (i : Nat) : List AV := (l.take i).map av ++ List.replicate (l.length - i) z
theorem fillL_len {α : Type} (av : α → AV) (z : AV) (l : List α) (i : Nat) (h : i ≤ l.length) : (fillL av z l i).length = l.length := by simp [fillL]; omega
theorem fillL_zero {α : Type} (av : α → AV) (z : AV) (l : List α) : fillL av z l 0 = List.replicate l.length z := by simp [fillL]
theorem fillL_end {α : Type} (av : α → AV) (z : AV) (l : List α) : fillL av z l l.length = l.map av := by simp [fillL]
theorem fillL_get {α : Type} (av : α → AV) (z : AV) (l : List α) (i : Nat) (h : i < l.length) : (fillL av z l i).getD i .top = z := by
  have h1 : ((l.take i).map av).length = i := by simp; omega
  rw [fillL, List.getD, List.getElem?_append_right (by omega), h1, Nat.sub_self, List.getElem?_replicate, if_pos (by omega)]; rfl
theorem fillL_set {α : Type} (av : α → AV) (z : AV) (l : List α) (i : Nat) (h : i < l.length) : (fillL av z l i).set i (av l[i]) = fillL av z l (i + 1) := by
  have h1 : ((l.take i).map av).length = i := by simp; omega
  unfold fillL
  rw [List.set_append_right _ _ (by omega), h1, Nat.sub_self]
  rw [show l.length - i = (l.length - (i + 1)) + 1 by omega, List.replicate_succ, List.set_cons_zero, List.take_add_one, List.getElem?_eq_getElem h]
  simp only [Option.toList_some, List.map_append, List.map_cons, List.map_nil, List.append_assoc, List.cons_append, List.nil_append]

theorem toS_T {P : Program} {L : AX → SS → List AV → Prop} {α : Type} {av : α → AV} {s b : Nat} {z : AV} {f : FuncId} {l : List α} (hs : ∀ x, (av x).isAgg = true ∧ (av x).cells.length = s ∧ (av x).storable = true ∧ (av x).noref = true)
    (hz : z.cells.length = s) (hb : b ≤ 1000) (hl : l.length ≤ 1048576) (hc : ∀ x ∈ l, PCon P f [av x] (av x)) :
    wpT P L (fun a => a = .sl (l.map av)) (TtoS s b z f) [.sl (l.map av)] [] := by
  have hbl : (b : Int) * (l.length : Int) ≤ 1048576000 := by
    have h1 : b * l.length ≤ 1000 * 1048576 := Nat.mul_le_mul hb hl
    have h2 : ((b * l.length : Nat) : Int) ≤ ((1048576000 : Nat) : Int) := Int.ofNat_le.2 h1
    rwa [Int.natCast_mul] at h2
  simp only [TtoS, W00, W01, W02, W03, W04, W05, W06, W07, W08, Nat.reduceEqDiff, Nat.reduceAdd, Nat.reduceLT, Nat.reduceLeDiff, Nat.reduceMul, reduceIte, reduceCtorEq, Int.reduceEq, Int.reduceLT, Int.reduceLE, Int.reduceNe]
  refine ⟨Int.le_refl _, by omega, by omega, ?_⟩
  refine bind_cut [.sl (l.map av)] rfl ?_ (by simp only [W00, W01, W02, W03, W04, W05, W06, W07, W08, Nat.reduceEqDiff, Nat.reduceAdd, Nat.reduceLT, Nat.reduceLeDiff, Nat.reduceMul, reduceIte, reduceCtorEq, Int.reduceEq, Int.reduceLT, Int.reduceLE, Int.reduceNe])
  simp only [W00, W01, W02, W03, W04, W05, W06, W07, W08, Nat.reduceEqDiff, Nat.reduceAdd, Nat.reduceLT, Nat.reduceLeDiff, Nat.reduceMul, reduceIte, reduceCtorEq, Int.reduceEq, Int.reduceLT, Int.reduceLE, Int.reduceNe]
  refine loop_up l.length (fun i => [.sl (fillL av z l i), .v (.int .i64 i)]) (by rw [fillL_zero]; simp) fun i hi => ?_
  simp only [W00, W01, W02, W03, W04, W05, W06, W07, W08, Nat.reduceEqDiff, Nat.reduceAdd, Nat.reduceLT, Nat.reduceLeDiff, Nat.reduceMul, reduceIte, reduceCtorEq, Int.reduceEq, Int.reduceLT, Int.reduceLE, Int.reduceNe]
  refine ite_dec (fun h => ?_) (fun h => ?_)
  · have hlt : i < l.length := by omega
    obtain ⟨x1, x2, x3, x4⟩ := hs l[i]
    simp only [W00, W01, W02, W03, W04, W05, W06, W07, W08, Nat.reduceEqDiff, Nat.reduceAdd, Nat.reduceLT, Nat.reduceLeDiff, Nat.reduceMul, reduceIte, reduceCtorEq, Int.reduceEq, Int.reduceLT, Int.reduceLE, Int.reduceNe]
    refine elemM av hlt x2 ?_
    simp only [x1, x2, x3, W00, W01, W02, W03, W04, W05, W06, W07, W08, Nat.reduceEqDiff, Nat.reduceAdd, Nat.reduceLT, Nat.reduceLeDiff, Nat.reduceMul, reduceIte, reduceCtorEq, Int.reduceEq, Int.reduceLT, Int.reduceLE, Int.reduceNe]
    refine call_p (hc _ (List.getElem_mem hlt)) x4 ?_
    simp (disch := omega) only [x1, x2, x3, fillL_len av z l i hi, fillL_get av z l i hlt, hz, wrapA1, W00, W01, W02, W03, W04, W05, W06, W07, W08, Nat.reduceEqDiff, Nat.reduceAdd, Nat.reduceLT, Nat.reduceLeDiff, Nat.reduceMul, reduceIte, reduceCtorEq, Int.reduceEq, Int.reduceLT, Int.reduceLE, Int.reduceNe]
    exact ⟨by omega, hlt, ⟨hlt, by rw [upd_whole (by rw [x2, hz]), fillL_set av z l i hlt]⟩⟩
  · have he : i = l.length := by omega
    subst he
    simp only [fillL_end, W00, W01, W02, W03, W04, W05, W06, W07, W08, Nat.reduceEqDiff, Nat.reduceAdd, Nat.reduceLT, Nat.reduceLeDiff, Nat.reduceMul, reduceIte, reduceCtorEq, Int.reduceEq, Int.reduceLT, Int.reduceLE, Int.reduceNe]

def TeqS (s : Nat) (f : FuncId) : T :=
.op (.lenL (.x 0)) (
.op (.lenL (.x 1)) (
.op (.bin .neq (.x 2) (.x 3)) (
.ite (.x 4)
 (.ret [(.c (.v (.bool false)))])
 (.bind 0 (
  .loop [(.c (.v (.int .i64 0)))] (
   .op (.lenL (.x 0)) (
   .op (.bin .lss (.x 5) (.x 6)) (
   .ite (.x 7)
    (.op (.elem s (.x 0) (.x 5)) (
    .chk (.cells (.x 8) s) (
    .op (.elem s (.x 1) (.x 5)) (
    .chk (.cells (.x 9) s) (
    .op (.call f [(.x 8), (.x 9)] false) (
    .op (.un .not (.x 10)) (
    .ite (.x 11)
     (.esc (.esc (.ret [(.c (.v (.bool false)))])))
     (.op (.bin .add (.x 5) (.c (.v (.int .i64 1)))) (
     .jump [(.x 12)])))))))))
    (.esc (.jump [])))))) (
 .ret [(.c (.v (.bool true)))])))))

theorem eqS_T {P : Program} {L : AX → SS → List AV → Prop} {α : Type} {av : α → AV} {s : Nat} {f : FuncId} {l : List α} (hs : ∀ x, (av x).isAgg = true ∧ (av x).cells.length = s ∧ (av x).storable = true)
    (hl : l.length ≤ 1048576) (hc : ∀ x ∈ l, PCon P f [av x, av x] (.v (.bool true))) :
    wpT P L (fun a => a = .v (.bool true)) (TeqS s f) [.sl (l.map av), .sl (l.map av)] [] := by
  simp only [TeqS, W00, W01, W02, W03, W04, W05, W06, W07, W08, Nat.reduceEqDiff, Nat.reduceAdd, Nat.reduceLT, Nat.reduceLeDiff, Nat.reduceMul, reduceIte, reduceCtorEq, Int.reduceEq, Int.reduceLT, Int.reduceLE, Int.reduceNe]
  refine bind_cut [] rfl ?_ (by simp only [W00, W01, W02, W03, W04, W05, W06, W07, W08, Nat.reduceEqDiff, Nat.reduceAdd, Nat.reduceLT, Nat.reduceLeDiff, Nat.reduceMul, reduceIte, reduceCtorEq, Int.reduceEq, Int.reduceLT, Int.reduceLE, Int.reduceNe])
  simp only [W00, W01, W02, W03, W04, W05, W06, W07, W08, Nat.reduceEqDiff, Nat.reduceAdd, Nat.reduceLT, Nat.reduceLeDiff, Nat.reduceMul, reduceIte, reduceCtorEq, Int.reduceEq, Int.reduceLT, Int.reduceLE, Int.reduceNe]
  refine loop_up l.length (fun i => [.v (.int .i64 i)]) rfl fun i hi => ?_
  simp only [W00, W01, W02, W03, W04, W05, W06, W07, W08, Nat.reduceEqDiff, Nat.reduceAdd, Nat.reduceLT, Nat.reduceLeDiff, Nat.reduceMul, reduceIte, reduceCtorEq, Int.reduceEq, Int.reduceLT, Int.reduceLE, Int.reduceNe]
  refine ite_dec (fun h => ?_) (fun h => ?_)
  · have hlt : i < l.length := by omega
    obtain ⟨x1, x2, x3⟩ := hs l[i]
    simp only [W00, W01, W02, W03, W04, W05, W06, W07, W08, Nat.reduceEqDiff, Nat.reduceAdd, Nat.reduceLT, Nat.reduceLeDiff, Nat.reduceMul, reduceIte, reduceCtorEq, Int.reduceEq, Int.reduceLT, Int.reduceLE, Int.reduceNe]
    refine elemM av hlt x2 ?_
    simp only [x1, x2, x3, W00, W01, W02, W03, W04, W05, W06, W07, W08, Nat.reduceEqDiff, Nat.reduceAdd, Nat.reduceLT, Nat.reduceLeDiff, Nat.reduceMul, reduceIte, reduceCtorEq, Int.reduceEq, Int.reduceLT, Int.reduceLE, Int.reduceNe]
    refine elemM av hlt x2 ?_
    simp only [x1, x2, x3, W00, W01, W02, W03, W04, W05, W06, W07, W08, Nat.reduceEqDiff, Nat.reduceAdd, Nat.reduceLT, Nat.reduceLeDiff, Nat.reduceMul, reduceIte, reduceCtorEq, Int.reduceEq, Int.reduceLT, Int.reduceLE, Int.reduceNe]
    refine call_v (hc _ (List.getElem_mem hlt)) ?_
    simp (disch := omega) only [wrapA1, W00, W01, W02, W03, W04, W05, W06, W07, W08, Nat.reduceEqDiff, Nat.reduceAdd, Nat.reduceLT, Nat.reduceLeDiff, Nat.reduceMul, reduceIte, reduceCtorEq, Int.reduceEq, Int.reduceLT, Int.reduceLE, Int.reduceNe]
    exact hlt
  · simp only [W00, W01, W02, W03, W04, W05, W06, W07, W08, Nat.reduceEqDiff, Nat.reduceAdd, Nat.reduceLT, Nat.reduceLeDiff, Nat.reduceMul, reduceIte, reduceCtorEq, Int.reduceEq, Int.reduceLT, Int.reduceLE, Int.reduceNe]

/- numbers -/
abbrev avI (n : Int) : AV := .v (.int .i64 n)
abbrev avB (s : ByteArray) : AV := .v (.string s)

def TszI : T :=
.op (.lenL (.x 0)) (
.op (.bin .sub (.x 1) (.x 2)) (
.op (.bin .lss (.x 3) (.c (.v (.int .i64 0)))) (
.ite (.x 4)
 (.ret [(.c (.v (.int .i64 (-1))))])
 (.ret [(.x 3)]))))
theorem szI_T {P : Program} {L : AX → SS → List AV → Prop} {xs : List AV} {b : Nat} (hb : xs.length ≤ b) (hb' : b ≤ 1048576) : wpT P L (fun a => a = .v (.int .i64 (b - xs.length : Nat))) TszI [.sl xs, .v (.int .i64 b)] [] := by
  simp (disch := omega) only [TszI, wrapS, lt0, W00, W01, W02, W03, W04, W05, W06, W07, W08, Nat.reduceEqDiff, Nat.reduceAdd, Nat.reduceLT, Nat.reduceLeDiff, Nat.reduceMul, reduceIte, reduceCtorEq, Int.reduceEq, Int.reduceLT, Int.reduceLE, Int.reduceNe]

def TtoI (b : Nat) (z : AV) : T :=
.op (.lenL (.x 0)) (
.op (.rep b z (.x 1) (.x 1)) (
.bind 1 (
 .loop [(.x 2), (.c (.v (.int .i64 0)))] (
  .op (.lenL (.x 0)) (
  .op (.bin .lss (.x 4) (.x 5)) (
  .ite (.x 6)
   (.op (.elem 1 (.x 0) (.x 4)) (
   .chk (.lt (.x 7) 0) (
   .chk (.idx (.x 3) (.x 4)) (
   .chk (.one (.cell 7 0)) (
   .op (.set (.x 3) (.x 4) 0 1 (.cell 7 0)) (
   .op (.bin .add (.x 4) (.c (.v (.int .i64 1)))) (
   .jump [(.x 8), (.x 9)])))))))
   (.esc (.jump [(.x 3)])))))) (
.ret [(.sl (.x 3))])))
theorem toI_T {P : Program} {L : AX → SS → List AV → Prop} {α : Type} {g : α → Value} {b : Nat} {z : AV} {l : List α} (hz : z.cells.length = 1) (hb : b ≤ 1000) (hl : l.length ≤ 1048576) :
    wpT P L (fun a => a = .sl (l.map fun x => .v (g x))) (TtoI b z) [.sl (l.map fun x => .v (g x))] [] := by
  have hbl : (b : Int) * (l.length : Int) ≤ 1048576000 := by
    have h1 : b * l.length ≤ 1000 * 1048576 := Nat.mul_le_mul hb hl
    have h2 : ((b * l.length : Nat) : Int) ≤ ((1048576000 : Nat) : Int) := Int.ofNat_le.2 h1
    rwa [Int.natCast_mul] at h2
  simp only [TtoI, W00, W01, W02, W03, W04, W05, W06, W07, W08, Nat.reduceEqDiff, Nat.reduceAdd, Nat.reduceLT, Nat.reduceLeDiff, Nat.reduceMul, reduceIte, reduceCtorEq, Int.reduceEq, Int.reduceLT, Int.reduceLE, Int.reduceNe]
  refine ⟨Int.le_refl _, by omega, by omega, ?_⟩
  refine bind_cut [.sl (l.map fun x => .v (g x))] rfl ?_ (by simp only [W00, W01, W02, W03, W04, W05, W06, W07, W08, Nat.reduceEqDiff, Nat.reduceAdd, Nat.reduceLT, Nat.reduceLeDiff, Nat.reduceMul, reduceIte, reduceCtorEq, Int.reduceEq, Int.reduceLT, Int.reduceLE, Int.reduceNe])
  simp only [W00, W01, W02, W03, W04, W05, W06, W07, W08, Nat.reduceEqDiff, Nat.reduceAdd, Nat.reduceLT, Nat.reduceLeDiff, Nat.reduceMul, reduceIte, reduceCtorEq, Int.reduceEq, Int.reduceLT, Int.reduceLE, Int.reduceNe]
  refine loop_up l.length (fun i => [.sl (fillL (fun x => .v (g x)) z l i), .v (.int .i64 i)]) (by rw [fillL_zero]; simp) fun i hi => ?_
  simp only [W00, W01, W02, W03, W04, W05, W06, W07, W08, Nat.reduceEqDiff, Nat.reduceAdd, Nat.reduceLT, Nat.reduceLeDiff, Nat.reduceMul, reduceIte, reduceCtorEq, Int.reduceEq, Int.reduceLT, Int.reduceLE, Int.reduceNe]
  refine ite_dec (fun h => ?_) (fun h => ?_)
  · have hlt : i < l.length := by omega
    simp only [W00, W01, W02, W03, W04, W05, W06, W07, W08, Nat.reduceEqDiff, Nat.reduceAdd, Nat.reduceLT, Nat.reduceLeDiff, Nat.reduceMul, reduceIte, reduceCtorEq, Int.reduceEq, Int.reduceLT, Int.reduceLE, Int.reduceNe]
    refine elemM (fun x => .v (g x)) hlt rfl ?_
    simp (disch := omega) only [fillL_len _ z l i hi, fillL_get _ z l i hlt, hz, wrapA1, W00, W01, W02, W03, W04, W05, W06, W07, W08, Nat.reduceEqDiff, Nat.reduceAdd, Nat.reduceLT, Nat.reduceLeDiff, Nat.reduceMul, reduceIte, reduceCtorEq, Int.reduceEq, Int.reduceLT, Int.reduceLE, Int.reduceNe]
    exact ⟨by omega, hlt, ⟨hlt, by
      have hf := fillL_set (fun x => AV.v (g x)) z l i hlt
      rw [upd_whole (by rw [hz]; rfl)]; exact hf ▸ rfl⟩⟩
  · have he : i = l.length := by omega
    subst he
    simp only [fillL_end, W00, W01, W02, W03, W04, W05, W06, W07, W08, Nat.reduceEqDiff, Nat.reduceAdd, Nat.reduceLT, Nat.reduceLeDiff, Nat.reduceMul, reduceIte, reduceCtorEq, Int.reduceEq, Int.reduceLT, Int.reduceLE, Int.reduceNe]

def TeqI : T :=
.op (.lenL (.x 0)) (
.op (.lenL (.x 1)) (
.op (.bin .neq (.x 2) (.x 3)) (
.ite (.x 4)
 (.ret [(.c (.v (.bool false)))])
 (.bind 0 (
  .loop [(.c (.v (.int .i64 0)))] (
   .op (.lenL (.x 0)) (
   .op (.bin .lss (.x 5) (.x 6)) (
   .ite (.x 7)
    (.op (.elem 1 (.x 0) (.x 5)) (
    .chk (.lt (.x 8) 0) (
    .op (.elem 1 (.x 1) (.x 5)) (
    .chk (.lt (.x 9) 0) (
    .op (.bin .neq (.cell 8 0) (.cell 9 0)) (
    .ite (.x 10)
     (.esc (.esc (.ret [(.c (.v (.bool false)))])))
     (.op (.bin .add (.x 5) (.c (.v (.int .i64 1)))) (
     .jump [(.x 11)]))))))))
    (.esc (.jump [])))))) (
 .ret [(.c (.v (.bool true)))])))))
theorem eqI_T {P : Program} {L : AX → SS → List AV → Prop} {α : Type} {g : α → Value} {l : List α} (hg : ∀ (x : α) (K : AV → Prop), goT K (.v (.bool false)) → binT .neq (.v (g x)) (.v (g x)) K) (hl : l.length ≤ 1048576) :
    wpT P L (fun a => a = .v (.bool true)) TeqI [.sl (l.map fun x => .v (g x)), .sl (l.map fun x => .v (g x))] [] := by
  simp only [TeqI, W00, W01, W02, W03, W04, W05, W06, W07, W08, Nat.reduceEqDiff, Nat.reduceAdd, Nat.reduceLT, Nat.reduceLeDiff, Nat.reduceMul, reduceIte, reduceCtorEq, Int.reduceEq, Int.reduceLT, Int.reduceLE, Int.reduceNe]
  refine bind_cut [] rfl ?_ (by simp only [W00, W01, W02, W03, W04, W05, W06, W07, W08, Nat.reduceEqDiff, Nat.reduceAdd, Nat.reduceLT, Nat.reduceLeDiff, Nat.reduceMul, reduceIte, reduceCtorEq, Int.reduceEq, Int.reduceLT, Int.reduceLE, Int.reduceNe])
  simp only [W00, W01, W02, W03, W04, W05, W06, W07, W08, Nat.reduceEqDiff, Nat.reduceAdd, Nat.reduceLT, Nat.reduceLeDiff, Nat.reduceMul, reduceIte, reduceCtorEq, Int.reduceEq, Int.reduceLT, Int.reduceLE, Int.reduceNe]
  refine loop_up l.length (fun i => [.v (.int .i64 i)]) rfl fun i hi => ?_
  simp only [W00, W01, W02, W03, W04, W05, W06, W07, W08, Nat.reduceEqDiff, Nat.reduceAdd, Nat.reduceLT, Nat.reduceLeDiff, Nat.reduceMul, reduceIte, reduceCtorEq, Int.reduceEq, Int.reduceLT, Int.reduceLE, Int.reduceNe]
  refine ite_dec (fun h => ?_) (fun h => ?_)
  · have hlt : i < l.length := by omega
    simp only [W00, W01, W02, W03, W04, W05, W06, W07, W08, Nat.reduceEqDiff, Nat.reduceAdd, Nat.reduceLT, Nat.reduceLeDiff, Nat.reduceMul, reduceIte, reduceCtorEq, Int.reduceEq, Int.reduceLT, Int.reduceLE, Int.reduceNe]
    refine elemM (fun x => .v (g x)) hlt rfl ?_
    simp only [W00, W01, W02, W03, W04, W05, W06, W07, W08, Nat.reduceEqDiff, Nat.reduceAdd, Nat.reduceLT, Nat.reduceLeDiff, Nat.reduceMul, reduceIte, reduceCtorEq, Int.reduceEq, Int.reduceLT, Int.reduceLE, Int.reduceNe]
    refine elemM (fun x => .v (g x)) hlt rfl ?_
    simp only [W00, W01, W02, W03, W04, W05, W06, W07, W08, Nat.reduceEqDiff, Nat.reduceAdd, Nat.reduceLT, Nat.reduceLeDiff, Nat.reduceMul, reduceIte, reduceCtorEq, Int.reduceEq, Int.reduceLT, Int.reduceLE, Int.reduceNe]
    refine hg _ _ ?_
    simp (disch := omega) only [wrapA1, W00, W01, W02, W03, W04, W05, W06, W07, W08, Nat.reduceEqDiff, Nat.reduceAdd, Nat.reduceLT, Nat.reduceLeDiff, Nat.reduceMul, reduceIte, reduceCtorEq, Int.reduceEq, Int.reduceLT, Int.reduceLE, Int.reduceNe]
    exact hlt
  · simp only [W00, W01, W02, W03, W04, W05, W06, W07, W08, Nat.reduceEqDiff, Nat.reduceAdd, Nat.reduceLT, Nat.reduceLeDiff, Nat.reduceMul, reduceIte, reduceCtorEq, Int.reduceEq, Int.reduceLT, Int.reduceLE, Int.reduceNe]
theorem neqI (k : IntKind) (x : Int) (K : AV → Prop) (h : goT K (.v (.bool false))) : binT .neq (.v (.int k x)) (.v (.int k x)) K := by simpa only [b_neq, decide_true, Bool.not_true, eq_self] using h
theorem neqS (x : ByteArray) (K : AV → Prop) (h : goT K (.v (.bool false))) : binT .neq (.v (.string x)) (.v (.string x)) K := by simpa only [b_sneq, decide_true, Bool.not_true, eq_self] using h

end Go.Ab
