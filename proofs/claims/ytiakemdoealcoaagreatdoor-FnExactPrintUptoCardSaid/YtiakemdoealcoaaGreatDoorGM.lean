/- Part of a proof: the functions that the law reaches, walked by the abstract logic of the texts Ab. -/
import Derived.Test.YtiakemdoealcoaaGreatDoorAbM4
import Derived.Lib.Join
import Derived.Lib.ItoaNum
import Derived.Lib.LaidTab
set_option linter.unusedVariables false
set_option linter.unusedSimpArgs false
set_option linter.defProp false
/-
  LISTS IN THE LAWS' OWN HELPERS, once for all element types: what is left of toXS, szXS, eqXS.
-/
namespace Go.Ab
set_option maxRecDepth 100000
theorem wrapI {n : Int} (h : -9223372036854775808 ≤ n) (h' : n ≤ 9223372036854775807) : IntKind.i64.wrap n = n := wrap_id h h'
theorem wrapS {a b : Nat} (h : b ≤ a) (h' : a ≤ 4611686018427387904) : IntKind.i64.wrap ((a : Int) - (b : Int)) = ((a - b : Nat) : Int) := by
  rw [wrapI (by omega) (by omega)]; omega
theorem wrapA {a b : Nat} (h : a + b ≤ 4611686018427387904) : IntKind.i64.wrap ((a : Int) + (b : Int)) = ((a + b : Nat) : Int) := by
  rw [wrapI (by omega) (by omega)]; omega
theorem wrapA1 {a : Nat} (h : a ≤ 4611686018427387904) : IntKind.i64.wrap ((a : Int) + 1) = ((a + 1 : Nat) : Int) := by
  rw [wrapI (by omega) (by omega)]; omega
theorem lt0 (n : Nat) : decide ((n : Int) < 0) = false := by simp
theorem getM {α : Type} (f : α → AV) {l : List α} {i : Nat} (h : i < l.length) : (l.map f)[i]? = some (f l[i]) := by simp [h]
theorem elemM {α : Type} (f : α → AV) {l : List α} {s n : Nat} {k : IntKind} {K : AV → Prop} (h : n < l.length) (hs : (f l[n]).cells.length = s) (hk : goT K (f l[n])) : elemP s (.sl (l.map f)) (.v (.int k (n : Int))) K :=
  elem_intro _ (getM f h) hs hk
theorem norefsM {α : Type} {f : α → AV} {l : List α} (h : ∀ x, (f x).noref = true) : AV.norefs (l.map f) = true := norefs_of fun a ha => by
  obtain ⟨x, _, rfl⟩ := List.mem_map.1 ha; exact h x
section
variable {P : Program} {L : AX → SS → List AV → Prop} {R : AV → Prop} {t : T} {r : List AV} {S : List (List AV → Prop)}
/-- a loop that counts up -/
theorem loop_up {init : List AV} (n : Nat) (σ : Nat → List AV) (h0 : init = σ 0)
    (hr : ∀ i, i ≤ n → wpT P L R t (r ++ σ i) ((fun vs => i < n ∧ vs = σ (i + 1)) :: S)) : loopT P L R init t r S := by
  refine loop_intro (ι := Nat) (fun i => i ≤ n) σ (fun i => n - i) 0 (Nat.zero_le _) h0 fun i hi => ?_
  refine wpT_mono (fun _ _ _ h => h) (fun _ h => h) t (.cons (fun vs hv => ?_) (.refl _)) (hr i hi)
  exact ⟨i + 1, hv.1, by have := hv.1; omega, hv.2⟩
end
def TszS (s : Nat) (f : FuncId) (fl : Bool) : T :=
.op (.lenL (.x 0)) (
.op (.bin .sub (.x 1) (.x 2)) (
.op (.bin .lss (.x 3) (.c (.v (.int .i64 0)))) (
.ite (.x 4)
 (.ret [(.c (.v (.int .i64 (-1))))])
 (.bind 1 (
  .loop [(.x 3), (.c (.v (.int .i64 0)))] (
   .op (.lenL (.x 0)) (
   .op (.bin .lss (.x 6) (.x 7)) (
   .ite (.x 8)
    (.op (.elem s (.x 0) (.x 6)) (
    .chk (.cells (.x 9) s) (
    .op (.call f [(.x 9), (.x 5)] fl) (
    .op (.bin .lss (.x 10) (.c (.v (.int .i64 0)))) (
    .ite (.x 11)
     (.esc (.esc (.ret [(.c (.v (.int .i64 (-1))))])))
     (.op (.bin .add (.x 6) (.c (.v (.int .i64 1)))) (
     .jump [(.x 10), (.x 12)])))))))
    (.esc (.jump [(.x 5)])))))) (
 .ret [(.x 5)])))))
theorem sum_take {α : Type} (wt : α → Nat) (l : List α) (i : Nat) (h : i < l.length) : ((l.take (i + 1)).map wt).sum = ((l.take i).map wt).sum + wt l[i] := by
  rw [List.take_add_one, List.getElem?_eq_getElem h]
  simp only [Option.toList_some, List.map_append, List.sum_append, List.map_cons, List.map_nil, List.sum_cons, List.sum_nil, Nat.add_zero]
theorem sum_le {α : Type} (wt : α → Nat) (l : List α) (i : Nat) : ((l.take i).map wt).sum ≤ (l.map wt).sum := by
  conv => rhs; rw [← List.take_append_drop i l]
  rw [List.map_append, List.sum_append]; omega
theorem szS_T {fl : Bool} {P : Program} {L : AX → SS → List AV → Prop} {α : Type} {av : α → AV} {wt : α → Nat} {s : Nat} {f : FuncId} {l : List α} (hs : ∀ x, (av x).isAgg = true ∧ (av x).cells.length = s ∧ (av x).storable = true)
    {b : Nat} (hb : l.length + (l.map wt).sum ≤ b) (hb' : b ≤ 1048576) (hc : ∀ x ∈ l, ∀ c : Nat, wt x ≤ c → c ≤ 1048576 → PCon P f [av x, .v (.int .i64 c)] (.v (.int .i64 (c - wt x : Nat)))) :
    wpT P L (fun a => a = .v (.int .i64 (b - (l.length + (l.map wt).sum) : Nat))) (TszS s f fl) [.sl (l.map av), .v (.int .i64 b)] [] := by
  simp (disch := omega) only [TszS, wrapS, lt0, WA, Nat.reduceEqDiff, Nat.reduceAdd, Nat.reduceLT, Nat.reduceLeDiff, Nat.reduceMul, reduceIte, reduceCtorEq, Int.reduceEq, Int.reduceLT, Int.reduceLE, Int.reduceNe]
  refine bind_cut [.v (.int .i64 (b - (l.length + (l.map wt).sum) : Nat))] rfl ?_ (by simp only [WA, Nat.reduceEqDiff, Nat.reduceAdd, Nat.reduceLT, Nat.reduceLeDiff, Nat.reduceMul, reduceIte, reduceCtorEq, Int.reduceEq, Int.reduceLT, Int.reduceLE, Int.reduceNe])
  simp only [WA, Nat.reduceEqDiff, Nat.reduceAdd, Nat.reduceLT, Nat.reduceLeDiff, Nat.reduceMul, reduceIte, reduceCtorEq, Int.reduceEq, Int.reduceLT, Int.reduceLE, Int.reduceNe]
  refine loop_up l.length (fun i => [.v (.int .i64 (b - (l.length + ((l.take i).map wt).sum) : Nat)), .v (.int .i64 i)]) (by simp) fun i hi => ?_
  simp only [WA, Nat.reduceEqDiff, Nat.reduceAdd, Nat.reduceLT, Nat.reduceLeDiff, Nat.reduceMul, reduceIte, reduceCtorEq, Int.reduceEq, Int.reduceLT, Int.reduceLE, Int.reduceNe]
  refine ite_dec (fun h => ?_) (fun h => ?_)
  · have hlt : i < l.length := by omega
    have h1 := sum_take wt l i hlt
    have h2 := sum_le wt l (i + 1)
    obtain ⟨x1, x2, x3⟩ := hs l[i]
    simp only [WA, Nat.reduceEqDiff, Nat.reduceAdd, Nat.reduceLT, Nat.reduceLeDiff, Nat.reduceMul, reduceIte, reduceCtorEq, Int.reduceEq, Int.reduceLT, Int.reduceLE, Int.reduceNe]
    refine elemM av hlt x2 ?_
    simp only [x1, x2, x3, WA, Nat.reduceEqDiff, Nat.reduceAdd, Nat.reduceLT, Nat.reduceLeDiff, Nat.reduceMul, reduceIte, reduceCtorEq, Int.reduceEq, Int.reduceLT, Int.reduceLE, Int.reduceNe]
    refine call_v (hc _ (List.getElem_mem hlt) _ (by omega) (by omega)) ?_
    simp (disch := omega) only [lt0, wrapA1, WA, Nat.reduceEqDiff, Nat.reduceAdd, Nat.reduceLT, Nat.reduceLeDiff, Nat.reduceMul, reduceIte, reduceCtorEq, Int.reduceEq, Int.reduceLT, Int.reduceLE, Int.reduceNe]
    exact ⟨hlt, by rw [h1, Nat.sub_sub, Nat.add_assoc]⟩
  · have he : i = l.length := by omega
    subst he
    simp only [List.take_length, WA, Nat.reduceEqDiff, Nat.reduceAdd, Nat.reduceLT, Nat.reduceLeDiff, Nat.reduceMul, reduceIte, reduceCtorEq, Int.reduceEq, Int.reduceLT, Int.reduceLE, Int.reduceNe]
def TszB : T :=
.op (.lenL (.x 0)) (
.op (.bin .sub (.x 1) (.x 2)) (
.op (.bin .lss (.x 3) (.c (.v (.int .i64 0)))) (
.ite (.x 4)
 (.ret [(.c (.v (.int .i64 (-1))))])
 (.bind 1 (
  .loop [(.x 3), (.c (.v (.int .i64 0)))] (
   .op (.lenL (.x 0)) (
   .op (.bin .lss (.x 6) (.x 7)) (
   .ite (.x 8)
    (.op (.elem 1 (.x 0) (.x 6)) (
    .chk (.lt (.x 9) 0) (
    .op (.lenS (.cell 9 0)) (
    .op (.bin .sub (.x 5) (.x 10)) (
    .op (.bin .lss (.x 11) (.c (.v (.int .i64 0)))) (
    .ite (.x 12)
     (.esc (.esc (.ret [(.c (.v (.int .i64 (-1))))])))
     (.op (.bin .add (.x 6) (.c (.v (.int .i64 1)))) (
     .jump [(.x 11), (.x 13)]))))))))
    (.esc (.jump [(.x 5)])))))) (
 .ret [(.x 5)])))))
theorem szB_T {P : Program} {L : AX → SS → List AV → Prop} {l : List ByteArray} {b : Nat} (hb : l.length + (l.map fun y => y.size).sum ≤ b) (hb' : b ≤ 1048576) :
    wpT P L (fun a => a = .v (.int .i64 (b - (l.length + (l.map fun y => y.size).sum) : Nat))) TszB [.sl (l.map fun y => .v (.string y)), .v (.int .i64 b)] [] := by
  simp (disch := omega) only [TszB, wrapS, lt0, WA, Nat.reduceEqDiff, Nat.reduceAdd, Nat.reduceLT, Nat.reduceLeDiff, Nat.reduceMul, reduceIte, reduceCtorEq, Int.reduceEq, Int.reduceLT, Int.reduceLE, Int.reduceNe]
  refine bind_cut [.v (.int .i64 (b - (l.length + (l.map fun y => y.size).sum) : Nat))] rfl ?_ (by simp only [WA, Nat.reduceEqDiff, Nat.reduceAdd, Nat.reduceLT, Nat.reduceLeDiff, Nat.reduceMul, reduceIte, reduceCtorEq, Int.reduceEq, Int.reduceLT, Int.reduceLE, Int.reduceNe])
  simp only [WA, Nat.reduceEqDiff, Nat.reduceAdd, Nat.reduceLT, Nat.reduceLeDiff, Nat.reduceMul, reduceIte, reduceCtorEq, Int.reduceEq, Int.reduceLT, Int.reduceLE, Int.reduceNe]
  refine loop_up l.length (fun i => [.v (.int .i64 (b - (l.length + ((l.take i).map fun y => y.size).sum) : Nat)), .v (.int .i64 i)]) (by simp) fun i hi => ?_
  simp only [WA, Nat.reduceEqDiff, Nat.reduceAdd, Nat.reduceLT, Nat.reduceLeDiff, Nat.reduceMul, reduceIte, reduceCtorEq, Int.reduceEq, Int.reduceLT, Int.reduceLE, Int.reduceNe]
  refine ite_dec (fun h => ?_) (fun h => ?_)
  · have hlt : i < l.length := by omega
    have h1 := sum_take (fun y : ByteArray => y.size) l i hlt
    have h2 := sum_le (fun y : ByteArray => y.size) l (i + 1)
    simp only [WA, Nat.reduceEqDiff, Nat.reduceAdd, Nat.reduceLT, Nat.reduceLeDiff, Nat.reduceMul, reduceIte, reduceCtorEq, Int.reduceEq, Int.reduceLT, Int.reduceLE, Int.reduceNe]
    refine elemM (fun y => .v (.string y)) hlt rfl ?_
    simp (disch := omega) only [wrapS, lt0, wrapA1, WA, Nat.reduceEqDiff, Nat.reduceAdd, Nat.reduceLT, Nat.reduceLeDiff, Nat.reduceMul, reduceIte, reduceCtorEq, Int.reduceEq, Int.reduceLT, Int.reduceLE, Int.reduceNe]
    exact ⟨hlt, by rw [h1, Nat.sub_sub, Nat.add_assoc]⟩
  · have he : i = l.length := by omega
    subst he
    simp only [List.take_length, WA, Nat.reduceEqDiff, Nat.reduceAdd, Nat.reduceLT, Nat.reduceLeDiff, Nat.reduceMul, reduceIte, reduceCtorEq, Int.reduceEq, Int.reduceLT, Int.reduceLE, Int.reduceNe]
def TtoS (s b : Nat) (z : AV) (f : FuncId) : T :=
.op (.lenL (.x 0)) (
.op (.rep b z (.x 1) (.x 1)) (
.bind 1 (
 .loop [(.x 2), (.c (.v (.int .i64 0)))] (
  .op (.lenL (.x 0)) (
  .op (.bin .lss (.x 4) (.x 5)) (
  .ite (.x 6)
   (.op (.elem s (.x 0) (.x 4)) (
   .chk (.cells (.x 7) s) (
   .op (.call f [(.x 7)] false) (
   .chk (.idx (.x 3) (.x 4)) (
   .chk (.cells (.x 8) s) (
   .op (.set (.x 3) (.x 4) 0 s (.x 8)) (
   .op (.bin .add (.x 4) (.c (.v (.int .i64 1)))) (
   .jump [(.x 9), (.x 10)]))))))))
   (.esc (.jump [(.x 3)])))))) (
.ret [(.sl (.x 3))])))
/-- a list that is filled from the left -/
def fillL {α : Type} (av : α → AV) (z : AV) (l : List α) (i : Nat) : List AV := (l.take i).map av ++ List.replicate (l.length - i) z
theorem fillL_len {α : Type} (av : α → AV) (z : AV) (l : List α) (i : Nat) (h : i ≤ l.length) : (fillL av z l i).length = l.length := by simp [fillL]; omega
theorem fillL_zero {α : Type} (av : α → AV) (z : AV) (l : List α) : fillL av z l 0 = List.replicate l.length z := by simp [fillL]
theorem fillL_end {α : Type} (av : α → AV) (z : AV) (l : List α) : fillL av z l l.length = l.map av := by simp [fillL]
theorem fillL_get {α : Type} (av : α → AV) (z : AV) (l : List α) (i : Nat) (h : i < l.length) : (fillL av z l i).getD i .top = z := by
  have h1 : ((l.take i).map av).length = i := by simp; omega
  rw [fillL, List.getD, List.getElem?_append_right (by omega), h1, Nat.sub_self, List.getElem?_replicate, if_pos (by omega)]; rfl
theorem fillL_set {α : Type} (av : α → AV) (z : AV) (l : List α) (i : Nat) (h : i < l.length) : (fillL av z l i).set i (av l[i]) = fillL av z l (i + 1) := by
  have h1 : ((l.take i).map av).length = i := by simp; omega
  unfold fillL
  rw [List.set_append_right _ _ (by omega), h1, Nat.sub_self]
  rw [show l.length - i = (l.length - (i + 1)) + 1 by omega, List.replicate_succ, List.set_cons_zero, List.take_add_one, List.getElem?_eq_getElem h]
  simp only [Option.toList_some, List.map_append, List.map_cons, List.map_nil, List.append_assoc, List.cons_append, List.nil_append]
theorem toS_T {P : Program} {L : AX → SS → List AV → Prop} {α : Type} {av : α → AV} {s b : Nat} {z : AV} {f : FuncId} {l : List α} (hs : ∀ x, (av x).isAgg = true ∧ (av x).cells.length = s ∧ (av x).storable = true ∧ (av x).noref = true)
    (hz : z.cells.length = s) (hb : b ≤ 1000) (hl : l.length ≤ 1048576) (hc : ∀ x ∈ l, PCon P f [av x] (av x)) :
    wpT P L (fun a => a = .sl (l.map av)) (TtoS s b z f) [.sl (l.map av)] [] := by
  have hbl : (b : Int) * (l.length : Int) ≤ 1048576000 := by
    have h1 : b * l.length ≤ 1000 * 1048576 := Nat.mul_le_mul hb hl
    have h2 : ((b * l.length : Nat) : Int) ≤ ((1048576000 : Nat) : Int) := Int.ofNat_le.2 h1
    rwa [Int.natCast_mul] at h2
  simp only [TtoS, WA, Nat.reduceEqDiff, Nat.reduceAdd, Nat.reduceLT, Nat.reduceLeDiff, Nat.reduceMul, reduceIte, reduceCtorEq, Int.reduceEq, Int.reduceLT, Int.reduceLE, Int.reduceNe]
  refine ⟨Int.le_refl _, by omega, by omega, ?_⟩
  refine bind_cut [.sl (l.map av)] rfl ?_ (by simp only [WA, Nat.reduceEqDiff, Nat.reduceAdd, Nat.reduceLT, Nat.reduceLeDiff, Nat.reduceMul, reduceIte, reduceCtorEq, Int.reduceEq, Int.reduceLT, Int.reduceLE, Int.reduceNe])
  simp only [WA, Nat.reduceEqDiff, Nat.reduceAdd, Nat.reduceLT, Nat.reduceLeDiff, Nat.reduceMul, reduceIte, reduceCtorEq, Int.reduceEq, Int.reduceLT, Int.reduceLE, Int.reduceNe]
  refine loop_up l.length (fun i => [.sl (fillL av z l i), .v (.int .i64 i)]) (by rw [fillL_zero]; simp) fun i hi => ?_
  simp only [WA, Nat.reduceEqDiff, Nat.reduceAdd, Nat.reduceLT, Nat.reduceLeDiff, Nat.reduceMul, reduceIte, reduceCtorEq, Int.reduceEq, Int.reduceLT, Int.reduceLE, Int.reduceNe]
  refine ite_dec (fun h => ?_) (fun h => ?_)
  · have hlt : i < l.length := by omega
    obtain ⟨x1, x2, x3, x4⟩ := hs l[i]
    simp only [WA, Nat.reduceEqDiff, Nat.reduceAdd, Nat.reduceLT, Nat.reduceLeDiff, Nat.reduceMul, reduceIte, reduceCtorEq, Int.reduceEq, Int.reduceLT, Int.reduceLE, Int.reduceNe]
    refine elemM av hlt x2 ?_
    simp only [x1, x2, x3, WA, Nat.reduceEqDiff, Nat.reduceAdd, Nat.reduceLT, Nat.reduceLeDiff, Nat.reduceMul, reduceIte, reduceCtorEq, Int.reduceEq, Int.reduceLT, Int.reduceLE, Int.reduceNe]
    refine call_p (hc _ (List.getElem_mem hlt)) x4 ?_
    simp (disch := omega) only [x1, x2, x3, fillL_len av z l i hi, fillL_get av z l i hlt, hz, wrapA1, WA, Nat.reduceEqDiff, Nat.reduceAdd, Nat.reduceLT, Nat.reduceLeDiff, Nat.reduceMul, reduceIte, reduceCtorEq, Int.reduceEq, Int.reduceLT, Int.reduceLE, Int.reduceNe]
    exact ⟨by omega, hlt, ⟨hlt, by rw [upd_whole (by rw [x2, hz]), fillL_set av z l i hlt]⟩⟩
  · have he : i = l.length := by omega
    subst he
    simp only [fillL_end, WA, Nat.reduceEqDiff, Nat.reduceAdd, Nat.reduceLT, Nat.reduceLeDiff, Nat.reduceMul, reduceIte, reduceCtorEq, Int.reduceEq, Int.reduceLT, Int.reduceLE, Int.reduceNe]
def TeqS (s : Nat) (f : FuncId) (fl : Bool) : T :=
.op (.lenL (.x 0)) (
.op (.lenL (.x 1)) (
.op (.bin .neq (.x 2) (.x 3)) (
.ite (.x 4)
 (.ret [(.c (.v (.bool false)))])
 (.bind 0 (
  .loop [(.c (.v (.int .i64 0)))] (
   .op (.lenL (.x 0)) (
   .op (.bin .lss (.x 5) (.x 6)) (
   .ite (.x 7)
    (.op (.elem s (.x 0) (.x 5)) (
    .chk (.cells (.x 8) s) (
    .op (.elem s (.x 1) (.x 5)) (
    .chk (.cells (.x 9) s) (
    .op (.call f [(.x 8), (.x 9)] fl) (
    .op (.un .not (.x 10)) (
    .ite (.x 11)
     (.esc (.esc (.ret [(.c (.v (.bool false)))])))
     (.op (.bin .add (.x 5) (.c (.v (.int .i64 1)))) (
     .jump [(.x 12)])))))))))
    (.esc (.jump [])))))) (
 .ret [(.c (.v (.bool true)))])))))
theorem eqS_T {fl : Bool} {P : Program} {L : AX → SS → List AV → Prop} {α : Type} {av : α → AV} {s : Nat} {f : FuncId} {l : List α} (hs : ∀ x, (av x).isAgg = true ∧ (av x).cells.length = s ∧ (av x).storable = true)
    (hl : l.length ≤ 1048576) (hc : ∀ x ∈ l, PCon P f [av x, av x] (.v (.bool true))) :
    wpT P L (fun a => a = .v (.bool true)) (TeqS s f fl) [.sl (l.map av), .sl (l.map av)] [] := by
  simp only [TeqS, WA, Nat.reduceEqDiff, Nat.reduceAdd, Nat.reduceLT, Nat.reduceLeDiff, Nat.reduceMul, reduceIte, reduceCtorEq, Int.reduceEq, Int.reduceLT, Int.reduceLE, Int.reduceNe]
  refine bind_cut [] rfl ?_ (by simp only [WA, Nat.reduceEqDiff, Nat.reduceAdd, Nat.reduceLT, Nat.reduceLeDiff, Nat.reduceMul, reduceIte, reduceCtorEq, Int.reduceEq, Int.reduceLT, Int.reduceLE, Int.reduceNe])
  simp only [WA, Nat.reduceEqDiff, Nat.reduceAdd, Nat.reduceLT, Nat.reduceLeDiff, Nat.reduceMul, reduceIte, reduceCtorEq, Int.reduceEq, Int.reduceLT, Int.reduceLE, Int.reduceNe]
  refine loop_up l.length (fun i => [.v (.int .i64 i)]) rfl fun i hi => ?_
  simp only [WA, Nat.reduceEqDiff, Nat.reduceAdd, Nat.reduceLT, Nat.reduceLeDiff, Nat.reduceMul, reduceIte, reduceCtorEq, Int.reduceEq, Int.reduceLT, Int.reduceLE, Int.reduceNe]
  refine ite_dec (fun h => ?_) (fun h => ?_)
  · have hlt : i < l.length := by omega
    obtain ⟨x1, x2, x3⟩ := hs l[i]
    simp only [WA, Nat.reduceEqDiff, Nat.reduceAdd, Nat.reduceLT, Nat.reduceLeDiff, Nat.reduceMul, reduceIte, reduceCtorEq, Int.reduceEq, Int.reduceLT, Int.reduceLE, Int.reduceNe]
    refine elemM av hlt x2 ?_
    simp only [x1, x2, x3, WA, Nat.reduceEqDiff, Nat.reduceAdd, Nat.reduceLT, Nat.reduceLeDiff, Nat.reduceMul, reduceIte, reduceCtorEq, Int.reduceEq, Int.reduceLT, Int.reduceLE, Int.reduceNe]
    refine elemM av hlt x2 ?_
    simp only [x1, x2, x3, WA, Nat.reduceEqDiff, Nat.reduceAdd, Nat.reduceLT, Nat.reduceLeDiff, Nat.reduceMul, reduceIte, reduceCtorEq, Int.reduceEq, Int.reduceLT, Int.reduceLE, Int.reduceNe]
    refine call_v (hc _ (List.getElem_mem hlt)) ?_
    simp (disch := omega) only [wrapA1, WA, Nat.reduceEqDiff, Nat.reduceAdd, Nat.reduceLT, Nat.reduceLeDiff, Nat.reduceMul, reduceIte, reduceCtorEq, Int.reduceEq, Int.reduceLT, Int.reduceLE, Int.reduceNe]
    exact hlt
  · simp only [WA, Nat.reduceEqDiff, Nat.reduceAdd, Nat.reduceLT, Nat.reduceLeDiff, Nat.reduceMul, reduceIte, reduceCtorEq, Int.reduceEq, Int.reduceLT, Int.reduceLE, Int.reduceNe]
/- numbers -/
abbrev avI (n : Int) : AV := .v (.int .i64 n)
abbrev avB (s : ByteArray) : AV := .v (.string s)
def TtoI (b : Nat) (z : AV) : T :=
.op (.lenL (.x 0)) (
.op (.rep b z (.x 1) (.x 1)) (
.bind 1 (
 .loop [(.x 2), (.c (.v (.int .i64 0)))] (
  .op (.lenL (.x 0)) (
  .op (.bin .lss (.x 4) (.x 5)) (
  .ite (.x 6)
   (.op (.elem 1 (.x 0) (.x 4)) (
   .chk (.lt (.x 7) 0) (
   .chk (.idx (.x 3) (.x 4)) (
   .chk (.one (.cell 7 0)) (
   .op (.set (.x 3) (.x 4) 0 1 (.cell 7 0)) (
   .op (.bin .add (.x 4) (.c (.v (.int .i64 1)))) (
   .jump [(.x 8), (.x 9)])))))))
   (.esc (.jump [(.x 3)])))))) (
.ret [(.sl (.x 3))])))
theorem toI_T {P : Program} {L : AX → SS → List AV → Prop} {α : Type} {g : α → Value} {b : Nat} {z : AV} {l : List α} (hz : z.cells.length = 1) (hb : b ≤ 1000) (hl : l.length ≤ 1048576) :
    wpT P L (fun a => a = .sl (l.map fun x => .v (g x))) (TtoI b z) [.sl (l.map fun x => .v (g x))] [] := by
  have hbl : (b : Int) * (l.length : Int) ≤ 1048576000 := by
    have h1 : b * l.length ≤ 1000 * 1048576 := Nat.mul_le_mul hb hl
    have h2 : ((b * l.length : Nat) : Int) ≤ ((1048576000 : Nat) : Int) := Int.ofNat_le.2 h1
    rwa [Int.natCast_mul] at h2
  simp only [TtoI, WA, Nat.reduceEqDiff, Nat.reduceAdd, Nat.reduceLT, Nat.reduceLeDiff, Nat.reduceMul, reduceIte, reduceCtorEq, Int.reduceEq, Int.reduceLT, Int.reduceLE, Int.reduceNe]
  refine ⟨Int.le_refl _, by omega, by omega, ?_⟩
  refine bind_cut [.sl (l.map fun x => .v (g x))] rfl ?_ (by simp only [WA, Nat.reduceEqDiff, Nat.reduceAdd, Nat.reduceLT, Nat.reduceLeDiff, Nat.reduceMul, reduceIte, reduceCtorEq, Int.reduceEq, Int.reduceLT, Int.reduceLE, Int.reduceNe])
  simp only [WA, Nat.reduceEqDiff, Nat.reduceAdd, Nat.reduceLT, Nat.reduceLeDiff, Nat.reduceMul, reduceIte, reduceCtorEq, Int.reduceEq, Int.reduceLT, Int.reduceLE, Int.reduceNe]
  refine loop_up l.length (fun i => [.sl (fillL (fun x => .v (g x)) z l i), .v (.int .i64 i)]) (by rw [fillL_zero]; simp) fun i hi => ?_
  simp only [WA, Nat.reduceEqDiff, Nat.reduceAdd, Nat.reduceLT, Nat.reduceLeDiff, Nat.reduceMul, reduceIte, reduceCtorEq, Int.reduceEq, Int.reduceLT, Int.reduceLE, Int.reduceNe]
  refine ite_dec (fun h => ?_) (fun h => ?_)
  · have hlt : i < l.length := by omega
    simp only [WA, Nat.reduceEqDiff, Nat.reduceAdd, Nat.reduceLT, Nat.reduceLeDiff, Nat.reduceMul, reduceIte, reduceCtorEq, Int.reduceEq, Int.reduceLT, Int.reduceLE, Int.reduceNe]
    refine elemM (fun x => .v (g x)) hlt rfl ?_
    simp (disch := omega) only [fillL_len _ z l i hi, fillL_get _ z l i hlt, hz, wrapA1, WA, Nat.reduceEqDiff, Nat.reduceAdd, Nat.reduceLT, Nat.reduceLeDiff, Nat.reduceMul, reduceIte, reduceCtorEq, Int.reduceEq, Int.reduceLT, Int.reduceLE, Int.reduceNe]
    exact ⟨by omega, hlt, ⟨hlt, by
      have hf := fillL_set (fun x => AV.v (g x)) z l i hlt
      rw [upd_whole (by rw [hz]; rfl)]; exact hf ▸ rfl⟩⟩
  · have he : i = l.length := by omega
    subst he
    simp only [fillL_end, WA, Nat.reduceEqDiff, Nat.reduceAdd, Nat.reduceLT, Nat.reduceLeDiff, Nat.reduceMul, reduceIte, reduceCtorEq, Int.reduceEq, Int.reduceLT, Int.reduceLE, Int.reduceNe]
def TeqI : T :=
.op (.lenL (.x 0)) (
.op (.lenL (.x 1)) (
.op (.bin .neq (.x 2) (.x 3)) (
.ite (.x 4)
 (.ret [(.c (.v (.bool false)))])
 (.bind 0 (
  .loop [(.c (.v (.int .i64 0)))] (
   .op (.lenL (.x 0)) (
   .op (.bin .lss (.x 5) (.x 6)) (
   .ite (.x 7)
    (.op (.elem 1 (.x 0) (.x 5)) (
    .chk (.lt (.x 8) 0) (
    .op (.elem 1 (.x 1) (.x 5)) (
    .chk (.lt (.x 9) 0) (
    .op (.bin .neq (.cell 8 0) (.cell 9 0)) (
    .ite (.x 10)
     (.esc (.esc (.ret [(.c (.v (.bool false)))])))
     (.op (.bin .add (.x 5) (.c (.v (.int .i64 1)))) (
     .jump [(.x 11)]))))))))
    (.esc (.jump [])))))) (
 .ret [(.c (.v (.bool true)))])))))
theorem eqI_T {P : Program} {L : AX → SS → List AV → Prop} {α : Type} {g : α → Value} {l : List α} (hg : ∀ (x : α) (K : AV → Prop), goT K (.v (.bool false)) → binT .neq (.v (g x)) (.v (g x)) K) (hl : l.length ≤ 1048576) :
    wpT P L (fun a => a = .v (.bool true)) TeqI [.sl (l.map fun x => .v (g x)), .sl (l.map fun x => .v (g x))] [] := by
  simp only [TeqI, WA, Nat.reduceEqDiff, Nat.reduceAdd, Nat.reduceLT, Nat.reduceLeDiff, Nat.reduceMul, reduceIte, reduceCtorEq, Int.reduceEq, Int.reduceLT, Int.reduceLE, Int.reduceNe]
  refine bind_cut [] rfl ?_ (by simp only [WA, Nat.reduceEqDiff, Nat.reduceAdd, Nat.reduceLT, Nat.reduceLeDiff, Nat.reduceMul, reduceIte, reduceCtorEq, Int.reduceEq, Int.reduceLT, Int.reduceLE, Int.reduceNe])
  simp only [WA, Nat.reduceEqDiff, Nat.reduceAdd, Nat.reduceLT, Nat.reduceLeDiff, Nat.reduceMul, reduceIte, reduceCtorEq, Int.reduceEq, Int.reduceLT, Int.reduceLE, Int.reduceNe]
  refine loop_up l.length (fun i => [.v (.int .i64 i)]) rfl fun i hi => ?_
  simp only [WA, Nat.reduceEqDiff, Nat.reduceAdd, Nat.reduceLT, Nat.reduceLeDiff, Nat.reduceMul, reduceIte, reduceCtorEq, Int.reduceEq, Int.reduceLT, Int.reduceLE, Int.reduceNe]
  refine ite_dec (fun h => ?_) (fun h => ?_)
  · have hlt : i < l.length := by omega
    simp only [WA, Nat.reduceEqDiff, Nat.reduceAdd, Nat.reduceLT, Nat.reduceLeDiff, Nat.reduceMul, reduceIte, reduceCtorEq, Int.reduceEq, Int.reduceLT, Int.reduceLE, Int.reduceNe]
    refine elemM (fun x => .v (g x)) hlt rfl ?_
    simp only [WA, Nat.reduceEqDiff, Nat.reduceAdd, Nat.reduceLT, Nat.reduceLeDiff, Nat.reduceMul, reduceIte, reduceCtorEq, Int.reduceEq, Int.reduceLT, Int.reduceLE, Int.reduceNe]
    refine elemM (fun x => .v (g x)) hlt rfl ?_
    simp only [WA, Nat.reduceEqDiff, Nat.reduceAdd, Nat.reduceLT, Nat.reduceLeDiff, Nat.reduceMul, reduceIte, reduceCtorEq, Int.reduceEq, Int.reduceLT, Int.reduceLE, Int.reduceNe]
    refine hg _ _ ?_
    simp (disch := omega) only [wrapA1, WA, Nat.reduceEqDiff, Nat.reduceAdd, Nat.reduceLT, Nat.reduceLeDiff, Nat.reduceMul, reduceIte, reduceCtorEq, Int.reduceEq, Int.reduceLT, Int.reduceLE, Int.reduceNe]
    exact hlt
  · simp only [WA, Nat.reduceEqDiff, Nat.reduceAdd, Nat.reduceLT, Nat.reduceLeDiff, Nat.reduceMul, reduceIte, reduceCtorEq, Int.reduceEq, Int.reduceLT, Int.reduceLE, Int.reduceNe]
theorem neqS (x : ByteArray) (K : AV → Prop) (h : goT K (.v (.bool false))) : binT .neq (.v (.string x)) (.v (.string x)) K := by simpa only [b_sneq, decide_true, Bool.not_true, eq_self] using h
end Go.Ab
/-
  THE TYPES OF THE LAWS as types of our own (printed by wip/tool/types.py): their cells, their weights, small facts.
-/
namespace Go.Ab
set_option maxRecDepth 100000
/-- a number of 64 bits -/
def inR (n : Int) : Prop := -9223372036854775808 ≤ n ∧ n ≤ 9223372036854775807
theorem le_sum {α : Type} (w : α → Nat) {l : List α} {x : α} (h : x ∈ l) : w x ≤ (l.map w).sum := by
  induction l with
  | nil => simp at h
  | cons a l ih =>
    simp only [List.map_cons, List.sum_cons]
    rcases List.mem_cons.1 h with rfl | h
    · omega
    · have := ih h; omega
inductive VPat where
  | mk (Kind : Int) (Name : ByteArray) (Num : Int) (Pos : Int) (Kids : List VPat)
def VPat.Kind : VPat → Int
  | .mk a _ _ _ _ => a
def VPat.Name : VPat → ByteArray
  | .mk _ a _ _ _ => a
def VPat.Num : VPat → Int
  | .mk _ _ a _ _ => a
def VPat.Pos : VPat → Int
  | .mk _ _ _ a _ => a
def VPat.Kids : VPat → List VPat
  | .mk _ _ _ _ a => a
mutual
def VPat.cs : VPat → List AV
  | .mk Kind Name Num Pos Kids => (.v (.int .i64 Kind) :: (.v (.string Name) :: (.v (.int .i64 Num) :: (.v (.int .i64 Pos) :: (.sl (VPat.avs Kids) :: [])))))
def VPat.avs : List VPat → List AV
  | [] => []
  | x :: l => .agg x.cs :: VPat.avs l
end
def VPat.av (x : VPat) : AV := .agg x.cs
theorem VPat.avs_eq (l : List VPat) : VPat.avs l = l.map VPat.av := by
  induction l with
  | nil => rfl
  | cons x l ih => simp only [VPat.avs, ih, List.map_cons, VPat.av]
mutual
def VPat.wt : VPat → Nat
  | .mk Kind Name Num Pos Kids => Name.size + (Kids.length + VPat.wts Kids)
def VPat.wts : List VPat → Nat
  | [] => 0
  | x :: l => x.wt + VPat.wts l
end
theorem VPat.wts_eq (l : List VPat) : VPat.wts l = (l.map VPat.wt).sum := by
  induction l with
  | nil => rfl
  | cons x l ih => simp only [VPat.wts, ih, List.map_cons, List.sum_cons]
mutual
def VPat.ok : VPat → Prop
  | .mk Kind Name Num Pos Kids => inR Kind ∧ inR Num ∧ inR Pos ∧ VPat.oks Kids
def VPat.oks : List VPat → Prop
  | [] => True
  | x :: l => x.ok ∧ VPat.oks l
end
theorem VPat.oks_iff (l : List VPat) : VPat.oks l ↔ ∀ y ∈ l, y.ok := by
  induction l with
  | nil => simp [VPat.oks]
  | cons x l ih => simp [VPat.oks, ih]
mutual
theorem VPat.norefsC : ∀ x : VPat, AV.norefs x.cs = true
  | .mk Kind Name Num Pos Kids => by simp [VPat.cs, AV.norefs, AV.noref, norefs_append, VPat.norefsL Kids]
theorem VPat.norefsL : ∀ l : List VPat, AV.norefs (VPat.avs l) = true
  | [] => rfl
  | x :: l => by simp [VPat.avs, AV.norefs, AV.noref, VPat.norefsC x, VPat.norefsL l]
end
theorem VPat.noref (x : VPat) : x.av.noref = true   := VPat.norefsC x
theorem VPat.isAgg (x : VPat) : x.av.isAgg = true := nr rfl
theorem VPat.cs_eq (x : VPat) : x.cs = [.v (.int .i64 x.Kind), .v (.string x.Name), .v (.int .i64 x.Num), .v (.int .i64 x.Pos), .sl (x.Kids.map VPat.av)] := by
  obtain ⟨Kind, Name, Num, Pos, Kids⟩ := x
  simp only [VPat.cs, VPat.Kids, VPat.Kind, VPat.Name, VPat.Num, VPat.Pos, VPat.avs_eq, List.cons_append, List.nil_append]
theorem VPat.cells (x : VPat) : x.av.cells = [.v (.int .i64 x.Kind), .v (.string x.Name), .v (.int .i64 x.Num), .v (.int .i64 x.Pos), .sl (x.Kids.map VPat.av)] := VPat.cs_eq x
theorem VPat.width (x : VPat) : x.av.cells.length = 5 := by rw [VPat.cells]; rfl
theorem VPat.storable (x : VPat) : x.av.storable = true := by unfold AV.storable; rw [VPat.cells]; rfl
theorem VPat.eta (x : VPat) : AV.agg [.v (.int .i64 x.Kind), .v (.string x.Name), .v (.int .i64 x.Num), .v (.int .i64 x.Pos), .sl (x.Kids.map VPat.av)] = x.av := by
  show _ = AV.agg x.cs
  rw [VPat.cs_eq]
theorem VPat.shape (x : VPat) : x.av.isAgg = true ∧ x.av.cells.length = 5 ∧ x.av.storable = true := ⟨rfl, VPat.width x, VPat.storable x⟩
theorem VPat.shape4 (x : VPat) : x.av.isAgg = true ∧ x.av.cells.length = 5 ∧ x.av.storable = true ∧ x.av.noref = true := ⟨rfl, VPat.width x, VPat.storable x, VPat.noref x⟩
theorem VPat.wt_eq (x : VPat) : x.wt = x.Name.size + (x.Kids.length + (x.Kids.map VPat.wt).sum) := by
  cases x
  simp only [VPat.wt, VPat.wts_eq, VPat.Kind, VPat.Name, VPat.Num, VPat.Pos, VPat.Kids]
theorem VPat.ok_iff (x : VPat) : x.ok ↔ inR x.Kind ∧ inR x.Num ∧ inR x.Pos ∧ (∀ y ∈ x.Kids, y.ok) := by
  cases x
  simp only [VPat.ok, VPat.oks_iff, VPat.Kind, VPat.Name, VPat.Num, VPat.Pos, VPat.Kids]
theorem VPat.Kids_lt {x : VPat} {y : VPat} (h : y ∈ x.Kids) : SizeOf.sizeOf y < SizeOf.sizeOf x := by
  cases x
  have := List.sizeOf_lt_of_mem h
  simp only [VPat.Kids] at this
  simp; omega
mutual
inductive VExp where
  | mk (Kind : Int) (Name : ByteArray) (Num : Int) (Text : ByteArray) (Pos : Int) (Kids : List VExp) (Arms : List VArm)
inductive VArm where
  | mk (P : VPat) (E : VExp)
end
def VExp.Kind : VExp → Int
  | .mk a _ _ _ _ _ _ => a
def VExp.Name : VExp → ByteArray
  | .mk _ a _ _ _ _ _ => a
def VExp.Num : VExp → Int
  | .mk _ _ a _ _ _ _ => a
def VExp.Text : VExp → ByteArray
  | .mk _ _ _ a _ _ _ => a
def VExp.Pos : VExp → Int
  | .mk _ _ _ _ a _ _ => a
def VExp.Kids : VExp → List VExp
  | .mk _ _ _ _ _ a _ => a
def VExp.Arms : VExp → List VArm
  | .mk _ _ _ _ _ _ a => a
def VArm.P : VArm → VPat
  | .mk a _ => a
def VArm.E : VArm → VExp
  | .mk _ a => a
mutual
def VExp.cs : VExp → List AV
  | .mk Kind Name Num Text Pos Kids Arms => (.v (.int .i64 Kind) :: (.v (.string Name) :: (.v (.int .i64 Num) :: (.v (.string Text) :: (.v (.int .i64 Pos) :: (.sl (VExp.avs Kids) :: (.sl (VArm.avs Arms) :: [])))))))
def VArm.cs : VArm → List AV
  | .mk P E => (P.cs ++ (E.cs ++ []))
def VExp.avs : List VExp → List AV
  | [] => []
  | x :: l => .agg x.cs :: VExp.avs l
def VArm.avs : List VArm → List AV
  | [] => []
  | x :: l => .agg x.cs :: VArm.avs l
end
def VExp.av (x : VExp) : AV := .agg x.cs
theorem VExp.avs_eq (l : List VExp) : VExp.avs l = l.map VExp.av := by
  induction l with
  | nil => rfl
  | cons x l ih => simp only [VExp.avs, ih, List.map_cons, VExp.av]
def VArm.av (x : VArm) : AV := .agg x.cs
theorem VArm.avs_eq (l : List VArm) : VArm.avs l = l.map VArm.av := by
  induction l with
  | nil => rfl
  | cons x l ih => simp only [VArm.avs, ih, List.map_cons, VArm.av]
mutual
def VExp.wt : VExp → Nat
  | .mk Kind Name Num Text Pos Kids Arms => Name.size + Text.size + (Kids.length + VExp.wts Kids) + (Arms.length + VArm.wts Arms)
def VArm.wt : VArm → Nat
  | .mk P E => P.wt + E.wt
def VExp.wts : List VExp → Nat
  | [] => 0
  | x :: l => x.wt + VExp.wts l
def VArm.wts : List VArm → Nat
  | [] => 0
  | x :: l => x.wt + VArm.wts l
end
theorem VExp.wts_eq (l : List VExp) : VExp.wts l = (l.map VExp.wt).sum := by
  induction l with
  | nil => rfl
  | cons x l ih => simp only [VExp.wts, ih, List.map_cons, List.sum_cons]
theorem VArm.wts_eq (l : List VArm) : VArm.wts l = (l.map VArm.wt).sum := by
  induction l with
  | nil => rfl
  | cons x l ih => simp only [VArm.wts, ih, List.map_cons, List.sum_cons]
mutual
def VExp.ok : VExp → Prop
  | .mk Kind Name Num Text Pos Kids Arms => inR Kind ∧ inR Num ∧ inR Pos ∧ VExp.oks Kids ∧ VArm.oks Arms
def VArm.ok : VArm → Prop
  | .mk P E => P.ok ∧ E.ok
def VExp.oks : List VExp → Prop
  | [] => True
  | x :: l => x.ok ∧ VExp.oks l
def VArm.oks : List VArm → Prop
  | [] => True
  | x :: l => x.ok ∧ VArm.oks l
end
theorem VExp.oks_iff (l : List VExp) : VExp.oks l ↔ ∀ y ∈ l, y.ok := by
  induction l with
  | nil => simp [VExp.oks]
  | cons x l ih => simp [VExp.oks, ih]
theorem VArm.oks_iff (l : List VArm) : VArm.oks l ↔ ∀ y ∈ l, y.ok := by
  induction l with
  | nil => simp [VArm.oks]
  | cons x l ih => simp [VArm.oks, ih]
mutual
theorem VExp.norefsC : ∀ x : VExp, AV.norefs x.cs = true
  | .mk Kind Name Num Text Pos Kids Arms => by simp [VExp.cs, AV.norefs, AV.noref, norefs_append, VExp.norefsL Kids, VArm.norefsL Arms]
theorem VArm.norefsC : ∀ x : VArm, AV.norefs x.cs = true
  | .mk P E => by simp [VArm.cs, AV.norefs, AV.noref, norefs_append, VPat.norefsC P, VExp.norefsC E]
theorem VExp.norefsL : ∀ l : List VExp, AV.norefs (VExp.avs l) = true
  | [] => rfl
  | x :: l => by simp [VExp.avs, AV.norefs, AV.noref, VExp.norefsC x, VExp.norefsL l]
theorem VArm.norefsL : ∀ l : List VArm, AV.norefs (VArm.avs l) = true
  | [] => rfl
  | x :: l => by simp [VArm.avs, AV.norefs, AV.noref, VArm.norefsC x, VArm.norefsL l]
end
theorem VExp.noref (x : VExp) : x.av.noref = true   := VExp.norefsC x
theorem VExp.isAgg (x : VExp) : x.av.isAgg = true := nr rfl
theorem VExp.cs_eq (x : VExp) : x.cs = [.v (.int .i64 x.Kind), .v (.string x.Name), .v (.int .i64 x.Num), .v (.string x.Text), .v (.int .i64 x.Pos), .sl (x.Kids.map VExp.av), .sl (x.Arms.map VArm.av)] := by
  obtain ⟨Kind, Name, Num, Text, Pos, Kids, Arms⟩ := x
  simp only [VExp.cs, VExp.Arms, VExp.Kids, VExp.Kind, VExp.Name, VExp.Num, VExp.Pos, VExp.Text, VArm.avs_eq, VExp.avs_eq, List.cons_append, List.nil_append]
theorem VExp.cells (x : VExp) : x.av.cells = [.v (.int .i64 x.Kind), .v (.string x.Name), .v (.int .i64 x.Num), .v (.string x.Text), .v (.int .i64 x.Pos), .sl (x.Kids.map VExp.av), .sl (x.Arms.map VArm.av)] := VExp.cs_eq x
theorem VExp.width (x : VExp) : x.av.cells.length = 7 := by rw [VExp.cells]; rfl
theorem VExp.storable (x : VExp) : x.av.storable = true := by unfold AV.storable; rw [VExp.cells]; rfl
theorem VExp.eta (x : VExp) : AV.agg [.v (.int .i64 x.Kind), .v (.string x.Name), .v (.int .i64 x.Num), .v (.string x.Text), .v (.int .i64 x.Pos), .sl (x.Kids.map VExp.av), .sl (x.Arms.map VArm.av)] = x.av := by
  show _ = AV.agg x.cs
  rw [VExp.cs_eq]
theorem VExp.shape (x : VExp) : x.av.isAgg = true ∧ x.av.cells.length = 7 ∧ x.av.storable = true := ⟨rfl, VExp.width x, VExp.storable x⟩
theorem VExp.shape4 (x : VExp) : x.av.isAgg = true ∧ x.av.cells.length = 7 ∧ x.av.storable = true ∧ x.av.noref = true := ⟨rfl, VExp.width x, VExp.storable x, VExp.noref x⟩
theorem VExp.wt_eq (x : VExp) : x.wt = x.Name.size + x.Text.size + (x.Kids.length + (x.Kids.map VExp.wt).sum) + (x.Arms.length + (x.Arms.map VArm.wt).sum) := by
  cases x
  simp only [VExp.wt, VExp.wts_eq, VArm.wts_eq, VExp.Kind, VExp.Name, VExp.Num, VExp.Text, VExp.Pos, VExp.Kids, VExp.Arms]
theorem VExp.ok_iff (x : VExp) : x.ok ↔ inR x.Kind ∧ inR x.Num ∧ inR x.Pos ∧ (∀ y ∈ x.Kids, y.ok) ∧ (∀ y ∈ x.Arms, y.ok) := by
  cases x
  simp only [VExp.ok, VExp.oks_iff, VArm.oks_iff, VExp.Kind, VExp.Name, VExp.Num, VExp.Text, VExp.Pos, VExp.Kids, VExp.Arms]
theorem VExp.Kids_lt {x : VExp} {y : VExp} (h : y ∈ x.Kids) : SizeOf.sizeOf y < SizeOf.sizeOf x := by
  cases x
  have := List.sizeOf_lt_of_mem h
  simp only [VExp.Kids] at this
  simp; omega
theorem VExp.Arms_lt {x : VExp} {y : VArm} (h : y ∈ x.Arms) : SizeOf.sizeOf y < SizeOf.sizeOf x := by
  cases x
  have := List.sizeOf_lt_of_mem h
  simp only [VExp.Arms] at this
  simp; omega
theorem VArm.noref (x : VArm) : x.av.noref = true   := VArm.norefsC x
theorem VArm.isAgg (x : VArm) : x.av.isAgg = true := nr rfl
theorem VArm.cs_eq (x : VArm) : x.cs = [.v (.int .i64 x.P.Kind), .v (.string x.P.Name), .v (.int .i64 x.P.Num), .v (.int .i64 x.P.Pos), .sl (x.P.Kids.map VPat.av), .v (.int .i64 x.E.Kind), .v (.string x.E.Name), .v (.int .i64 x.E.Num), .v (.string x.E.Text), .v (.int .i64 x.E.Pos), .sl (x.E.Kids.map VExp.av), .sl (x.E.Arms.map VArm.av)] := by
  obtain ⟨⟨P_Kind, P_Name, P_Num, P_Pos, P_Kids⟩, ⟨E_Kind, E_Name, E_Num, E_Text, E_Pos, E_Kids, E_Arms⟩⟩ := x
  simp only [VArm.cs, VExp.cs, VPat.cs, VArm.E, VArm.P, VExp.Arms, VExp.Kids, VExp.Kind, VExp.Name, VExp.Num, VExp.Pos, VExp.Text, VPat.Kids, VPat.Kind, VPat.Name, VPat.Num, VPat.Pos, VArm.avs_eq, VExp.avs_eq, VPat.avs_eq, List.cons_append, List.nil_append]
theorem VArm.cells (x : VArm) : x.av.cells = [.v (.int .i64 x.P.Kind), .v (.string x.P.Name), .v (.int .i64 x.P.Num), .v (.int .i64 x.P.Pos), .sl (x.P.Kids.map VPat.av), .v (.int .i64 x.E.Kind), .v (.string x.E.Name), .v (.int .i64 x.E.Num), .v (.string x.E.Text), .v (.int .i64 x.E.Pos), .sl (x.E.Kids.map VExp.av), .sl (x.E.Arms.map VArm.av)] := VArm.cs_eq x
theorem VArm.width (x : VArm) : x.av.cells.length = 12 := by rw [VArm.cells]; rfl
theorem VArm.storable (x : VArm) : x.av.storable = true := by unfold AV.storable; rw [VArm.cells]; rfl
theorem VArm.eta (x : VArm) : AV.agg [.v (.int .i64 x.P.Kind), .v (.string x.P.Name), .v (.int .i64 x.P.Num), .v (.int .i64 x.P.Pos), .sl (x.P.Kids.map VPat.av), .v (.int .i64 x.E.Kind), .v (.string x.E.Name), .v (.int .i64 x.E.Num), .v (.string x.E.Text), .v (.int .i64 x.E.Pos), .sl (x.E.Kids.map VExp.av), .sl (x.E.Arms.map VArm.av)] = x.av := by
  show _ = AV.agg x.cs
  rw [VArm.cs_eq]
theorem VArm.shape (x : VArm) : x.av.isAgg = true ∧ x.av.cells.length = 12 ∧ x.av.storable = true := ⟨rfl, VArm.width x, VArm.storable x⟩
theorem VArm.shape4 (x : VArm) : x.av.isAgg = true ∧ x.av.cells.length = 12 ∧ x.av.storable = true ∧ x.av.noref = true := ⟨rfl, VArm.width x, VArm.storable x, VArm.noref x⟩
theorem VArm.load_P (x : VArm) : loadC (some 5) x.av 0 = x.P.av := by
  unfold loadC
  simp only
  rw [if_neg (fun h => by have := h.2.2; rw [VArm.width] at this; omega), VArm.cells]
  exact VPat.eta _
theorem VArm.load_E (x : VArm) : loadC (some 7) x.av 5 = x.E.av := by
  unfold loadC
  simp only
  rw [if_neg (fun h => by have := h.2.2; rw [VArm.width] at this; omega), VArm.cells]
  exact VExp.eta _
theorem VArm.wt_eq (x : VArm) : x.wt = x.P.wt + x.E.wt := by
  cases x
  simp only [VArm.wt, VExp.wts_eq, VArm.wts_eq, VArm.P, VArm.E]
theorem VArm.facts {l : List VArm} {b : Nat} (h : (l.map VArm.wt).sum ≤ b) : ∀ x ∈ l, x.wt ≤ b ∧ x.wt = x.P.wt + x.E.wt := fun x hx => ⟨Nat.le_trans (le_sum VArm.wt hx) h, x.wt_eq⟩
theorem VArm.ok_iff (x : VArm) : x.ok ↔ x.P.ok ∧ x.E.ok := by
  cases x
  simp only [VArm.ok, VExp.oks_iff, VArm.oks_iff, VArm.P, VArm.E]
theorem VArm.E_lt (x : VArm) : SizeOf.sizeOf x.E < SizeOf.sizeOf x := by
  cases x
  simp only [VArm.E]
  simp; omega
inductive VTypeExp where
  | mk (Kind : Int) (Name : ByteArray) (Pos : Int) (Kids : List VTypeExp)
def VTypeExp.Kind : VTypeExp → Int
  | .mk a _ _ _ => a
def VTypeExp.Name : VTypeExp → ByteArray
  | .mk _ a _ _ => a
def VTypeExp.Pos : VTypeExp → Int
  | .mk _ _ a _ => a
def VTypeExp.Kids : VTypeExp → List VTypeExp
  | .mk _ _ _ a => a
mutual
def VTypeExp.cs : VTypeExp → List AV
  | .mk Kind Name Pos Kids => (.v (.int .i64 Kind) :: (.v (.string Name) :: (.v (.int .i64 Pos) :: (.sl (VTypeExp.avs Kids) :: []))))
def VTypeExp.avs : List VTypeExp → List AV
  | [] => []
  | x :: l => .agg x.cs :: VTypeExp.avs l
end
def VTypeExp.av (x : VTypeExp) : AV := .agg x.cs
theorem VTypeExp.avs_eq (l : List VTypeExp) : VTypeExp.avs l = l.map VTypeExp.av := by
  induction l with
  | nil => rfl
  | cons x l ih => simp only [VTypeExp.avs, ih, List.map_cons, VTypeExp.av]
mutual
def VTypeExp.wt : VTypeExp → Nat
  | .mk Kind Name Pos Kids => Name.size + (Kids.length + VTypeExp.wts Kids)
def VTypeExp.wts : List VTypeExp → Nat
  | [] => 0
  | x :: l => x.wt + VTypeExp.wts l
end
theorem VTypeExp.wts_eq (l : List VTypeExp) : VTypeExp.wts l = (l.map VTypeExp.wt).sum := by
  induction l with
  | nil => rfl
  | cons x l ih => simp only [VTypeExp.wts, ih, List.map_cons, List.sum_cons]
mutual
def VTypeExp.ok : VTypeExp → Prop
  | .mk Kind Name Pos Kids => inR Kind ∧ inR Pos ∧ VTypeExp.oks Kids
def VTypeExp.oks : List VTypeExp → Prop
  | [] => True
  | x :: l => x.ok ∧ VTypeExp.oks l
end
theorem VTypeExp.oks_iff (l : List VTypeExp) : VTypeExp.oks l ↔ ∀ y ∈ l, y.ok := by
  induction l with
  | nil => simp [VTypeExp.oks]
  | cons x l ih => simp [VTypeExp.oks, ih]
mutual
theorem VTypeExp.norefsC : ∀ x : VTypeExp, AV.norefs x.cs = true
  | .mk Kind Name Pos Kids => by simp [VTypeExp.cs, AV.norefs, AV.noref, norefs_append, VTypeExp.norefsL Kids]
theorem VTypeExp.norefsL : ∀ l : List VTypeExp, AV.norefs (VTypeExp.avs l) = true
  | [] => rfl
  | x :: l => by simp [VTypeExp.avs, AV.norefs, AV.noref, VTypeExp.norefsC x, VTypeExp.norefsL l]
end
theorem VTypeExp.noref (x : VTypeExp) : x.av.noref = true   := VTypeExp.norefsC x
theorem VTypeExp.isAgg (x : VTypeExp) : x.av.isAgg = true := nr rfl
theorem VTypeExp.cs_eq (x : VTypeExp) : x.cs = [.v (.int .i64 x.Kind), .v (.string x.Name), .v (.int .i64 x.Pos), .sl (x.Kids.map VTypeExp.av)] := by
  obtain ⟨Kind, Name, Pos, Kids⟩ := x
  simp only [VTypeExp.cs, VTypeExp.Kids, VTypeExp.Kind, VTypeExp.Name, VTypeExp.Pos, VTypeExp.avs_eq, List.cons_append, List.nil_append]
theorem VTypeExp.cells (x : VTypeExp) : x.av.cells = [.v (.int .i64 x.Kind), .v (.string x.Name), .v (.int .i64 x.Pos), .sl (x.Kids.map VTypeExp.av)] := VTypeExp.cs_eq x
theorem VTypeExp.width (x : VTypeExp) : x.av.cells.length = 4 := by rw [VTypeExp.cells]; rfl
theorem VTypeExp.storable (x : VTypeExp) : x.av.storable = true := by unfold AV.storable; rw [VTypeExp.cells]; rfl
theorem VTypeExp.eta (x : VTypeExp) : AV.agg [.v (.int .i64 x.Kind), .v (.string x.Name), .v (.int .i64 x.Pos), .sl (x.Kids.map VTypeExp.av)] = x.av := by
  show _ = AV.agg x.cs
  rw [VTypeExp.cs_eq]
theorem VTypeExp.shape (x : VTypeExp) : x.av.isAgg = true ∧ x.av.cells.length = 4 ∧ x.av.storable = true := ⟨rfl, VTypeExp.width x, VTypeExp.storable x⟩
theorem VTypeExp.shape4 (x : VTypeExp) : x.av.isAgg = true ∧ x.av.cells.length = 4 ∧ x.av.storable = true ∧ x.av.noref = true := ⟨rfl, VTypeExp.width x, VTypeExp.storable x, VTypeExp.noref x⟩
theorem VTypeExp.wt_eq (x : VTypeExp) : x.wt = x.Name.size + (x.Kids.length + (x.Kids.map VTypeExp.wt).sum) := by
  cases x
  simp only [VTypeExp.wt, VTypeExp.wts_eq, VTypeExp.Kind, VTypeExp.Name, VTypeExp.Pos, VTypeExp.Kids]
theorem VTypeExp.ok_iff (x : VTypeExp) : x.ok ↔ inR x.Kind ∧ inR x.Pos ∧ (∀ y ∈ x.Kids, y.ok) := by
  cases x
  simp only [VTypeExp.ok, VTypeExp.oks_iff, VTypeExp.Kind, VTypeExp.Name, VTypeExp.Pos, VTypeExp.Kids]
theorem VTypeExp.Kids_lt {x : VTypeExp} {y : VTypeExp} (h : y ∈ x.Kids) : SizeOf.sizeOf y < SizeOf.sizeOf x := by
  cases x
  have := List.sizeOf_lt_of_mem h
  simp only [VTypeExp.Kids] at this
  simp; omega
inductive VCtor where
  | mk (Name : ByteArray) (Has : Bool) (Arg : VTypeExp) (Pos : Int)
def VCtor.Name : VCtor → ByteArray
  | .mk a _ _ _ => a
def VCtor.Has : VCtor → Bool
  | .mk _ a _ _ => a
def VCtor.Arg : VCtor → VTypeExp
  | .mk _ _ a _ => a
def VCtor.Pos : VCtor → Int
  | .mk _ _ _ a => a
def VCtor.cs : VCtor → List AV
  | .mk Name Has Arg Pos => (.v (.string Name) :: (.v (.bool Has) :: (Arg.cs ++ (.v (.int .i64 Pos) :: []))))
def VCtor.av (x : VCtor) : AV := .agg x.cs
def VCtor.wt : VCtor → Nat
  | .mk Name Has Arg Pos => Name.size + Arg.wt
def VCtor.ok : VCtor → Prop
  | .mk Name Has Arg Pos => Arg.ok ∧ inR Pos
theorem VCtor.norefsC : ∀ x : VCtor, AV.norefs x.cs = true
  | .mk Name Has Arg Pos => by simp [VCtor.cs, AV.norefs, AV.noref, norefs_append, VTypeExp.norefsC Arg]
theorem VCtor.noref (x : VCtor) : x.av.noref = true   := VCtor.norefsC x
theorem VCtor.isAgg (x : VCtor) : x.av.isAgg = true := nr rfl
theorem VCtor.cs_eq (x : VCtor) : x.cs = [.v (.string x.Name), .v (.bool x.Has), .v (.int .i64 x.Arg.Kind), .v (.string x.Arg.Name), .v (.int .i64 x.Arg.Pos), .sl (x.Arg.Kids.map VTypeExp.av), .v (.int .i64 x.Pos)] := by
  obtain ⟨Name, Has, ⟨Arg_Kind, Arg_Name, Arg_Pos, Arg_Kids⟩, Pos⟩ := x
  simp only [VCtor.cs, VTypeExp.cs, VCtor.Arg, VCtor.Has, VCtor.Name, VCtor.Pos, VTypeExp.Kids, VTypeExp.Kind, VTypeExp.Name, VTypeExp.Pos, VTypeExp.avs_eq, List.cons_append, List.nil_append]
theorem VCtor.cells (x : VCtor) : x.av.cells = [.v (.string x.Name), .v (.bool x.Has), .v (.int .i64 x.Arg.Kind), .v (.string x.Arg.Name), .v (.int .i64 x.Arg.Pos), .sl (x.Arg.Kids.map VTypeExp.av), .v (.int .i64 x.Pos)] := VCtor.cs_eq x
theorem VCtor.width (x : VCtor) : x.av.cells.length = 7 := by rw [VCtor.cells]; rfl
theorem VCtor.storable (x : VCtor) : x.av.storable = true := by unfold AV.storable; rw [VCtor.cells]; rfl
theorem VCtor.eta (x : VCtor) : AV.agg [.v (.string x.Name), .v (.bool x.Has), .v (.int .i64 x.Arg.Kind), .v (.string x.Arg.Name), .v (.int .i64 x.Arg.Pos), .sl (x.Arg.Kids.map VTypeExp.av), .v (.int .i64 x.Pos)] = x.av := by
  show _ = AV.agg x.cs
  rw [VCtor.cs_eq]
theorem VCtor.shape (x : VCtor) : x.av.isAgg = true ∧ x.av.cells.length = 7 ∧ x.av.storable = true := ⟨rfl, VCtor.width x, VCtor.storable x⟩
theorem VCtor.shape4 (x : VCtor) : x.av.isAgg = true ∧ x.av.cells.length = 7 ∧ x.av.storable = true ∧ x.av.noref = true := ⟨rfl, VCtor.width x, VCtor.storable x, VCtor.noref x⟩
theorem VCtor.load_Arg (x : VCtor) : loadC (some 4) x.av 2 = x.Arg.av := by
  unfold loadC
  simp only
  rw [if_neg (fun h => by have := h.2.2; rw [VCtor.width] at this; omega), VCtor.cells]
  exact VTypeExp.eta _
theorem VCtor.wt_eq (x : VCtor) : x.wt = x.Name.size + x.Arg.wt := by
  cases x
  simp only [VCtor.wt, VCtor.Name, VCtor.Has, VCtor.Arg, VCtor.Pos]
theorem VCtor.facts {l : List VCtor} {b : Nat} (h : (l.map VCtor.wt).sum ≤ b) : ∀ x ∈ l, x.wt ≤ b ∧ x.wt = x.Name.size + x.Arg.wt := fun x hx => ⟨Nat.le_trans (le_sum VCtor.wt hx) h, x.wt_eq⟩
theorem VCtor.ok_iff (x : VCtor) : x.ok ↔ x.Arg.ok ∧ inR x.Pos := by
  cases x
  simp only [VCtor.ok, VCtor.Name, VCtor.Has, VCtor.Arg, VCtor.Pos]
inductive VData where
  | mk (Name : ByteArray) (Vars : List ByteArray) (Ctors : List VCtor) (Pos : Int)
def VData.Name : VData → ByteArray
  | .mk a _ _ _ => a
def VData.Vars : VData → List ByteArray
  | .mk _ a _ _ => a
def VData.Ctors : VData → List VCtor
  | .mk _ _ a _ => a
def VData.Pos : VData → Int
  | .mk _ _ _ a => a
def VData.cs : VData → List AV
  | .mk Name Vars Ctors Pos => (.v (.string Name) :: (.sl (Vars.map fun x => .v (.string x)) :: (.sl (Ctors.map VCtor.av) :: (.v (.int .i64 Pos) :: []))))
def VData.av (x : VData) : AV := .agg x.cs
def VData.wt : VData → Nat
  | .mk Name Vars Ctors Pos => Name.size + (Vars.length + (Vars.map fun x => x.size).sum) + (Ctors.length + (Ctors.map VCtor.wt).sum)
def VData.ok : VData → Prop
  | .mk Name Vars Ctors Pos => (∀ y ∈ Ctors, y.ok) ∧ inR Pos
theorem VData.norefsC : ∀ x : VData, AV.norefs x.cs = true
  | .mk Name Vars Ctors Pos => by simp [VData.cs, AV.norefs, AV.noref, norefs_append, norefsM (f := fun x => .v (.string x)) (l := Vars) (fun _ => rfl), norefsM (f := VCtor.av) (l := Ctors) VCtor.noref]
theorem VData.noref (x : VData) : x.av.noref = true   := VData.norefsC x
theorem VData.isAgg (x : VData) : x.av.isAgg = true := nr rfl
theorem VData.cs_eq (x : VData) : x.cs = [.v (.string x.Name), .sl (x.Vars.map fun x => .v (.string x)), .sl (x.Ctors.map VCtor.av), .v (.int .i64 x.Pos)] := by
  obtain ⟨Name, Vars, Ctors, Pos⟩ := x
  simp only [VData.cs, VData.Ctors, VData.Name, VData.Pos, VData.Vars, List.cons_append, List.nil_append]
theorem VData.cells (x : VData) : x.av.cells = [.v (.string x.Name), .sl (x.Vars.map fun x => .v (.string x)), .sl (x.Ctors.map VCtor.av), .v (.int .i64 x.Pos)] := VData.cs_eq x
theorem VData.width (x : VData) : x.av.cells.length = 4 := by rw [VData.cells]; rfl
theorem VData.storable (x : VData) : x.av.storable = true := by unfold AV.storable; rw [VData.cells]; rfl
theorem VData.eta (x : VData) : AV.agg [.v (.string x.Name), .sl (x.Vars.map fun x => .v (.string x)), .sl (x.Ctors.map VCtor.av), .v (.int .i64 x.Pos)] = x.av := by
  show _ = AV.agg x.cs
  rw [VData.cs_eq]
theorem VData.shape (x : VData) : x.av.isAgg = true ∧ x.av.cells.length = 4 ∧ x.av.storable = true := ⟨rfl, VData.width x, VData.storable x⟩
theorem VData.shape4 (x : VData) : x.av.isAgg = true ∧ x.av.cells.length = 4 ∧ x.av.storable = true ∧ x.av.noref = true := ⟨rfl, VData.width x, VData.storable x, VData.noref x⟩
theorem VData.wt_eq (x : VData) : x.wt = x.Name.size + (x.Vars.length + (x.Vars.map fun x => x.size).sum) + (x.Ctors.length + (x.Ctors.map VCtor.wt).sum) := by
  cases x
  simp only [VData.wt, VData.Name, VData.Vars, VData.Ctors, VData.Pos]
theorem VData.facts {l : List VData} {b : Nat} (h : (l.map VData.wt).sum ≤ b) : ∀ x ∈ l, x.wt ≤ b ∧ x.wt = x.Name.size + (x.Vars.length + (x.Vars.map fun x => x.size).sum) + (x.Ctors.length + (x.Ctors.map VCtor.wt).sum) := fun x hx => ⟨Nat.le_trans (le_sum VData.wt hx) h, x.wt_eq⟩
theorem VData.ok_iff (x : VData) : x.ok ↔ (∀ y ∈ x.Ctors, y.ok) ∧ inR x.Pos := by
  cases x
  simp only [VData.ok, VData.Name, VData.Vars, VData.Ctors, VData.Pos]
inductive VProg where
  | mk (Types : List VData) (Body : VExp)
def VProg.Types : VProg → List VData
  | .mk a _ => a
def VProg.Body : VProg → VExp
  | .mk _ a => a
def VProg.cs : VProg → List AV
  | .mk Types Body => (.sl (Types.map VData.av) :: (Body.cs ++ []))
def VProg.av (x : VProg) : AV := .agg x.cs
def VProg.wt : VProg → Nat
  | .mk Types Body => (Types.length + (Types.map VData.wt).sum) + Body.wt
def VProg.ok : VProg → Prop
  | .mk Types Body => (∀ y ∈ Types, y.ok) ∧ Body.ok
theorem VProg.norefsC : ∀ x : VProg, AV.norefs x.cs = true
  | .mk Types Body => by simp [VProg.cs, AV.norefs, AV.noref, norefs_append, norefsM (f := VData.av) (l := Types) VData.noref, VExp.norefsC Body]
theorem VProg.noref (x : VProg) : x.av.noref = true   := VProg.norefsC x
theorem VProg.isAgg (x : VProg) : x.av.isAgg = true := nr rfl
theorem VProg.cs_eq (x : VProg) : x.cs = [.sl (x.Types.map VData.av), .v (.int .i64 x.Body.Kind), .v (.string x.Body.Name), .v (.int .i64 x.Body.Num), .v (.string x.Body.Text), .v (.int .i64 x.Body.Pos), .sl (x.Body.Kids.map VExp.av), .sl (x.Body.Arms.map VArm.av)] := by
  obtain ⟨Types, ⟨Body_Kind, Body_Name, Body_Num, Body_Text, Body_Pos, Body_Kids, Body_Arms⟩⟩ := x
  simp only [VExp.cs, VProg.cs, VExp.Arms, VExp.Kids, VExp.Kind, VExp.Name, VExp.Num, VExp.Pos, VExp.Text, VProg.Body, VProg.Types, VArm.avs_eq, VExp.avs_eq, List.cons_append, List.nil_append]
theorem VProg.cells (x : VProg) : x.av.cells = [.sl (x.Types.map VData.av), .v (.int .i64 x.Body.Kind), .v (.string x.Body.Name), .v (.int .i64 x.Body.Num), .v (.string x.Body.Text), .v (.int .i64 x.Body.Pos), .sl (x.Body.Kids.map VExp.av), .sl (x.Body.Arms.map VArm.av)] := VProg.cs_eq x
theorem VProg.width (x : VProg) : x.av.cells.length = 8 := by rw [VProg.cells]; rfl
theorem VProg.storable (x : VProg) : x.av.storable = true := by unfold AV.storable; rw [VProg.cells]; rfl
theorem VProg.eta (x : VProg) : AV.agg [.sl (x.Types.map VData.av), .v (.int .i64 x.Body.Kind), .v (.string x.Body.Name), .v (.int .i64 x.Body.Num), .v (.string x.Body.Text), .v (.int .i64 x.Body.Pos), .sl (x.Body.Kids.map VExp.av), .sl (x.Body.Arms.map VArm.av)] = x.av := by
  show _ = AV.agg x.cs
  rw [VProg.cs_eq]
theorem VProg.load_Body (x : VProg) : loadC (some 7) x.av 1 = x.Body.av := by
  unfold loadC
  simp only
  rw [if_neg (fun h => by have := h.2.2; rw [VProg.width] at this; omega), VProg.cells]
  exact VExp.eta _
theorem VProg.wt_eq (x : VProg) : x.wt = (x.Types.length + (x.Types.map VData.wt).sum) + x.Body.wt := by
  cases x
  simp only [VProg.wt, VProg.Types, VProg.Body]
theorem VProg.ok_iff (x : VProg) : x.ok ↔ (∀ y ∈ x.Types, y.ok) ∧ x.Body.ok := by
  cases x
  simp only [VProg.ok, VProg.Types, VProg.Body]
inductive VTy where
  | mk (Kind : Int) (N : Int) (Name : ByteArray) (Kids : List VTy)
def VTy.N : VTy → Int
  | .mk _ a _ _ => a
inductive VCPat where
  | mk (Kind : Int) (Num : Int) (Name : ByteArray) (T : VTy) (Kids : List VCPat)
mutual
inductive VCore where
  | mk (Kind : Int) (N : Int) (Num : Int) (Text : ByteArray) (Name : ByteArray) (T : VTy) (Ts : List VTy) (Kids : List VCore) (Arms : List VCArm)
inductive VCArm where
  | mk (P : VCPat) (E : VCore)
end
def VCore.N : VCore → Int
  | .mk _ a _ _ _ _ _ _ _ => a
def VCore.Ts : VCore → List VTy
  | .mk _ _ _ _ _ _ a _ _ => a
inductive VKVal where
  | mk (Kind : Int) (N : Int) (Num : Int) (Text : ByteArray)
def VKVal.N : VKVal → Int
  | .mk _ a _ _ => a
inductive VKTerm where
  | mk (Kind : Int) (Name : ByteArray) (N : Int) (Num : Int) (T : VTy) (Ts : List VTy) (Vs : List VKVal) (Kids : List VKTerm)
def VKTerm.N : VKTerm → Int
  | .mk _ _ a _ _ _ _ _ => a
def VKTerm.Ts : VKTerm → List VTy
  | .mk _ _ _ _ _ a _ _ => a
def VKTerm.Vs : VKTerm → List VKVal
  | .mk _ _ _ _ _ _ a _ => a
inductive VInstr where
  | mk (Op : Int) (A : Int) (B : Int) (C : Int) (N : Int) (Text : ByteArray)
def VInstr.Op : VInstr → Int
  | .mk a _ _ _ _ _ => a
def VInstr.A : VInstr → Int
  | .mk _ a _ _ _ _ => a
def VInstr.B : VInstr → Int
  | .mk _ _ a _ _ _ => a
def VInstr.C : VInstr → Int
  | .mk _ _ _ a _ _ => a
def VInstr.N : VInstr → Int
  | .mk _ _ _ _ a _ => a
end Go.Ab
/-
  THE FUNCTIONS OF PACKAGE slices, once for all element types; loops with what holds at each round.
-/
namespace Go.Ab
set_option maxRecDepth 100000
section
variable {P : Program} {L : AX → SS → List AV → Prop} {R : AV → Prop} {t : T} {r : List AV} {S : List (List AV → Prop)}
/-- a loop that counts up, with what holds at each round -/
theorem loop_inv {init : List AV} (n : Nat) (I : Nat → Prop) (σ : Nat → List AV) (h0 : init = σ 0) (hI : I 0)
    (hr : ∀ i, i ≤ n → I i → wpT P L R t (r ++ σ i) ((fun vs => i < n ∧ I (i + 1) ∧ vs = σ (i + 1)) :: S)) : loopT P L R init t r S := by
  refine loop_intro (ι := Nat) (fun i => i ≤ n ∧ I i) σ (fun i => n - i) 0 ⟨Nat.zero_le _, hI⟩ h0 fun i hi => ?_
  refine wpT_mono (fun _ _ _ h => h) (fun _ h => h) t (.cons (fun vs hv => ?_) (.refl _)) (hr i hi.1 hi.2)
  exact ⟨i + 1, ⟨hv.1, hv.2.1⟩, by have := hv.1; omega, hv.2.2⟩
end
theorem dropC {α : Type} {l : List α} {i : Nat} (h : i < l.length) : l.drop i = l[i] :: l.drop (i + 1) := List.drop_eq_getElem_cons h
theorem dropE {α : Type} (l : List α) : l.drop l.length = [] := List.drop_length
/-- the first place from k on that passes -/
def idxR {α : Type} (p : α → Bool) : List α → Nat → Int
  | [], _ => -1
  | x :: r, k => if p x = true then (k : Int) else idxR p r (k + 1)
theorem idxR_any {α : Type} (p : α → Bool) : ∀ (l : List α) (k : Nat), decide (0 ≤ idxR p l k) = l.any p
  | [], _ => by simp [idxR]
  | x :: r, k => by
    unfold idxR
    by_cases h : p x = true
    · simp [h]
    · simp only [h, List.any_cons]; rw [if_neg (by simp), idxR_any p r (k + 1)]; simp
def TidxF (s : Nat) : T :=
.bind 0 (
 .op (.lenL (.x 0)) (
 .loop [(.c (.v (.int .i64 0)))] (
  .op (.bin .lss (.x 3) (.x 2)) (
  .ite (.x 4)
   (.op (.elem s (.x 0) (.x 3)) (
   .chk (.cells (.x 5) s) (
   .op (.callv (.x 1) [(.x 5)] false) (
   .ite (.x 6)
    (.esc (.esc (.ret [(.x 3)])))
    (.op (.bin .add (.x 3) (.c (.v (.int .i64 1)))) (
    .jump [(.x 7)]))))))
   (.esc (.jump [])))))) (
.ret [(.c (.v (.int .i64 (-1))))])
theorem idxF_T {P : Program} {L : AX → SS → List AV → Prop} {α : Type} {av : α → AV} {s : Nat} {g : FuncId} {caps : List AV} {l : List α} (p : α → Bool) (hs : ∀ x, (av x).isAgg = true ∧ (av x).cells.length = s ∧ (av x).storable = true)
    (hl : l.length ≤ 1073741824) (hc : ∀ x ∈ l, PCon P g (av x :: caps) (.v (.bool (p x)))) :
    wpT P L (fun a => a = .v (.int .i64 (idxR p l 0))) (TidxF s) [.sl (l.map av), .fn g caps] [] := by
  simp only [TidxF, WA, Nat.reduceEqDiff, Nat.reduceAdd, Nat.reduceLT, Nat.reduceLeDiff, Nat.reduceMul, reduceIte, reduceCtorEq, Int.reduceEq, Int.reduceLT, Int.reduceLE, Int.reduceNe]
  refine bind_push ?_
  simp only [WA, Nat.reduceEqDiff, Nat.reduceAdd, Nat.reduceLT, Nat.reduceLeDiff, Nat.reduceMul, reduceIte, reduceCtorEq, Int.reduceEq, Int.reduceLT, Int.reduceLE, Int.reduceNe]
  refine loop_inv l.length (fun i => idxR p l 0 = idxR p (l.drop i) i) (fun i => [.v (.int .i64 i)]) rfl rfl fun i hi hI => ?_
  simp only [WA, Nat.reduceEqDiff, Nat.reduceAdd, Nat.reduceLT, Nat.reduceLeDiff, Nat.reduceMul, reduceIte, reduceCtorEq, Int.reduceEq, Int.reduceLT, Int.reduceLE, Int.reduceNe]
  refine ite_dec (fun h => ?_) (fun h => ?_)
  · have hlt : i < l.length := by omega
    obtain ⟨x1, x2, x3⟩ := hs l[i]
    rw [dropC hlt, idxR] at hI
    simp only [WA, Nat.reduceEqDiff, Nat.reduceAdd, Nat.reduceLT, Nat.reduceLeDiff, Nat.reduceMul, reduceIte, reduceCtorEq, Int.reduceEq, Int.reduceLT, Int.reduceLE, Int.reduceNe]
    refine elemM av hlt x2 ?_
    simp only [x1, x2, x3, WA, Nat.reduceEqDiff, Nat.reduceAdd, Nat.reduceLT, Nat.reduceLeDiff, Nat.reduceMul, reduceIte, reduceCtorEq, Int.reduceEq, Int.reduceLT, Int.reduceLE, Int.reduceNe]
    refine call_v (hc _ (List.getElem_mem hlt)) ?_
    simp only [WA, Nat.reduceEqDiff, Nat.reduceAdd, Nat.reduceLT, Nat.reduceLeDiff, Nat.reduceMul, reduceIte, reduceCtorEq, Int.reduceEq, Int.reduceLT, Int.reduceLE, Int.reduceNe]
    refine ite_intro (fun h => ?_) (fun h => ?_)
    · simp only [h, if_pos] at hI
      simp only [hI, WA, Nat.reduceEqDiff, Nat.reduceAdd, Nat.reduceLT, Nat.reduceLeDiff, Nat.reduceMul, reduceIte, reduceCtorEq, Int.reduceEq, Int.reduceLT, Int.reduceLE, Int.reduceNe]
    · simp only [h] at hI
      simp (disch := omega) only [wrapA1, WA, Nat.reduceEqDiff, Nat.reduceAdd, Nat.reduceLT, Nat.reduceLeDiff, Nat.reduceMul, reduceIte, reduceCtorEq, Int.reduceEq, Int.reduceLT, Int.reduceLE, Int.reduceNe]
      exact ⟨hlt, by simpa using hI⟩
  · have he : i = l.length := by omega
    subst he
    rw [dropE, idxR] at hI
    simp only [hI, WA, Nat.reduceEqDiff, Nat.reduceAdd, Nat.reduceLT, Nat.reduceLeDiff, Nat.reduceMul, reduceIte, reduceCtorEq, Int.reduceEq, Int.reduceLT, Int.reduceLE, Int.reduceNe]
def TanyF (f : FuncId) (fl : Bool) : T :=
.op (.call f [(.x 0), (.x 1)] fl) (
.op (.bin .geq (.x 2) (.c (.v (.int .i64 0)))) (
.ret [(.x 3)]))
theorem anyF_T {fl : Bool} {P : Program} {L : AX → SS → List AV → Prop} {α : Type} {a b : AV} {f : FuncId} {l : List α} {p : α → Bool} (hc : PCon P f [a, b] (.v (.int .i64 (idxR p l 0)))) :
    wpT P L (fun r => r = .v (.bool (l.any p))) (TanyF f fl) [a, b] [] := by
  simp only [TanyF, WA, Nat.reduceEqDiff, Nat.reduceAdd, Nat.reduceLT, Nat.reduceLeDiff, Nat.reduceMul, reduceIte, reduceCtorEq, Int.reduceEq, Int.reduceLT, Int.reduceLE, Int.reduceNe]
  refine call_v hc ?_
  simp only [idxR_any, WA, Nat.reduceEqDiff, Nat.reduceAdd, Nat.reduceLT, Nat.reduceLeDiff, Nat.reduceMul, reduceIte, reduceCtorEq, Int.reduceEq, Int.reduceLT, Int.reduceLE, Int.reduceNe]
def TidxE : T :=
.bind 0 (
 .op (.lenL (.x 0)) (
 .loop [(.c (.v (.int .i64 0)))] (
  .op (.bin .lss (.x 3) (.x 2)) (
  .ite (.x 4)
   (.op (.elem 1 (.x 0) (.x 3)) (
   .chk (.lt (.x 5) 0) (
   .op (.bin .eql (.x 1) (.cell 5 0)) (
   .ite (.x 6)
    (.esc (.esc (.ret [(.x 3)])))
    (.op (.bin .add (.x 3) (.c (.v (.int .i64 1)))) (
    .jump [(.x 7)]))))))
   (.esc (.jump [])))))) (
.ret [(.c (.v (.int .i64 (-1))))])
theorem idxE_T {P : Program} {L : AX → SS → List AV → Prop} {α : Type} [DecidableEq α] {g : α → Value} {l : List α} {x : α} (hg : ∀ (x y : α) (K : AV → Prop), goT K (.v (.bool (decide (x = y)))) → binT .eql (.v (g x)) (.v (g y)) K)
    (hl : l.length ≤ 1073741824) : wpT P L (fun a => a = .v (.int .i64 (idxR (fun y => decide (x = y)) l 0))) TidxE [.sl (l.map fun y => .v (g y)), .v (g x)] [] := by
  simp only [TidxE, WA, Nat.reduceEqDiff, Nat.reduceAdd, Nat.reduceLT, Nat.reduceLeDiff, Nat.reduceMul, reduceIte, reduceCtorEq, Int.reduceEq, Int.reduceLT, Int.reduceLE, Int.reduceNe]
  refine bind_push ?_
  simp only [WA, Nat.reduceEqDiff, Nat.reduceAdd, Nat.reduceLT, Nat.reduceLeDiff, Nat.reduceMul, reduceIte, reduceCtorEq, Int.reduceEq, Int.reduceLT, Int.reduceLE, Int.reduceNe]
  refine loop_inv l.length (fun i => idxR (fun y => decide (x = y)) l 0 = idxR (fun y => decide (x = y)) (l.drop i) i) (fun i => [.v (.int .i64 i)]) rfl rfl fun i hi hI => ?_
  simp only [WA, Nat.reduceEqDiff, Nat.reduceAdd, Nat.reduceLT, Nat.reduceLeDiff, Nat.reduceMul, reduceIte, reduceCtorEq, Int.reduceEq, Int.reduceLT, Int.reduceLE, Int.reduceNe]
  refine ite_dec (fun h => ?_) (fun h => ?_)
  · have hlt : i < l.length := by omega
    rw [dropC hlt, idxR] at hI
    simp only [WA, Nat.reduceEqDiff, Nat.reduceAdd, Nat.reduceLT, Nat.reduceLeDiff, Nat.reduceMul, reduceIte, reduceCtorEq, Int.reduceEq, Int.reduceLT, Int.reduceLE, Int.reduceNe]
    refine elemM (fun y => .v (g y)) hlt rfl ?_
    simp only [WA, Nat.reduceEqDiff, Nat.reduceAdd, Nat.reduceLT, Nat.reduceLeDiff, Nat.reduceMul, reduceIte, reduceCtorEq, Int.reduceEq, Int.reduceLT, Int.reduceLE, Int.reduceNe]
    refine hg _ _ _ ?_
    simp only [WA, Nat.reduceEqDiff, Nat.reduceAdd, Nat.reduceLT, Nat.reduceLeDiff, Nat.reduceMul, reduceIte, reduceCtorEq, Int.reduceEq, Int.reduceLT, Int.reduceLE, Int.reduceNe]
    refine ite_dec (fun h => ?_) (fun h => ?_)
    · rw [if_pos (decide_eq_true h)] at hI
      simp only [hI, WA, Nat.reduceEqDiff, Nat.reduceAdd, Nat.reduceLT, Nat.reduceLeDiff, Nat.reduceMul, reduceIte, reduceCtorEq, Int.reduceEq, Int.reduceLT, Int.reduceLE, Int.reduceNe]
    · rw [if_neg (by simpa using h)] at hI
      simp (disch := omega) only [wrapA1, WA, Nat.reduceEqDiff, Nat.reduceAdd, Nat.reduceLT, Nat.reduceLeDiff, Nat.reduceMul, reduceIte, reduceCtorEq, Int.reduceEq, Int.reduceLT, Int.reduceLE, Int.reduceNe]
      exact ⟨hlt, hI⟩
  · have he : i = l.length := by omega
    subst he
    rw [dropE, idxR] at hI
    simp only [hI, WA, Nat.reduceEqDiff, Nat.reduceAdd, Nat.reduceLT, Nat.reduceLeDiff, Nat.reduceMul, reduceIte, reduceCtorEq, Int.reduceEq, Int.reduceLT, Int.reduceLE, Int.reduceNe]
theorem eqlS (x y : ByteArray) (K : AV → Prop) (h : goT K (.v (.bool (decide (x = y))))) : binT .eql (.v (.string x)) (.v (.string y)) K := by rw [b_seql]; exact h
end Go.Ab
/-
  LOOPS OVER LISTS AND BYTES: what is left is what the list's rest asks.
-/
namespace Go.Ab
set_option maxRecDepth 100000
theorem not_any {α : Type} (p : α → Bool) (l : List α) : (!(l.any fun y => !p y)) = l.all p := by
  induction l with
  | nil => rfl
  | cons x l ih => simp only [List.any_cons, List.all_cons, ← ih]; cases p x <;> simp
theorem exists3 {α β γ : Type} {p : α × β × γ → Prop} (a : α) (b : β) (c : γ) (h : p (a, b, c)) : ∃ x, p x := ⟨_, h⟩
theorem avb {a b : Bool} (h : a = true ↔ b = true) : AV.v (.bool a) = AV.v (.bool b) := by rw [Bool.eq_iff_iff.2 h]
section
variable {P : Program} {L : AX → SS → List AV → Prop} {R : AV → Prop} {t : T} {r : List AV} {S : List (List AV → Prop)}
/-- a loop over a list: G tells what is still asked, of the rest and of what is kept -/
theorem loop_list {α β : Type} {init : List AV} (l : List α) (σ : Nat → β → List AV) (G : Nat → List α → β → Prop) (b0 : β) (h0 : init = σ 0 b0) (hG : G 0 l b0)
    (hc : ∀ (i : Nat) (x : α) (rest : List α) (b : β), i < l.length → l[i]? = some x → x ∈ l → (∀ (f : α → AV) (s : Nat) (k : IntKind) (K : AV → Prop), (f x).cells.length = s → elemP s (.sl (l.map f)) (.v (.int k (i : Int))) K = goT K (f x)) →
      decide ((i : Int) < (l.length : Int)) = true → G i (x :: rest) b → wpT P L R t (r ++ σ i b) ((fun vs => i < l.length ∧ ∃ b', G (i + 1) rest b' ∧ vs = σ (i + 1) b') :: S))
    (he : ∀ b, decide ((l.length : Int) < (l.length : Int)) = false → G l.length [] b → wpT P L R t (r ++ σ l.length b) ((fun _ => False) :: S)) : loopT P L R init t r S := by
  refine loop_intro (ι := Nat × β) (fun q => q.1 ≤ l.length ∧ G q.1 (l.drop q.1) q.2) (fun q => σ q.1 q.2) (fun q => l.length - q.1) (0, b0) ⟨Nat.zero_le _, hG⟩ h0 fun q hq => ?_
  obtain ⟨i, b⟩ := q
  obtain ⟨hi, hg⟩ := hq
  rcases Nat.lt_or_ge i l.length with h | h
  · have hg : G i (l[i] :: l.drop (i + 1)) b := by rw [← dropC h]; exact hg
    refine wpT_mono (fun _ _ _ h => h) (fun _ h => h) t (.cons (fun vs hv => ?_) (.refl _)) (hc i l[i] (l.drop (i + 1)) b h (List.getElem?_eq_getElem h) (List.getElem_mem h) (fun f s k K hs => ?_) (by simp; exact h) hg)
    · obtain ⟨_, b', h1, h2⟩ := hv
      exact ⟨(i + 1, b'), ⟨h, h1⟩, by simp only; omega, h2⟩
    · unfold elemP
      have hx : (l.map f).getD (Int.toNat (i : Int)) .top = f l[i] := by simp [List.getD, h]
      simp only [hx, hs, true_and, goT]
      exact propext ⟨fun q => q.2.2, fun q => ⟨Int.natCast_nonneg i, by simp; exact h, q⟩⟩
  · have he' : i = l.length := by simp only at hi; omega
    subst he'
    have hg : G l.length [] b := by simpa using hg
    refine wpT_mono (fun _ _ _ h => h) (fun _ h => h) t (.cons (fun vs hv => hv.elim) (.refl _)) (he b (by simp) hg)
/-- the same, with what is known of each -/
theorem loop_listF {α β : Type} {init : List AV} (l : List α) (σ : Nat → β → List AV) (G : Nat → List α → β → Prop) (b0 : β) {F : α → Prop} (hF : ∀ x ∈ l, F x) (h0 : init = σ 0 b0) (hG : G 0 l b0)
    (hc : ∀ (i : Nat) (x : α) (rest : List α) (b : β), i < l.length → l[i]? = some x → x ∈ l → (∀ (f : α → AV) (s : Nat) (k : IntKind) (K : AV → Prop), (f x).cells.length = s → elemP s (.sl (l.map f)) (.v (.int k (i : Int))) K = goT K (f x)) →
      decide ((i : Int) < (l.length : Int)) = true → F x → G i (x :: rest) b → wpT P L R t (r ++ σ i b) ((fun vs => i < l.length ∧ ∃ b', G (i + 1) rest b' ∧ vs = σ (i + 1) b') :: S))
    (he : ∀ b, decide ((l.length : Int) < (l.length : Int)) = false → G l.length [] b → wpT P L R t (r ++ σ l.length b) ((fun _ => False) :: S)) : loopT P L R init t r S :=
  loop_list l σ G b0 h0 hG (fun i x rest b hi hx hm hel hd hg => hc i x rest b hi hx hm hel hd (hF x hm) hg) he
/-- a string's bytes -/
def bs (s : ByteArray) : List Int := s.data.toList.map fun b => (b.toNat : Int)
theorem bs_len (s : ByteArray) : (bs s).length = s.size := by simp [bs]
theorem bs_range {s : ByteArray} {c : Int} (h : c ∈ bs s) : 0 ≤ c ∧ c < 256 := by
  simp only [bs, List.mem_map] at h
  obtain ⟨b, _, rfl⟩ := h
  exact ⟨by omega, by have := b.toNat_lt; omega⟩
theorem idxB {s : ByteArray} {i : Nat} {k : IntKind} {K : AV → Prop} (h : i < (bs s).length) (hk : goT K (.v (.int .u8 (bs s)[i]))) : idxT (.v (.string s)) (.v (.int k (i : Int))) K := by
  rw [i_idx]
  have hl := bs_len s
  refine ⟨by omega, by omega, ?_⟩
  have : (((s.data.toList.getD (Int.toNat (i : Int)) 0).toNat : Nat) : Int) = (bs s)[i] := by
    simp only [bs, Int.toNat_natCast, List.getElem_map, List.getD]
    have h1 : i < s.data.toList.length := by simpa [bs] using h
    rw [List.getElem?_eq_getElem h1]; rfl
  rw [this]; exact hk
theorem idxX {s : ByteArray} {i : Nat} {c : Int} (h : (bs s)[i]? = some c) (k : IntKind) (K : AV → Prop) : idxT (.v (.string s)) (.v (.int k (i : Int))) K = goT K (.v (.int .u8 c)) := by
  have hl := bs_len s
  obtain ⟨h1, h2⟩ := List.getElem?_eq_some_iff.1 h
  refine propext ⟨fun q => ?_, fun q => idxB h1 (by rw [h2]; exact q)⟩
  rw [i_idx] at q
  have q := q.2.2
  have : (((s.data.toList.getD (Int.toNat (i : Int)) 0).toNat : Nat) : Int) = c := by
    rw [← h2]
    simp only [bs, Int.toNat_natCast, List.getElem_map, List.getD]
    have h1 : i < s.data.toList.length := by simpa [bs] using h1
    rw [List.getElem?_eq_getElem h1]; rfl
  rw [this] at q; exact q
theorem wrap8 {c : Int} (h : 0 ≤ c) (h' : c < 256) : IntKind.i64.wrap c = c := wrapI (by omega) (by omega)
/-- a loop over the bytes of a string -/
theorem loop_bytes {β : Type} {init : List AV} (s : ByteArray) (σ : Nat → β → List AV) (G : Nat → List Int → β → Prop) (b0 : β) (h0 : init = σ 0 b0) (hG : G 0 (bs s) b0)
    (hc : ∀ (i : Nat) (c : Int) (rest : List Int) (b : β), i < s.size → (bs s)[i]? = some c → c ∈ bs s → (∀ (k : IntKind) (K : AV → Prop), idxT (.v (.string s)) (.v (.int k (i : Int))) K = goT K (.v (.int .u8 c))) →
      decide ((i : Int) < (s.size : Int)) = true → 0 ≤ c → c < 256 → IntKind.i64.wrap c = c → G i (c :: rest) b → wpT P L R t (r ++ σ i b) ((fun vs => i < s.size ∧ ∃ b', G (i + 1) rest b' ∧ vs = σ (i + 1) b') :: S))
    (he : ∀ b, decide ((s.size : Int) < (s.size : Int)) = false → G s.size [] b → wpT P L R t (r ++ σ s.size b) ((fun _ => False) :: S)) : loopT P L R init t r S := by
  have hl := bs_len s
  refine loop_list (bs s) σ G b0 h0 hG (fun i c rest b hi hx hm _ hd hg => ?_) (fun b hd hg => ?_)
  · obtain ⟨c0, c1⟩ := bs_range hm
    rw [hl] at hi hd
    rw [hl]
    exact hc i c rest b hi hx hm (idxX hx) hd c0 c1 (wrap8 c0 c1) hg
  · rw [hl] at hd hg ⊢
    exact he b hd hg
end
/- functions whose code the walk does not cover, by contracts in the model's own words -/
theorem enters_of {P : Program} {f : FuncId} (h : (match P.funcs[f]? with | some fn => fn.body.isSome && !(fn.name == "runtime.NumGoroutine") | none => false) = true) : Enters P f := by
  cases hf : P.funcs[f]? with
  | none => rw [hf] at h; cases h
  | some fn =>
    rw [hf] at h
    simp only [Bool.and_eq_true] at h
    exact ⟨fn, hf, h.1, by simpa using h.2⟩
theorem R.v_inv {I : Imm} {L : Nat → Loc} {O : List AObj} {a x : Value} (h : R I L O (.v a) x) : x = a := by cases h; rfl
end Go.Ab
/-
  AN ELEMENT AT A PLACE THAT IS KNOWN.
-/
namespace Go.Ab
set_option maxRecDepth 100000
theorem elem_at (n : Nat) {α : Type} {l : List α} {x : α} (hx : l[n]? = some x) (f : α → AV) (s : Nat) (k : IntKind) (K : AV → Prop) (hs : (f x).cells.length = s) :
    elemP s (.sl (l.map f)) (.v (.int k (n : Int))) K = goT K (f x) := by
  have hl : n < l.length := (List.getElem?_eq_some_iff.1 hx).1
  unfold elemP
  have hx' : (l.map f).getD (Int.toNat (n : Int)) .top = f x := by simp [List.getD, hx]
  simp only [hx', hs, true_and, goT]
  exact propext ⟨fun q => q.2.2, fun q => ⟨Int.natCast_nonneg n, by simp; exact hl, q⟩⟩
theorem elem_0 {α : Type} {l : List α} {x : α} (hx : l[0]? = some x) (f : α → AV) (s : Nat) (k : IntKind) (K : AV → Prop) (hs : (f x).cells.length = s) :
    elemP s (.sl (l.map f)) (.v (.int k 0)) K = goT K (f x) := elem_at 0 hx f s k K hs
theorem elem_1 {α : Type} {l : List α} {x : α} (hx : l[1]? = some x) (f : α → AV) (s : Nat) (k : IntKind) (K : AV → Prop) (hs : (f x).cells.length = s) :
    elemP s (.sl (l.map f)) (.v (.int k 1)) K = goT K (f x) := elem_at 1 hx f s k K hs
theorem elem_2 {α : Type} {l : List α} {x : α} (hx : l[2]? = some x) (f : α → AV) (s : Nat) (k : IntKind) (K : AV → Prop) (hs : (f x).cells.length = s) :
    elemP s (.sl (l.map f)) (.v (.int k 2)) K = goT K (f x) := elem_at 2 hx f s k K hs
theorem get_0 {α : Type} {l : List α} (h : 0 < l.length) : l[0]? = some l[0] := List.getElem?_eq_getElem h
theorem get_1 {α : Type} {l : List α} (h : 1 < l.length) : l[1]? = some l[1] := List.getElem?_eq_getElem h
theorem get_2 {α : Type} {l : List α} (h : 2 < l.length) : l[2]? = some l[2] := List.getElem?_eq_getElem h
theorem list_1 {α : Type} {l : List α} (h : l.length = 1) : ∃ a, l = [a] := List.length_eq_one_iff.1 h
end Go.Ab
/-
  DOORS: the library's functions that read a table or build texts, by the contracts of the shelf; texts laid side by side.
-/
namespace Go.Ab
set_option maxRecDepth 100000
theorem PCon.of_below {P : Program} {f : FuncId} {args : List AV} {y : Value} (he : Enters P f) (hy : y.oneCell' = true)
    (h : ∀ I L w vs, Inv I L [] w → RL I L [] args vs → Calls P f vs w fun e w' => e = .returned y ∧ RowKit.Below w.heap.size w w') : PCon P f args (.v y) := by
  refine ⟨he, fun I L w vs hi hr => (h I L w vs hi hr).mono ?_⟩
  rintro e w' ⟨h1, hb⟩
  refine ⟨y, I, L, h1, .v y hy, ⟨⟨fun b o x hx => ?_, by simp, by simp, by simp, hi.fix, hi.blk_frm (fun b hb' _ => hb.block b hb') (fun _ _ _ h => h)⟩, .refl _ _ _, ⟨hb.os, hb.tape, hb.output, hb.size, fun b hb' _ => hb.block b hb'⟩, fun _ h => .inl h, fun _ _ _ h => .inl h⟩⟩
  have := hi.imm b o x hx
  rw [← this]
  exact World.cell?_of_block (a := ⟨b, o, none⟩) (hb.block b (cell_block this))
/-- the table of the powers of ten lies where it lay -/
theorem Inv.tab {P : Program} {I : Imm} {L : Nat → Loc} {O : List AObj} {w : World} (hi : Inv I L O w) (hg : P.globalNamed "internal/strconv.uint64pow10" = some 0) : Lib.TabIs P w "internal/strconv.uint64pow10" .u64 Lib.pow10Tab := by
  obtain ⟨h1, _⟩ := hi.blk (0, 20) (List.mem_of_getElem? (i := 0) rfl)
  unfold blkSize at h1
  split at h1
  case h_2 => cases h1
  rename_i c e f hc
  simp only [Option.some.injEq] at h1
  have hz : ∀ k v, fixedCells[k]? = some (0, k, v) → c[k]? = some v := fun k v hk => by
    have := hi.imm 0 k v (hi.fix _ (List.mem_of_getElem? hk))
    rw [cell_cells hc] at this
    exact this
  unfold Lib.TabIs World.var?
  rw [hg]
  simp only [Option.bind_some, hc, Option.some.injEq]
  apply Array.ext
  · simp [h1, Lib.pow10Tab]
  · intro k hk1 hk2
    have hk : k < 20 := by omega
    have : c[k]? = some ((Lib.pow10Tab.map fun z => Value.int .u64 z).toArray[k]) := by
      clear hk1
      match k, hk, hk2 with
      | 0, _, _ => exact hz 0 _ rfl
      | 1, _, _ => exact hz 1 _ rfl
      | 2, _, _ => exact hz 2 _ rfl
      | 3, _, _ => exact hz 3 _ rfl
      | 4, _, _ => exact hz 4 _ rfl
      | 5, _, _ => exact hz 5 _ rfl
      | 6, _, _ => exact hz 6 _ rfl
      | 7, _, _ => exact hz 7 _ rfl
      | 8, _, _ => exact hz 8 _ rfl
      | 9, _, _ => exact hz 9 _ rfl
      | 10, _, _ => exact hz 10 _ rfl
      | 11, _, _ => exact hz 11 _ rfl
      | 12, _, _ => exact hz 12 _ rfl
      | 13, _, _ => exact hz 13 _ rfl
      | 14, _, _ => exact hz 14 _ rfl
      | 15, _, _ => exact hz 15 _ rfl
      | 16, _, _ => exact hz 16 _ rfl
      | 17, _, _ => exact hz 17 _ rfl
      | 18, _, _ => exact hz 18 _ rfl
      | 19, _, _ => exact hz 19 _ rfl
      | k + 20, hk, _ => exact absurd hk (by omega)
    rw [Array.getElem?_eq_getElem hk1] at this
    exact Option.some.inj this
/-- a decimal numeral -/
def numB (n : Int) : ByteArray := ⟨(Lib.itoa n).toArray⟩
/-- texts with another between -/
def tailB (sep : ByteArray) : List ByteArray → ByteArray
  | [] => ⟨#[]⟩
  | y :: r => sep ++ y ++ tailB sep r
def joinB (sep : ByteArray) : List ByteArray → ByteArray
  | [] => ⟨#[]⟩
  | x :: r => x ++ tailB sep r
theorem bytes_ext {a b : ByteArray} (h : a.data.toList = b.data.toList) : a = b := by
  cases a with | mk a => cases b with | mk b =>
  cases a with | mk a => cases b with | mk b =>
  simp only at h
  rw [h]
theorem app_list (a b : ByteArray) : (a ++ b).data.toList = a.data.toList ++ b.data.toList := by simp
theorem empA (a : ByteArray) : (⟨#[]⟩ : ByteArray) ++ a = a := bytes_ext (by rw [app_list]; rfl)
theorem appE (a : ByteArray) : a ++ (⟨#[]⟩ : ByteArray) = a := bytes_ext (by rw [app_list]; simp)
theorem appA (a b c : ByteArray) : a ++ b ++ c = a ++ (b ++ c) := bytes_ext (by simp only [app_list, List.append_assoc])
theorem app_size (a b : ByteArray) : (a ++ b).size = a.size + b.size := by simp
theorem tailB_list (sep : ByteArray) : ∀ l : List ByteArray, (tailB sep l).data.toList = Lib.joinTail sep.data.toList (l.map (·.data.toList))
  | [] => rfl
  | y :: r => by
    rw [tailB, app_list, app_list, tailB_list sep r]
    simp [Lib.joinTail]
theorem joinB_lib (sep : ByteArray) (l : List ByteArray) : (⟨(Lib.join (l.map (·.data.toList)) sep.data.toList).toArray⟩ : ByteArray) = joinB sep l := by
  apply bytes_ext
  cases l with
  | nil => rfl
  | cons x r => rw [List.map_cons, Lib.join_cons, joinB, app_list, tailB_list]
/-- what a text is at most as long as -/
theorem tailB_size (sep : ByteArray) : ∀ l : List ByteArray, (tailB sep l).size = l.length * sep.size + (l.map ByteArray.size).sum
  | [] => by simp [tailB]; rfl
  | y :: r => by
    rw [tailB, app_size, app_size, tailB_size sep r]
    simp only [List.length_cons, List.map_cons, List.sum_cons, Nat.add_mul]
    omega
theorem joinB_size (sep : ByteArray) (l : List ByteArray) : (joinB sep l).size ≤ l.length * sep.size + (l.map ByteArray.size).sum := by
  cases l with
  | nil => exact Nat.zero_le _
  | cons x r =>
    rw [joinB, app_size, tailB_size]
    simp only [List.length_cons, List.map_cons, List.sum_cons, Nat.add_mul]
    omega
theorem rl_1 {I : Imm} {L : Nat → Loc} {a : AV} {vs : Array Value} (h : RL I L [] [a] vs) : ∃ x, vs = #[x] ∧ R I L [] a x := by
  obtain ⟨h1, h2⟩ := h
  match vs, h1 with
  | ⟨[x]⟩, _ => exact ⟨x, rfl, h2 0 a x rfl rfl⟩
theorem rl_2 {I : Imm} {L : Nat → Loc} {a b : AV} {vs : Array Value} (h : RL I L [] [a, b] vs) : ∃ x y, vs = #[x, y] ∧ R I L [] a x ∧ R I L [] b y := by
  obtain ⟨h1, h2⟩ := h
  match vs, h1 with
  | ⟨[x, y]⟩, _ => exact ⟨x, y, rfl, h2 0 a x rfl rfl, h2 1 b y rfl rfl⟩
/-- strings that lie as the contract's words say -/
theorem strings_at {I : Imm} {L : Nat → Loc} {w : World} {l : List ByteArray} {x : Value} (hi : Inv I L [] w) (hr : R I L [] (.sl (l.map avB)) x) :
    (l = [] ∧ ∃ a c, x = .slice a 0 c) ∨ ∃ bk o c, x = .slice (some ⟨bk, o, none⟩) l.length c ∧ l.length ≤ c ∧ bk < w.heap.size ∧ ∀ (j : Nat) y, l[j]? = some y → w.cell? ⟨bk, o + j, none⟩ = some (.string y) := by
  generalize ha : AV.sl (l.map avB) = a at hr
  cases hr with
  | sl0 a c =>
    refine .inl ⟨?_, a, c, rfl⟩
    simp only [AV.sl.injEq] at ha
    simpa using ha
  | sl xs blk off cap s vals h1 h2 h3 h4 h5 =>
    simp only [AV.sl.injEq] at ha
    subst ha
    have hne : l ≠ [] := by rintro rfl; exact h2 rfl
    have hs : s = 1 := by
      obtain ⟨y, r, rfl⟩ := List.exists_cons_of_ne_nil hne
      exact (h3 0 (avB y) rfl).symm
    subst hs
    have hc : ∀ (j : Nat) y, l[j]? = some y → w.cell? ⟨blk, off + j, none⟩ = some (.string y) := fun j y hy => by
      have hx : (l.map avB)[j]? = some (avB y) := by simp [hy]
      have q1 := h4 j (avB y) 0 (avB y) hx rfl
      have q2 := (h5 j (avB y) 0 (avB y) hx rfl).v_inv
      have q3 := hi.imm _ _ _ q1.1
      rw [q2] at q3
      simpa using q3
    refine .inr ⟨blk, off, cap, by simp, by simpa using h1, ?_, hc⟩
    obtain ⟨y, r, rfl⟩ := List.exists_cons_of_ne_nil hne
    exact cell_block (hc 0 y rfl)
  | v | nils | iptr | rowLive | rowNil | rowDead | ptrLive | ptrDead | fn | agg | tup | top => cases ha
end Go.Ab
/-
  NIL SLICES ARE EMPTY ONES, at any depth: what a contract says of the one it says of the other.
-/
namespace Go.Ab
set_option maxRecDepth 100000
end Go.Ab
