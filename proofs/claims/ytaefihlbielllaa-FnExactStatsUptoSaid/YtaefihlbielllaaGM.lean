/- Part of a proof: the functions that the law reaches, walked by the abstract logic of the texts Ab. -/
import Derived.Test.YtaefihlbielllaaAbM4
import Derived.Test.YtaefihlbielllaaAbM3
set_option linter.unusedVariables false
set_option linter.unusedSimpArgs false
set_option linter.defProp false
/-
  LISTS IN THE LAWS' OWN HELPERS, once for all element types: what is left of toXS, szXS, eqXS.
-/
namespace Go.Ab
set_option maxRecDepth 100000
theorem wrapI {n : Int} (h : -9223372036854775808 ≤ n) (h' : n ≤ 9223372036854775807) : IntKind.i64.wrap n = n := wrap_id h h'
theorem wrapS {a b : Nat} (h : b ≤ a) (h' : a ≤ 4611686018427387904) : IntKind.i64.wrap ((a : Int) - (b : Int)) = ((a - b : Nat) : Int) := by
  rw [wrapI (by omega) (by omega)]; omega
theorem wrapA {a b : Nat} (h : a + b ≤ 4611686018427387904) : IntKind.i64.wrap ((a : Int) + (b : Int)) = ((a + b : Nat) : Int) := by
  rw [wrapI (by omega) (by omega)]; omega
theorem wrapA1 {a : Nat} (h : a ≤ 4611686018427387904) : IntKind.i64.wrap ((a : Int) + 1) = ((a + 1 : Nat) : Int) := by
  rw [wrapI (by omega) (by omega)]; omega
theorem lt0 (n : Nat) : decide ((n : Int) < 0) = false := by simp
theorem getM {α : Type} (f : α → AV) {l : List α} {i : Nat} (h : i < l.length) : (l.map f)[i]? = some (f l[i]) := by simp [h]
theorem elemM {α : Type} (f : α → AV) {l : List α} {s n : Nat} {k : IntKind} {K : AV → Prop} (h : n < l.length) (hs : (f l[n]).cells.length = s) (hk : goT K (f l[n])) : elemP s (.sl (l.map f)) (.v (.int k (n : Int))) K :=
  elem_intro _ (getM f h) hs hk
theorem norefsM {α : Type} {f : α → AV} {l : List α} (h : ∀ x, (f x).noref = true) : AV.norefs (l.map f) = true := norefs_of fun a ha => by
  obtain ⟨x, _, rfl⟩ := List.mem_map.1 ha; exact h x
section
variable {P : Program} {L : AX → SS → List AV → Prop} {R : AV → Prop} {t : T} {r : List AV} {S : List (List AV → Prop)}
/-- a loop that counts up -/
theorem loop_up {init : List AV} (n : Nat) (σ : Nat → List AV) (h0 : init = σ 0)
    (hr : ∀ i, i ≤ n → wpT P L R t (r ++ σ i) ((fun vs => i < n ∧ vs = σ (i + 1)) :: S)) : loopT P L R init t r S := by
  refine loop_intro (ι := Nat) (fun i => i ≤ n) σ (fun i => n - i) 0 (Nat.zero_le _) h0 fun i hi => ?_
  refine wpT_mono (fun _ _ _ h => h) (fun _ h => h) t (.cons (fun vs hv => ?_) (.refl _)) (hr i hi)
  exact ⟨i + 1, hv.1, by have := hv.1; omega, hv.2⟩
end
def TszS (s : Nat) (f : FuncId) (fl : Bool) : T :=
.op (.lenL (.x 0)) (
.op (.bin .sub (.x 1) (.x 2)) (
.op (.bin .lss (.x 3) (.c (.v (.int .i64 0)))) (
.ite (.x 4)
 (.ret [(.c (.v (.int .i64 (-1))))])
 (.bind 1 (
  .loop [(.x 3), (.c (.v (.int .i64 0)))] (
   .op (.lenL (.x 0)) (
   .op (.bin .lss (.x 6) (.x 7)) (
   .ite (.x 8)
    (.op (.elem s (.x 0) (.x 6)) (
    .chk (.cells (.x 9) s) (
    .op (.call f [(.x 9), (.x 5)] fl) (
    .op (.bin .lss (.x 10) (.c (.v (.int .i64 0)))) (
    .ite (.x 11)
     (.esc (.esc (.ret [(.c (.v (.int .i64 (-1))))])))
     (.op (.bin .add (.x 6) (.c (.v (.int .i64 1)))) (
     .jump [(.x 10), (.x 12)])))))))
    (.esc (.jump [(.x 5)])))))) (
 .ret [(.x 5)])))))
theorem sum_take {α : Type} (wt : α → Nat) (l : List α) (i : Nat) (h : i < l.length) : ((l.take (i + 1)).map wt).sum = ((l.take i).map wt).sum + wt l[i] := by
  rw [List.take_add_one, List.getElem?_eq_getElem h]
  simp only [Option.toList_some, List.map_append, List.sum_append, List.map_cons, List.map_nil, List.sum_cons, List.sum_nil, Nat.add_zero]
theorem sum_le {α : Type} (wt : α → Nat) (l : List α) (i : Nat) : ((l.take i).map wt).sum ≤ (l.map wt).sum := by
  conv => rhs; rw [← List.take_append_drop i l]
  rw [List.map_append, List.sum_append]; omega
theorem szS_T {fl : Bool} {P : Program} {L : AX → SS → List AV → Prop} {α : Type} {av : α → AV} {wt : α → Nat} {s : Nat} {f : FuncId} {l : List α} (hs : ∀ x, (av x).isAgg = true ∧ (av x).cells.length = s ∧ (av x).storable = true)
    {b : Nat} (hb : l.length + (l.map wt).sum ≤ b) (hb' : b ≤ 1048576) (hc : ∀ x ∈ l, ∀ c : Nat, wt x ≤ c → c ≤ 1048576 → PCon P f [av x, .v (.int .i64 c)] (.v (.int .i64 (c - wt x : Nat)))) :
    wpT P L (fun a => a = .v (.int .i64 (b - (l.length + (l.map wt).sum) : Nat))) (TszS s f fl) [.sl (l.map av), .v (.int .i64 b)] [] := by
  simp (disch := omega) only [TszS, wrapS, lt0, WA, Nat.reduceEqDiff, Nat.reduceAdd, Nat.reduceLT, Nat.reduceLeDiff, Nat.reduceMul, reduceIte, reduceCtorEq, Int.reduceEq, Int.reduceLT, Int.reduceLE, Int.reduceNe]
  refine bind_cut [.v (.int .i64 (b - (l.length + (l.map wt).sum) : Nat))] rfl ?_ (by simp only [WA, Nat.reduceEqDiff, Nat.reduceAdd, Nat.reduceLT, Nat.reduceLeDiff, Nat.reduceMul, reduceIte, reduceCtorEq, Int.reduceEq, Int.reduceLT, Int.reduceLE, Int.reduceNe])
  simp only [WA, Nat.reduceEqDiff, Nat.reduceAdd, Nat.reduceLT, Nat.reduceLeDiff, Nat.reduceMul, reduceIte, reduceCtorEq, Int.reduceEq, Int.reduceLT, Int.reduceLE, Int.reduceNe]
  refine loop_up l.length (fun i => [.v (.int .i64 (b - (l.length + ((l.take i).map wt).sum) : Nat)), .v (.int .i64 i)]) (by simp) fun i hi => ?_
  simp only [WA, Nat.reduceEqDiff, Nat.reduceAdd, Nat.reduceLT, Nat.reduceLeDiff, Nat.reduceMul, reduceIte, reduceCtorEq, Int.reduceEq, Int.reduceLT, Int.reduceLE, Int.reduceNe]
  refine ite_dec (fun h => ?_) (fun h => ?_)
  · have hlt : i < l.length := by omega
    have h1 := sum_take wt l i hlt
    have h2 := sum_le wt l (i + 1)
    obtain ⟨x1, x2, x3⟩ := hs l[i]
    simp only [WA, Nat.reduceEqDiff, Nat.reduceAdd, Nat.reduceLT, Nat.reduceLeDiff, Nat.reduceMul, reduceIte, reduceCtorEq, Int.reduceEq, Int.reduceLT, Int.reduceLE, Int.reduceNe]
    refine elemM av hlt x2 ?_
    simp only [x1, x2, x3, WA, Nat.reduceEqDiff, Nat.reduceAdd, Nat.reduceLT, Nat.reduceLeDiff, Nat.reduceMul, reduceIte, reduceCtorEq, Int.reduceEq, Int.reduceLT, Int.reduceLE, Int.reduceNe]
    refine call_v (hc _ (List.getElem_mem hlt) _ (by omega) (by omega)) ?_
    simp (disch := omega) only [lt0, wrapA1, WA, Nat.reduceEqDiff, Nat.reduceAdd, Nat.reduceLT, Nat.reduceLeDiff, Nat.reduceMul, reduceIte, reduceCtorEq, Int.reduceEq, Int.reduceLT, Int.reduceLE, Int.reduceNe]
    exact ⟨hlt, by rw [h1, Nat.sub_sub, Nat.add_assoc]⟩
  · have he : i = l.length := by omega
    subst he
    simp only [List.take_length, WA, Nat.reduceEqDiff, Nat.reduceAdd, Nat.reduceLT, Nat.reduceLeDiff, Nat.reduceMul, reduceIte, reduceCtorEq, Int.reduceEq, Int.reduceLT, Int.reduceLE, Int.reduceNe]
def TtoS (s b : Nat) (z : AV) (f : FuncId) : T :=
.op (.lenL (.x 0)) (
.op (.rep b z (.x 1) (.x 1)) (
.bind 1 (
 .loop [(.x 2), (.c (.v (.int .i64 0)))] (
  .op (.lenL (.x 0)) (
  .op (.bin .lss (.x 4) (.x 5)) (
  .ite (.x 6)
   (.op (.elem s (.x 0) (.x 4)) (
   .chk (.cells (.x 7) s) (
   .op (.call f [(.x 7)] false) (
   .chk (.idx (.x 3) (.x 4)) (
   .chk (.cells (.x 8) s) (
   .op (.set (.x 3) (.x 4) 0 s (.x 8)) (
   .op (.bin .add (.x 4) (.c (.v (.int .i64 1)))) (
   .jump [(.x 9), (.x 10)]))))))))
   (.esc (.jump [(.x 3)])))))) (
.ret [(.sl (.x 3))])))
/-- a list that is filled from the left -/
def fillL {α : Type} (av : α → AV) (z : AV) (l : List α) (i : Nat) : List AV := (l.take i).map av ++ List.replicate (l.length - i) z
theorem fillL_len {α : Type} (av : α → AV) (z : AV) (l : List α) (i : Nat) (h : i ≤ l.length) : (fillL av z l i).length = l.length := by simp [fillL]; omega
theorem fillL_zero {α : Type} (av : α → AV) (z : AV) (l : List α) : fillL av z l 0 = List.replicate l.length z := by simp [fillL]
theorem fillL_end {α : Type} (av : α → AV) (z : AV) (l : List α) : fillL av z l l.length = l.map av := by simp [fillL]
theorem fillL_get {α : Type} (av : α → AV) (z : AV) (l : List α) (i : Nat) (h : i < l.length) : (fillL av z l i).getD i .top = z := by
  have h1 : ((l.take i).map av).length = i := by simp; omega
  rw [fillL, List.getD, List.getElem?_append_right (by omega), h1, Nat.sub_self, List.getElem?_replicate, if_pos (by omega)]; rfl
theorem fillL_set {α : Type} (av : α → AV) (z : AV) (l : List α) (i : Nat) (h : i < l.length) : (fillL av z l i).set i (av l[i]) = fillL av z l (i + 1) := by
  have h1 : ((l.take i).map av).length = i := by simp; omega
  unfold fillL
  rw [List.set_append_right _ _ (by omega), h1, Nat.sub_self]
  rw [show l.length - i = (l.length - (i + 1)) + 1 by omega, List.replicate_succ, List.set_cons_zero, List.take_add_one, List.getElem?_eq_getElem h]
  simp only [Option.toList_some, List.map_append, List.map_cons, List.map_nil, List.append_assoc, List.cons_append, List.nil_append]
theorem toS_T {P : Program} {L : AX → SS → List AV → Prop} {α : Type} {av : α → AV} {s b : Nat} {z : AV} {f : FuncId} {l : List α} (hs : ∀ x, (av x).isAgg = true ∧ (av x).cells.length = s ∧ (av x).storable = true ∧ (av x).noref = true)
    (hz : z.cells.length = s) (hb : b ≤ 1000) (hl : l.length ≤ 1048576) (hc : ∀ x ∈ l, PCon P f [av x] (av x)) :
    wpT P L (fun a => a = .sl (l.map av)) (TtoS s b z f) [.sl (l.map av)] [] := by
  have hbl : (b : Int) * (l.length : Int) ≤ 1048576000 := by
    have h1 : b * l.length ≤ 1000 * 1048576 := Nat.mul_le_mul hb hl
    have h2 : ((b * l.length : Nat) : Int) ≤ ((1048576000 : Nat) : Int) := Int.ofNat_le.2 h1
    rwa [Int.natCast_mul] at h2
  simp only [TtoS, WA, Nat.reduceEqDiff, Nat.reduceAdd, Nat.reduceLT, Nat.reduceLeDiff, Nat.reduceMul, reduceIte, reduceCtorEq, Int.reduceEq, Int.reduceLT, Int.reduceLE, Int.reduceNe]
  refine ⟨Int.le_refl _, by omega, by omega, ?_⟩
  refine bind_cut [.sl (l.map av)] rfl ?_ (by simp only [WA, Nat.reduceEqDiff, Nat.reduceAdd, Nat.reduceLT, Nat.reduceLeDiff, Nat.reduceMul, reduceIte, reduceCtorEq, Int.reduceEq, Int.reduceLT, Int.reduceLE, Int.reduceNe])
  simp only [WA, Nat.reduceEqDiff, Nat.reduceAdd, Nat.reduceLT, Nat.reduceLeDiff, Nat.reduceMul, reduceIte, reduceCtorEq, Int.reduceEq, Int.reduceLT, Int.reduceLE, Int.reduceNe]
  refine loop_up l.length (fun i => [.sl (fillL av z l i), .v (.int .i64 i)]) (by rw [fillL_zero]; simp) fun i hi => ?_
  simp only [WA, Nat.reduceEqDiff, Nat.reduceAdd, Nat.reduceLT, Nat.reduceLeDiff, Nat.reduceMul, reduceIte, reduceCtorEq, Int.reduceEq, Int.reduceLT, Int.reduceLE, Int.reduceNe]
  refine ite_dec (fun h => ?_) (fun h => ?_)
  · have hlt : i < l.length := by omega
    obtain ⟨x1, x2, x3, x4⟩ := hs l[i]
    simp only [WA, Nat.reduceEqDiff, Nat.reduceAdd, Nat.reduceLT, Nat.reduceLeDiff, Nat.reduceMul, reduceIte, reduceCtorEq, Int.reduceEq, Int.reduceLT, Int.reduceLE, Int.reduceNe]
    refine elemM av hlt x2 ?_
    simp only [x1, x2, x3, WA, Nat.reduceEqDiff, Nat.reduceAdd, Nat.reduceLT, Nat.reduceLeDiff, Nat.reduceMul, reduceIte, reduceCtorEq, Int.reduceEq, Int.reduceLT, Int.reduceLE, Int.reduceNe]
    refine call_p (hc _ (List.getElem_mem hlt)) x4 ?_
    simp (disch := omega) only [x1, x2, x3, fillL_len av z l i hi, fillL_get av z l i hlt, hz, wrapA1, WA, Nat.reduceEqDiff, Nat.reduceAdd, Nat.reduceLT, Nat.reduceLeDiff, Nat.reduceMul, reduceIte, reduceCtorEq, Int.reduceEq, Int.reduceLT, Int.reduceLE, Int.reduceNe]
    exact ⟨by omega, hlt, ⟨hlt, by rw [upd_whole (by rw [x2, hz]), fillL_set av z l i hlt]⟩⟩
  · have he : i = l.length := by omega
    subst he
    simp only [fillL_end, WA, Nat.reduceEqDiff, Nat.reduceAdd, Nat.reduceLT, Nat.reduceLeDiff, Nat.reduceMul, reduceIte, reduceCtorEq, Int.reduceEq, Int.reduceLT, Int.reduceLE, Int.reduceNe]
def TeqS (s : Nat) (f : FuncId) (fl : Bool) : T :=
.op (.lenL (.x 0)) (
.op (.lenL (.x 1)) (
.op (.bin .neq (.x 2) (.x 3)) (
.ite (.x 4)
 (.ret [(.c (.v (.bool false)))])
 (.bind 0 (
  .loop [(.c (.v (.int .i64 0)))] (
   .op (.lenL (.x 0)) (
   .op (.bin .lss (.x 5) (.x 6)) (
   .ite (.x 7)
    (.op (.elem s (.x 0) (.x 5)) (
    .chk (.cells (.x 8) s) (
    .op (.elem s (.x 1) (.x 5)) (
    .chk (.cells (.x 9) s) (
    .op (.call f [(.x 8), (.x 9)] fl) (
    .op (.un .not (.x 10)) (
    .ite (.x 11)
     (.esc (.esc (.ret [(.c (.v (.bool false)))])))
     (.op (.bin .add (.x 5) (.c (.v (.int .i64 1)))) (
     .jump [(.x 12)])))))))))
    (.esc (.jump [])))))) (
 .ret [(.c (.v (.bool true)))])))))
theorem eqS_T {fl : Bool} {P : Program} {L : AX → SS → List AV → Prop} {α : Type} {av : α → AV} {s : Nat} {f : FuncId} {l : List α} (hs : ∀ x, (av x).isAgg = true ∧ (av x).cells.length = s ∧ (av x).storable = true)
    (hl : l.length ≤ 1048576) (hc : ∀ x ∈ l, PCon P f [av x, av x] (.v (.bool true))) :
    wpT P L (fun a => a = .v (.bool true)) (TeqS s f fl) [.sl (l.map av), .sl (l.map av)] [] := by
  simp only [TeqS, WA, Nat.reduceEqDiff, Nat.reduceAdd, Nat.reduceLT, Nat.reduceLeDiff, Nat.reduceMul, reduceIte, reduceCtorEq, Int.reduceEq, Int.reduceLT, Int.reduceLE, Int.reduceNe]
  refine bind_cut [] rfl ?_ (by simp only [WA, Nat.reduceEqDiff, Nat.reduceAdd, Nat.reduceLT, Nat.reduceLeDiff, Nat.reduceMul, reduceIte, reduceCtorEq, Int.reduceEq, Int.reduceLT, Int.reduceLE, Int.reduceNe])
  simp only [WA, Nat.reduceEqDiff, Nat.reduceAdd, Nat.reduceLT, Nat.reduceLeDiff, Nat.reduceMul, reduceIte, reduceCtorEq, Int.reduceEq, Int.reduceLT, Int.reduceLE, Int.reduceNe]
  refine loop_up l.length (fun i => [.v (.int .i64 i)]) rfl fun i hi => ?_
  simp only [WA, Nat.reduceEqDiff, Nat.reduceAdd, Nat.reduceLT, Nat.reduceLeDiff, Nat.reduceMul, reduceIte, reduceCtorEq, Int.reduceEq, Int.reduceLT, Int.reduceLE, Int.reduceNe]
  refine ite_dec (fun h => ?_) (fun h => ?_)
  · have hlt : i < l.length := by omega
    obtain ⟨x1, x2, x3⟩ := hs l[i]
    simp only [WA, Nat.reduceEqDiff, Nat.reduceAdd, Nat.reduceLT, Nat.reduceLeDiff, Nat.reduceMul, reduceIte, reduceCtorEq, Int.reduceEq, Int.reduceLT, Int.reduceLE, Int.reduceNe]
    refine elemM av hlt x2 ?_
    simp only [x1, x2, x3, WA, Nat.reduceEqDiff, Nat.reduceAdd, Nat.reduceLT, Nat.reduceLeDiff, Nat.reduceMul, reduceIte, reduceCtorEq, Int.reduceEq, Int.reduceLT, Int.reduceLE, Int.reduceNe]
    refine elemM av hlt x2 ?_
    simp only [x1, x2, x3, WA, Nat.reduceEqDiff, Nat.reduceAdd, Nat.reduceLT, Nat.reduceLeDiff, Nat.reduceMul, reduceIte, reduceCtorEq, Int.reduceEq, Int.reduceLT, Int.reduceLE, Int.reduceNe]
    refine call_v (hc _ (List.getElem_mem hlt)) ?_
    simp (disch := omega) only [wrapA1, WA, Nat.reduceEqDiff, Nat.reduceAdd, Nat.reduceLT, Nat.reduceLeDiff, Nat.reduceMul, reduceIte, reduceCtorEq, Int.reduceEq, Int.reduceLT, Int.reduceLE, Int.reduceNe]
    exact hlt
  · simp only [WA, Nat.reduceEqDiff, Nat.reduceAdd, Nat.reduceLT, Nat.reduceLeDiff, Nat.reduceMul, reduceIte, reduceCtorEq, Int.reduceEq, Int.reduceLT, Int.reduceLE, Int.reduceNe]
/- numbers -/
abbrev avI (n : Int) : AV := .v (.int .i64 n)
def TszI : T :=
.op (.lenL (.x 0)) (
.op (.bin .sub (.x 1) (.x 2)) (
.op (.bin .lss (.x 3) (.c (.v (.int .i64 0)))) (
.ite (.x 4)
 (.ret [(.c (.v (.int .i64 (-1))))])
 (.ret [(.x 3)]))))
theorem szI_T {P : Program} {L : AX → SS → List AV → Prop} {xs : List AV} {b : Nat} (hb : xs.length ≤ b) (hb' : b ≤ 1048576) : wpT P L (fun a => a = .v (.int .i64 (b - xs.length : Nat))) TszI [.sl xs, .v (.int .i64 b)] [] := by
  simp (disch := omega) only [TszI, wrapS, lt0, WA, Nat.reduceEqDiff, Nat.reduceAdd, Nat.reduceLT, Nat.reduceLeDiff, Nat.reduceMul, reduceIte, reduceCtorEq, Int.reduceEq, Int.reduceLT, Int.reduceLE, Int.reduceNe]
def TtoI (b : Nat) (z : AV) : T :=
.op (.lenL (.x 0)) (
.op (.rep b z (.x 1) (.x 1)) (
.bind 1 (
 .loop [(.x 2), (.c (.v (.int .i64 0)))] (
  .op (.lenL (.x 0)) (
  .op (.bin .lss (.x 4) (.x 5)) (
  .ite (.x 6)
   (.op (.elem 1 (.x 0) (.x 4)) (
   .chk (.lt (.x 7) 0) (
   .chk (.idx (.x 3) (.x 4)) (
   .chk (.one (.cell 7 0)) (
   .op (.set (.x 3) (.x 4) 0 1 (.cell 7 0)) (
   .op (.bin .add (.x 4) (.c (.v (.int .i64 1)))) (
   .jump [(.x 8), (.x 9)])))))))
   (.esc (.jump [(.x 3)])))))) (
.ret [(.sl (.x 3))])))
theorem toI_T {P : Program} {L : AX → SS → List AV → Prop} {α : Type} {g : α → Value} {b : Nat} {z : AV} {l : List α} (hz : z.cells.length = 1) (hb : b ≤ 1000) (hl : l.length ≤ 1048576) :
    wpT P L (fun a => a = .sl (l.map fun x => .v (g x))) (TtoI b z) [.sl (l.map fun x => .v (g x))] [] := by
  have hbl : (b : Int) * (l.length : Int) ≤ 1048576000 := by
    have h1 : b * l.length ≤ 1000 * 1048576 := Nat.mul_le_mul hb hl
    have h2 : ((b * l.length : Nat) : Int) ≤ ((1048576000 : Nat) : Int) := Int.ofNat_le.2 h1
    rwa [Int.natCast_mul] at h2
  simp only [TtoI, WA, Nat.reduceEqDiff, Nat.reduceAdd, Nat.reduceLT, Nat.reduceLeDiff, Nat.reduceMul, reduceIte, reduceCtorEq, Int.reduceEq, Int.reduceLT, Int.reduceLE, Int.reduceNe]
  refine ⟨Int.le_refl _, by omega, by omega, ?_⟩
  refine bind_cut [.sl (l.map fun x => .v (g x))] rfl ?_ (by simp only [WA, Nat.reduceEqDiff, Nat.reduceAdd, Nat.reduceLT, Nat.reduceLeDiff, Nat.reduceMul, reduceIte, reduceCtorEq, Int.reduceEq, Int.reduceLT, Int.reduceLE, Int.reduceNe])
  simp only [WA, Nat.reduceEqDiff, Nat.reduceAdd, Nat.reduceLT, Nat.reduceLeDiff, Nat.reduceMul, reduceIte, reduceCtorEq, Int.reduceEq, Int.reduceLT, Int.reduceLE, Int.reduceNe]
  refine loop_up l.length (fun i => [.sl (fillL (fun x => .v (g x)) z l i), .v (.int .i64 i)]) (by rw [fillL_zero]; simp) fun i hi => ?_
  simp only [WA, Nat.reduceEqDiff, Nat.reduceAdd, Nat.reduceLT, Nat.reduceLeDiff, Nat.reduceMul, reduceIte, reduceCtorEq, Int.reduceEq, Int.reduceLT, Int.reduceLE, Int.reduceNe]
  refine ite_dec (fun h => ?_) (fun h => ?_)
  · have hlt : i < l.length := by omega
    simp only [WA, Nat.reduceEqDiff, Nat.reduceAdd, Nat.reduceLT, Nat.reduceLeDiff, Nat.reduceMul, reduceIte, reduceCtorEq, Int.reduceEq, Int.reduceLT, Int.reduceLE, Int.reduceNe]
    refine elemM (fun x => .v (g x)) hlt rfl ?_
    simp (disch := omega) only [fillL_len _ z l i hi, fillL_get _ z l i hlt, hz, wrapA1, WA, Nat.reduceEqDiff, Nat.reduceAdd, Nat.reduceLT, Nat.reduceLeDiff, Nat.reduceMul, reduceIte, reduceCtorEq, Int.reduceEq, Int.reduceLT, Int.reduceLE, Int.reduceNe]
    exact ⟨by omega, hlt, ⟨hlt, by
      have hf := fillL_set (fun x => AV.v (g x)) z l i hlt
      rw [upd_whole (by rw [hz]; rfl)]; exact hf ▸ rfl⟩⟩
  · have he : i = l.length := by omega
    subst he
    simp only [fillL_end, WA, Nat.reduceEqDiff, Nat.reduceAdd, Nat.reduceLT, Nat.reduceLeDiff, Nat.reduceMul, reduceIte, reduceCtorEq, Int.reduceEq, Int.reduceLT, Int.reduceLE, Int.reduceNe]
def TeqI : T :=
.op (.lenL (.x 0)) (
.op (.lenL (.x 1)) (
.op (.bin .neq (.x 2) (.x 3)) (
.ite (.x 4)
 (.ret [(.c (.v (.bool false)))])
 (.bind 0 (
  .loop [(.c (.v (.int .i64 0)))] (
   .op (.lenL (.x 0)) (
   .op (.bin .lss (.x 5) (.x 6)) (
   .ite (.x 7)
    (.op (.elem 1 (.x 0) (.x 5)) (
    .chk (.lt (.x 8) 0) (
    .op (.elem 1 (.x 1) (.x 5)) (
    .chk (.lt (.x 9) 0) (
    .op (.bin .neq (.cell 8 0) (.cell 9 0)) (
    .ite (.x 10)
     (.esc (.esc (.ret [(.c (.v (.bool false)))])))
     (.op (.bin .add (.x 5) (.c (.v (.int .i64 1)))) (
     .jump [(.x 11)]))))))))
    (.esc (.jump [])))))) (
 .ret [(.c (.v (.bool true)))])))))
theorem eqI_T {P : Program} {L : AX → SS → List AV → Prop} {α : Type} {g : α → Value} {l : List α} (hg : ∀ (x : α) (K : AV → Prop), goT K (.v (.bool false)) → binT .neq (.v (g x)) (.v (g x)) K) (hl : l.length ≤ 1048576) :
    wpT P L (fun a => a = .v (.bool true)) TeqI [.sl (l.map fun x => .v (g x)), .sl (l.map fun x => .v (g x))] [] := by
  simp only [TeqI, WA, Nat.reduceEqDiff, Nat.reduceAdd, Nat.reduceLT, Nat.reduceLeDiff, Nat.reduceMul, reduceIte, reduceCtorEq, Int.reduceEq, Int.reduceLT, Int.reduceLE, Int.reduceNe]
  refine bind_cut [] rfl ?_ (by simp only [WA, Nat.reduceEqDiff, Nat.reduceAdd, Nat.reduceLT, Nat.reduceLeDiff, Nat.reduceMul, reduceIte, reduceCtorEq, Int.reduceEq, Int.reduceLT, Int.reduceLE, Int.reduceNe])
  simp only [WA, Nat.reduceEqDiff, Nat.reduceAdd, Nat.reduceLT, Nat.reduceLeDiff, Nat.reduceMul, reduceIte, reduceCtorEq, Int.reduceEq, Int.reduceLT, Int.reduceLE, Int.reduceNe]
  refine loop_up l.length (fun i => [.v (.int .i64 i)]) rfl fun i hi => ?_
  simp only [WA, Nat.reduceEqDiff, Nat.reduceAdd, Nat.reduceLT, Nat.reduceLeDiff, Nat.reduceMul, reduceIte, reduceCtorEq, Int.reduceEq, Int.reduceLT, Int.reduceLE, Int.reduceNe]
  refine ite_dec (fun h => ?_) (fun h => ?_)
  · have hlt : i < l.length := by omega
    simp only [WA, Nat.reduceEqDiff, Nat.reduceAdd, Nat.reduceLT, Nat.reduceLeDiff, Nat.reduceMul, reduceIte, reduceCtorEq, Int.reduceEq, Int.reduceLT, Int.reduceLE, Int.reduceNe]
    refine elemM (fun x => .v (g x)) hlt rfl ?_
    simp only [WA, Nat.reduceEqDiff, Nat.reduceAdd, Nat.reduceLT, Nat.reduceLeDiff, Nat.reduceMul, reduceIte, reduceCtorEq, Int.reduceEq, Int.reduceLT, Int.reduceLE, Int.reduceNe]
    refine elemM (fun x => .v (g x)) hlt rfl ?_
    simp only [WA, Nat.reduceEqDiff, Nat.reduceAdd, Nat.reduceLT, Nat.reduceLeDiff, Nat.reduceMul, reduceIte, reduceCtorEq, Int.reduceEq, Int.reduceLT, Int.reduceLE, Int.reduceNe]
    refine hg _ _ ?_
    simp (disch := omega) only [wrapA1, WA, Nat.reduceEqDiff, Nat.reduceAdd, Nat.reduceLT, Nat.reduceLeDiff, Nat.reduceMul, reduceIte, reduceCtorEq, Int.reduceEq, Int.reduceLT, Int.reduceLE, Int.reduceNe]
    exact hlt
  · simp only [WA, Nat.reduceEqDiff, Nat.reduceAdd, Nat.reduceLT, Nat.reduceLeDiff, Nat.reduceMul, reduceIte, reduceCtorEq, Int.reduceEq, Int.reduceLT, Int.reduceLE, Int.reduceNe]
theorem neqI (k : IntKind) (x : Int) (K : AV → Prop) (h : goT K (.v (.bool false))) : binT .neq (.v (.int k x)) (.v (.int k x)) K := by simpa only [b_neq, decide_true, Bool.not_true, eq_self] using h
end Go.Ab
/-
  THE TYPES OF THE LAWS as types of our own (printed by wip/tool/types.py): their cells, their weights, small facts.
-/
namespace Go.Ab
set_option maxRecDepth 100000
/-- a number of 64 bits -/
def inR (n : Int) : Prop := -9223372036854775808 ≤ n ∧ n ≤ 9223372036854775807
theorem le_sum {α : Type} (w : α → Nat) {l : List α} {x : α} (h : x ∈ l) : w x ≤ (l.map w).sum := by
  induction l with
  | nil => simp at h
  | cons a l ih =>
    simp only [List.map_cons, List.sum_cons]
    rcases List.mem_cons.1 h with rfl | h
    · omega
    · have := ih h; omega
inductive VToken where
  | mk (Kind : Int) (Text : ByteArray) (Num : Int) (Pos : Int)
def VToken.Kind : VToken → Int
  | .mk a _ _ _ => a
def VToken.Text : VToken → ByteArray
  | .mk _ a _ _ => a
def VToken.Num : VToken → Int
  | .mk _ _ a _ => a
def VToken.Pos : VToken → Int
  | .mk _ _ _ a => a
def VToken.cs : VToken → List AV
  | .mk Kind Text Num Pos => (.v (.int .i64 Kind) :: (.v (.string Text) :: (.v (.int .i64 Num) :: (.v (.int .i64 Pos) :: []))))
def VToken.av (x : VToken) : AV := .agg x.cs
def VToken.wt : VToken → Nat
  | .mk Kind Text Num Pos => Text.size
theorem VToken.norefsC : ∀ x : VToken, AV.norefs x.cs = true
  | .mk Kind Text Num Pos => by simp [VToken.cs, AV.norefs, AV.noref, norefs_append]
theorem VToken.noref (x : VToken) : x.av.noref = true   := VToken.norefsC x
theorem VToken.isAgg (x : VToken) : x.av.isAgg = true := nr rfl
theorem VToken.cs_eq (x : VToken) : x.cs = [.v (.int .i64 x.Kind), .v (.string x.Text), .v (.int .i64 x.Num), .v (.int .i64 x.Pos)] := by
  obtain ⟨Kind, Text, Num, Pos⟩ := x
  simp only [VToken.cs, VToken.Kind, VToken.Num, VToken.Pos, VToken.Text, List.cons_append, List.nil_append]
theorem VToken.cells (x : VToken) : x.av.cells = [.v (.int .i64 x.Kind), .v (.string x.Text), .v (.int .i64 x.Num), .v (.int .i64 x.Pos)] := VToken.cs_eq x
theorem VToken.storable (x : VToken) : x.av.storable = true := by unfold AV.storable; rw [VToken.cells]; rfl
theorem VToken.wt_eq (x : VToken) : x.wt = x.Text.size := by
  cases x
  simp only [VToken.wt, VToken.Kind, VToken.Text, VToken.Num, VToken.Pos]
theorem VToken.facts {l : List VToken} {b : Nat} (h : (l.map VToken.wt).sum ≤ b) : ∀ x ∈ l, x.wt ≤ b ∧ x.wt = x.Text.size := fun x hx => ⟨Nat.le_trans (le_sum VToken.wt hx) h, x.wt_eq⟩
inductive VPat where
  | mk (Kind : Int) (Name : ByteArray) (Num : Int) (Pos : Int) (Kids : List VPat)
def VPat.Kind : VPat → Int
  | .mk a _ _ _ _ => a
def VPat.Name : VPat → ByteArray
  | .mk _ a _ _ _ => a
def VPat.Num : VPat → Int
  | .mk _ _ a _ _ => a
def VPat.Pos : VPat → Int
  | .mk _ _ _ a _ => a
def VPat.Kids : VPat → List VPat
  | .mk _ _ _ _ a => a
mutual
def VPat.cs : VPat → List AV
  | .mk Kind Name Num Pos Kids => (.v (.int .i64 Kind) :: (.v (.string Name) :: (.v (.int .i64 Num) :: (.v (.int .i64 Pos) :: (.sl (VPat.avs Kids) :: [])))))
def VPat.avs : List VPat → List AV
  | [] => []
  | x :: l => .agg x.cs :: VPat.avs l
end
def VPat.av (x : VPat) : AV := .agg x.cs
theorem VPat.avs_eq (l : List VPat) : VPat.avs l = l.map VPat.av := by
  induction l with
  | nil => rfl
  | cons x l ih => simp only [VPat.avs, ih, List.map_cons, VPat.av]
mutual
def VPat.wt : VPat → Nat
  | .mk Kind Name Num Pos Kids => Name.size + (Kids.length + VPat.wts Kids)
def VPat.wts : List VPat → Nat
  | [] => 0
  | x :: l => x.wt + VPat.wts l
end
theorem VPat.wts_eq (l : List VPat) : VPat.wts l = (l.map VPat.wt).sum := by
  induction l with
  | nil => rfl
  | cons x l ih => simp only [VPat.wts, ih, List.map_cons, List.sum_cons]
mutual
theorem VPat.norefsC : ∀ x : VPat, AV.norefs x.cs = true
  | .mk Kind Name Num Pos Kids => by simp [VPat.cs, AV.norefs, AV.noref, norefs_append, VPat.norefsL Kids]
theorem VPat.norefsL : ∀ l : List VPat, AV.norefs (VPat.avs l) = true
  | [] => rfl
  | x :: l => by simp [VPat.avs, AV.norefs, AV.noref, VPat.norefsC x, VPat.norefsL l]
end
theorem VPat.noref (x : VPat) : x.av.noref = true   := VPat.norefsC x
theorem VPat.isAgg (x : VPat) : x.av.isAgg = true := nr rfl
theorem VPat.cs_eq (x : VPat) : x.cs = [.v (.int .i64 x.Kind), .v (.string x.Name), .v (.int .i64 x.Num), .v (.int .i64 x.Pos), .sl (x.Kids.map VPat.av)] := by
  obtain ⟨Kind, Name, Num, Pos, Kids⟩ := x
  simp only [VPat.cs, VPat.Kids, VPat.Kind, VPat.Name, VPat.Num, VPat.Pos, VPat.avs_eq, List.cons_append, List.nil_append]
theorem VPat.cells (x : VPat) : x.av.cells = [.v (.int .i64 x.Kind), .v (.string x.Name), .v (.int .i64 x.Num), .v (.int .i64 x.Pos), .sl (x.Kids.map VPat.av)] := VPat.cs_eq x
theorem VPat.storable (x : VPat) : x.av.storable = true := by unfold AV.storable; rw [VPat.cells]; rfl
theorem VPat.wt_eq (x : VPat) : x.wt = x.Name.size + (x.Kids.length + (x.Kids.map VPat.wt).sum) := by
  cases x
  simp only [VPat.wt, VPat.wts_eq, VPat.Kind, VPat.Name, VPat.Num, VPat.Pos, VPat.Kids]
theorem VPat.facts {l : List VPat} {b : Nat} (h : (l.map VPat.wt).sum ≤ b) : ∀ x ∈ l, x.wt ≤ b ∧ x.wt = x.Name.size + (x.Kids.length + (x.Kids.map VPat.wt).sum) := fun x hx => ⟨Nat.le_trans (le_sum VPat.wt hx) h, x.wt_eq⟩
mutual
inductive VExp where
  | mk (Kind : Int) (Name : ByteArray) (Num : Int) (Text : ByteArray) (Pos : Int) (Kids : List VExp) (Arms : List VArm)
inductive VArm where
  | mk (P : VPat) (E : VExp)
end
def VExp.Kind : VExp → Int
  | .mk a _ _ _ _ _ _ => a
def VExp.Name : VExp → ByteArray
  | .mk _ a _ _ _ _ _ => a
def VExp.Num : VExp → Int
  | .mk _ _ a _ _ _ _ => a
def VExp.Text : VExp → ByteArray
  | .mk _ _ _ a _ _ _ => a
def VExp.Pos : VExp → Int
  | .mk _ _ _ _ a _ _ => a
def VExp.Kids : VExp → List VExp
  | .mk _ _ _ _ _ a _ => a
def VExp.Arms : VExp → List VArm
  | .mk _ _ _ _ _ _ a => a
def VArm.P : VArm → VPat
  | .mk a _ => a
def VArm.E : VArm → VExp
  | .mk _ a => a
mutual
def VExp.cs : VExp → List AV
  | .mk Kind Name Num Text Pos Kids Arms => (.v (.int .i64 Kind) :: (.v (.string Name) :: (.v (.int .i64 Num) :: (.v (.string Text) :: (.v (.int .i64 Pos) :: (.sl (VExp.avs Kids) :: (.sl (VArm.avs Arms) :: [])))))))
def VArm.cs : VArm → List AV
  | .mk P E => (P.cs ++ (E.cs ++ []))
def VExp.avs : List VExp → List AV
  | [] => []
  | x :: l => .agg x.cs :: VExp.avs l
def VArm.avs : List VArm → List AV
  | [] => []
  | x :: l => .agg x.cs :: VArm.avs l
end
def VExp.av (x : VExp) : AV := .agg x.cs
theorem VExp.avs_eq (l : List VExp) : VExp.avs l = l.map VExp.av := by
  induction l with
  | nil => rfl
  | cons x l ih => simp only [VExp.avs, ih, List.map_cons, VExp.av]
def VArm.av (x : VArm) : AV := .agg x.cs
theorem VArm.avs_eq (l : List VArm) : VArm.avs l = l.map VArm.av := by
  induction l with
  | nil => rfl
  | cons x l ih => simp only [VArm.avs, ih, List.map_cons, VArm.av]
mutual
def VExp.wt : VExp → Nat
  | .mk Kind Name Num Text Pos Kids Arms => Name.size + Text.size + (Kids.length + VExp.wts Kids) + (Arms.length + VArm.wts Arms)
def VArm.wt : VArm → Nat
  | .mk P E => P.wt + E.wt
def VExp.wts : List VExp → Nat
  | [] => 0
  | x :: l => x.wt + VExp.wts l
def VArm.wts : List VArm → Nat
  | [] => 0
  | x :: l => x.wt + VArm.wts l
end
theorem VExp.wts_eq (l : List VExp) : VExp.wts l = (l.map VExp.wt).sum := by
  induction l with
  | nil => rfl
  | cons x l ih => simp only [VExp.wts, ih, List.map_cons, List.sum_cons]
theorem VArm.wts_eq (l : List VArm) : VArm.wts l = (l.map VArm.wt).sum := by
  induction l with
  | nil => rfl
  | cons x l ih => simp only [VArm.wts, ih, List.map_cons, List.sum_cons]
mutual
theorem VExp.norefsC : ∀ x : VExp, AV.norefs x.cs = true
  | .mk Kind Name Num Text Pos Kids Arms => by simp [VExp.cs, AV.norefs, AV.noref, norefs_append, VExp.norefsL Kids, VArm.norefsL Arms]
theorem VArm.norefsC : ∀ x : VArm, AV.norefs x.cs = true
  | .mk P E => by simp [VArm.cs, AV.norefs, AV.noref, norefs_append, VPat.norefsC P, VExp.norefsC E]
theorem VExp.norefsL : ∀ l : List VExp, AV.norefs (VExp.avs l) = true
  | [] => rfl
  | x :: l => by simp [VExp.avs, AV.norefs, AV.noref, VExp.norefsC x, VExp.norefsL l]
theorem VArm.norefsL : ∀ l : List VArm, AV.norefs (VArm.avs l) = true
  | [] => rfl
  | x :: l => by simp [VArm.avs, AV.norefs, AV.noref, VArm.norefsC x, VArm.norefsL l]
end
theorem VExp.noref (x : VExp) : x.av.noref = true   := VExp.norefsC x
theorem VExp.isAgg (x : VExp) : x.av.isAgg = true := nr rfl
theorem VExp.cs_eq (x : VExp) : x.cs = [.v (.int .i64 x.Kind), .v (.string x.Name), .v (.int .i64 x.Num), .v (.string x.Text), .v (.int .i64 x.Pos), .sl (x.Kids.map VExp.av), .sl (x.Arms.map VArm.av)] := by
  obtain ⟨Kind, Name, Num, Text, Pos, Kids, Arms⟩ := x
  simp only [VExp.cs, VExp.Arms, VExp.Kids, VExp.Kind, VExp.Name, VExp.Num, VExp.Pos, VExp.Text, VArm.avs_eq, VExp.avs_eq, List.cons_append, List.nil_append]
theorem VExp.cells (x : VExp) : x.av.cells = [.v (.int .i64 x.Kind), .v (.string x.Name), .v (.int .i64 x.Num), .v (.string x.Text), .v (.int .i64 x.Pos), .sl (x.Kids.map VExp.av), .sl (x.Arms.map VArm.av)] := VExp.cs_eq x
theorem VExp.storable (x : VExp) : x.av.storable = true := by unfold AV.storable; rw [VExp.cells]; rfl
theorem VExp.wt_eq (x : VExp) : x.wt = x.Name.size + x.Text.size + (x.Kids.length + (x.Kids.map VExp.wt).sum) + (x.Arms.length + (x.Arms.map VArm.wt).sum) := by
  cases x
  simp only [VExp.wt, VExp.wts_eq, VArm.wts_eq, VExp.Kind, VExp.Name, VExp.Num, VExp.Text, VExp.Pos, VExp.Kids, VExp.Arms]
theorem VExp.facts {l : List VExp} {b : Nat} (h : (l.map VExp.wt).sum ≤ b) : ∀ x ∈ l, x.wt ≤ b ∧ x.wt = x.Name.size + x.Text.size + (x.Kids.length + (x.Kids.map VExp.wt).sum) + (x.Arms.length + (x.Arms.map VArm.wt).sum) := fun x hx => ⟨Nat.le_trans (le_sum VExp.wt hx) h, x.wt_eq⟩
theorem VArm.noref (x : VArm) : x.av.noref = true   := VArm.norefsC x
theorem VArm.isAgg (x : VArm) : x.av.isAgg = true := nr rfl
theorem VArm.cs_eq (x : VArm) : x.cs = [.v (.int .i64 x.P.Kind), .v (.string x.P.Name), .v (.int .i64 x.P.Num), .v (.int .i64 x.P.Pos), .sl (x.P.Kids.map VPat.av), .v (.int .i64 x.E.Kind), .v (.string x.E.Name), .v (.int .i64 x.E.Num), .v (.string x.E.Text), .v (.int .i64 x.E.Pos), .sl (x.E.Kids.map VExp.av), .sl (x.E.Arms.map VArm.av)] := by
  obtain ⟨⟨P_Kind, P_Name, P_Num, P_Pos, P_Kids⟩, ⟨E_Kind, E_Name, E_Num, E_Text, E_Pos, E_Kids, E_Arms⟩⟩ := x
  simp only [VArm.cs, VExp.cs, VPat.cs, VArm.E, VArm.P, VExp.Arms, VExp.Kids, VExp.Kind, VExp.Name, VExp.Num, VExp.Pos, VExp.Text, VPat.Kids, VPat.Kind, VPat.Name, VPat.Num, VPat.Pos, VArm.avs_eq, VExp.avs_eq, VPat.avs_eq, List.cons_append, List.nil_append]
theorem VArm.cells (x : VArm) : x.av.cells = [.v (.int .i64 x.P.Kind), .v (.string x.P.Name), .v (.int .i64 x.P.Num), .v (.int .i64 x.P.Pos), .sl (x.P.Kids.map VPat.av), .v (.int .i64 x.E.Kind), .v (.string x.E.Name), .v (.int .i64 x.E.Num), .v (.string x.E.Text), .v (.int .i64 x.E.Pos), .sl (x.E.Kids.map VExp.av), .sl (x.E.Arms.map VArm.av)] := VArm.cs_eq x
theorem VArm.storable (x : VArm) : x.av.storable = true := by unfold AV.storable; rw [VArm.cells]; rfl
theorem VArm.wt_eq (x : VArm) : x.wt = x.P.wt + x.E.wt := by
  cases x
  simp only [VArm.wt, VExp.wts_eq, VArm.wts_eq, VArm.P, VArm.E]
theorem VArm.facts {l : List VArm} {b : Nat} (h : (l.map VArm.wt).sum ≤ b) : ∀ x ∈ l, x.wt ≤ b ∧ x.wt = x.P.wt + x.E.wt := fun x hx => ⟨Nat.le_trans (le_sum VArm.wt hx) h, x.wt_eq⟩
inductive VTypeExp where
  | mk (Kind : Int) (Name : ByteArray) (Pos : Int) (Kids : List VTypeExp)
def VTypeExp.Kind : VTypeExp → Int
  | .mk a _ _ _ => a
def VTypeExp.Name : VTypeExp → ByteArray
  | .mk _ a _ _ => a
def VTypeExp.Pos : VTypeExp → Int
  | .mk _ _ a _ => a
def VTypeExp.Kids : VTypeExp → List VTypeExp
  | .mk _ _ _ a => a
mutual
def VTypeExp.cs : VTypeExp → List AV
  | .mk Kind Name Pos Kids => (.v (.int .i64 Kind) :: (.v (.string Name) :: (.v (.int .i64 Pos) :: (.sl (VTypeExp.avs Kids) :: []))))
def VTypeExp.avs : List VTypeExp → List AV
  | [] => []
  | x :: l => .agg x.cs :: VTypeExp.avs l
end
def VTypeExp.av (x : VTypeExp) : AV := .agg x.cs
theorem VTypeExp.avs_eq (l : List VTypeExp) : VTypeExp.avs l = l.map VTypeExp.av := by
  induction l with
  | nil => rfl
  | cons x l ih => simp only [VTypeExp.avs, ih, List.map_cons, VTypeExp.av]
mutual
def VTypeExp.wt : VTypeExp → Nat
  | .mk Kind Name Pos Kids => Name.size + (Kids.length + VTypeExp.wts Kids)
def VTypeExp.wts : List VTypeExp → Nat
  | [] => 0
  | x :: l => x.wt + VTypeExp.wts l
end
theorem VTypeExp.wts_eq (l : List VTypeExp) : VTypeExp.wts l = (l.map VTypeExp.wt).sum := by
  induction l with
  | nil => rfl
  | cons x l ih => simp only [VTypeExp.wts, ih, List.map_cons, List.sum_cons]
mutual
theorem VTypeExp.norefsC : ∀ x : VTypeExp, AV.norefs x.cs = true
  | .mk Kind Name Pos Kids => by simp [VTypeExp.cs, AV.norefs, AV.noref, norefs_append, VTypeExp.norefsL Kids]
theorem VTypeExp.norefsL : ∀ l : List VTypeExp, AV.norefs (VTypeExp.avs l) = true
  | [] => rfl
  | x :: l => by simp [VTypeExp.avs, AV.norefs, AV.noref, VTypeExp.norefsC x, VTypeExp.norefsL l]
end
theorem VTypeExp.noref (x : VTypeExp) : x.av.noref = true   := VTypeExp.norefsC x
theorem VTypeExp.isAgg (x : VTypeExp) : x.av.isAgg = true := nr rfl
theorem VTypeExp.cs_eq (x : VTypeExp) : x.cs = [.v (.int .i64 x.Kind), .v (.string x.Name), .v (.int .i64 x.Pos), .sl (x.Kids.map VTypeExp.av)] := by
  obtain ⟨Kind, Name, Pos, Kids⟩ := x
  simp only [VTypeExp.cs, VTypeExp.Kids, VTypeExp.Kind, VTypeExp.Name, VTypeExp.Pos, VTypeExp.avs_eq, List.cons_append, List.nil_append]
theorem VTypeExp.cells (x : VTypeExp) : x.av.cells = [.v (.int .i64 x.Kind), .v (.string x.Name), .v (.int .i64 x.Pos), .sl (x.Kids.map VTypeExp.av)] := VTypeExp.cs_eq x
theorem VTypeExp.storable (x : VTypeExp) : x.av.storable = true := by unfold AV.storable; rw [VTypeExp.cells]; rfl
theorem VTypeExp.wt_eq (x : VTypeExp) : x.wt = x.Name.size + (x.Kids.length + (x.Kids.map VTypeExp.wt).sum) := by
  cases x
  simp only [VTypeExp.wt, VTypeExp.wts_eq, VTypeExp.Kind, VTypeExp.Name, VTypeExp.Pos, VTypeExp.Kids]
theorem VTypeExp.facts {l : List VTypeExp} {b : Nat} (h : (l.map VTypeExp.wt).sum ≤ b) : ∀ x ∈ l, x.wt ≤ b ∧ x.wt = x.Name.size + (x.Kids.length + (x.Kids.map VTypeExp.wt).sum) := fun x hx => ⟨Nat.le_trans (le_sum VTypeExp.wt hx) h, x.wt_eq⟩
inductive VCtor where
  | mk (Name : ByteArray) (Has : Bool) (Arg : VTypeExp) (Pos : Int)
def VCtor.Name : VCtor → ByteArray
  | .mk a _ _ _ => a
def VCtor.Has : VCtor → Bool
  | .mk _ a _ _ => a
def VCtor.Arg : VCtor → VTypeExp
  | .mk _ _ a _ => a
def VCtor.Pos : VCtor → Int
  | .mk _ _ _ a => a
def VCtor.cs : VCtor → List AV
  | .mk Name Has Arg Pos => (.v (.string Name) :: (.v (.bool Has) :: (Arg.cs ++ (.v (.int .i64 Pos) :: []))))
def VCtor.av (x : VCtor) : AV := .agg x.cs
def VCtor.wt : VCtor → Nat
  | .mk Name Has Arg Pos => Name.size + Arg.wt
theorem VCtor.norefsC : ∀ x : VCtor, AV.norefs x.cs = true
  | .mk Name Has Arg Pos => by simp [VCtor.cs, AV.norefs, AV.noref, norefs_append, VTypeExp.norefsC Arg]
theorem VCtor.noref (x : VCtor) : x.av.noref = true   := VCtor.norefsC x
theorem VCtor.isAgg (x : VCtor) : x.av.isAgg = true := nr rfl
theorem VCtor.cs_eq (x : VCtor) : x.cs = [.v (.string x.Name), .v (.bool x.Has), .v (.int .i64 x.Arg.Kind), .v (.string x.Arg.Name), .v (.int .i64 x.Arg.Pos), .sl (x.Arg.Kids.map VTypeExp.av), .v (.int .i64 x.Pos)] := by
  obtain ⟨Name, Has, ⟨Arg_Kind, Arg_Name, Arg_Pos, Arg_Kids⟩, Pos⟩ := x
  simp only [VCtor.cs, VTypeExp.cs, VCtor.Arg, VCtor.Has, VCtor.Name, VCtor.Pos, VTypeExp.Kids, VTypeExp.Kind, VTypeExp.Name, VTypeExp.Pos, VTypeExp.avs_eq, List.cons_append, List.nil_append]
theorem VCtor.cells (x : VCtor) : x.av.cells = [.v (.string x.Name), .v (.bool x.Has), .v (.int .i64 x.Arg.Kind), .v (.string x.Arg.Name), .v (.int .i64 x.Arg.Pos), .sl (x.Arg.Kids.map VTypeExp.av), .v (.int .i64 x.Pos)] := VCtor.cs_eq x
theorem VCtor.storable (x : VCtor) : x.av.storable = true := by unfold AV.storable; rw [VCtor.cells]; rfl
theorem VCtor.wt_eq (x : VCtor) : x.wt = x.Name.size + x.Arg.wt := by
  cases x
  simp only [VCtor.wt, VCtor.Name, VCtor.Has, VCtor.Arg, VCtor.Pos]
theorem VCtor.facts {l : List VCtor} {b : Nat} (h : (l.map VCtor.wt).sum ≤ b) : ∀ x ∈ l, x.wt ≤ b ∧ x.wt = x.Name.size + x.Arg.wt := fun x hx => ⟨Nat.le_trans (le_sum VCtor.wt hx) h, x.wt_eq⟩
inductive VData where
  | mk (Name : ByteArray) (Vars : List ByteArray) (Ctors : List VCtor) (Pos : Int)
def VData.Name : VData → ByteArray
  | .mk a _ _ _ => a
def VData.Vars : VData → List ByteArray
  | .mk _ a _ _ => a
def VData.Ctors : VData → List VCtor
  | .mk _ _ a _ => a
def VData.Pos : VData → Int
  | .mk _ _ _ a => a
def VData.cs : VData → List AV
  | .mk Name Vars Ctors Pos => (.v (.string Name) :: (.sl (Vars.map fun x => .v (.string x)) :: (.sl (Ctors.map VCtor.av) :: (.v (.int .i64 Pos) :: []))))
def VData.av (x : VData) : AV := .agg x.cs
def VData.wt : VData → Nat
  | .mk Name Vars Ctors Pos => Name.size + (Vars.length + (Vars.map fun x => x.size).sum) + (Ctors.length + (Ctors.map VCtor.wt).sum)
theorem VData.norefsC : ∀ x : VData, AV.norefs x.cs = true
  | .mk Name Vars Ctors Pos => by simp [VData.cs, AV.norefs, AV.noref, norefs_append, norefsM (f := fun x => .v (.string x)) (l := Vars) (fun _ => rfl), norefsM (f := VCtor.av) (l := Ctors) VCtor.noref]
theorem VData.noref (x : VData) : x.av.noref = true   := VData.norefsC x
theorem VData.isAgg (x : VData) : x.av.isAgg = true := nr rfl
theorem VData.cs_eq (x : VData) : x.cs = [.v (.string x.Name), .sl (x.Vars.map fun x => .v (.string x)), .sl (x.Ctors.map VCtor.av), .v (.int .i64 x.Pos)] := by
  obtain ⟨Name, Vars, Ctors, Pos⟩ := x
  simp only [VData.cs, VData.Ctors, VData.Name, VData.Pos, VData.Vars, List.cons_append, List.nil_append]
theorem VData.cells (x : VData) : x.av.cells = [.v (.string x.Name), .sl (x.Vars.map fun x => .v (.string x)), .sl (x.Ctors.map VCtor.av), .v (.int .i64 x.Pos)] := VData.cs_eq x
theorem VData.storable (x : VData) : x.av.storable = true := by unfold AV.storable; rw [VData.cells]; rfl
theorem VData.wt_eq (x : VData) : x.wt = x.Name.size + (x.Vars.length + (x.Vars.map fun x => x.size).sum) + (x.Ctors.length + (x.Ctors.map VCtor.wt).sum) := by
  cases x
  simp only [VData.wt, VData.Name, VData.Vars, VData.Ctors, VData.Pos]
theorem VData.facts {l : List VData} {b : Nat} (h : (l.map VData.wt).sum ≤ b) : ∀ x ∈ l, x.wt ≤ b ∧ x.wt = x.Name.size + (x.Vars.length + (x.Vars.map fun x => x.size).sum) + (x.Ctors.length + (x.Ctors.map VCtor.wt).sum) := fun x hx => ⟨Nat.le_trans (le_sum VData.wt hx) h, x.wt_eq⟩
inductive VProg where
  | mk (Types : List VData) (Body : VExp)
def VProg.Types : VProg → List VData
  | .mk a _ => a
def VProg.Body : VProg → VExp
  | .mk _ a => a
def VProg.cs : VProg → List AV
  | .mk Types Body => (.sl (Types.map VData.av) :: (Body.cs ++ []))
def VProg.av (x : VProg) : AV := .agg x.cs
def VProg.wt : VProg → Nat
  | .mk Types Body => (Types.length + (Types.map VData.wt).sum) + Body.wt
theorem VProg.norefsC : ∀ x : VProg, AV.norefs x.cs = true
  | .mk Types Body => by simp [VProg.cs, AV.norefs, AV.noref, norefs_append, norefsM (f := VData.av) (l := Types) VData.noref, VExp.norefsC Body]
theorem VProg.noref (x : VProg) : x.av.noref = true   := VProg.norefsC x
theorem VProg.isAgg (x : VProg) : x.av.isAgg = true := nr rfl
theorem VProg.cs_eq (x : VProg) : x.cs = [.sl (x.Types.map VData.av), .v (.int .i64 x.Body.Kind), .v (.string x.Body.Name), .v (.int .i64 x.Body.Num), .v (.string x.Body.Text), .v (.int .i64 x.Body.Pos), .sl (x.Body.Kids.map VExp.av), .sl (x.Body.Arms.map VArm.av)] := by
  obtain ⟨Types, ⟨Body_Kind, Body_Name, Body_Num, Body_Text, Body_Pos, Body_Kids, Body_Arms⟩⟩ := x
  simp only [VExp.cs, VProg.cs, VExp.Arms, VExp.Kids, VExp.Kind, VExp.Name, VExp.Num, VExp.Pos, VExp.Text, VProg.Body, VProg.Types, VArm.avs_eq, VExp.avs_eq, List.cons_append, List.nil_append]
theorem VProg.cells (x : VProg) : x.av.cells = [.sl (x.Types.map VData.av), .v (.int .i64 x.Body.Kind), .v (.string x.Body.Name), .v (.int .i64 x.Body.Num), .v (.string x.Body.Text), .v (.int .i64 x.Body.Pos), .sl (x.Body.Kids.map VExp.av), .sl (x.Body.Arms.map VArm.av)] := VProg.cs_eq x
theorem VProg.storable (x : VProg) : x.av.storable = true := by unfold AV.storable; rw [VProg.cells]; rfl
theorem VProg.wt_eq (x : VProg) : x.wt = (x.Types.length + (x.Types.map VData.wt).sum) + x.Body.wt := by
  cases x
  simp only [VProg.wt, VProg.Types, VProg.Body]
theorem VProg.facts {l : List VProg} {b : Nat} (h : (l.map VProg.wt).sum ≤ b) : ∀ x ∈ l, x.wt ≤ b ∧ x.wt = (x.Types.length + (x.Types.map VData.wt).sum) + x.Body.wt := fun x hx => ⟨Nat.le_trans (le_sum VProg.wt hx) h, x.wt_eq⟩
inductive VTy where
  | mk (Kind : Int) (N : Int) (Name : ByteArray) (Kids : List VTy)
def VTy.Kind : VTy → Int
  | .mk a _ _ _ => a
def VTy.N : VTy → Int
  | .mk _ a _ _ => a
def VTy.Name : VTy → ByteArray
  | .mk _ _ a _ => a
def VTy.Kids : VTy → List VTy
  | .mk _ _ _ a => a
mutual
def VTy.cs : VTy → List AV
  | .mk Kind N Name Kids => (.v (.int .i64 Kind) :: (.v (.int .i64 N) :: (.v (.string Name) :: (.sl (VTy.avs Kids) :: []))))
def VTy.avs : List VTy → List AV
  | [] => []
  | x :: l => .agg x.cs :: VTy.avs l
end
def VTy.av (x : VTy) : AV := .agg x.cs
theorem VTy.avs_eq (l : List VTy) : VTy.avs l = l.map VTy.av := by
  induction l with
  | nil => rfl
  | cons x l ih => simp only [VTy.avs, ih, List.map_cons, VTy.av]
mutual
def VTy.wt : VTy → Nat
  | .mk Kind N Name Kids => Name.size + (Kids.length + VTy.wts Kids)
def VTy.wts : List VTy → Nat
  | [] => 0
  | x :: l => x.wt + VTy.wts l
end
theorem VTy.wts_eq (l : List VTy) : VTy.wts l = (l.map VTy.wt).sum := by
  induction l with
  | nil => rfl
  | cons x l ih => simp only [VTy.wts, ih, List.map_cons, List.sum_cons]
mutual
theorem VTy.norefsC : ∀ x : VTy, AV.norefs x.cs = true
  | .mk Kind N Name Kids => by simp [VTy.cs, AV.norefs, AV.noref, norefs_append, VTy.norefsL Kids]
theorem VTy.norefsL : ∀ l : List VTy, AV.norefs (VTy.avs l) = true
  | [] => rfl
  | x :: l => by simp [VTy.avs, AV.norefs, AV.noref, VTy.norefsC x, VTy.norefsL l]
end
theorem VTy.noref (x : VTy) : x.av.noref = true   := VTy.norefsC x
theorem VTy.isAgg (x : VTy) : x.av.isAgg = true := nr rfl
theorem VTy.cs_eq (x : VTy) : x.cs = [.v (.int .i64 x.Kind), .v (.int .i64 x.N), .v (.string x.Name), .sl (x.Kids.map VTy.av)] := by
  obtain ⟨Kind, N, Name, Kids⟩ := x
  simp only [VTy.cs, VTy.Kids, VTy.Kind, VTy.N, VTy.Name, VTy.avs_eq, List.cons_append, List.nil_append]
theorem VTy.cells (x : VTy) : x.av.cells = [.v (.int .i64 x.Kind), .v (.int .i64 x.N), .v (.string x.Name), .sl (x.Kids.map VTy.av)] := VTy.cs_eq x
theorem VTy.width (x : VTy) : x.av.cells.length = 4 := by rw [VTy.cells]; rfl
theorem VTy.storable (x : VTy) : x.av.storable = true := by unfold AV.storable; rw [VTy.cells]; rfl
theorem VTy.eta (x : VTy) : AV.agg [.v (.int .i64 x.Kind), .v (.int .i64 x.N), .v (.string x.Name), .sl (x.Kids.map VTy.av)] = x.av := by
  show _ = AV.agg x.cs
  rw [VTy.cs_eq]
theorem VTy.shape (x : VTy) : x.av.isAgg = true ∧ x.av.cells.length = 4 ∧ x.av.storable = true := ⟨rfl, VTy.width x, VTy.storable x⟩
theorem VTy.wt_eq (x : VTy) : x.wt = x.Name.size + (x.Kids.length + (x.Kids.map VTy.wt).sum) := by
  cases x
  simp only [VTy.wt, VTy.wts_eq, VTy.Kind, VTy.N, VTy.Name, VTy.Kids]
theorem VTy.facts {l : List VTy} {b : Nat} (h : (l.map VTy.wt).sum ≤ b) : ∀ x ∈ l, x.wt ≤ b ∧ x.wt = x.Name.size + (x.Kids.length + (x.Kids.map VTy.wt).sum) := fun x hx => ⟨Nat.le_trans (le_sum VTy.wt hx) h, x.wt_eq⟩
theorem VTy.Kids_lt {x : VTy} {y : VTy} (h : y ∈ x.Kids) : SizeOf.sizeOf y < SizeOf.sizeOf x := by
  cases x
  have := List.sizeOf_lt_of_mem h
  simp only [VTy.Kids] at this
  simp; omega
inductive VCtorInfo where
  | mk (Name : ByteArray) (Has : Bool) (Arg : VTy)
def VCtorInfo.Name : VCtorInfo → ByteArray
  | .mk a _ _ => a
def VCtorInfo.Has : VCtorInfo → Bool
  | .mk _ a _ => a
def VCtorInfo.Arg : VCtorInfo → VTy
  | .mk _ _ a => a
def VCtorInfo.cs : VCtorInfo → List AV
  | .mk Name Has Arg => (.v (.string Name) :: (.v (.bool Has) :: (Arg.cs ++ [])))
def VCtorInfo.av (x : VCtorInfo) : AV := .agg x.cs
def VCtorInfo.wt : VCtorInfo → Nat
  | .mk Name Has Arg => Name.size + Arg.wt
theorem VCtorInfo.norefsC : ∀ x : VCtorInfo, AV.norefs x.cs = true
  | .mk Name Has Arg => by simp [VCtorInfo.cs, AV.norefs, AV.noref, norefs_append, VTy.norefsC Arg]
theorem VCtorInfo.noref (x : VCtorInfo) : x.av.noref = true   := VCtorInfo.norefsC x
theorem VCtorInfo.isAgg (x : VCtorInfo) : x.av.isAgg = true := nr rfl
theorem VCtorInfo.cs_eq (x : VCtorInfo) : x.cs = [.v (.string x.Name), .v (.bool x.Has), .v (.int .i64 x.Arg.Kind), .v (.int .i64 x.Arg.N), .v (.string x.Arg.Name), .sl (x.Arg.Kids.map VTy.av)] := by
  obtain ⟨Name, Has, ⟨Arg_Kind, Arg_N, Arg_Name, Arg_Kids⟩⟩ := x
  simp only [VCtorInfo.cs, VTy.cs, VCtorInfo.Arg, VCtorInfo.Has, VCtorInfo.Name, VTy.Kids, VTy.Kind, VTy.N, VTy.Name, VTy.avs_eq, List.cons_append, List.nil_append]
theorem VCtorInfo.cells (x : VCtorInfo) : x.av.cells = [.v (.string x.Name), .v (.bool x.Has), .v (.int .i64 x.Arg.Kind), .v (.int .i64 x.Arg.N), .v (.string x.Arg.Name), .sl (x.Arg.Kids.map VTy.av)] := VCtorInfo.cs_eq x
theorem VCtorInfo.storable (x : VCtorInfo) : x.av.storable = true := by unfold AV.storable; rw [VCtorInfo.cells]; rfl
theorem VCtorInfo.wt_eq (x : VCtorInfo) : x.wt = x.Name.size + x.Arg.wt := by
  cases x
  simp only [VCtorInfo.wt, VCtorInfo.Name, VCtorInfo.Has, VCtorInfo.Arg]
theorem VCtorInfo.facts {l : List VCtorInfo} {b : Nat} (h : (l.map VCtorInfo.wt).sum ≤ b) : ∀ x ∈ l, x.wt ≤ b ∧ x.wt = x.Name.size + x.Arg.wt := fun x hx => ⟨Nat.le_trans (le_sum VCtorInfo.wt hx) h, x.wt_eq⟩
inductive VDataInfo where
  | mk (Name : ByteArray) (Vars : Int) (Ctors : List VCtorInfo)
def VDataInfo.Name : VDataInfo → ByteArray
  | .mk a _ _ => a
def VDataInfo.Vars : VDataInfo → Int
  | .mk _ a _ => a
def VDataInfo.Ctors : VDataInfo → List VCtorInfo
  | .mk _ _ a => a
def VDataInfo.cs : VDataInfo → List AV
  | .mk Name Vars Ctors => (.v (.string Name) :: (.v (.int .i64 Vars) :: (.sl (Ctors.map VCtorInfo.av) :: [])))
def VDataInfo.av (x : VDataInfo) : AV := .agg x.cs
def VDataInfo.wt : VDataInfo → Nat
  | .mk Name Vars Ctors => Name.size + (Ctors.length + (Ctors.map VCtorInfo.wt).sum)
theorem VDataInfo.norefsC : ∀ x : VDataInfo, AV.norefs x.cs = true
  | .mk Name Vars Ctors => by simp [VDataInfo.cs, AV.norefs, AV.noref, norefs_append, norefsM (f := VCtorInfo.av) (l := Ctors) VCtorInfo.noref]
theorem VDataInfo.noref (x : VDataInfo) : x.av.noref = true   := VDataInfo.norefsC x
theorem VDataInfo.isAgg (x : VDataInfo) : x.av.isAgg = true := nr rfl
theorem VDataInfo.cs_eq (x : VDataInfo) : x.cs = [.v (.string x.Name), .v (.int .i64 x.Vars), .sl (x.Ctors.map VCtorInfo.av)] := by
  obtain ⟨Name, Vars, Ctors⟩ := x
  simp only [VDataInfo.cs, VDataInfo.Ctors, VDataInfo.Name, VDataInfo.Vars, List.cons_append, List.nil_append]
theorem VDataInfo.cells (x : VDataInfo) : x.av.cells = [.v (.string x.Name), .v (.int .i64 x.Vars), .sl (x.Ctors.map VCtorInfo.av)] := VDataInfo.cs_eq x
theorem VDataInfo.storable (x : VDataInfo) : x.av.storable = true := by unfold AV.storable; rw [VDataInfo.cells]; rfl
theorem VDataInfo.wt_eq (x : VDataInfo) : x.wt = x.Name.size + (x.Ctors.length + (x.Ctors.map VCtorInfo.wt).sum) := by
  cases x
  simp only [VDataInfo.wt, VDataInfo.Name, VDataInfo.Vars, VDataInfo.Ctors]
theorem VDataInfo.facts {l : List VDataInfo} {b : Nat} (h : (l.map VDataInfo.wt).sum ≤ b) : ∀ x ∈ l, x.wt ≤ b ∧ x.wt = x.Name.size + (x.Ctors.length + (x.Ctors.map VCtorInfo.wt).sum) := fun x hx => ⟨Nat.le_trans (le_sum VDataInfo.wt hx) h, x.wt_eq⟩
inductive VCPat where
  | mk (Kind : Int) (Num : Int) (Name : ByteArray) (T : VTy) (Kids : List VCPat)
def VCPat.Kind : VCPat → Int
  | .mk a _ _ _ _ => a
def VCPat.Num : VCPat → Int
  | .mk _ a _ _ _ => a
def VCPat.Name : VCPat → ByteArray
  | .mk _ _ a _ _ => a
def VCPat.T : VCPat → VTy
  | .mk _ _ _ a _ => a
def VCPat.Kids : VCPat → List VCPat
  | .mk _ _ _ _ a => a
mutual
def VCPat.cs : VCPat → List AV
  | .mk Kind Num Name T Kids => (.v (.int .i64 Kind) :: (.v (.int .i64 Num) :: (.v (.string Name) :: (T.cs ++ (.sl (VCPat.avs Kids) :: [])))))
def VCPat.avs : List VCPat → List AV
  | [] => []
  | x :: l => .agg x.cs :: VCPat.avs l
end
def VCPat.av (x : VCPat) : AV := .agg x.cs
theorem VCPat.avs_eq (l : List VCPat) : VCPat.avs l = l.map VCPat.av := by
  induction l with
  | nil => rfl
  | cons x l ih => simp only [VCPat.avs, ih, List.map_cons, VCPat.av]
mutual
def VCPat.wt : VCPat → Nat
  | .mk Kind Num Name T Kids => Name.size + T.wt + (Kids.length + VCPat.wts Kids)
def VCPat.wts : List VCPat → Nat
  | [] => 0
  | x :: l => x.wt + VCPat.wts l
end
theorem VCPat.wts_eq (l : List VCPat) : VCPat.wts l = (l.map VCPat.wt).sum := by
  induction l with
  | nil => rfl
  | cons x l ih => simp only [VCPat.wts, ih, List.map_cons, List.sum_cons]
mutual
theorem VCPat.norefsC : ∀ x : VCPat, AV.norefs x.cs = true
  | .mk Kind Num Name T Kids => by simp [VCPat.cs, AV.norefs, AV.noref, norefs_append, VTy.norefsC T, VCPat.norefsL Kids]
theorem VCPat.norefsL : ∀ l : List VCPat, AV.norefs (VCPat.avs l) = true
  | [] => rfl
  | x :: l => by simp [VCPat.avs, AV.norefs, AV.noref, VCPat.norefsC x, VCPat.norefsL l]
end
theorem VCPat.noref (x : VCPat) : x.av.noref = true   := VCPat.norefsC x
theorem VCPat.isAgg (x : VCPat) : x.av.isAgg = true := nr rfl
theorem VCPat.cs_eq (x : VCPat) : x.cs = [.v (.int .i64 x.Kind), .v (.int .i64 x.Num), .v (.string x.Name), .v (.int .i64 x.T.Kind), .v (.int .i64 x.T.N), .v (.string x.T.Name), .sl (x.T.Kids.map VTy.av), .sl (x.Kids.map VCPat.av)] := by
  obtain ⟨Kind, Num, Name, ⟨T_Kind, T_N, T_Name, T_Kids⟩, Kids⟩ := x
  simp only [VCPat.cs, VTy.cs, VCPat.Kids, VCPat.Kind, VCPat.Name, VCPat.Num, VCPat.T, VTy.Kids, VTy.Kind, VTy.N, VTy.Name, VCPat.avs_eq, VTy.avs_eq, List.cons_append, List.nil_append]
theorem VCPat.cells (x : VCPat) : x.av.cells = [.v (.int .i64 x.Kind), .v (.int .i64 x.Num), .v (.string x.Name), .v (.int .i64 x.T.Kind), .v (.int .i64 x.T.N), .v (.string x.T.Name), .sl (x.T.Kids.map VTy.av), .sl (x.Kids.map VCPat.av)] := VCPat.cs_eq x
theorem VCPat.storable (x : VCPat) : x.av.storable = true := by unfold AV.storable; rw [VCPat.cells]; rfl
theorem VCPat.wt_eq (x : VCPat) : x.wt = x.Name.size + x.T.wt + (x.Kids.length + (x.Kids.map VCPat.wt).sum) := by
  cases x
  simp only [VCPat.wt, VCPat.wts_eq, VCPat.Kind, VCPat.Num, VCPat.Name, VCPat.T, VCPat.Kids]
theorem VCPat.facts {l : List VCPat} {b : Nat} (h : (l.map VCPat.wt).sum ≤ b) : ∀ x ∈ l, x.wt ≤ b ∧ x.wt = x.Name.size + x.T.wt + (x.Kids.length + (x.Kids.map VCPat.wt).sum) := fun x hx => ⟨Nat.le_trans (le_sum VCPat.wt hx) h, x.wt_eq⟩
mutual
inductive VCore where
  | mk (Kind : Int) (N : Int) (Num : Int) (Text : ByteArray) (Name : ByteArray) (T : VTy) (Ts : List VTy) (Kids : List VCore) (Arms : List VCArm)
inductive VCArm where
  | mk (P : VCPat) (E : VCore)
end
def VCore.Kind : VCore → Int
  | .mk a _ _ _ _ _ _ _ _ => a
def VCore.N : VCore → Int
  | .mk _ a _ _ _ _ _ _ _ => a
def VCore.Num : VCore → Int
  | .mk _ _ a _ _ _ _ _ _ => a
def VCore.Text : VCore → ByteArray
  | .mk _ _ _ a _ _ _ _ _ => a
def VCore.Name : VCore → ByteArray
  | .mk _ _ _ _ a _ _ _ _ => a
def VCore.T : VCore → VTy
  | .mk _ _ _ _ _ a _ _ _ => a
def VCore.Ts : VCore → List VTy
  | .mk _ _ _ _ _ _ a _ _ => a
def VCore.Kids : VCore → List VCore
  | .mk _ _ _ _ _ _ _ a _ => a
def VCore.Arms : VCore → List VCArm
  | .mk _ _ _ _ _ _ _ _ a => a
def VCArm.P : VCArm → VCPat
  | .mk a _ => a
def VCArm.E : VCArm → VCore
  | .mk _ a => a
mutual
def VCore.cs : VCore → List AV
  | .mk Kind N Num Text Name T Ts Kids Arms => (.v (.int .i64 Kind) :: (.v (.int .i64 N) :: (.v (.int .i64 Num) :: (.v (.string Text) :: (.v (.string Name) :: (T.cs ++ (.sl (Ts.map VTy.av) :: (.sl (VCore.avs Kids) :: (.sl (VCArm.avs Arms) :: [])))))))))
def VCArm.cs : VCArm → List AV
  | .mk P E => (P.cs ++ (E.cs ++ []))
def VCore.avs : List VCore → List AV
  | [] => []
  | x :: l => .agg x.cs :: VCore.avs l
def VCArm.avs : List VCArm → List AV
  | [] => []
  | x :: l => .agg x.cs :: VCArm.avs l
end
def VCore.av (x : VCore) : AV := .agg x.cs
theorem VCore.avs_eq (l : List VCore) : VCore.avs l = l.map VCore.av := by
  induction l with
  | nil => rfl
  | cons x l ih => simp only [VCore.avs, ih, List.map_cons, VCore.av]
def VCArm.av (x : VCArm) : AV := .agg x.cs
theorem VCArm.avs_eq (l : List VCArm) : VCArm.avs l = l.map VCArm.av := by
  induction l with
  | nil => rfl
  | cons x l ih => simp only [VCArm.avs, ih, List.map_cons, VCArm.av]
mutual
def VCore.wt : VCore → Nat
  | .mk Kind N Num Text Name T Ts Kids Arms => Text.size + Name.size + T.wt + (Ts.length + (Ts.map VTy.wt).sum) + (Kids.length + VCore.wts Kids) + (Arms.length + VCArm.wts Arms)
def VCArm.wt : VCArm → Nat
  | .mk P E => P.wt + E.wt
def VCore.wts : List VCore → Nat
  | [] => 0
  | x :: l => x.wt + VCore.wts l
def VCArm.wts : List VCArm → Nat
  | [] => 0
  | x :: l => x.wt + VCArm.wts l
end
theorem VCore.wts_eq (l : List VCore) : VCore.wts l = (l.map VCore.wt).sum := by
  induction l with
  | nil => rfl
  | cons x l ih => simp only [VCore.wts, ih, List.map_cons, List.sum_cons]
theorem VCArm.wts_eq (l : List VCArm) : VCArm.wts l = (l.map VCArm.wt).sum := by
  induction l with
  | nil => rfl
  | cons x l ih => simp only [VCArm.wts, ih, List.map_cons, List.sum_cons]
mutual
theorem VCore.norefsC : ∀ x : VCore, AV.norefs x.cs = true
  | .mk Kind N Num Text Name T Ts Kids Arms => by simp [VCore.cs, AV.norefs, AV.noref, norefs_append, VTy.norefsC T, norefsM (f := VTy.av) (l := Ts) VTy.noref, VCore.norefsL Kids, VCArm.norefsL Arms]
theorem VCArm.norefsC : ∀ x : VCArm, AV.norefs x.cs = true
  | .mk P E => by simp [VCArm.cs, AV.norefs, AV.noref, norefs_append, VCPat.norefsC P, VCore.norefsC E]
theorem VCore.norefsL : ∀ l : List VCore, AV.norefs (VCore.avs l) = true
  | [] => rfl
  | x :: l => by simp [VCore.avs, AV.norefs, AV.noref, VCore.norefsC x, VCore.norefsL l]
theorem VCArm.norefsL : ∀ l : List VCArm, AV.norefs (VCArm.avs l) = true
  | [] => rfl
  | x :: l => by simp [VCArm.avs, AV.norefs, AV.noref, VCArm.norefsC x, VCArm.norefsL l]
end
theorem VCore.noref (x : VCore) : x.av.noref = true   := VCore.norefsC x
theorem VCore.isAgg (x : VCore) : x.av.isAgg = true := nr rfl
theorem VCore.cs_eq (x : VCore) : x.cs = [.v (.int .i64 x.Kind), .v (.int .i64 x.N), .v (.int .i64 x.Num), .v (.string x.Text), .v (.string x.Name), .v (.int .i64 x.T.Kind), .v (.int .i64 x.T.N), .v (.string x.T.Name), .sl (x.T.Kids.map VTy.av), .sl (x.Ts.map VTy.av), .sl (x.Kids.map VCore.av), .sl (x.Arms.map VCArm.av)] := by
  obtain ⟨Kind, N, Num, Text, Name, ⟨T_Kind, T_N, T_Name, T_Kids⟩, Ts, Kids, Arms⟩ := x
  simp only [VCore.cs, VTy.cs, VCore.Arms, VCore.Kids, VCore.Kind, VCore.N, VCore.Name, VCore.Num, VCore.T, VCore.Text, VCore.Ts, VTy.Kids, VTy.Kind, VTy.N, VTy.Name, VCArm.avs_eq, VCore.avs_eq, VTy.avs_eq, List.cons_append, List.nil_append]
theorem VCore.cells (x : VCore) : x.av.cells = [.v (.int .i64 x.Kind), .v (.int .i64 x.N), .v (.int .i64 x.Num), .v (.string x.Text), .v (.string x.Name), .v (.int .i64 x.T.Kind), .v (.int .i64 x.T.N), .v (.string x.T.Name), .sl (x.T.Kids.map VTy.av), .sl (x.Ts.map VTy.av), .sl (x.Kids.map VCore.av), .sl (x.Arms.map VCArm.av)] := VCore.cs_eq x
theorem VCore.storable (x : VCore) : x.av.storable = true := by unfold AV.storable; rw [VCore.cells]; rfl
theorem VCore.wt_eq (x : VCore) : x.wt = x.Text.size + x.Name.size + x.T.wt + (x.Ts.length + (x.Ts.map VTy.wt).sum) + (x.Kids.length + (x.Kids.map VCore.wt).sum) + (x.Arms.length + (x.Arms.map VCArm.wt).sum) := by
  cases x
  simp only [VCore.wt, VCore.wts_eq, VCArm.wts_eq, VCore.Kind, VCore.N, VCore.Num, VCore.Text, VCore.Name, VCore.T, VCore.Ts, VCore.Kids, VCore.Arms]
theorem VCore.facts {l : List VCore} {b : Nat} (h : (l.map VCore.wt).sum ≤ b) : ∀ x ∈ l, x.wt ≤ b ∧ x.wt = x.Text.size + x.Name.size + x.T.wt + (x.Ts.length + (x.Ts.map VTy.wt).sum) + (x.Kids.length + (x.Kids.map VCore.wt).sum) + (x.Arms.length + (x.Arms.map VCArm.wt).sum) := fun x hx => ⟨Nat.le_trans (le_sum VCore.wt hx) h, x.wt_eq⟩
theorem VCArm.noref (x : VCArm) : x.av.noref = true   := VCArm.norefsC x
theorem VCArm.isAgg (x : VCArm) : x.av.isAgg = true := nr rfl
theorem VCArm.cs_eq (x : VCArm) : x.cs = [.v (.int .i64 x.P.Kind), .v (.int .i64 x.P.Num), .v (.string x.P.Name), .v (.int .i64 x.P.T.Kind), .v (.int .i64 x.P.T.N), .v (.string x.P.T.Name), .sl (x.P.T.Kids.map VTy.av), .sl (x.P.Kids.map VCPat.av), .v (.int .i64 x.E.Kind), .v (.int .i64 x.E.N), .v (.int .i64 x.E.Num), .v (.string x.E.Text), .v (.string x.E.Name), .v (.int .i64 x.E.T.Kind), .v (.int .i64 x.E.T.N), .v (.string x.E.T.Name), .sl (x.E.T.Kids.map VTy.av), .sl (x.E.Ts.map VTy.av), .sl (x.E.Kids.map VCore.av), .sl (x.E.Arms.map VCArm.av)] := by
  obtain ⟨⟨P_Kind, P_Num, P_Name, ⟨P_T_Kind, P_T_N, P_T_Name, P_T_Kids⟩, P_Kids⟩, ⟨E_Kind, E_N, E_Num, E_Text, E_Name, ⟨E_T_Kind, E_T_N, E_T_Name, E_T_Kids⟩, E_Ts, E_Kids, E_Arms⟩⟩ := x
  simp only [VCArm.cs, VCPat.cs, VCore.cs, VTy.cs, VCArm.E, VCArm.P, VCPat.Kids, VCPat.Kind, VCPat.Name, VCPat.Num, VCPat.T, VCore.Arms, VCore.Kids, VCore.Kind, VCore.N, VCore.Name, VCore.Num, VCore.T, VCore.Text, VCore.Ts, VTy.Kids, VTy.Kind, VTy.N, VTy.Name, VCArm.avs_eq, VCPat.avs_eq, VCore.avs_eq, VTy.avs_eq, List.cons_append, List.nil_append]
theorem VCArm.cells (x : VCArm) : x.av.cells = [.v (.int .i64 x.P.Kind), .v (.int .i64 x.P.Num), .v (.string x.P.Name), .v (.int .i64 x.P.T.Kind), .v (.int .i64 x.P.T.N), .v (.string x.P.T.Name), .sl (x.P.T.Kids.map VTy.av), .sl (x.P.Kids.map VCPat.av), .v (.int .i64 x.E.Kind), .v (.int .i64 x.E.N), .v (.int .i64 x.E.Num), .v (.string x.E.Text), .v (.string x.E.Name), .v (.int .i64 x.E.T.Kind), .v (.int .i64 x.E.T.N), .v (.string x.E.T.Name), .sl (x.E.T.Kids.map VTy.av), .sl (x.E.Ts.map VTy.av), .sl (x.E.Kids.map VCore.av), .sl (x.E.Arms.map VCArm.av)] := VCArm.cs_eq x
theorem VCArm.storable (x : VCArm) : x.av.storable = true := by unfold AV.storable; rw [VCArm.cells]; rfl
theorem VCArm.wt_eq (x : VCArm) : x.wt = x.P.wt + x.E.wt := by
  cases x
  simp only [VCArm.wt, VCore.wts_eq, VCArm.wts_eq, VCArm.P, VCArm.E]
theorem VCArm.facts {l : List VCArm} {b : Nat} (h : (l.map VCArm.wt).sum ≤ b) : ∀ x ∈ l, x.wt ≤ b ∧ x.wt = x.P.wt + x.E.wt := fun x hx => ⟨Nat.le_trans (le_sum VCArm.wt hx) h, x.wt_eq⟩
inductive VKVal where
  | mk (Kind : Int) (N : Int) (Num : Int) (Text : ByteArray)
def VKVal.Kind : VKVal → Int
  | .mk a _ _ _ => a
def VKVal.N : VKVal → Int
  | .mk _ a _ _ => a
def VKVal.Num : VKVal → Int
  | .mk _ _ a _ => a
def VKVal.Text : VKVal → ByteArray
  | .mk _ _ _ a => a
def VKVal.cs : VKVal → List AV
  | .mk Kind N Num Text => (.v (.int .i64 Kind) :: (.v (.int .i64 N) :: (.v (.int .i64 Num) :: (.v (.string Text) :: []))))
def VKVal.av (x : VKVal) : AV := .agg x.cs
def VKVal.wt : VKVal → Nat
  | .mk Kind N Num Text => Text.size
theorem VKVal.norefsC : ∀ x : VKVal, AV.norefs x.cs = true
  | .mk Kind N Num Text => by simp [VKVal.cs, AV.norefs, AV.noref, norefs_append]
theorem VKVal.noref (x : VKVal) : x.av.noref = true   := VKVal.norefsC x
theorem VKVal.isAgg (x : VKVal) : x.av.isAgg = true := nr rfl
theorem VKVal.cs_eq (x : VKVal) : x.cs = [.v (.int .i64 x.Kind), .v (.int .i64 x.N), .v (.int .i64 x.Num), .v (.string x.Text)] := by
  obtain ⟨Kind, N, Num, Text⟩ := x
  simp only [VKVal.cs, VKVal.Kind, VKVal.N, VKVal.Num, VKVal.Text, List.cons_append, List.nil_append]
theorem VKVal.cells (x : VKVal) : x.av.cells = [.v (.int .i64 x.Kind), .v (.int .i64 x.N), .v (.int .i64 x.Num), .v (.string x.Text)] := VKVal.cs_eq x
theorem VKVal.storable (x : VKVal) : x.av.storable = true := by unfold AV.storable; rw [VKVal.cells]; rfl
theorem VKVal.wt_eq (x : VKVal) : x.wt = x.Text.size := by
  cases x
  simp only [VKVal.wt, VKVal.Kind, VKVal.N, VKVal.Num, VKVal.Text]
theorem VKVal.facts {l : List VKVal} {b : Nat} (h : (l.map VKVal.wt).sum ≤ b) : ∀ x ∈ l, x.wt ≤ b ∧ x.wt = x.Text.size := fun x hx => ⟨Nat.le_trans (le_sum VKVal.wt hx) h, x.wt_eq⟩
inductive VKTerm where
  | mk (Kind : Int) (Name : ByteArray) (N : Int) (Num : Int) (T : VTy) (Ts : List VTy) (Vs : List VKVal) (Kids : List VKTerm)
def VKTerm.Kind : VKTerm → Int
  | .mk a _ _ _ _ _ _ _ => a
def VKTerm.Name : VKTerm → ByteArray
  | .mk _ a _ _ _ _ _ _ => a
def VKTerm.N : VKTerm → Int
  | .mk _ _ a _ _ _ _ _ => a
def VKTerm.Num : VKTerm → Int
  | .mk _ _ _ a _ _ _ _ => a
def VKTerm.T : VKTerm → VTy
  | .mk _ _ _ _ a _ _ _ => a
def VKTerm.Ts : VKTerm → List VTy
  | .mk _ _ _ _ _ a _ _ => a
def VKTerm.Vs : VKTerm → List VKVal
  | .mk _ _ _ _ _ _ a _ => a
def VKTerm.Kids : VKTerm → List VKTerm
  | .mk _ _ _ _ _ _ _ a => a
mutual
def VKTerm.cs : VKTerm → List AV
  | .mk Kind Name N Num T Ts Vs Kids => (.v (.int .i64 Kind) :: (.v (.string Name) :: (.v (.int .i64 N) :: (.v (.int .i64 Num) :: (T.cs ++ (.sl (Ts.map VTy.av) :: (.sl (Vs.map VKVal.av) :: (.sl (VKTerm.avs Kids) :: []))))))))
def VKTerm.avs : List VKTerm → List AV
  | [] => []
  | x :: l => .agg x.cs :: VKTerm.avs l
end
def VKTerm.av (x : VKTerm) : AV := .agg x.cs
theorem VKTerm.avs_eq (l : List VKTerm) : VKTerm.avs l = l.map VKTerm.av := by
  induction l with
  | nil => rfl
  | cons x l ih => simp only [VKTerm.avs, ih, List.map_cons, VKTerm.av]
mutual
def VKTerm.wt : VKTerm → Nat
  | .mk Kind Name N Num T Ts Vs Kids => Name.size + T.wt + (Ts.length + (Ts.map VTy.wt).sum) + (Vs.length + (Vs.map VKVal.wt).sum) + (Kids.length + VKTerm.wts Kids)
def VKTerm.wts : List VKTerm → Nat
  | [] => 0
  | x :: l => x.wt + VKTerm.wts l
end
theorem VKTerm.wts_eq (l : List VKTerm) : VKTerm.wts l = (l.map VKTerm.wt).sum := by
  induction l with
  | nil => rfl
  | cons x l ih => simp only [VKTerm.wts, ih, List.map_cons, List.sum_cons]
mutual
theorem VKTerm.norefsC : ∀ x : VKTerm, AV.norefs x.cs = true
  | .mk Kind Name N Num T Ts Vs Kids => by simp [VKTerm.cs, AV.norefs, AV.noref, norefs_append, VTy.norefsC T, norefsM (f := VTy.av) (l := Ts) VTy.noref, norefsM (f := VKVal.av) (l := Vs) VKVal.noref, VKTerm.norefsL Kids]
theorem VKTerm.norefsL : ∀ l : List VKTerm, AV.norefs (VKTerm.avs l) = true
  | [] => rfl
  | x :: l => by simp [VKTerm.avs, AV.norefs, AV.noref, VKTerm.norefsC x, VKTerm.norefsL l]
end
theorem VKTerm.noref (x : VKTerm) : x.av.noref = true   := VKTerm.norefsC x
theorem VKTerm.isAgg (x : VKTerm) : x.av.isAgg = true := nr rfl
theorem VKTerm.cs_eq (x : VKTerm) : x.cs = [.v (.int .i64 x.Kind), .v (.string x.Name), .v (.int .i64 x.N), .v (.int .i64 x.Num), .v (.int .i64 x.T.Kind), .v (.int .i64 x.T.N), .v (.string x.T.Name), .sl (x.T.Kids.map VTy.av), .sl (x.Ts.map VTy.av), .sl (x.Vs.map VKVal.av), .sl (x.Kids.map VKTerm.av)] := by
  obtain ⟨Kind, Name, N, Num, ⟨T_Kind, T_N, T_Name, T_Kids⟩, Ts, Vs, Kids⟩ := x
  simp only [VKTerm.cs, VTy.cs, VKTerm.Kids, VKTerm.Kind, VKTerm.N, VKTerm.Name, VKTerm.Num, VKTerm.T, VKTerm.Ts, VKTerm.Vs, VTy.Kids, VTy.Kind, VTy.N, VTy.Name, VKTerm.avs_eq, VTy.avs_eq, List.cons_append, List.nil_append]
theorem VKTerm.cells (x : VKTerm) : x.av.cells = [.v (.int .i64 x.Kind), .v (.string x.Name), .v (.int .i64 x.N), .v (.int .i64 x.Num), .v (.int .i64 x.T.Kind), .v (.int .i64 x.T.N), .v (.string x.T.Name), .sl (x.T.Kids.map VTy.av), .sl (x.Ts.map VTy.av), .sl (x.Vs.map VKVal.av), .sl (x.Kids.map VKTerm.av)] := VKTerm.cs_eq x
theorem VKTerm.storable (x : VKTerm) : x.av.storable = true := by unfold AV.storable; rw [VKTerm.cells]; rfl
theorem VKTerm.wt_eq (x : VKTerm) : x.wt = x.Name.size + x.T.wt + (x.Ts.length + (x.Ts.map VTy.wt).sum) + (x.Vs.length + (x.Vs.map VKVal.wt).sum) + (x.Kids.length + (x.Kids.map VKTerm.wt).sum) := by
  cases x
  simp only [VKTerm.wt, VKTerm.wts_eq, VKTerm.Kind, VKTerm.Name, VKTerm.N, VKTerm.Num, VKTerm.T, VKTerm.Ts, VKTerm.Vs, VKTerm.Kids]
theorem VKTerm.facts {l : List VKTerm} {b : Nat} (h : (l.map VKTerm.wt).sum ≤ b) : ∀ x ∈ l, x.wt ≤ b ∧ x.wt = x.Name.size + x.T.wt + (x.Ts.length + (x.Ts.map VTy.wt).sum) + (x.Vs.length + (x.Vs.map VKVal.wt).sum) + (x.Kids.length + (x.Kids.map VKTerm.wt).sum) := fun x hx => ⟨Nat.le_trans (le_sum VKTerm.wt hx) h, x.wt_eq⟩
inductive VSlot where
  | mk (T : VTy) (Many : Int) (Cont : Bool)
def VSlot.T : VSlot → VTy
  | .mk a _ _ => a
def VSlot.Many : VSlot → Int
  | .mk _ a _ => a
def VSlot.Cont : VSlot → Bool
  | .mk _ _ a => a
def VSlot.cs : VSlot → List AV
  | .mk T Many Cont => (T.cs ++ (.v (.int .i64 Many) :: (.v (.bool Cont) :: [])))
def VSlot.av (x : VSlot) : AV := .agg x.cs
def VSlot.wt : VSlot → Nat
  | .mk T Many Cont => T.wt
theorem VSlot.norefsC : ∀ x : VSlot, AV.norefs x.cs = true
  | .mk T Many Cont => by simp [VSlot.cs, AV.norefs, AV.noref, norefs_append, VTy.norefsC T]
theorem VSlot.noref (x : VSlot) : x.av.noref = true   := VSlot.norefsC x
theorem VSlot.isAgg (x : VSlot) : x.av.isAgg = true := nr rfl
theorem VSlot.cs_eq (x : VSlot) : x.cs = [.v (.int .i64 x.T.Kind), .v (.int .i64 x.T.N), .v (.string x.T.Name), .sl (x.T.Kids.map VTy.av), .v (.int .i64 x.Many), .v (.bool x.Cont)] := by
  obtain ⟨⟨T_Kind, T_N, T_Name, T_Kids⟩, Many, Cont⟩ := x
  simp only [VSlot.cs, VTy.cs, VSlot.Cont, VSlot.Many, VSlot.T, VTy.Kids, VTy.Kind, VTy.N, VTy.Name, VTy.avs_eq, List.cons_append, List.nil_append]
theorem VSlot.cells (x : VSlot) : x.av.cells = [.v (.int .i64 x.T.Kind), .v (.int .i64 x.T.N), .v (.string x.T.Name), .sl (x.T.Kids.map VTy.av), .v (.int .i64 x.Many), .v (.bool x.Cont)] := VSlot.cs_eq x
theorem VSlot.storable (x : VSlot) : x.av.storable = true := by unfold AV.storable; rw [VSlot.cells]; rfl
theorem VSlot.wt_eq (x : VSlot) : x.wt = x.T.wt := by
  cases x
  simp only [VSlot.wt, VSlot.T, VSlot.Many, VSlot.Cont]
theorem VSlot.facts {l : List VSlot} {b : Nat} (h : (l.map VSlot.wt).sum ≤ b) : ∀ x ∈ l, x.wt ≤ b ∧ x.wt = x.T.wt := fun x hx => ⟨Nat.le_trans (le_sum VSlot.wt hx) h, x.wt_eq⟩
inductive VBlock where
  | mk (Vars : Int) (Caps : List VSlot) (Cont : Bool) (T : VTy) (Body : VKTerm)
def VBlock.Vars : VBlock → Int
  | .mk a _ _ _ _ => a
def VBlock.Caps : VBlock → List VSlot
  | .mk _ a _ _ _ => a
def VBlock.Cont : VBlock → Bool
  | .mk _ _ a _ _ => a
def VBlock.T : VBlock → VTy
  | .mk _ _ _ a _ => a
def VBlock.Body : VBlock → VKTerm
  | .mk _ _ _ _ a => a
def VBlock.cs : VBlock → List AV
  | .mk Vars Caps Cont T Body => (.v (.int .i64 Vars) :: (.sl (Caps.map VSlot.av) :: (.v (.bool Cont) :: (T.cs ++ (Body.cs ++ [])))))
def VBlock.av (x : VBlock) : AV := .agg x.cs
def VBlock.wt : VBlock → Nat
  | .mk Vars Caps Cont T Body => (Caps.length + (Caps.map VSlot.wt).sum) + T.wt + Body.wt
theorem VBlock.norefsC : ∀ x : VBlock, AV.norefs x.cs = true
  | .mk Vars Caps Cont T Body => by simp [VBlock.cs, AV.norefs, AV.noref, norefs_append, norefsM (f := VSlot.av) (l := Caps) VSlot.noref, VTy.norefsC T, VKTerm.norefsC Body]
theorem VBlock.noref (x : VBlock) : x.av.noref = true   := VBlock.norefsC x
theorem VBlock.isAgg (x : VBlock) : x.av.isAgg = true := nr rfl
theorem VBlock.cs_eq (x : VBlock) : x.cs = [.v (.int .i64 x.Vars), .sl (x.Caps.map VSlot.av), .v (.bool x.Cont), .v (.int .i64 x.T.Kind), .v (.int .i64 x.T.N), .v (.string x.T.Name), .sl (x.T.Kids.map VTy.av), .v (.int .i64 x.Body.Kind), .v (.string x.Body.Name), .v (.int .i64 x.Body.N), .v (.int .i64 x.Body.Num), .v (.int .i64 x.Body.T.Kind), .v (.int .i64 x.Body.T.N), .v (.string x.Body.T.Name), .sl (x.Body.T.Kids.map VTy.av), .sl (x.Body.Ts.map VTy.av), .sl (x.Body.Vs.map VKVal.av), .sl (x.Body.Kids.map VKTerm.av)] := by
  obtain ⟨Vars, Caps, Cont, ⟨T_Kind, T_N, T_Name, T_Kids⟩, ⟨Body_Kind, Body_Name, Body_N, Body_Num, ⟨Body_T_Kind, Body_T_N, Body_T_Name, Body_T_Kids⟩, Body_Ts, Body_Vs, Body_Kids⟩⟩ := x
  simp only [VBlock.cs, VKTerm.cs, VTy.cs, VBlock.Body, VBlock.Caps, VBlock.Cont, VBlock.T, VBlock.Vars, VKTerm.Kids, VKTerm.Kind, VKTerm.N, VKTerm.Name, VKTerm.Num, VKTerm.T, VKTerm.Ts, VKTerm.Vs, VTy.Kids, VTy.Kind, VTy.N, VTy.Name, VKTerm.avs_eq, VTy.avs_eq, List.cons_append, List.nil_append]
theorem VBlock.cells (x : VBlock) : x.av.cells = [.v (.int .i64 x.Vars), .sl (x.Caps.map VSlot.av), .v (.bool x.Cont), .v (.int .i64 x.T.Kind), .v (.int .i64 x.T.N), .v (.string x.T.Name), .sl (x.T.Kids.map VTy.av), .v (.int .i64 x.Body.Kind), .v (.string x.Body.Name), .v (.int .i64 x.Body.N), .v (.int .i64 x.Body.Num), .v (.int .i64 x.Body.T.Kind), .v (.int .i64 x.Body.T.N), .v (.string x.Body.T.Name), .sl (x.Body.T.Kids.map VTy.av), .sl (x.Body.Ts.map VTy.av), .sl (x.Body.Vs.map VKVal.av), .sl (x.Body.Kids.map VKTerm.av)] := VBlock.cs_eq x
theorem VBlock.storable (x : VBlock) : x.av.storable = true := by unfold AV.storable; rw [VBlock.cells]; rfl
theorem VBlock.wt_eq (x : VBlock) : x.wt = (x.Caps.length + (x.Caps.map VSlot.wt).sum) + x.T.wt + x.Body.wt := by
  cases x
  simp only [VBlock.wt, VBlock.Vars, VBlock.Caps, VBlock.Cont, VBlock.T, VBlock.Body]
theorem VBlock.facts {l : List VBlock} {b : Nat} (h : (l.map VBlock.wt).sum ≤ b) : ∀ x ∈ l, x.wt ≤ b ∧ x.wt = (x.Caps.length + (x.Caps.map VSlot.wt).sum) + x.T.wt + x.Body.wt := fun x hx => ⟨Nat.le_trans (le_sum VBlock.wt hx) h, x.wt_eq⟩
inductive VBProg where
  | mk (Blocks : List VBlock) (Main : VKTerm)
def VBProg.Blocks : VBProg → List VBlock
  | .mk a _ => a
def VBProg.Main : VBProg → VKTerm
  | .mk _ a => a
def VBProg.cs : VBProg → List AV
  | .mk Blocks Main => (.sl (Blocks.map VBlock.av) :: (Main.cs ++ []))
def VBProg.av (x : VBProg) : AV := .agg x.cs
def VBProg.wt : VBProg → Nat
  | .mk Blocks Main => (Blocks.length + (Blocks.map VBlock.wt).sum) + Main.wt
theorem VBProg.norefsC : ∀ x : VBProg, AV.norefs x.cs = true
  | .mk Blocks Main => by simp [VBProg.cs, AV.norefs, AV.noref, norefs_append, norefsM (f := VBlock.av) (l := Blocks) VBlock.noref, VKTerm.norefsC Main]
theorem VBProg.noref (x : VBProg) : x.av.noref = true   := VBProg.norefsC x
theorem VBProg.isAgg (x : VBProg) : x.av.isAgg = true := nr rfl
theorem VBProg.cs_eq (x : VBProg) : x.cs = [.sl (x.Blocks.map VBlock.av), .v (.int .i64 x.Main.Kind), .v (.string x.Main.Name), .v (.int .i64 x.Main.N), .v (.int .i64 x.Main.Num), .v (.int .i64 x.Main.T.Kind), .v (.int .i64 x.Main.T.N), .v (.string x.Main.T.Name), .sl (x.Main.T.Kids.map VTy.av), .sl (x.Main.Ts.map VTy.av), .sl (x.Main.Vs.map VKVal.av), .sl (x.Main.Kids.map VKTerm.av)] := by
  obtain ⟨Blocks, ⟨Main_Kind, Main_Name, Main_N, Main_Num, ⟨Main_T_Kind, Main_T_N, Main_T_Name, Main_T_Kids⟩, Main_Ts, Main_Vs, Main_Kids⟩⟩ := x
  simp only [VBProg.cs, VKTerm.cs, VTy.cs, VBProg.Blocks, VBProg.Main, VKTerm.Kids, VKTerm.Kind, VKTerm.N, VKTerm.Name, VKTerm.Num, VKTerm.T, VKTerm.Ts, VKTerm.Vs, VTy.Kids, VTy.Kind, VTy.N, VTy.Name, VKTerm.avs_eq, VTy.avs_eq, List.cons_append, List.nil_append]
theorem VBProg.cells (x : VBProg) : x.av.cells = [.sl (x.Blocks.map VBlock.av), .v (.int .i64 x.Main.Kind), .v (.string x.Main.Name), .v (.int .i64 x.Main.N), .v (.int .i64 x.Main.Num), .v (.int .i64 x.Main.T.Kind), .v (.int .i64 x.Main.T.N), .v (.string x.Main.T.Name), .sl (x.Main.T.Kids.map VTy.av), .sl (x.Main.Ts.map VTy.av), .sl (x.Main.Vs.map VKVal.av), .sl (x.Main.Kids.map VKTerm.av)] := VBProg.cs_eq x
theorem VBProg.storable (x : VBProg) : x.av.storable = true := by unfold AV.storable; rw [VBProg.cells]; rfl
theorem VBProg.wt_eq (x : VBProg) : x.wt = (x.Blocks.length + (x.Blocks.map VBlock.wt).sum) + x.Main.wt := by
  cases x
  simp only [VBProg.wt, VBProg.Blocks, VBProg.Main]
theorem VBProg.facts {l : List VBProg} {b : Nat} (h : (l.map VBProg.wt).sum ≤ b) : ∀ x ∈ l, x.wt ≤ b ∧ x.wt = (x.Blocks.length + (x.Blocks.map VBlock.wt).sum) + x.Main.wt := fun x hx => ⟨Nat.le_trans (le_sum VBProg.wt hx) h, x.wt_eq⟩
inductive VInstr where
  | mk (Op : Int) (A : Int) (B : Int) (C : Int) (N : Int) (Text : ByteArray)
def VInstr.Op : VInstr → Int
  | .mk a _ _ _ _ _ => a
def VInstr.A : VInstr → Int
  | .mk _ a _ _ _ _ => a
def VInstr.B : VInstr → Int
  | .mk _ _ a _ _ _ => a
def VInstr.C : VInstr → Int
  | .mk _ _ _ a _ _ => a
def VInstr.N : VInstr → Int
  | .mk _ _ _ _ a _ => a
def VInstr.Text : VInstr → ByteArray
  | .mk _ _ _ _ _ a => a
def VInstr.cs : VInstr → List AV
  | .mk Op A B C N Text => (.v (.int .i64 Op) :: (.v (.int .i64 A) :: (.v (.int .i64 B) :: (.v (.int .i64 C) :: (.v (.int .i64 N) :: (.v (.string Text) :: []))))))
def VInstr.av (x : VInstr) : AV := .agg x.cs
def VInstr.wt : VInstr → Nat
  | .mk Op A B C N Text => Text.size
def VInstr.ok : VInstr → Prop
  | .mk Op A B C N Text => inR Op ∧ inR A ∧ inR B ∧ inR C ∧ inR N
theorem VInstr.norefsC : ∀ x : VInstr, AV.norefs x.cs = true
  | .mk Op A B C N Text => by simp [VInstr.cs, AV.norefs, AV.noref, norefs_append]
theorem VInstr.noref (x : VInstr) : x.av.noref = true   := VInstr.norefsC x
theorem VInstr.isAgg (x : VInstr) : x.av.isAgg = true := nr rfl
theorem VInstr.cs_eq (x : VInstr) : x.cs = [.v (.int .i64 x.Op), .v (.int .i64 x.A), .v (.int .i64 x.B), .v (.int .i64 x.C), .v (.int .i64 x.N), .v (.string x.Text)] := by
  obtain ⟨Op, A, B, C, N, Text⟩ := x
  simp only [VInstr.cs, VInstr.A, VInstr.B, VInstr.C, VInstr.N, VInstr.Op, VInstr.Text, List.cons_append, List.nil_append]
theorem VInstr.cells (x : VInstr) : x.av.cells = [.v (.int .i64 x.Op), .v (.int .i64 x.A), .v (.int .i64 x.B), .v (.int .i64 x.C), .v (.int .i64 x.N), .v (.string x.Text)] := VInstr.cs_eq x
theorem VInstr.width (x : VInstr) : x.av.cells.length = 6 := by rw [VInstr.cells]; rfl
theorem VInstr.storable (x : VInstr) : x.av.storable = true := by unfold AV.storable; rw [VInstr.cells]; rfl
theorem VInstr.eta (x : VInstr) : AV.agg [.v (.int .i64 x.Op), .v (.int .i64 x.A), .v (.int .i64 x.B), .v (.int .i64 x.C), .v (.int .i64 x.N), .v (.string x.Text)] = x.av := by
  show _ = AV.agg x.cs
  rw [VInstr.cs_eq]
theorem VInstr.shape (x : VInstr) : x.av.isAgg = true ∧ x.av.cells.length = 6 ∧ x.av.storable = true := ⟨rfl, VInstr.width x, VInstr.storable x⟩
theorem VInstr.shape4 (x : VInstr) : x.av.isAgg = true ∧ x.av.cells.length = 6 ∧ x.av.storable = true ∧ x.av.noref = true := ⟨rfl, VInstr.width x, VInstr.storable x, VInstr.noref x⟩
theorem VInstr.wt_eq (x : VInstr) : x.wt = x.Text.size := by
  cases x
  simp only [VInstr.wt, VInstr.Op, VInstr.A, VInstr.B, VInstr.C, VInstr.N, VInstr.Text]
theorem VInstr.facts {l : List VInstr} {b : Nat} (h : (l.map VInstr.wt).sum ≤ b) : ∀ x ∈ l, x.wt ≤ b ∧ x.wt = x.Text.size := fun x hx => ⟨Nat.le_trans (le_sum VInstr.wt hx) h, x.wt_eq⟩
theorem VInstr.ok_iff (x : VInstr) : x.ok ↔ inR x.Op ∧ inR x.A ∧ inR x.B ∧ inR x.C ∧ inR x.N := by
  cases x
  simp only [VInstr.ok, VInstr.Op, VInstr.A, VInstr.B, VInstr.C, VInstr.N, VInstr.Text]
inductive VCode where
  | mk (Instrs : List VInstr) (Starts : List Int)
def VCode.Instrs : VCode → List VInstr
  | .mk a _ => a
def VCode.Starts : VCode → List Int
  | .mk _ a => a
def VCode.cs : VCode → List AV
  | .mk Instrs Starts => (.sl (Instrs.map VInstr.av) :: (.sl (Starts.map fun x => .v (.int .i64 x)) :: []))
def VCode.av (x : VCode) : AV := .agg x.cs
def VCode.wt : VCode → Nat
  | .mk Instrs Starts => (Instrs.length + (Instrs.map VInstr.wt).sum) + Starts.length
def VCode.ok : VCode → Prop
  | .mk Instrs Starts => (∀ y ∈ Instrs, y.ok) ∧ (∀ y ∈ Starts, inR y)
theorem VCode.norefsC : ∀ x : VCode, AV.norefs x.cs = true
  | .mk Instrs Starts => by simp [VCode.cs, AV.norefs, AV.noref, norefs_append, norefsM (f := VInstr.av) (l := Instrs) VInstr.noref, norefsM (f := fun x => .v (.int .i64 x)) (l := Starts) (fun _ => rfl)]
theorem VCode.noref (x : VCode) : x.av.noref = true   := VCode.norefsC x
theorem VCode.isAgg (x : VCode) : x.av.isAgg = true := nr rfl
theorem VCode.cs_eq (x : VCode) : x.cs = [.sl (x.Instrs.map VInstr.av), .sl (x.Starts.map fun x => .v (.int .i64 x))] := by
  obtain ⟨Instrs, Starts⟩ := x
  simp only [VCode.cs, VCode.Instrs, VCode.Starts, List.cons_append, List.nil_append]
theorem VCode.cells (x : VCode) : x.av.cells = [.sl (x.Instrs.map VInstr.av), .sl (x.Starts.map fun x => .v (.int .i64 x))] := VCode.cs_eq x
theorem VCode.width (x : VCode) : x.av.cells.length = 2 := by rw [VCode.cells]; rfl
theorem VCode.storable (x : VCode) : x.av.storable = true := by unfold AV.storable; rw [VCode.cells]; rfl
theorem VCode.eta (x : VCode) : AV.agg [.sl (x.Instrs.map VInstr.av), .sl (x.Starts.map fun x => .v (.int .i64 x))] = x.av := by
  show _ = AV.agg x.cs
  rw [VCode.cs_eq]
theorem VCode.wt_eq (x : VCode) : x.wt = (x.Instrs.length + (x.Instrs.map VInstr.wt).sum) + x.Starts.length := by
  cases x
  simp only [VCode.wt, VCode.Instrs, VCode.Starts]
theorem VCode.facts {l : List VCode} {b : Nat} (h : (l.map VCode.wt).sum ≤ b) : ∀ x ∈ l, x.wt ≤ b ∧ x.wt = (x.Instrs.length + (x.Instrs.map VInstr.wt).sum) + x.Starts.length := fun x hx => ⟨Nat.le_trans (le_sum VCode.wt hx) h, x.wt_eq⟩
theorem VCode.ok_iff (x : VCode) : x.ok ↔ (∀ y ∈ x.Instrs, y.ok) ∧ (∀ y ∈ x.Starts, inR y) := by
  cases x
  simp only [VCode.ok, VCode.Instrs, VCode.Starts]
inductive VEvent where
  | mk (At : Int) (Room : Int) (Put : Int)
def VEvent.At : VEvent → Int
  | .mk a _ _ => a
def VEvent.Room : VEvent → Int
  | .mk _ a _ => a
def VEvent.Put : VEvent → Int
  | .mk _ _ a => a
def VEvent.cs : VEvent → List AV
  | .mk At Room Put => (.v (.int .i64 At) :: (.v (.int .i64 Room) :: (.v (.int .i64 Put) :: [])))
def VEvent.av (x : VEvent) : AV := .agg x.cs
def VEvent.wt : VEvent → Nat
  | .mk At Room Put => 0
theorem VEvent.norefsC : ∀ x : VEvent, AV.norefs x.cs = true
  | .mk At Room Put => by simp [VEvent.cs, AV.norefs, AV.noref, norefs_append]
theorem VEvent.noref (x : VEvent) : x.av.noref = true   := VEvent.norefsC x
theorem VEvent.isAgg (x : VEvent) : x.av.isAgg = true := nr rfl
theorem VEvent.cs_eq (x : VEvent) : x.cs = [.v (.int .i64 x.At), .v (.int .i64 x.Room), .v (.int .i64 x.Put)] := by
  obtain ⟨At, Room, Put⟩ := x
  simp only [VEvent.cs, VEvent.At, VEvent.Put, VEvent.Room, List.cons_append, List.nil_append]
theorem VEvent.cells (x : VEvent) : x.av.cells = [.v (.int .i64 x.At), .v (.int .i64 x.Room), .v (.int .i64 x.Put)] := VEvent.cs_eq x
theorem VEvent.storable (x : VEvent) : x.av.storable = true := by unfold AV.storable; rw [VEvent.cells]; rfl
theorem VEvent.wt_eq (x : VEvent) : x.wt = 0 := by
  cases x
  simp only [VEvent.wt, VEvent.At, VEvent.Room, VEvent.Put]
theorem VEvent.facts {l : List VEvent} {b : Nat} (h : (l.map VEvent.wt).sum ≤ b) : ∀ x ∈ l, x.wt ≤ b ∧ x.wt = 0 := fun x hx => ⟨Nat.le_trans (le_sum VEvent.wt hx) h, x.wt_eq⟩
end Go.Ab
/-
  THE FUNCTIONS OF PACKAGE slices, once for all element types; loops with what holds at each round.
-/
namespace Go.Ab
set_option maxRecDepth 100000
section
variable {P : Program} {L : AX → SS → List AV → Prop} {R : AV → Prop} {t : T} {r : List AV} {S : List (List AV → Prop)}
end
end Go.Ab
/-
  LOOPS OVER LISTS AND BYTES: what is left is what the list's rest asks.
-/
namespace Go.Ab
set_option maxRecDepth 100000
section
variable {P : Program} {L : AX → SS → List AV → Prop} {R : AV → Prop} {t : T} {r : List AV} {S : List (List AV → Prop)}
/-- a string's bytes -/
def bs (s : ByteArray) : List Int := s.data.toList.map fun b => (b.toNat : Int)
end
/- functions whose code the walk does not cover, by contracts in the model's own words -/
end Go.Ab
/-
  AN ELEMENT AT A PLACE THAT IS KNOWN.
-/
namespace Go.Ab
set_option maxRecDepth 100000
end Go.Ab
/-
  TREES OF ONE's OWN IN THE LAWS' HELPERS: rows of elements whose slices have names; toXS; what a walk needs for marks.
-/
namespace Go.Ab
set_option maxRecDepth 100000
/- LISTS -/
/- SPLITS -/
/-- its slices alone -/
def slc : List AV → List AV
  | [] => []
  | .v _ :: r => slc r
  | a :: r => a :: slc r
/- ENDS -/
/- CALLS -/
/- toXS -/
/- DRAWN REGIONS -/
def drawK (P : Program) (n0 : Nat) (rows : List (List Nat)) (ops : List AOper) (Q : AX → Env → List AObj → Prop) (e : Env) (O : List AObj) : Prop := wpC P n0 (.region (some rows) ops) Q e O
theorem c_draw (P : Program) (n0 : Nat) (rows : List (List Nat)) (ops : List AOper) (Q : AX → Env → List AObj → Prop) (e : Env) (O : List AObj) : wpC P n0 (.region (some rows) ops) Q e O = drawK P n0 rows ops Q e O := nr rfl
theorem drawK_intro {P : Program} {n0 : Nat} {rows : List (List Nat)} {ops : List AOper} {Q : AX → Env → List AObj → Prop} {e : Env} {O : List AObj} (h : wpOpsL P ops [] e O fun labs e O => drawOkL rows (ops.zip labs) = true ∧ Q .normal e O) : drawK P n0 rows ops Q e O := ⟨ops, rfl, h⟩
def kontL (P : Program) (d : Option Nat) (e : Env) (r : List AOper) (acc : List Lab) (Q : List Lab → Env → List AObj → Prop) : KT := fun x O' => wpOpsL P r acc (setD e d x) O' Q
theorem k1_kontL (P : Program) (d : Option Nat) (e : Env) (r : List AOper) (acc : List Lab) (Q : List Lab → Env → List AObj → Prop) (a : AV) (O : List AObj) : k1 a O (kontL P d e r acc Q) = wpOpsL P r acc (setD e d a) O Q := nr rfl
theorem wpOpsL_kont (P : Program) (d : Option Nat) (op : AOp) (e : Env) (O : List AObj) (r : List AOper) (acc : List Lab) (Q : List Lab → Env → List AObj → Prop) :
    wpOpsL P (⟨none, d, op⟩ :: r) acc e O Q = wpOp P op e O (kontL P d e r (acc ++ [labOf op e O.length]) Q) := nr rfl
theorem wpOpsL_nil (P : Program) (e : Env) (O : List AObj) (acc : List Lab) (Q : List Lab → Env → List AObj → Prop) : wpOpsL P [] acc e O Q = Q acc e O := nr rfl
def beqK (neg : Bool) (a b : AV) (O : List AObj) (K : KT) : Prop := match a, b with
  | .v (.bool a), .v (.bool b) => K (.v (.bool (neg != (a == b)))) O
  | _, _ => False
theorem beqK_eq (neg a b : Bool) (O : List AObj) (K : KT) : beqK neg (.v (.bool a)) (.v (.bool b)) O K = k1 (.v (.bool (neg != (a == b)))) O K := nr rfl
theorem o_beq (P : Program) (neg : Bool) (x y : Opd) (e : Env) (O : List AObj) (K : KT) : wpOp P (.beq neg x y) e O K = beqK neg (x.ev e) (y.ev e) O K := nr rfl
theorem PCon.any {P : Program} {f : FuncId} {args : List AV} {res : AV} (h : PCon P f args res) (hn : AV.norefs args = true) (hr : res.noref = true) (O : List AObj) : Con P f args O res O := by
  have := Con.fresh h hn O
  rwa [noref_ren res hr, List.map_nil, List.append_nil] at this
theorem cells_own (n : Nat) : (AV.own n).cells = [.own n] := nr rfl
theorem isCell_own (n : Nat) : (AV.own n).isCell = true := nr rfl
theorem storable_own (n : Nat) : (AV.own n).storable = true := nr rfl
theorem upd_own {a b : AV} {cs : List AV} {i : Nat} (n : Nat) (h : i < (a :: b :: cs).length) : upd (.agg (a :: b :: cs)) i (.own n) = .agg ((a :: b :: cs).set i (.own n)) := upd_one rfl h
theorem ren_own (s : Nat → Nat) (n : Nat) : (AV.own n).ren s = .own (s n) := nr rfl
theorem ren_v (s : Nat → Nat) (x : Value) : (AV.v x).ren s = .v x := nr rfl
theorem ren_agg (s : Nat → Nat) (cs : List AV) : (AV.agg cs).ren s = .agg (cs.map (AV.ren s)) := by simp only [AV.ren, rens_eq]
theorem oren_own (s : Nat → Nat) (a : AV) : (AObj.own a).ren s = .own a := nr rfl
theorem oren_dead (s : Nat → Nat) : AObj.dead.ren s = .dead := nr rfl
/- CALLS THAT ARE LENT WHAT IS OWNED -/
theorem Frz.ob {O : List AObj} {n : Nat} {nl : Bool} {e s : Nat} {xs : List AV} (h : O[n]? = some (rowOb nl e s xs)) (hn : AV.norefs xs = true) : Frz O (.row n xs.length) (.sl xs) := by
  unfold rowOb at h
  split at h
  · rename_i hh
    have : xs = [] := by cases xs with
      | nil => rfl
      | cons a l => simp at hh
    subst this
    exact .nil n _ _ h
  · exact .row n _ _ _ _ h rfl hn
/- MORE RULES -/
def puKK (o : PU) (xs : List AV) (O : List AObj) (K : KT) : Prop := AV.norefs xs = true ∧ puK o xs fun v => K v O
theorem o_pu (P : Program) (o : PU) (as : List Opd) (e : Env) (O : List AObj) (K : KT) : wpOp P (.pu o as) e O K = puKK o (as.map fun x => frz O (x.ev e)) O K := nr rfl
theorem puKK_max (k : IntKind) (a b : Int) (O : List AObj) (K : KT) : puKK .max [.v (.int k a), .v (.int k b)] O K = k1 (.v (.int k (max a b))) O K := by
  have : (if a < b then b else a) = max a b := by rw [Int.max_def]; split <;> split <;> omega
  simp [puKK, puK, puF, AV.norefs, AV.noref, k1, this]
/- MARKS THAT ARE KEPT -/
def fcallK (P : Program) (f : FuncId) (args : List AV) (O : List AObj) (K : KT) : Prop := ∃ res ob, AV.norefs args = true ∧ Con P f args [] res [ob] ∧ K (res.ren fun n => O.length + n) (O ++ [ob.ren fun n => O.length + n])
theorem o_fcall (P : Program) (nl : Bool) (t s : Nat) (f : FuncId) (as : List Opd) (e : Env) (O : List AObj) (K : KT) : wpOp P (.fcall nl t s f as) e O K = fcallK P f (as.map (Opd.ev e)) O K := nr rfl
/-- the rules of such walks, in few names -/
def OD0 := And.intro @c_draw (And.intro @wpOpsL_kont (And.intro @wpOpsL_nil (And.intro @o_beq (And.intro @o_pu (And.intro @o_fcall (And.intro @wpC_skip (And.intro @wpC_region (And.intro @c_seq (And.intro @c_cond (And.intro @c_block (And.intro @wpC_exit (And.intro @wpC_ret (And.intro @c_keep (And.intro @c_loop (And.intro @wpOps_nil (And.intro @wpOps_kont (And.intro @c_guard (And.intro @seqQ_n (@seqQ_e)))))))))))))))))))
def OD1 := And.intro @seqQ_r (And.intro @blockQ_n (And.intro @blockQ_e (And.intro @blockQ_r (And.intro @keepQ_n (And.intro @keepQ_e (And.intro @keepQ_r (And.intro @roundQ_e (And.intro @roundQ_r (And.intro @o_mov (And.intro @o_pick (And.intro @o_alloc (And.intro @o_box (And.intro @o_build (And.intro @o_buildSlice (And.intro @o_load (And.intro @o_store (And.intro @o_bin (And.intro @o_un (@o_conv)))))))))))))))))))
def OD2 := And.intro @o_faddr (And.intro @o_fld (And.intro @o_iaddr (And.intro @o_aaddr (And.intro @o_idxS (And.intro @o_sliceS (And.intro @o_sliceL (And.intro @o_mk (And.intro @o_lenS (And.intro @o_lenL (And.intro @o_app (And.intro @o_ext (And.intro @o_nilc (And.intro @o_mkfn (And.intro @o_call (And.intro @o_callv (And.intro @o_pcall (And.intro @o_pcallv (And.intro @o_qcall (@o_qcallv)))))))))))))))))))
def OD3 := And.intro @setD_some (@setD_none)
def OA0 := And.intro @cells_own (And.intro @isCell_own (And.intro @storable_own (And.intro @upd_own (And.intro @ren_own (And.intro @ren_v (And.intro @ren_agg (And.intro @oren_own (And.intro @oren_dead (And.intro @k1_kontL (And.intro @beqK_eq (And.intro @puKK_max (And.intro @k1_kont (And.intro @pickK_true (And.intro @pickK_false (And.intro @pickK_bool (And.intro @boxK_eq (And.intro @bldK_nil (And.intro @bldK_cons (@bslK_nil)))))))))))))))))))
def OA1 := And.intro @bslK_cons (And.intro @objK_live (And.intro @objN_live (And.intro @objN_nil (And.intro @loadK_iptr (And.intro @loadK_ptr (And.intro @storeK_ptr (And.intro @binK_add (And.intro @binK_sub (And.intro @binK_mul (And.intro @binK_and (And.intro @binK_or (And.intro @binK_xor (And.intro @binK_quo (And.intro @binK_rem (And.intro @binK_eql (And.intro @binK_neq (And.intro @binK_lss (And.intro @binK_leq (@binK_gtr)))))))))))))))))))
def OA2 := And.intro @binK_geq (And.intro @binK_shl (And.intro @binK_shr (And.intro @binK_sadd (And.intro @binK_seql (And.intro @binK_sneq (And.intro @unK_not (And.intro @unK_neg (And.intro @convK_eq (And.intro @faddrK_iptr (And.intro @faddrK_ptr (And.intro @fldK_eq (And.intro @iaddrK_sl (And.intro @aaddrK_iptr (And.intro @aaddrK_ptr (And.intro @iaddrK_row (And.intro @idxSK_eq (And.intro @bnd_none (And.intro @bnd_some (@sliceSK_eq)))))))))))))))))))
def OA3 := And.intro @sliceLK_eq (And.intro @mkK_eq (And.intro @lenSK_eq (And.intro @lenLK_nils (And.intro @lenLK_sl (And.intro @lenLK_row (And.intro @srcOf_nils (And.intro @srcOf_sl (And.intro @srcOf_row (And.intro @ontoK_nils1 (And.intro @ontoK_nils (And.intro @ontoK_row (And.intro @extK_eq (And.intro @nilcK_iptr (And.intro @nilcK_fn (And.intro @nilcK_ptr (And.intro @callvK_fn (And.intro @qcallvK_fn (And.intro @pcallvK_fn (@gopK_tt)))))))))))))))))))
def OA4 := And.intro @gopK_tf (And.intro @gopK_ft (And.intro @gopK_ff (And.intro @gopK_skip (And.intro @condK_true (And.intro @condK_false (And.intro @loadC_whole (And.intro @loadC_none (And.intro @upd_whole (And.intro @upd_v (And.intro @upd_sl (And.intro @upd_nils (And.intro @upd_row (And.intro @upd_ptr (And.intro @upd_fn (And.intro @upd_agg (And.intro @upd_agg0 (And.intro @frz_v (And.intro @frz_sl (@frz_nils)))))))))))))))))))
def OA5 := And.intro @frz_agg (And.intro @frz_fn (And.intro @resK_nil (And.intro @resK_tmp (And.intro @resK_cell (And.intro @cellK_ptr (And.intro @cellOK_live (And.intro @packR_one (And.intro @packR_more (And.intro @List.reverse_cons.{0} (And.intro @List.reverse_nil.{0} (And.intro @ne_eq.{1} (And.intro @Nat.add_eq_zero_iff (And.intro @not_false_eq_true (And.intro @Nat.one_ne_zero (And.intro @ev_t (And.intro @ev_c (And.intro @set_at (And.intro @entry_at (@envL_cons)))))))))))))))))))
def OA6 := And.intro @keepE_eq (And.intro @List.map_cons.{0,0} (And.intro @List.map_nil.{0,0} (And.intro @Option.map_some.{0,0} (And.intro @Option.map_none.{0,0} (And.intro @List.getD_cons_zero.{0} (And.intro @List.getD_cons_succ.{0} (And.intro @List.length_nil.{0} (And.intro @List.length_cons.{0} (And.intro @List.length_append.{0} (And.intro @List.length_set.{0} (And.intro @List.nil_append.{0} (And.intro @List.cons_append.{0} (And.intro @List.append_nil.{0} (And.intro @List.getElem?_cons_zero.{0} (And.intro @List.getElem?_cons_succ.{0} (And.intro @List.set_cons_zero.{0} (And.intro @List.set_cons_succ.{0} (And.intro @List.drop_succ_cons.{0} (@List.drop_zero.{0})))))))))))))))))))
def OA7 := And.intro @List.take_succ_cons.{0} (And.intro @List.take_zero.{0} (And.intro @List.replicate_succ.{0} (And.intro @List.replicate_zero.{0} (And.intro @if_true.{1} (And.intro @if_false.{1} (And.intro @cells_agg (And.intro @cells_v (And.intro @cells_nils (And.intro @cells_sl (And.intro @cells_row (And.intro @cells_ptr (And.intro @cells_fn (And.intro @isAgg_agg (And.intro @isCell_v (And.intro @isCell_nils (And.intro @isCell_sl (And.intro @isCell_row (And.intro @isCell_ptr (@isCell_fn)))))))))))))))))))
def OA8 := And.intro @storable_agg (And.intro @storable_v (And.intro @storable_nils (And.intro @storable_sl (And.intro @storable_row (And.intro @storable_ptr (And.intro @storable_fn (And.intro @frz_noref (And.intro @aft_flat (And.intro @flat_v (And.intro @norefs_nil (And.intro @norefs_cons (And.intro @noref_v (And.intro @noref_sl (And.intro @noref_agg (And.intro @noref_tup (And.intro @noref_nils (And.intro @noref_fn (And.intro @List.all_cons.{0} (@List.all_nil.{0})))))))))))))))))))
def OA9 := And.intro @Bool.and_true (And.intro @Bool.true_and (And.intro @Bool.or_true (And.intro @Bool.true_or (And.intro @Bool.not_true (And.intro @Bool.not_false (And.intro @decide_true (And.intro @decide_false (And.intro @dlt0 (And.intro @Option.getD_none.{0} (And.intro @Option.getD_some.{0} (And.intro @true_and (And.intro @and_true (And.intro @Nat.zero_add (And.intro @Nat.add_zero (And.intro @Nat.lt_add_one (And.intro @Nat.zero_lt_succ (@Nat.le_refl)))))))))))))))))
def OD := And.intro @OD0 (And.intro @OD1 (And.intro @OD2 (@OD3)))
def OA := And.intro @OA0 (And.intro @OA1 (And.intro @OA2 (And.intro @OA3 (And.intro @OA4 (And.intro @OA5 (And.intro @OA6 (And.intro @OA7 (And.intro @OA8 (@OA9)))))))))
end Go.Ab
