/- Part of a proof: the functions that the law reaches, walked by the abstract logic of the texts Ab. -/
import Derived.Test.YtkinchcjijhmgaaDoorAbM5
import Derived.Lib.Join
import Derived.Lib.ItoaNum
import Derived.Lib.LaidTab
import Derived.Test.YtkinchcjijhmgaaDoorAbM3
set_option linter.unusedVariables false
set_option linter.unusedSimpArgs false
set_option linter.defProp false
/-
  LISTS IN THE LAWS' OWN HELPERS, once for all element types: what is left of toXS, szXS, eqXS.
-/
namespace Go.Ab
set_option maxRecDepth 100000
theorem wrapI {n : Int} (h : -9223372036854775808 ≤ n) (h' : n ≤ 9223372036854775807) : IntKind.i64.wrap n = n := wrap_id h h'
theorem wrapS {a b : Nat} (h : b ≤ a) (h' : a ≤ 4611686018427387904) : IntKind.i64.wrap ((a : Int) - (b : Int)) = ((a - b : Nat) : Int) := by
  rw [wrapI (by omega) (by omega)]; omega
theorem wrapA {a b : Nat} (h : a + b ≤ 4611686018427387904) : IntKind.i64.wrap ((a : Int) + (b : Int)) = ((a + b : Nat) : Int) := by
  rw [wrapI (by omega) (by omega)]; omega
theorem wrapA1 {a : Nat} (h : a ≤ 4611686018427387904) : IntKind.i64.wrap ((a : Int) + 1) = ((a + 1 : Nat) : Int) := by
  rw [wrapI (by omega) (by omega)]; omega
theorem lt0 (n : Nat) : decide ((n : Int) < 0) = false := by simp
theorem getM {α : Type} (f : α → AV) {l : List α} {i : Nat} (h : i < l.length) : (l.map f)[i]? = some (f l[i]) := by simp [h]
theorem elemM {α : Type} (f : α → AV) {l : List α} {s n : Nat} {k : IntKind} {K : AV → Prop} (h : n < l.length) (hs : (f l[n]).cells.length = s) (hk : goT K (f l[n])) : elemP s (.sl (l.map f)) (.v (.int k (n : Int))) K :=
  elem_intro _ (getM f h) hs hk
theorem norefsM {α : Type} {f : α → AV} {l : List α} (h : ∀ x, (f x).noref = true) : AV.norefs (l.map f) = true := norefs_of fun a ha => by
  obtain ⟨x, _, rfl⟩ := List.mem_map.1 ha; exact h x
section
variable {P : Program} {L : AX → SS → List AV → Prop} {R : AV → Prop} {t : T} {r : List AV} {S : List (List AV → Prop)}
/-- a loop that counts up -/
theorem loop_up {init : List AV} (n : Nat) (σ : Nat → List AV) (h0 : init = σ 0)
    (hr : ∀ i, i ≤ n → wpT P L R t (r ++ σ i) ((fun vs => i < n ∧ vs = σ (i + 1)) :: S)) : loopT P L R init t r S := by
  refine loop_intro (ι := Nat) (fun i => i ≤ n) σ (fun i => n - i) 0 (Nat.zero_le _) h0 fun i hi => ?_
  refine wpT_mono (fun _ _ _ h => h) (fun _ h => h) t (.cons (fun vs hv => ?_) (.refl _)) (hr i hi)
  exact ⟨i + 1, hv.1, by have := hv.1; omega, hv.2⟩
end
def TszS (s : Nat) (f : FuncId) (fl : Bool) : T :=
.op (.lenL (.x 0)) (
.op (.bin .sub (.x 1) (.x 2)) (
.op (.bin .lss (.x 3) (.c (.v (.int .i64 0)))) (
.ite (.x 4)
 (.ret [(.c (.v (.int .i64 (-1))))])
 (.bind 1 (
  .loop [(.x 3), (.c (.v (.int .i64 0)))] (
   .op (.lenL (.x 0)) (
   .op (.bin .lss (.x 6) (.x 7)) (
   .ite (.x 8)
    (.op (.elem s (.x 0) (.x 6)) (
    .chk (.cells (.x 9) s) (
    .op (.call f [(.x 9), (.x 5)] fl) (
    .op (.bin .lss (.x 10) (.c (.v (.int .i64 0)))) (
    .ite (.x 11)
     (.esc (.esc (.ret [(.c (.v (.int .i64 (-1))))])))
     (.op (.bin .add (.x 6) (.c (.v (.int .i64 1)))) (
     .jump [(.x 10), (.x 12)])))))))
    (.esc (.jump [(.x 5)])))))) (
 .ret [(.x 5)])))))
theorem sum_take {α : Type} (wt : α → Nat) (l : List α) (i : Nat) (h : i < l.length) : ((l.take (i + 1)).map wt).sum = ((l.take i).map wt).sum + wt l[i] := by
  rw [List.take_add_one, List.getElem?_eq_getElem h]
  simp only [Option.toList_some, List.map_append, List.sum_append, List.map_cons, List.map_nil, List.sum_cons, List.sum_nil, Nat.add_zero]
theorem sum_le {α : Type} (wt : α → Nat) (l : List α) (i : Nat) : ((l.take i).map wt).sum ≤ (l.map wt).sum := by
  conv => rhs; rw [← List.take_append_drop i l]
  rw [List.map_append, List.sum_append]; omega
theorem szS_T {fl : Bool} {P : Program} {L : AX → SS → List AV → Prop} {α : Type} {av : α → AV} {wt : α → Nat} {s : Nat} {f : FuncId} {l : List α} (hs : ∀ x, (av x).isAgg = true ∧ (av x).cells.length = s ∧ (av x).storable = true)
    {b : Nat} (hb : l.length + (l.map wt).sum ≤ b) (hb' : b ≤ 1048576) (hc : ∀ x ∈ l, ∀ c : Nat, wt x ≤ c → c ≤ 1048576 → PCon P f [av x, .v (.int .i64 c)] (.v (.int .i64 (c - wt x : Nat)))) :
    wpT P L (fun a => a = .v (.int .i64 (b - (l.length + (l.map wt).sum) : Nat))) (TszS s f fl) [.sl (l.map av), .v (.int .i64 b)] [] := by
  simp (disch := omega) only [TszS, wrapS, lt0, WA, Nat.reduceEqDiff, Nat.reduceAdd, Nat.reduceLT, Nat.reduceLeDiff, Nat.reduceMul, reduceIte, reduceCtorEq, Int.reduceEq, Int.reduceLT, Int.reduceLE, Int.reduceNe]
  refine bind_cut [.v (.int .i64 (b - (l.length + (l.map wt).sum) : Nat))] rfl ?_ (by simp only [WA, Nat.reduceEqDiff, Nat.reduceAdd, Nat.reduceLT, Nat.reduceLeDiff, Nat.reduceMul, reduceIte, reduceCtorEq, Int.reduceEq, Int.reduceLT, Int.reduceLE, Int.reduceNe])
  simp only [WA, Nat.reduceEqDiff, Nat.reduceAdd, Nat.reduceLT, Nat.reduceLeDiff, Nat.reduceMul, reduceIte, reduceCtorEq, Int.reduceEq, Int.reduceLT, Int.reduceLE, Int.reduceNe]
  refine loop_up l.length (fun i => [.v (.int .i64 (b - (l.length + ((l.take i).map wt).sum) : Nat)), .v (.int .i64 i)]) (by simp) fun i hi => ?_
  simp only [WA, Nat.reduceEqDiff, Nat.reduceAdd, Nat.reduceLT, Nat.reduceLeDiff, Nat.reduceMul, reduceIte, reduceCtorEq, Int.reduceEq, Int.reduceLT, Int.reduceLE, Int.reduceNe]
  refine ite_dec (fun h => ?_) (fun h => ?_)
  · have hlt : i < l.length := by omega
    have h1 := sum_take wt l i hlt
    have h2 := sum_le wt l (i + 1)
    obtain ⟨x1, x2, x3⟩ := hs l[i]
    simp only [WA, Nat.reduceEqDiff, Nat.reduceAdd, Nat.reduceLT, Nat.reduceLeDiff, Nat.reduceMul, reduceIte, reduceCtorEq, Int.reduceEq, Int.reduceLT, Int.reduceLE, Int.reduceNe]
    refine elemM av hlt x2 ?_
    simp only [x1, x2, x3, WA, Nat.reduceEqDiff, Nat.reduceAdd, Nat.reduceLT, Nat.reduceLeDiff, Nat.reduceMul, reduceIte, reduceCtorEq, Int.reduceEq, Int.reduceLT, Int.reduceLE, Int.reduceNe]
    refine call_v (hc _ (List.getElem_mem hlt) _ (by omega) (by omega)) ?_
    simp (disch := omega) only [lt0, wrapA1, WA, Nat.reduceEqDiff, Nat.reduceAdd, Nat.reduceLT, Nat.reduceLeDiff, Nat.reduceMul, reduceIte, reduceCtorEq, Int.reduceEq, Int.reduceLT, Int.reduceLE, Int.reduceNe]
    exact ⟨hlt, by rw [h1, Nat.sub_sub, Nat.add_assoc]⟩
  · have he : i = l.length := by omega
    subst he
    simp only [List.take_length, WA, Nat.reduceEqDiff, Nat.reduceAdd, Nat.reduceLT, Nat.reduceLeDiff, Nat.reduceMul, reduceIte, reduceCtorEq, Int.reduceEq, Int.reduceLT, Int.reduceLE, Int.reduceNe]
def TtoS (s b : Nat) (z : AV) (f : FuncId) : T :=
.op (.lenL (.x 0)) (
.op (.rep b z (.x 1) (.x 1)) (
.bind 1 (
 .loop [(.x 2), (.c (.v (.int .i64 0)))] (
  .op (.lenL (.x 0)) (
  .op (.bin .lss (.x 4) (.x 5)) (
  .ite (.x 6)
   (.op (.elem s (.x 0) (.x 4)) (
   .chk (.cells (.x 7) s) (
   .op (.call f [(.x 7)] false) (
   .chk (.idx (.x 3) (.x 4)) (
   .chk (.cells (.x 8) s) (
   .op (.set (.x 3) (.x 4) 0 s (.x 8)) (
   .op (.bin .add (.x 4) (.c (.v (.int .i64 1)))) (
   .jump [(.x 9), (.x 10)]))))))))
   (.esc (.jump [(.x 3)])))))) (
.ret [(.sl (.x 3))])))
/-- a list that is filled from the left -/
def fillL {α : Type} (av : α → AV) (z : AV) (l : List α) (i : Nat) : List AV := (l.take i).map av ++ List.replicate (l.length - i) z
theorem fillL_len {α : Type} (av : α → AV) (z : AV) (l : List α) (i : Nat) (h : i ≤ l.length) : (fillL av z l i).length = l.length := by simp [fillL]; omega
theorem fillL_zero {α : Type} (av : α → AV) (z : AV) (l : List α) : fillL av z l 0 = List.replicate l.length z := by simp [fillL]
theorem fillL_end {α : Type} (av : α → AV) (z : AV) (l : List α) : fillL av z l l.length = l.map av := by simp [fillL]
theorem fillL_get {α : Type} (av : α → AV) (z : AV) (l : List α) (i : Nat) (h : i < l.length) : (fillL av z l i).getD i .top = z := by
  have h1 : ((l.take i).map av).length = i := by simp; omega
  rw [fillL, List.getD, List.getElem?_append_right (by omega), h1, Nat.sub_self, List.getElem?_replicate, if_pos (by omega)]; rfl
theorem fillL_set {α : Type} (av : α → AV) (z : AV) (l : List α) (i : Nat) (h : i < l.length) : (fillL av z l i).set i (av l[i]) = fillL av z l (i + 1) := by
  have h1 : ((l.take i).map av).length = i := by simp; omega
  unfold fillL
  rw [List.set_append_right _ _ (by omega), h1, Nat.sub_self]
  rw [show l.length - i = (l.length - (i + 1)) + 1 by omega, List.replicate_succ, List.set_cons_zero, List.take_add_one, List.getElem?_eq_getElem h]
  simp only [Option.toList_some, List.map_append, List.map_cons, List.map_nil, List.append_assoc, List.cons_append, List.nil_append]
theorem toS_T {P : Program} {L : AX → SS → List AV → Prop} {α : Type} {av : α → AV} {s b : Nat} {z : AV} {f : FuncId} {l : List α} (hs : ∀ x, (av x).isAgg = true ∧ (av x).cells.length = s ∧ (av x).storable = true ∧ (av x).noref = true)
    (hz : z.cells.length = s) (hb : b ≤ 1000) (hl : l.length ≤ 1048576) (hc : ∀ x ∈ l, PCon P f [av x] (av x)) :
    wpT P L (fun a => a = .sl (l.map av)) (TtoS s b z f) [.sl (l.map av)] [] := by
  have hbl : (b : Int) * (l.length : Int) ≤ 1048576000 := by
    have h1 : b * l.length ≤ 1000 * 1048576 := Nat.mul_le_mul hb hl
    have h2 : ((b * l.length : Nat) : Int) ≤ ((1048576000 : Nat) : Int) := Int.ofNat_le.2 h1
    rwa [Int.natCast_mul] at h2
  simp only [TtoS, WA, Nat.reduceEqDiff, Nat.reduceAdd, Nat.reduceLT, Nat.reduceLeDiff, Nat.reduceMul, reduceIte, reduceCtorEq, Int.reduceEq, Int.reduceLT, Int.reduceLE, Int.reduceNe]
  refine ⟨Int.le_refl _, by omega, by omega, ?_⟩
  refine bind_cut [.sl (l.map av)] rfl ?_ (by simp only [WA, Nat.reduceEqDiff, Nat.reduceAdd, Nat.reduceLT, Nat.reduceLeDiff, Nat.reduceMul, reduceIte, reduceCtorEq, Int.reduceEq, Int.reduceLT, Int.reduceLE, Int.reduceNe])
  simp only [WA, Nat.reduceEqDiff, Nat.reduceAdd, Nat.reduceLT, Nat.reduceLeDiff, Nat.reduceMul, reduceIte, reduceCtorEq, Int.reduceEq, Int.reduceLT, Int.reduceLE, Int.reduceNe]
  refine loop_up l.length (fun i => [.sl (fillL av z l i), .v (.int .i64 i)]) (by rw [fillL_zero]; simp) fun i hi => ?_
  simp only [WA, Nat.reduceEqDiff, Nat.reduceAdd, Nat.reduceLT, Nat.reduceLeDiff, Nat.reduceMul, reduceIte, reduceCtorEq, Int.reduceEq, Int.reduceLT, Int.reduceLE, Int.reduceNe]
  refine ite_dec (fun h => ?_) (fun h => ?_)
  · have hlt : i < l.length := by omega
    obtain ⟨x1, x2, x3, x4⟩ := hs l[i]
    simp only [WA, Nat.reduceEqDiff, Nat.reduceAdd, Nat.reduceLT, Nat.reduceLeDiff, Nat.reduceMul, reduceIte, reduceCtorEq, Int.reduceEq, Int.reduceLT, Int.reduceLE, Int.reduceNe]
    refine elemM av hlt x2 ?_
    simp only [x1, x2, x3, WA, Nat.reduceEqDiff, Nat.reduceAdd, Nat.reduceLT, Nat.reduceLeDiff, Nat.reduceMul, reduceIte, reduceCtorEq, Int.reduceEq, Int.reduceLT, Int.reduceLE, Int.reduceNe]
    refine call_p (hc _ (List.getElem_mem hlt)) x4 ?_
    simp (disch := omega) only [x1, x2, x3, fillL_len av z l i hi, fillL_get av z l i hlt, hz, wrapA1, WA, Nat.reduceEqDiff, Nat.reduceAdd, Nat.reduceLT, Nat.reduceLeDiff, Nat.reduceMul, reduceIte, reduceCtorEq, Int.reduceEq, Int.reduceLT, Int.reduceLE, Int.reduceNe]
    exact ⟨by omega, hlt, ⟨hlt, by rw [upd_whole (by rw [x2, hz]), fillL_set av z l i hlt]⟩⟩
  · have he : i = l.length := by omega
    subst he
    simp only [fillL_end, WA, Nat.reduceEqDiff, Nat.reduceAdd, Nat.reduceLT, Nat.reduceLeDiff, Nat.reduceMul, reduceIte, reduceCtorEq, Int.reduceEq, Int.reduceLT, Int.reduceLE, Int.reduceNe]
def TeqS (s : Nat) (f : FuncId) (fl : Bool) : T :=
.op (.lenL (.x 0)) (
.op (.lenL (.x 1)) (
.op (.bin .neq (.x 2) (.x 3)) (
.ite (.x 4)
 (.ret [(.c (.v (.bool false)))])
 (.bind 0 (
  .loop [(.c (.v (.int .i64 0)))] (
   .op (.lenL (.x 0)) (
   .op (.bin .lss (.x 5) (.x 6)) (
   .ite (.x 7)
    (.op (.elem s (.x 0) (.x 5)) (
    .chk (.cells (.x 8) s) (
    .op (.elem s (.x 1) (.x 5)) (
    .chk (.cells (.x 9) s) (
    .op (.call f [(.x 8), (.x 9)] fl) (
    .op (.un .not (.x 10)) (
    .ite (.x 11)
     (.esc (.esc (.ret [(.c (.v (.bool false)))])))
     (.op (.bin .add (.x 5) (.c (.v (.int .i64 1)))) (
     .jump [(.x 12)])))))))))
    (.esc (.jump [])))))) (
 .ret [(.c (.v (.bool true)))])))))
theorem eqS_T {fl : Bool} {P : Program} {L : AX → SS → List AV → Prop} {α : Type} {av : α → AV} {s : Nat} {f : FuncId} {l : List α} (hs : ∀ x, (av x).isAgg = true ∧ (av x).cells.length = s ∧ (av x).storable = true)
    (hl : l.length ≤ 1048576) (hc : ∀ x ∈ l, PCon P f [av x, av x] (.v (.bool true))) :
    wpT P L (fun a => a = .v (.bool true)) (TeqS s f fl) [.sl (l.map av), .sl (l.map av)] [] := by
  simp only [TeqS, WA, Nat.reduceEqDiff, Nat.reduceAdd, Nat.reduceLT, Nat.reduceLeDiff, Nat.reduceMul, reduceIte, reduceCtorEq, Int.reduceEq, Int.reduceLT, Int.reduceLE, Int.reduceNe]
  refine bind_cut [] rfl ?_ (by simp only [WA, Nat.reduceEqDiff, Nat.reduceAdd, Nat.reduceLT, Nat.reduceLeDiff, Nat.reduceMul, reduceIte, reduceCtorEq, Int.reduceEq, Int.reduceLT, Int.reduceLE, Int.reduceNe])
  simp only [WA, Nat.reduceEqDiff, Nat.reduceAdd, Nat.reduceLT, Nat.reduceLeDiff, Nat.reduceMul, reduceIte, reduceCtorEq, Int.reduceEq, Int.reduceLT, Int.reduceLE, Int.reduceNe]
  refine loop_up l.length (fun i => [.v (.int .i64 i)]) rfl fun i hi => ?_
  simp only [WA, Nat.reduceEqDiff, Nat.reduceAdd, Nat.reduceLT, Nat.reduceLeDiff, Nat.reduceMul, reduceIte, reduceCtorEq, Int.reduceEq, Int.reduceLT, Int.reduceLE, Int.reduceNe]
  refine ite_dec (fun h => ?_) (fun h => ?_)
  · have hlt : i < l.length := by omega
    obtain ⟨x1, x2, x3⟩ := hs l[i]
    simp only [WA, Nat.reduceEqDiff, Nat.reduceAdd, Nat.reduceLT, Nat.reduceLeDiff, Nat.reduceMul, reduceIte, reduceCtorEq, Int.reduceEq, Int.reduceLT, Int.reduceLE, Int.reduceNe]
    refine elemM av hlt x2 ?_
    simp only [x1, x2, x3, WA, Nat.reduceEqDiff, Nat.reduceAdd, Nat.reduceLT, Nat.reduceLeDiff, Nat.reduceMul, reduceIte, reduceCtorEq, Int.reduceEq, Int.reduceLT, Int.reduceLE, Int.reduceNe]
    refine elemM av hlt x2 ?_
    simp only [x1, x2, x3, WA, Nat.reduceEqDiff, Nat.reduceAdd, Nat.reduceLT, Nat.reduceLeDiff, Nat.reduceMul, reduceIte, reduceCtorEq, Int.reduceEq, Int.reduceLT, Int.reduceLE, Int.reduceNe]
    refine call_v (hc _ (List.getElem_mem hlt)) ?_
    simp (disch := omega) only [wrapA1, WA, Nat.reduceEqDiff, Nat.reduceAdd, Nat.reduceLT, Nat.reduceLeDiff, Nat.reduceMul, reduceIte, reduceCtorEq, Int.reduceEq, Int.reduceLT, Int.reduceLE, Int.reduceNe]
    exact hlt
  · simp only [WA, Nat.reduceEqDiff, Nat.reduceAdd, Nat.reduceLT, Nat.reduceLeDiff, Nat.reduceMul, reduceIte, reduceCtorEq, Int.reduceEq, Int.reduceLT, Int.reduceLE, Int.reduceNe]
/- numbers -/
abbrev avI (n : Int) : AV := .v (.int .i64 n)
abbrev avB (s : ByteArray) : AV := .v (.string s)
def TszI : T :=
.op (.lenL (.x 0)) (
.op (.bin .sub (.x 1) (.x 2)) (
.op (.bin .lss (.x 3) (.c (.v (.int .i64 0)))) (
.ite (.x 4)
 (.ret [(.c (.v (.int .i64 (-1))))])
 (.ret [(.x 3)]))))
theorem szI_T {P : Program} {L : AX → SS → List AV → Prop} {xs : List AV} {b : Nat} (hb : xs.length ≤ b) (hb' : b ≤ 1048576) : wpT P L (fun a => a = .v (.int .i64 (b - xs.length : Nat))) TszI [.sl xs, .v (.int .i64 b)] [] := by
  simp (disch := omega) only [TszI, wrapS, lt0, WA, Nat.reduceEqDiff, Nat.reduceAdd, Nat.reduceLT, Nat.reduceLeDiff, Nat.reduceMul, reduceIte, reduceCtorEq, Int.reduceEq, Int.reduceLT, Int.reduceLE, Int.reduceNe]
def TtoI (b : Nat) (z : AV) : T :=
.op (.lenL (.x 0)) (
.op (.rep b z (.x 1) (.x 1)) (
.bind 1 (
 .loop [(.x 2), (.c (.v (.int .i64 0)))] (
  .op (.lenL (.x 0)) (
  .op (.bin .lss (.x 4) (.x 5)) (
  .ite (.x 6)
   (.op (.elem 1 (.x 0) (.x 4)) (
   .chk (.lt (.x 7) 0) (
   .chk (.idx (.x 3) (.x 4)) (
   .chk (.one (.cell 7 0)) (
   .op (.set (.x 3) (.x 4) 0 1 (.cell 7 0)) (
   .op (.bin .add (.x 4) (.c (.v (.int .i64 1)))) (
   .jump [(.x 8), (.x 9)])))))))
   (.esc (.jump [(.x 3)])))))) (
.ret [(.sl (.x 3))])))
theorem toI_T {P : Program} {L : AX → SS → List AV → Prop} {α : Type} {g : α → Value} {b : Nat} {z : AV} {l : List α} (hz : z.cells.length = 1) (hb : b ≤ 1000) (hl : l.length ≤ 1048576) :
    wpT P L (fun a => a = .sl (l.map fun x => .v (g x))) (TtoI b z) [.sl (l.map fun x => .v (g x))] [] := by
  have hbl : (b : Int) * (l.length : Int) ≤ 1048576000 := by
    have h1 : b * l.length ≤ 1000 * 1048576 := Nat.mul_le_mul hb hl
    have h2 : ((b * l.length : Nat) : Int) ≤ ((1048576000 : Nat) : Int) := Int.ofNat_le.2 h1
    rwa [Int.natCast_mul] at h2
  simp only [TtoI, WA, Nat.reduceEqDiff, Nat.reduceAdd, Nat.reduceLT, Nat.reduceLeDiff, Nat.reduceMul, reduceIte, reduceCtorEq, Int.reduceEq, Int.reduceLT, Int.reduceLE, Int.reduceNe]
  refine ⟨Int.le_refl _, by omega, by omega, ?_⟩
  refine bind_cut [.sl (l.map fun x => .v (g x))] rfl ?_ (by simp only [WA, Nat.reduceEqDiff, Nat.reduceAdd, Nat.reduceLT, Nat.reduceLeDiff, Nat.reduceMul, reduceIte, reduceCtorEq, Int.reduceEq, Int.reduceLT, Int.reduceLE, Int.reduceNe])
  simp only [WA, Nat.reduceEqDiff, Nat.reduceAdd, Nat.reduceLT, Nat.reduceLeDiff, Nat.reduceMul, reduceIte, reduceCtorEq, Int.reduceEq, Int.reduceLT, Int.reduceLE, Int.reduceNe]
  refine loop_up l.length (fun i => [.sl (fillL (fun x => .v (g x)) z l i), .v (.int .i64 i)]) (by rw [fillL_zero]; simp) fun i hi => ?_
  simp only [WA, Nat.reduceEqDiff, Nat.reduceAdd, Nat.reduceLT, Nat.reduceLeDiff, Nat.reduceMul, reduceIte, reduceCtorEq, Int.reduceEq, Int.reduceLT, Int.reduceLE, Int.reduceNe]
  refine ite_dec (fun h => ?_) (fun h => ?_)
  · have hlt : i < l.length := by omega
    simp only [WA, Nat.reduceEqDiff, Nat.reduceAdd, Nat.reduceLT, Nat.reduceLeDiff, Nat.reduceMul, reduceIte, reduceCtorEq, Int.reduceEq, Int.reduceLT, Int.reduceLE, Int.reduceNe]
    refine elemM (fun x => .v (g x)) hlt rfl ?_
    simp (disch := omega) only [fillL_len _ z l i hi, fillL_get _ z l i hlt, hz, wrapA1, WA, Nat.reduceEqDiff, Nat.reduceAdd, Nat.reduceLT, Nat.reduceLeDiff, Nat.reduceMul, reduceIte, reduceCtorEq, Int.reduceEq, Int.reduceLT, Int.reduceLE, Int.reduceNe]
    exact ⟨by omega, hlt, ⟨hlt, by
      have hf := fillL_set (fun x => AV.v (g x)) z l i hlt
      rw [upd_whole (by rw [hz]; rfl)]; exact hf ▸ rfl⟩⟩
  · have he : i = l.length := by omega
    subst he
    simp only [fillL_end, WA, Nat.reduceEqDiff, Nat.reduceAdd, Nat.reduceLT, Nat.reduceLeDiff, Nat.reduceMul, reduceIte, reduceCtorEq, Int.reduceEq, Int.reduceLT, Int.reduceLE, Int.reduceNe]
def TeqI : T :=
.op (.lenL (.x 0)) (
.op (.lenL (.x 1)) (
.op (.bin .neq (.x 2) (.x 3)) (
.ite (.x 4)
 (.ret [(.c (.v (.bool false)))])
 (.bind 0 (
  .loop [(.c (.v (.int .i64 0)))] (
   .op (.lenL (.x 0)) (
   .op (.bin .lss (.x 5) (.x 6)) (
   .ite (.x 7)
    (.op (.elem 1 (.x 0) (.x 5)) (
    .chk (.lt (.x 8) 0) (
    .op (.elem 1 (.x 1) (.x 5)) (
    .chk (.lt (.x 9) 0) (
    .op (.bin .neq (.cell 8 0) (.cell 9 0)) (
    .ite (.x 10)
     (.esc (.esc (.ret [(.c (.v (.bool false)))])))
     (.op (.bin .add (.x 5) (.c (.v (.int .i64 1)))) (
     .jump [(.x 11)]))))))))
    (.esc (.jump [])))))) (
 .ret [(.c (.v (.bool true)))])))))
theorem eqI_T {P : Program} {L : AX → SS → List AV → Prop} {α : Type} {g : α → Value} {l : List α} (hg : ∀ (x : α) (K : AV → Prop), goT K (.v (.bool false)) → binT .neq (.v (g x)) (.v (g x)) K) (hl : l.length ≤ 1048576) :
    wpT P L (fun a => a = .v (.bool true)) TeqI [.sl (l.map fun x => .v (g x)), .sl (l.map fun x => .v (g x))] [] := by
  simp only [TeqI, WA, Nat.reduceEqDiff, Nat.reduceAdd, Nat.reduceLT, Nat.reduceLeDiff, Nat.reduceMul, reduceIte, reduceCtorEq, Int.reduceEq, Int.reduceLT, Int.reduceLE, Int.reduceNe]
  refine bind_cut [] rfl ?_ (by simp only [WA, Nat.reduceEqDiff, Nat.reduceAdd, Nat.reduceLT, Nat.reduceLeDiff, Nat.reduceMul, reduceIte, reduceCtorEq, Int.reduceEq, Int.reduceLT, Int.reduceLE, Int.reduceNe])
  simp only [WA, Nat.reduceEqDiff, Nat.reduceAdd, Nat.reduceLT, Nat.reduceLeDiff, Nat.reduceMul, reduceIte, reduceCtorEq, Int.reduceEq, Int.reduceLT, Int.reduceLE, Int.reduceNe]
  refine loop_up l.length (fun i => [.v (.int .i64 i)]) rfl fun i hi => ?_
  simp only [WA, Nat.reduceEqDiff, Nat.reduceAdd, Nat.reduceLT, Nat.reduceLeDiff, Nat.reduceMul, reduceIte, reduceCtorEq, Int.reduceEq, Int.reduceLT, Int.reduceLE, Int.reduceNe]
  refine ite_dec (fun h => ?_) (fun h => ?_)
  · have hlt : i < l.length := by omega
    simp only [WA, Nat.reduceEqDiff, Nat.reduceAdd, Nat.reduceLT, Nat.reduceLeDiff, Nat.reduceMul, reduceIte, reduceCtorEq, Int.reduceEq, Int.reduceLT, Int.reduceLE, Int.reduceNe]
    refine elemM (fun x => .v (g x)) hlt rfl ?_
    simp only [WA, Nat.reduceEqDiff, Nat.reduceAdd, Nat.reduceLT, Nat.reduceLeDiff, Nat.reduceMul, reduceIte, reduceCtorEq, Int.reduceEq, Int.reduceLT, Int.reduceLE, Int.reduceNe]
    refine elemM (fun x => .v (g x)) hlt rfl ?_
    simp only [WA, Nat.reduceEqDiff, Nat.reduceAdd, Nat.reduceLT, Nat.reduceLeDiff, Nat.reduceMul, reduceIte, reduceCtorEq, Int.reduceEq, Int.reduceLT, Int.reduceLE, Int.reduceNe]
    refine hg _ _ ?_
    simp (disch := omega) only [wrapA1, WA, Nat.reduceEqDiff, Nat.reduceAdd, Nat.reduceLT, Nat.reduceLeDiff, Nat.reduceMul, reduceIte, reduceCtorEq, Int.reduceEq, Int.reduceLT, Int.reduceLE, Int.reduceNe]
    exact hlt
  · simp only [WA, Nat.reduceEqDiff, Nat.reduceAdd, Nat.reduceLT, Nat.reduceLeDiff, Nat.reduceMul, reduceIte, reduceCtorEq, Int.reduceEq, Int.reduceLT, Int.reduceLE, Int.reduceNe]
theorem neqI (k : IntKind) (x : Int) (K : AV → Prop) (h : goT K (.v (.bool false))) : binT .neq (.v (.int k x)) (.v (.int k x)) K := by simpa only [b_neq, decide_true, Bool.not_true, eq_self] using h
end Go.Ab
/-
  THE TYPES OF THE LAWS as types of our own (printed by wip/tool/types.py): their cells, their weights, small facts.
-/
namespace Go.Ab
set_option maxRecDepth 100000
/-- a number of 64 bits -/
def inR (n : Int) : Prop := -9223372036854775808 ≤ n ∧ n ≤ 9223372036854775807
theorem le_sum {α : Type} (w : α → Nat) {l : List α} {x : α} (h : x ∈ l) : w x ≤ (l.map w).sum := by
  induction l with
  | nil => simp at h
  | cons a l ih =>
    simp only [List.map_cons, List.sum_cons]
    rcases List.mem_cons.1 h with rfl | h
    · omega
    · have := ih h; omega
inductive VToken where
  | mk (Kind : Int) (Text : ByteArray) (Num : Int) (Pos : Int)
def VToken.Kind : VToken → Int
  | .mk a _ _ _ => a
def VToken.Text : VToken → ByteArray
  | .mk _ a _ _ => a
def VToken.Num : VToken → Int
  | .mk _ _ a _ => a
def VToken.Pos : VToken → Int
  | .mk _ _ _ a => a
def VToken.cs : VToken → List AV
  | .mk Kind Text Num Pos => (.v (.int .i64 Kind) :: (.v (.string Text) :: (.v (.int .i64 Num) :: (.v (.int .i64 Pos) :: []))))
def VToken.av (x : VToken) : AV := .agg x.cs
def VToken.ok : VToken → Prop
  | .mk Kind Text Num Pos => inR Kind ∧ inR Num ∧ inR Pos
theorem VToken.norefsC : ∀ x : VToken, AV.norefs x.cs = true
  | .mk Kind Text Num Pos => by simp [VToken.cs, AV.norefs, AV.noref, norefs_append]
theorem VToken.noref (x : VToken) : x.av.noref = true   := VToken.norefsC x
theorem VToken.cs_eq (x : VToken) : x.cs = [.v (.int .i64 x.Kind), .v (.string x.Text), .v (.int .i64 x.Num), .v (.int .i64 x.Pos)] := by
  obtain ⟨Kind, Text, Num, Pos⟩ := x
  simp only [VToken.cs, VToken.Kind, VToken.Num, VToken.Pos, VToken.Text, List.cons_append, List.nil_append]
theorem VToken.cells (x : VToken) : x.av.cells = [.v (.int .i64 x.Kind), .v (.string x.Text), .v (.int .i64 x.Num), .v (.int .i64 x.Pos)] := VToken.cs_eq x
inductive VPat where
  | mk (Kind : Int) (Name : ByteArray) (Num : Int) (Pos : Int) (Kids : List VPat)
def VPat.Kind : VPat → Int
  | .mk a _ _ _ _ => a
def VPat.Name : VPat → ByteArray
  | .mk _ a _ _ _ => a
def VPat.Num : VPat → Int
  | .mk _ _ a _ _ => a
def VPat.Pos : VPat → Int
  | .mk _ _ _ a _ => a
def VPat.Kids : VPat → List VPat
  | .mk _ _ _ _ a => a
mutual
def VPat.cs : VPat → List AV
  | .mk Kind Name Num Pos Kids => (.v (.int .i64 Kind) :: (.v (.string Name) :: (.v (.int .i64 Num) :: (.v (.int .i64 Pos) :: (.sl (VPat.avs Kids) :: [])))))
def VPat.avs : List VPat → List AV
  | [] => []
  | x :: l => .agg x.cs :: VPat.avs l
end
def VPat.av (x : VPat) : AV := .agg x.cs
theorem VPat.avs_eq (l : List VPat) : VPat.avs l = l.map VPat.av := by
  induction l with
  | nil => rfl
  | cons x l ih => simp only [VPat.avs, ih, List.map_cons, VPat.av]
mutual
def VPat.ok : VPat → Prop
  | .mk Kind Name Num Pos Kids => inR Kind ∧ inR Num ∧ inR Pos ∧ VPat.oks Kids
def VPat.oks : List VPat → Prop
  | [] => True
  | x :: l => x.ok ∧ VPat.oks l
end
mutual
theorem VPat.norefsC : ∀ x : VPat, AV.norefs x.cs = true
  | .mk Kind Name Num Pos Kids => by simp [VPat.cs, AV.norefs, AV.noref, norefs_append, VPat.norefsL Kids]
theorem VPat.norefsL : ∀ l : List VPat, AV.norefs (VPat.avs l) = true
  | [] => rfl
  | x :: l => by simp [VPat.avs, AV.norefs, AV.noref, VPat.norefsC x, VPat.norefsL l]
end
theorem VPat.noref (x : VPat) : x.av.noref = true   := VPat.norefsC x
theorem VPat.cs_eq (x : VPat) : x.cs = [.v (.int .i64 x.Kind), .v (.string x.Name), .v (.int .i64 x.Num), .v (.int .i64 x.Pos), .sl (x.Kids.map VPat.av)] := by
  obtain ⟨Kind, Name, Num, Pos, Kids⟩ := x
  simp only [VPat.cs, VPat.Kids, VPat.Kind, VPat.Name, VPat.Num, VPat.Pos, VPat.avs_eq, List.cons_append, List.nil_append]
theorem VPat.cells (x : VPat) : x.av.cells = [.v (.int .i64 x.Kind), .v (.string x.Name), .v (.int .i64 x.Num), .v (.int .i64 x.Pos), .sl (x.Kids.map VPat.av)] := VPat.cs_eq x
mutual
inductive VExp where
  | mk (Kind : Int) (Name : ByteArray) (Num : Int) (Text : ByteArray) (Pos : Int) (Kids : List VExp) (Arms : List VArm)
inductive VArm where
  | mk (P : VPat) (E : VExp)
end
def VExp.Kind : VExp → Int
  | .mk a _ _ _ _ _ _ => a
def VExp.Name : VExp → ByteArray
  | .mk _ a _ _ _ _ _ => a
def VExp.Num : VExp → Int
  | .mk _ _ a _ _ _ _ => a
def VExp.Text : VExp → ByteArray
  | .mk _ _ _ a _ _ _ => a
def VExp.Pos : VExp → Int
  | .mk _ _ _ _ a _ _ => a
def VExp.Kids : VExp → List VExp
  | .mk _ _ _ _ _ a _ => a
def VExp.Arms : VExp → List VArm
  | .mk _ _ _ _ _ _ a => a
def VArm.P : VArm → VPat
  | .mk a _ => a
def VArm.E : VArm → VExp
  | .mk _ a => a
mutual
def VExp.cs : VExp → List AV
  | .mk Kind Name Num Text Pos Kids Arms => (.v (.int .i64 Kind) :: (.v (.string Name) :: (.v (.int .i64 Num) :: (.v (.string Text) :: (.v (.int .i64 Pos) :: (.sl (VExp.avs Kids) :: (.sl (VArm.avs Arms) :: [])))))))
def VArm.cs : VArm → List AV
  | .mk P E => (P.cs ++ (E.cs ++ []))
def VExp.avs : List VExp → List AV
  | [] => []
  | x :: l => .agg x.cs :: VExp.avs l
def VArm.avs : List VArm → List AV
  | [] => []
  | x :: l => .agg x.cs :: VArm.avs l
end
def VExp.av (x : VExp) : AV := .agg x.cs
theorem VExp.avs_eq (l : List VExp) : VExp.avs l = l.map VExp.av := by
  induction l with
  | nil => rfl
  | cons x l ih => simp only [VExp.avs, ih, List.map_cons, VExp.av]
def VArm.av (x : VArm) : AV := .agg x.cs
theorem VArm.avs_eq (l : List VArm) : VArm.avs l = l.map VArm.av := by
  induction l with
  | nil => rfl
  | cons x l ih => simp only [VArm.avs, ih, List.map_cons, VArm.av]
mutual
def VExp.ok : VExp → Prop
  | .mk Kind Name Num Text Pos Kids Arms => inR Kind ∧ inR Num ∧ inR Pos ∧ VExp.oks Kids ∧ VArm.oks Arms
def VArm.ok : VArm → Prop
  | .mk P E => P.ok ∧ E.ok
def VExp.oks : List VExp → Prop
  | [] => True
  | x :: l => x.ok ∧ VExp.oks l
def VArm.oks : List VArm → Prop
  | [] => True
  | x :: l => x.ok ∧ VArm.oks l
end
mutual
theorem VExp.norefsC : ∀ x : VExp, AV.norefs x.cs = true
  | .mk Kind Name Num Text Pos Kids Arms => by simp [VExp.cs, AV.norefs, AV.noref, norefs_append, VExp.norefsL Kids, VArm.norefsL Arms]
theorem VArm.norefsC : ∀ x : VArm, AV.norefs x.cs = true
  | .mk P E => by simp [VArm.cs, AV.norefs, AV.noref, norefs_append, VPat.norefsC P, VExp.norefsC E]
theorem VExp.norefsL : ∀ l : List VExp, AV.norefs (VExp.avs l) = true
  | [] => rfl
  | x :: l => by simp [VExp.avs, AV.norefs, AV.noref, VExp.norefsC x, VExp.norefsL l]
theorem VArm.norefsL : ∀ l : List VArm, AV.norefs (VArm.avs l) = true
  | [] => rfl
  | x :: l => by simp [VArm.avs, AV.norefs, AV.noref, VArm.norefsC x, VArm.norefsL l]
end
theorem VExp.noref (x : VExp) : x.av.noref = true   := VExp.norefsC x
theorem VExp.cs_eq (x : VExp) : x.cs = [.v (.int .i64 x.Kind), .v (.string x.Name), .v (.int .i64 x.Num), .v (.string x.Text), .v (.int .i64 x.Pos), .sl (x.Kids.map VExp.av), .sl (x.Arms.map VArm.av)] := by
  obtain ⟨Kind, Name, Num, Text, Pos, Kids, Arms⟩ := x
  simp only [VExp.cs, VExp.Arms, VExp.Kids, VExp.Kind, VExp.Name, VExp.Num, VExp.Pos, VExp.Text, VArm.avs_eq, VExp.avs_eq, List.cons_append, List.nil_append]
theorem VExp.cells (x : VExp) : x.av.cells = [.v (.int .i64 x.Kind), .v (.string x.Name), .v (.int .i64 x.Num), .v (.string x.Text), .v (.int .i64 x.Pos), .sl (x.Kids.map VExp.av), .sl (x.Arms.map VArm.av)] := VExp.cs_eq x
theorem VArm.noref (x : VArm) : x.av.noref = true   := VArm.norefsC x
theorem VArm.cs_eq (x : VArm) : x.cs = [.v (.int .i64 x.P.Kind), .v (.string x.P.Name), .v (.int .i64 x.P.Num), .v (.int .i64 x.P.Pos), .sl (x.P.Kids.map VPat.av), .v (.int .i64 x.E.Kind), .v (.string x.E.Name), .v (.int .i64 x.E.Num), .v (.string x.E.Text), .v (.int .i64 x.E.Pos), .sl (x.E.Kids.map VExp.av), .sl (x.E.Arms.map VArm.av)] := by
  obtain ⟨⟨P_Kind, P_Name, P_Num, P_Pos, P_Kids⟩, ⟨E_Kind, E_Name, E_Num, E_Text, E_Pos, E_Kids, E_Arms⟩⟩ := x
  simp only [VArm.cs, VExp.cs, VPat.cs, VArm.E, VArm.P, VExp.Arms, VExp.Kids, VExp.Kind, VExp.Name, VExp.Num, VExp.Pos, VExp.Text, VPat.Kids, VPat.Kind, VPat.Name, VPat.Num, VPat.Pos, VArm.avs_eq, VExp.avs_eq, VPat.avs_eq, List.cons_append, List.nil_append]
theorem VArm.cells (x : VArm) : x.av.cells = [.v (.int .i64 x.P.Kind), .v (.string x.P.Name), .v (.int .i64 x.P.Num), .v (.int .i64 x.P.Pos), .sl (x.P.Kids.map VPat.av), .v (.int .i64 x.E.Kind), .v (.string x.E.Name), .v (.int .i64 x.E.Num), .v (.string x.E.Text), .v (.int .i64 x.E.Pos), .sl (x.E.Kids.map VExp.av), .sl (x.E.Arms.map VArm.av)] := VArm.cs_eq x
inductive VTypeExp where
  | mk (Kind : Int) (Name : ByteArray) (Pos : Int) (Kids : List VTypeExp)
def VTypeExp.Kind : VTypeExp → Int
  | .mk a _ _ _ => a
def VTypeExp.Name : VTypeExp → ByteArray
  | .mk _ a _ _ => a
def VTypeExp.Pos : VTypeExp → Int
  | .mk _ _ a _ => a
def VTypeExp.Kids : VTypeExp → List VTypeExp
  | .mk _ _ _ a => a
mutual
def VTypeExp.cs : VTypeExp → List AV
  | .mk Kind Name Pos Kids => (.v (.int .i64 Kind) :: (.v (.string Name) :: (.v (.int .i64 Pos) :: (.sl (VTypeExp.avs Kids) :: []))))
def VTypeExp.avs : List VTypeExp → List AV
  | [] => []
  | x :: l => .agg x.cs :: VTypeExp.avs l
end
def VTypeExp.av (x : VTypeExp) : AV := .agg x.cs
theorem VTypeExp.avs_eq (l : List VTypeExp) : VTypeExp.avs l = l.map VTypeExp.av := by
  induction l with
  | nil => rfl
  | cons x l ih => simp only [VTypeExp.avs, ih, List.map_cons, VTypeExp.av]
mutual
def VTypeExp.ok : VTypeExp → Prop
  | .mk Kind Name Pos Kids => inR Kind ∧ inR Pos ∧ VTypeExp.oks Kids
def VTypeExp.oks : List VTypeExp → Prop
  | [] => True
  | x :: l => x.ok ∧ VTypeExp.oks l
end
mutual
theorem VTypeExp.norefsC : ∀ x : VTypeExp, AV.norefs x.cs = true
  | .mk Kind Name Pos Kids => by simp [VTypeExp.cs, AV.norefs, AV.noref, norefs_append, VTypeExp.norefsL Kids]
theorem VTypeExp.norefsL : ∀ l : List VTypeExp, AV.norefs (VTypeExp.avs l) = true
  | [] => rfl
  | x :: l => by simp [VTypeExp.avs, AV.norefs, AV.noref, VTypeExp.norefsC x, VTypeExp.norefsL l]
end
theorem VTypeExp.noref (x : VTypeExp) : x.av.noref = true   := VTypeExp.norefsC x
theorem VTypeExp.cs_eq (x : VTypeExp) : x.cs = [.v (.int .i64 x.Kind), .v (.string x.Name), .v (.int .i64 x.Pos), .sl (x.Kids.map VTypeExp.av)] := by
  obtain ⟨Kind, Name, Pos, Kids⟩ := x
  simp only [VTypeExp.cs, VTypeExp.Kids, VTypeExp.Kind, VTypeExp.Name, VTypeExp.Pos, VTypeExp.avs_eq, List.cons_append, List.nil_append]
theorem VTypeExp.cells (x : VTypeExp) : x.av.cells = [.v (.int .i64 x.Kind), .v (.string x.Name), .v (.int .i64 x.Pos), .sl (x.Kids.map VTypeExp.av)] := VTypeExp.cs_eq x
inductive VCtor where
  | mk (Name : ByteArray) (Has : Bool) (Arg : VTypeExp) (Pos : Int)
def VCtor.Name : VCtor → ByteArray
  | .mk a _ _ _ => a
def VCtor.Has : VCtor → Bool
  | .mk _ a _ _ => a
def VCtor.Arg : VCtor → VTypeExp
  | .mk _ _ a _ => a
def VCtor.Pos : VCtor → Int
  | .mk _ _ _ a => a
def VCtor.cs : VCtor → List AV
  | .mk Name Has Arg Pos => (.v (.string Name) :: (.v (.bool Has) :: (Arg.cs ++ (.v (.int .i64 Pos) :: []))))
def VCtor.av (x : VCtor) : AV := .agg x.cs
def VCtor.ok : VCtor → Prop
  | .mk Name Has Arg Pos => Arg.ok ∧ inR Pos
theorem VCtor.norefsC : ∀ x : VCtor, AV.norefs x.cs = true
  | .mk Name Has Arg Pos => by simp [VCtor.cs, AV.norefs, AV.noref, norefs_append, VTypeExp.norefsC Arg]
theorem VCtor.noref (x : VCtor) : x.av.noref = true   := VCtor.norefsC x
theorem VCtor.cs_eq (x : VCtor) : x.cs = [.v (.string x.Name), .v (.bool x.Has), .v (.int .i64 x.Arg.Kind), .v (.string x.Arg.Name), .v (.int .i64 x.Arg.Pos), .sl (x.Arg.Kids.map VTypeExp.av), .v (.int .i64 x.Pos)] := by
  obtain ⟨Name, Has, ⟨Arg_Kind, Arg_Name, Arg_Pos, Arg_Kids⟩, Pos⟩ := x
  simp only [VCtor.cs, VTypeExp.cs, VCtor.Arg, VCtor.Has, VCtor.Name, VCtor.Pos, VTypeExp.Kids, VTypeExp.Kind, VTypeExp.Name, VTypeExp.Pos, VTypeExp.avs_eq, List.cons_append, List.nil_append]
theorem VCtor.cells (x : VCtor) : x.av.cells = [.v (.string x.Name), .v (.bool x.Has), .v (.int .i64 x.Arg.Kind), .v (.string x.Arg.Name), .v (.int .i64 x.Arg.Pos), .sl (x.Arg.Kids.map VTypeExp.av), .v (.int .i64 x.Pos)] := VCtor.cs_eq x
inductive VData where
  | mk (Name : ByteArray) (Vars : List ByteArray) (Ctors : List VCtor) (Pos : Int)
def VData.Name : VData → ByteArray
  | .mk a _ _ _ => a
def VData.Vars : VData → List ByteArray
  | .mk _ a _ _ => a
def VData.Ctors : VData → List VCtor
  | .mk _ _ a _ => a
def VData.Pos : VData → Int
  | .mk _ _ _ a => a
def VData.cs : VData → List AV
  | .mk Name Vars Ctors Pos => (.v (.string Name) :: (.sl (Vars.map fun x => .v (.string x)) :: (.sl (Ctors.map VCtor.av) :: (.v (.int .i64 Pos) :: []))))
def VData.av (x : VData) : AV := .agg x.cs
def VData.ok : VData → Prop
  | .mk Name Vars Ctors Pos => (∀ y ∈ Ctors, y.ok) ∧ inR Pos
theorem VData.norefsC : ∀ x : VData, AV.norefs x.cs = true
  | .mk Name Vars Ctors Pos => by simp [VData.cs, AV.norefs, AV.noref, norefs_append, norefsM (f := fun x => .v (.string x)) (l := Vars) (fun _ => rfl), norefsM (f := VCtor.av) (l := Ctors) VCtor.noref]
theorem VData.noref (x : VData) : x.av.noref = true   := VData.norefsC x
theorem VData.cs_eq (x : VData) : x.cs = [.v (.string x.Name), .sl (x.Vars.map fun x => .v (.string x)), .sl (x.Ctors.map VCtor.av), .v (.int .i64 x.Pos)] := by
  obtain ⟨Name, Vars, Ctors, Pos⟩ := x
  simp only [VData.cs, VData.Ctors, VData.Name, VData.Pos, VData.Vars, List.cons_append, List.nil_append]
theorem VData.cells (x : VData) : x.av.cells = [.v (.string x.Name), .sl (x.Vars.map fun x => .v (.string x)), .sl (x.Ctors.map VCtor.av), .v (.int .i64 x.Pos)] := VData.cs_eq x
inductive VProg where
  | mk (Types : List VData) (Body : VExp)
def VProg.Types : VProg → List VData
  | .mk a _ => a
def VProg.Body : VProg → VExp
  | .mk _ a => a
def VProg.cs : VProg → List AV
  | .mk Types Body => (.sl (Types.map VData.av) :: (Body.cs ++ []))
def VProg.av (x : VProg) : AV := .agg x.cs
def VProg.ok : VProg → Prop
  | .mk Types Body => (∀ y ∈ Types, y.ok) ∧ Body.ok
theorem VProg.norefsC : ∀ x : VProg, AV.norefs x.cs = true
  | .mk Types Body => by simp [VProg.cs, AV.norefs, AV.noref, norefs_append, norefsM (f := VData.av) (l := Types) VData.noref, VExp.norefsC Body]
theorem VProg.noref (x : VProg) : x.av.noref = true   := VProg.norefsC x
theorem VProg.cs_eq (x : VProg) : x.cs = [.sl (x.Types.map VData.av), .v (.int .i64 x.Body.Kind), .v (.string x.Body.Name), .v (.int .i64 x.Body.Num), .v (.string x.Body.Text), .v (.int .i64 x.Body.Pos), .sl (x.Body.Kids.map VExp.av), .sl (x.Body.Arms.map VArm.av)] := by
  obtain ⟨Types, ⟨Body_Kind, Body_Name, Body_Num, Body_Text, Body_Pos, Body_Kids, Body_Arms⟩⟩ := x
  simp only [VExp.cs, VProg.cs, VExp.Arms, VExp.Kids, VExp.Kind, VExp.Name, VExp.Num, VExp.Pos, VExp.Text, VProg.Body, VProg.Types, VArm.avs_eq, VExp.avs_eq, List.cons_append, List.nil_append]
theorem VProg.cells (x : VProg) : x.av.cells = [.sl (x.Types.map VData.av), .v (.int .i64 x.Body.Kind), .v (.string x.Body.Name), .v (.int .i64 x.Body.Num), .v (.string x.Body.Text), .v (.int .i64 x.Body.Pos), .sl (x.Body.Kids.map VExp.av), .sl (x.Body.Arms.map VArm.av)] := VProg.cs_eq x
inductive VTy where
  | mk (Kind : Int) (N : Int) (Name : ByteArray) (Kids : List VTy)
def VTy.Kind : VTy → Int
  | .mk a _ _ _ => a
def VTy.N : VTy → Int
  | .mk _ a _ _ => a
def VTy.Name : VTy → ByteArray
  | .mk _ _ a _ => a
def VTy.Kids : VTy → List VTy
  | .mk _ _ _ a => a
mutual
def VTy.cs : VTy → List AV
  | .mk Kind N Name Kids => (.v (.int .i64 Kind) :: (.v (.int .i64 N) :: (.v (.string Name) :: (.sl (VTy.avs Kids) :: []))))
def VTy.avs : List VTy → List AV
  | [] => []
  | x :: l => .agg x.cs :: VTy.avs l
end
def VTy.av (x : VTy) : AV := .agg x.cs
theorem VTy.avs_eq (l : List VTy) : VTy.avs l = l.map VTy.av := by
  induction l with
  | nil => rfl
  | cons x l ih => simp only [VTy.avs, ih, List.map_cons, VTy.av]
mutual
def VTy.ok : VTy → Prop
  | .mk Kind N Name Kids => inR Kind ∧ inR N ∧ VTy.oks Kids
def VTy.oks : List VTy → Prop
  | [] => True
  | x :: l => x.ok ∧ VTy.oks l
end
mutual
theorem VTy.norefsC : ∀ x : VTy, AV.norefs x.cs = true
  | .mk Kind N Name Kids => by simp [VTy.cs, AV.norefs, AV.noref, norefs_append, VTy.norefsL Kids]
theorem VTy.norefsL : ∀ l : List VTy, AV.norefs (VTy.avs l) = true
  | [] => rfl
  | x :: l => by simp [VTy.avs, AV.norefs, AV.noref, VTy.norefsC x, VTy.norefsL l]
end
theorem VTy.noref (x : VTy) : x.av.noref = true   := VTy.norefsC x
theorem VTy.cs_eq (x : VTy) : x.cs = [.v (.int .i64 x.Kind), .v (.int .i64 x.N), .v (.string x.Name), .sl (x.Kids.map VTy.av)] := by
  obtain ⟨Kind, N, Name, Kids⟩ := x
  simp only [VTy.cs, VTy.Kids, VTy.Kind, VTy.N, VTy.Name, VTy.avs_eq, List.cons_append, List.nil_append]
theorem VTy.cells (x : VTy) : x.av.cells = [.v (.int .i64 x.Kind), .v (.int .i64 x.N), .v (.string x.Name), .sl (x.Kids.map VTy.av)] := VTy.cs_eq x
inductive VCtorInfo where
  | mk (Name : ByteArray) (Has : Bool) (Arg : VTy)
def VCtorInfo.Name : VCtorInfo → ByteArray
  | .mk a _ _ => a
def VCtorInfo.Has : VCtorInfo → Bool
  | .mk _ a _ => a
def VCtorInfo.Arg : VCtorInfo → VTy
  | .mk _ _ a => a
def VCtorInfo.cs : VCtorInfo → List AV
  | .mk Name Has Arg => (.v (.string Name) :: (.v (.bool Has) :: (Arg.cs ++ [])))
def VCtorInfo.av (x : VCtorInfo) : AV := .agg x.cs
def VCtorInfo.ok : VCtorInfo → Prop
  | .mk Name Has Arg => Arg.ok
theorem VCtorInfo.norefsC : ∀ x : VCtorInfo, AV.norefs x.cs = true
  | .mk Name Has Arg => by simp [VCtorInfo.cs, AV.norefs, AV.noref, norefs_append, VTy.norefsC Arg]
theorem VCtorInfo.noref (x : VCtorInfo) : x.av.noref = true   := VCtorInfo.norefsC x
theorem VCtorInfo.cs_eq (x : VCtorInfo) : x.cs = [.v (.string x.Name), .v (.bool x.Has), .v (.int .i64 x.Arg.Kind), .v (.int .i64 x.Arg.N), .v (.string x.Arg.Name), .sl (x.Arg.Kids.map VTy.av)] := by
  obtain ⟨Name, Has, ⟨Arg_Kind, Arg_N, Arg_Name, Arg_Kids⟩⟩ := x
  simp only [VCtorInfo.cs, VTy.cs, VCtorInfo.Arg, VCtorInfo.Has, VCtorInfo.Name, VTy.Kids, VTy.Kind, VTy.N, VTy.Name, VTy.avs_eq, List.cons_append, List.nil_append]
theorem VCtorInfo.cells (x : VCtorInfo) : x.av.cells = [.v (.string x.Name), .v (.bool x.Has), .v (.int .i64 x.Arg.Kind), .v (.int .i64 x.Arg.N), .v (.string x.Arg.Name), .sl (x.Arg.Kids.map VTy.av)] := VCtorInfo.cs_eq x
inductive VDataInfo where
  | mk (Name : ByteArray) (Vars : Int) (Ctors : List VCtorInfo)
def VDataInfo.Name : VDataInfo → ByteArray
  | .mk a _ _ => a
def VDataInfo.Vars : VDataInfo → Int
  | .mk _ a _ => a
def VDataInfo.Ctors : VDataInfo → List VCtorInfo
  | .mk _ _ a => a
def VDataInfo.cs : VDataInfo → List AV
  | .mk Name Vars Ctors => (.v (.string Name) :: (.v (.int .i64 Vars) :: (.sl (Ctors.map VCtorInfo.av) :: [])))
def VDataInfo.av (x : VDataInfo) : AV := .agg x.cs
def VDataInfo.ok : VDataInfo → Prop
  | .mk Name Vars Ctors => inR Vars ∧ (∀ y ∈ Ctors, y.ok)
theorem VDataInfo.norefsC : ∀ x : VDataInfo, AV.norefs x.cs = true
  | .mk Name Vars Ctors => by simp [VDataInfo.cs, AV.norefs, AV.noref, norefs_append, norefsM (f := VCtorInfo.av) (l := Ctors) VCtorInfo.noref]
theorem VDataInfo.noref (x : VDataInfo) : x.av.noref = true   := VDataInfo.norefsC x
theorem VDataInfo.cs_eq (x : VDataInfo) : x.cs = [.v (.string x.Name), .v (.int .i64 x.Vars), .sl (x.Ctors.map VCtorInfo.av)] := by
  obtain ⟨Name, Vars, Ctors⟩ := x
  simp only [VDataInfo.cs, VDataInfo.Ctors, VDataInfo.Name, VDataInfo.Vars, List.cons_append, List.nil_append]
theorem VDataInfo.cells (x : VDataInfo) : x.av.cells = [.v (.string x.Name), .v (.int .i64 x.Vars), .sl (x.Ctors.map VCtorInfo.av)] := VDataInfo.cs_eq x
inductive VCPat where
  | mk (Kind : Int) (Num : Int) (Name : ByteArray) (T : VTy) (Kids : List VCPat)
def VCPat.Kind : VCPat → Int
  | .mk a _ _ _ _ => a
def VCPat.Num : VCPat → Int
  | .mk _ a _ _ _ => a
def VCPat.Name : VCPat → ByteArray
  | .mk _ _ a _ _ => a
def VCPat.T : VCPat → VTy
  | .mk _ _ _ a _ => a
def VCPat.Kids : VCPat → List VCPat
  | .mk _ _ _ _ a => a
mutual
def VCPat.cs : VCPat → List AV
  | .mk Kind Num Name T Kids => (.v (.int .i64 Kind) :: (.v (.int .i64 Num) :: (.v (.string Name) :: (T.cs ++ (.sl (VCPat.avs Kids) :: [])))))
def VCPat.avs : List VCPat → List AV
  | [] => []
  | x :: l => .agg x.cs :: VCPat.avs l
end
def VCPat.av (x : VCPat) : AV := .agg x.cs
theorem VCPat.avs_eq (l : List VCPat) : VCPat.avs l = l.map VCPat.av := by
  induction l with
  | nil => rfl
  | cons x l ih => simp only [VCPat.avs, ih, List.map_cons, VCPat.av]
mutual
def VCPat.ok : VCPat → Prop
  | .mk Kind Num Name T Kids => inR Kind ∧ inR Num ∧ T.ok ∧ VCPat.oks Kids
def VCPat.oks : List VCPat → Prop
  | [] => True
  | x :: l => x.ok ∧ VCPat.oks l
end
mutual
theorem VCPat.norefsC : ∀ x : VCPat, AV.norefs x.cs = true
  | .mk Kind Num Name T Kids => by simp [VCPat.cs, AV.norefs, AV.noref, norefs_append, VTy.norefsC T, VCPat.norefsL Kids]
theorem VCPat.norefsL : ∀ l : List VCPat, AV.norefs (VCPat.avs l) = true
  | [] => rfl
  | x :: l => by simp [VCPat.avs, AV.norefs, AV.noref, VCPat.norefsC x, VCPat.norefsL l]
end
theorem VCPat.noref (x : VCPat) : x.av.noref = true   := VCPat.norefsC x
theorem VCPat.cs_eq (x : VCPat) : x.cs = [.v (.int .i64 x.Kind), .v (.int .i64 x.Num), .v (.string x.Name), .v (.int .i64 x.T.Kind), .v (.int .i64 x.T.N), .v (.string x.T.Name), .sl (x.T.Kids.map VTy.av), .sl (x.Kids.map VCPat.av)] := by
  obtain ⟨Kind, Num, Name, ⟨T_Kind, T_N, T_Name, T_Kids⟩, Kids⟩ := x
  simp only [VCPat.cs, VTy.cs, VCPat.Kids, VCPat.Kind, VCPat.Name, VCPat.Num, VCPat.T, VTy.Kids, VTy.Kind, VTy.N, VTy.Name, VCPat.avs_eq, VTy.avs_eq, List.cons_append, List.nil_append]
theorem VCPat.cells (x : VCPat) : x.av.cells = [.v (.int .i64 x.Kind), .v (.int .i64 x.Num), .v (.string x.Name), .v (.int .i64 x.T.Kind), .v (.int .i64 x.T.N), .v (.string x.T.Name), .sl (x.T.Kids.map VTy.av), .sl (x.Kids.map VCPat.av)] := VCPat.cs_eq x
mutual
inductive VCore where
  | mk (Kind : Int) (N : Int) (Num : Int) (Text : ByteArray) (Name : ByteArray) (T : VTy) (Ts : List VTy) (Kids : List VCore) (Arms : List VCArm)
inductive VCArm where
  | mk (P : VCPat) (E : VCore)
end
def VCore.Kind : VCore → Int
  | .mk a _ _ _ _ _ _ _ _ => a
def VCore.N : VCore → Int
  | .mk _ a _ _ _ _ _ _ _ => a
def VCore.Num : VCore → Int
  | .mk _ _ a _ _ _ _ _ _ => a
def VCore.Text : VCore → ByteArray
  | .mk _ _ _ a _ _ _ _ _ => a
def VCore.Name : VCore → ByteArray
  | .mk _ _ _ _ a _ _ _ _ => a
def VCore.T : VCore → VTy
  | .mk _ _ _ _ _ a _ _ _ => a
def VCore.Ts : VCore → List VTy
  | .mk _ _ _ _ _ _ a _ _ => a
def VCore.Kids : VCore → List VCore
  | .mk _ _ _ _ _ _ _ a _ => a
def VCore.Arms : VCore → List VCArm
  | .mk _ _ _ _ _ _ _ _ a => a
def VCArm.P : VCArm → VCPat
  | .mk a _ => a
def VCArm.E : VCArm → VCore
  | .mk _ a => a
mutual
def VCore.cs : VCore → List AV
  | .mk Kind N Num Text Name T Ts Kids Arms => (.v (.int .i64 Kind) :: (.v (.int .i64 N) :: (.v (.int .i64 Num) :: (.v (.string Text) :: (.v (.string Name) :: (T.cs ++ (.sl (Ts.map VTy.av) :: (.sl (VCore.avs Kids) :: (.sl (VCArm.avs Arms) :: [])))))))))
def VCArm.cs : VCArm → List AV
  | .mk P E => (P.cs ++ (E.cs ++ []))
def VCore.avs : List VCore → List AV
  | [] => []
  | x :: l => .agg x.cs :: VCore.avs l
def VCArm.avs : List VCArm → List AV
  | [] => []
  | x :: l => .agg x.cs :: VCArm.avs l
end
def VCore.av (x : VCore) : AV := .agg x.cs
theorem VCore.avs_eq (l : List VCore) : VCore.avs l = l.map VCore.av := by
  induction l with
  | nil => rfl
  | cons x l ih => simp only [VCore.avs, ih, List.map_cons, VCore.av]
def VCArm.av (x : VCArm) : AV := .agg x.cs
theorem VCArm.avs_eq (l : List VCArm) : VCArm.avs l = l.map VCArm.av := by
  induction l with
  | nil => rfl
  | cons x l ih => simp only [VCArm.avs, ih, List.map_cons, VCArm.av]
mutual
def VCore.ok : VCore → Prop
  | .mk Kind N Num Text Name T Ts Kids Arms => inR Kind ∧ inR N ∧ inR Num ∧ T.ok ∧ (∀ y ∈ Ts, y.ok) ∧ VCore.oks Kids ∧ VCArm.oks Arms
def VCArm.ok : VCArm → Prop
  | .mk P E => P.ok ∧ E.ok
def VCore.oks : List VCore → Prop
  | [] => True
  | x :: l => x.ok ∧ VCore.oks l
def VCArm.oks : List VCArm → Prop
  | [] => True
  | x :: l => x.ok ∧ VCArm.oks l
end
mutual
theorem VCore.norefsC : ∀ x : VCore, AV.norefs x.cs = true
  | .mk Kind N Num Text Name T Ts Kids Arms => by simp [VCore.cs, AV.norefs, AV.noref, norefs_append, VTy.norefsC T, norefsM (f := VTy.av) (l := Ts) VTy.noref, VCore.norefsL Kids, VCArm.norefsL Arms]
theorem VCArm.norefsC : ∀ x : VCArm, AV.norefs x.cs = true
  | .mk P E => by simp [VCArm.cs, AV.norefs, AV.noref, norefs_append, VCPat.norefsC P, VCore.norefsC E]
theorem VCore.norefsL : ∀ l : List VCore, AV.norefs (VCore.avs l) = true
  | [] => rfl
  | x :: l => by simp [VCore.avs, AV.norefs, AV.noref, VCore.norefsC x, VCore.norefsL l]
theorem VCArm.norefsL : ∀ l : List VCArm, AV.norefs (VCArm.avs l) = true
  | [] => rfl
  | x :: l => by simp [VCArm.avs, AV.norefs, AV.noref, VCArm.norefsC x, VCArm.norefsL l]
end
theorem VCore.noref (x : VCore) : x.av.noref = true   := VCore.norefsC x
theorem VCore.cs_eq (x : VCore) : x.cs = [.v (.int .i64 x.Kind), .v (.int .i64 x.N), .v (.int .i64 x.Num), .v (.string x.Text), .v (.string x.Name), .v (.int .i64 x.T.Kind), .v (.int .i64 x.T.N), .v (.string x.T.Name), .sl (x.T.Kids.map VTy.av), .sl (x.Ts.map VTy.av), .sl (x.Kids.map VCore.av), .sl (x.Arms.map VCArm.av)] := by
  obtain ⟨Kind, N, Num, Text, Name, ⟨T_Kind, T_N, T_Name, T_Kids⟩, Ts, Kids, Arms⟩ := x
  simp only [VCore.cs, VTy.cs, VCore.Arms, VCore.Kids, VCore.Kind, VCore.N, VCore.Name, VCore.Num, VCore.T, VCore.Text, VCore.Ts, VTy.Kids, VTy.Kind, VTy.N, VTy.Name, VCArm.avs_eq, VCore.avs_eq, VTy.avs_eq, List.cons_append, List.nil_append]
theorem VCore.cells (x : VCore) : x.av.cells = [.v (.int .i64 x.Kind), .v (.int .i64 x.N), .v (.int .i64 x.Num), .v (.string x.Text), .v (.string x.Name), .v (.int .i64 x.T.Kind), .v (.int .i64 x.T.N), .v (.string x.T.Name), .sl (x.T.Kids.map VTy.av), .sl (x.Ts.map VTy.av), .sl (x.Kids.map VCore.av), .sl (x.Arms.map VCArm.av)] := VCore.cs_eq x
theorem VCArm.noref (x : VCArm) : x.av.noref = true   := VCArm.norefsC x
theorem VCArm.cs_eq (x : VCArm) : x.cs = [.v (.int .i64 x.P.Kind), .v (.int .i64 x.P.Num), .v (.string x.P.Name), .v (.int .i64 x.P.T.Kind), .v (.int .i64 x.P.T.N), .v (.string x.P.T.Name), .sl (x.P.T.Kids.map VTy.av), .sl (x.P.Kids.map VCPat.av), .v (.int .i64 x.E.Kind), .v (.int .i64 x.E.N), .v (.int .i64 x.E.Num), .v (.string x.E.Text), .v (.string x.E.Name), .v (.int .i64 x.E.T.Kind), .v (.int .i64 x.E.T.N), .v (.string x.E.T.Name), .sl (x.E.T.Kids.map VTy.av), .sl (x.E.Ts.map VTy.av), .sl (x.E.Kids.map VCore.av), .sl (x.E.Arms.map VCArm.av)] := by
  obtain ⟨⟨P_Kind, P_Num, P_Name, ⟨P_T_Kind, P_T_N, P_T_Name, P_T_Kids⟩, P_Kids⟩, ⟨E_Kind, E_N, E_Num, E_Text, E_Name, ⟨E_T_Kind, E_T_N, E_T_Name, E_T_Kids⟩, E_Ts, E_Kids, E_Arms⟩⟩ := x
  simp only [VCArm.cs, VCPat.cs, VCore.cs, VTy.cs, VCArm.E, VCArm.P, VCPat.Kids, VCPat.Kind, VCPat.Name, VCPat.Num, VCPat.T, VCore.Arms, VCore.Kids, VCore.Kind, VCore.N, VCore.Name, VCore.Num, VCore.T, VCore.Text, VCore.Ts, VTy.Kids, VTy.Kind, VTy.N, VTy.Name, VCArm.avs_eq, VCPat.avs_eq, VCore.avs_eq, VTy.avs_eq, List.cons_append, List.nil_append]
theorem VCArm.cells (x : VCArm) : x.av.cells = [.v (.int .i64 x.P.Kind), .v (.int .i64 x.P.Num), .v (.string x.P.Name), .v (.int .i64 x.P.T.Kind), .v (.int .i64 x.P.T.N), .v (.string x.P.T.Name), .sl (x.P.T.Kids.map VTy.av), .sl (x.P.Kids.map VCPat.av), .v (.int .i64 x.E.Kind), .v (.int .i64 x.E.N), .v (.int .i64 x.E.Num), .v (.string x.E.Text), .v (.string x.E.Name), .v (.int .i64 x.E.T.Kind), .v (.int .i64 x.E.T.N), .v (.string x.E.T.Name), .sl (x.E.T.Kids.map VTy.av), .sl (x.E.Ts.map VTy.av), .sl (x.E.Kids.map VCore.av), .sl (x.E.Arms.map VCArm.av)] := VCArm.cs_eq x
inductive VKVal where
  | mk (Kind : Int) (N : Int) (Num : Int) (Text : ByteArray)
def VKVal.Kind : VKVal → Int
  | .mk a _ _ _ => a
def VKVal.N : VKVal → Int
  | .mk _ a _ _ => a
def VKVal.Num : VKVal → Int
  | .mk _ _ a _ => a
def VKVal.Text : VKVal → ByteArray
  | .mk _ _ _ a => a
def VKVal.cs : VKVal → List AV
  | .mk Kind N Num Text => (.v (.int .i64 Kind) :: (.v (.int .i64 N) :: (.v (.int .i64 Num) :: (.v (.string Text) :: []))))
def VKVal.av (x : VKVal) : AV := .agg x.cs
def VKVal.ok : VKVal → Prop
  | .mk Kind N Num Text => inR Kind ∧ inR N ∧ inR Num
theorem VKVal.norefsC : ∀ x : VKVal, AV.norefs x.cs = true
  | .mk Kind N Num Text => by simp [VKVal.cs, AV.norefs, AV.noref, norefs_append]
theorem VKVal.noref (x : VKVal) : x.av.noref = true   := VKVal.norefsC x
theorem VKVal.cs_eq (x : VKVal) : x.cs = [.v (.int .i64 x.Kind), .v (.int .i64 x.N), .v (.int .i64 x.Num), .v (.string x.Text)] := by
  obtain ⟨Kind, N, Num, Text⟩ := x
  simp only [VKVal.cs, VKVal.Kind, VKVal.N, VKVal.Num, VKVal.Text, List.cons_append, List.nil_append]
theorem VKVal.cells (x : VKVal) : x.av.cells = [.v (.int .i64 x.Kind), .v (.int .i64 x.N), .v (.int .i64 x.Num), .v (.string x.Text)] := VKVal.cs_eq x
inductive VKTerm where
  | mk (Kind : Int) (Name : ByteArray) (N : Int) (Num : Int) (T : VTy) (Ts : List VTy) (Vs : List VKVal) (Kids : List VKTerm)
def VKTerm.Kind : VKTerm → Int
  | .mk a _ _ _ _ _ _ _ => a
def VKTerm.Name : VKTerm → ByteArray
  | .mk _ a _ _ _ _ _ _ => a
def VKTerm.N : VKTerm → Int
  | .mk _ _ a _ _ _ _ _ => a
def VKTerm.Num : VKTerm → Int
  | .mk _ _ _ a _ _ _ _ => a
def VKTerm.T : VKTerm → VTy
  | .mk _ _ _ _ a _ _ _ => a
def VKTerm.Ts : VKTerm → List VTy
  | .mk _ _ _ _ _ a _ _ => a
def VKTerm.Vs : VKTerm → List VKVal
  | .mk _ _ _ _ _ _ a _ => a
def VKTerm.Kids : VKTerm → List VKTerm
  | .mk _ _ _ _ _ _ _ a => a
mutual
def VKTerm.cs : VKTerm → List AV
  | .mk Kind Name N Num T Ts Vs Kids => (.v (.int .i64 Kind) :: (.v (.string Name) :: (.v (.int .i64 N) :: (.v (.int .i64 Num) :: (T.cs ++ (.sl (Ts.map VTy.av) :: (.sl (Vs.map VKVal.av) :: (.sl (VKTerm.avs Kids) :: []))))))))
def VKTerm.avs : List VKTerm → List AV
  | [] => []
  | x :: l => .agg x.cs :: VKTerm.avs l
end
def VKTerm.av (x : VKTerm) : AV := .agg x.cs
theorem VKTerm.avs_eq (l : List VKTerm) : VKTerm.avs l = l.map VKTerm.av := by
  induction l with
  | nil => rfl
  | cons x l ih => simp only [VKTerm.avs, ih, List.map_cons, VKTerm.av]
mutual
def VKTerm.ok : VKTerm → Prop
  | .mk Kind Name N Num T Ts Vs Kids => inR Kind ∧ inR N ∧ inR Num ∧ T.ok ∧ (∀ y ∈ Ts, y.ok) ∧ (∀ y ∈ Vs, y.ok) ∧ VKTerm.oks Kids
def VKTerm.oks : List VKTerm → Prop
  | [] => True
  | x :: l => x.ok ∧ VKTerm.oks l
end
mutual
theorem VKTerm.norefsC : ∀ x : VKTerm, AV.norefs x.cs = true
  | .mk Kind Name N Num T Ts Vs Kids => by simp [VKTerm.cs, AV.norefs, AV.noref, norefs_append, VTy.norefsC T, norefsM (f := VTy.av) (l := Ts) VTy.noref, norefsM (f := VKVal.av) (l := Vs) VKVal.noref, VKTerm.norefsL Kids]
theorem VKTerm.norefsL : ∀ l : List VKTerm, AV.norefs (VKTerm.avs l) = true
  | [] => rfl
  | x :: l => by simp [VKTerm.avs, AV.norefs, AV.noref, VKTerm.norefsC x, VKTerm.norefsL l]
end
theorem VKTerm.noref (x : VKTerm) : x.av.noref = true   := VKTerm.norefsC x
theorem VKTerm.cs_eq (x : VKTerm) : x.cs = [.v (.int .i64 x.Kind), .v (.string x.Name), .v (.int .i64 x.N), .v (.int .i64 x.Num), .v (.int .i64 x.T.Kind), .v (.int .i64 x.T.N), .v (.string x.T.Name), .sl (x.T.Kids.map VTy.av), .sl (x.Ts.map VTy.av), .sl (x.Vs.map VKVal.av), .sl (x.Kids.map VKTerm.av)] := by
  obtain ⟨Kind, Name, N, Num, ⟨T_Kind, T_N, T_Name, T_Kids⟩, Ts, Vs, Kids⟩ := x
  simp only [VKTerm.cs, VTy.cs, VKTerm.Kids, VKTerm.Kind, VKTerm.N, VKTerm.Name, VKTerm.Num, VKTerm.T, VKTerm.Ts, VKTerm.Vs, VTy.Kids, VTy.Kind, VTy.N, VTy.Name, VKTerm.avs_eq, VTy.avs_eq, List.cons_append, List.nil_append]
theorem VKTerm.cells (x : VKTerm) : x.av.cells = [.v (.int .i64 x.Kind), .v (.string x.Name), .v (.int .i64 x.N), .v (.int .i64 x.Num), .v (.int .i64 x.T.Kind), .v (.int .i64 x.T.N), .v (.string x.T.Name), .sl (x.T.Kids.map VTy.av), .sl (x.Ts.map VTy.av), .sl (x.Vs.map VKVal.av), .sl (x.Kids.map VKTerm.av)] := VKTerm.cs_eq x
inductive VSlot where
  | mk (T : VTy) (Many : Int) (Cont : Bool)
def VSlot.T : VSlot → VTy
  | .mk a _ _ => a
def VSlot.Many : VSlot → Int
  | .mk _ a _ => a
def VSlot.Cont : VSlot → Bool
  | .mk _ _ a => a
def VSlot.cs : VSlot → List AV
  | .mk T Many Cont => (T.cs ++ (.v (.int .i64 Many) :: (.v (.bool Cont) :: [])))
def VSlot.av (x : VSlot) : AV := .agg x.cs
def VSlot.ok : VSlot → Prop
  | .mk T Many Cont => T.ok ∧ inR Many
theorem VSlot.norefsC : ∀ x : VSlot, AV.norefs x.cs = true
  | .mk T Many Cont => by simp [VSlot.cs, AV.norefs, AV.noref, norefs_append, VTy.norefsC T]
theorem VSlot.noref (x : VSlot) : x.av.noref = true   := VSlot.norefsC x
theorem VSlot.cs_eq (x : VSlot) : x.cs = [.v (.int .i64 x.T.Kind), .v (.int .i64 x.T.N), .v (.string x.T.Name), .sl (x.T.Kids.map VTy.av), .v (.int .i64 x.Many), .v (.bool x.Cont)] := by
  obtain ⟨⟨T_Kind, T_N, T_Name, T_Kids⟩, Many, Cont⟩ := x
  simp only [VSlot.cs, VTy.cs, VSlot.Cont, VSlot.Many, VSlot.T, VTy.Kids, VTy.Kind, VTy.N, VTy.Name, VTy.avs_eq, List.cons_append, List.nil_append]
theorem VSlot.cells (x : VSlot) : x.av.cells = [.v (.int .i64 x.T.Kind), .v (.int .i64 x.T.N), .v (.string x.T.Name), .sl (x.T.Kids.map VTy.av), .v (.int .i64 x.Many), .v (.bool x.Cont)] := VSlot.cs_eq x
inductive VBlock where
  | mk (Vars : Int) (Caps : List VSlot) (Cont : Bool) (T : VTy) (Body : VKTerm)
def VBlock.Vars : VBlock → Int
  | .mk a _ _ _ _ => a
def VBlock.Caps : VBlock → List VSlot
  | .mk _ a _ _ _ => a
def VBlock.Cont : VBlock → Bool
  | .mk _ _ a _ _ => a
def VBlock.T : VBlock → VTy
  | .mk _ _ _ a _ => a
def VBlock.Body : VBlock → VKTerm
  | .mk _ _ _ _ a => a
def VBlock.cs : VBlock → List AV
  | .mk Vars Caps Cont T Body => (.v (.int .i64 Vars) :: (.sl (Caps.map VSlot.av) :: (.v (.bool Cont) :: (T.cs ++ (Body.cs ++ [])))))
def VBlock.av (x : VBlock) : AV := .agg x.cs
def VBlock.ok : VBlock → Prop
  | .mk Vars Caps Cont T Body => inR Vars ∧ (∀ y ∈ Caps, y.ok) ∧ T.ok ∧ Body.ok
theorem VBlock.norefsC : ∀ x : VBlock, AV.norefs x.cs = true
  | .mk Vars Caps Cont T Body => by simp [VBlock.cs, AV.norefs, AV.noref, norefs_append, norefsM (f := VSlot.av) (l := Caps) VSlot.noref, VTy.norefsC T, VKTerm.norefsC Body]
theorem VBlock.noref (x : VBlock) : x.av.noref = true   := VBlock.norefsC x
theorem VBlock.cs_eq (x : VBlock) : x.cs = [.v (.int .i64 x.Vars), .sl (x.Caps.map VSlot.av), .v (.bool x.Cont), .v (.int .i64 x.T.Kind), .v (.int .i64 x.T.N), .v (.string x.T.Name), .sl (x.T.Kids.map VTy.av), .v (.int .i64 x.Body.Kind), .v (.string x.Body.Name), .v (.int .i64 x.Body.N), .v (.int .i64 x.Body.Num), .v (.int .i64 x.Body.T.Kind), .v (.int .i64 x.Body.T.N), .v (.string x.Body.T.Name), .sl (x.Body.T.Kids.map VTy.av), .sl (x.Body.Ts.map VTy.av), .sl (x.Body.Vs.map VKVal.av), .sl (x.Body.Kids.map VKTerm.av)] := by
  obtain ⟨Vars, Caps, Cont, ⟨T_Kind, T_N, T_Name, T_Kids⟩, ⟨Body_Kind, Body_Name, Body_N, Body_Num, ⟨Body_T_Kind, Body_T_N, Body_T_Name, Body_T_Kids⟩, Body_Ts, Body_Vs, Body_Kids⟩⟩ := x
  simp only [VBlock.cs, VKTerm.cs, VTy.cs, VBlock.Body, VBlock.Caps, VBlock.Cont, VBlock.T, VBlock.Vars, VKTerm.Kids, VKTerm.Kind, VKTerm.N, VKTerm.Name, VKTerm.Num, VKTerm.T, VKTerm.Ts, VKTerm.Vs, VTy.Kids, VTy.Kind, VTy.N, VTy.Name, VKTerm.avs_eq, VTy.avs_eq, List.cons_append, List.nil_append]
theorem VBlock.cells (x : VBlock) : x.av.cells = [.v (.int .i64 x.Vars), .sl (x.Caps.map VSlot.av), .v (.bool x.Cont), .v (.int .i64 x.T.Kind), .v (.int .i64 x.T.N), .v (.string x.T.Name), .sl (x.T.Kids.map VTy.av), .v (.int .i64 x.Body.Kind), .v (.string x.Body.Name), .v (.int .i64 x.Body.N), .v (.int .i64 x.Body.Num), .v (.int .i64 x.Body.T.Kind), .v (.int .i64 x.Body.T.N), .v (.string x.Body.T.Name), .sl (x.Body.T.Kids.map VTy.av), .sl (x.Body.Ts.map VTy.av), .sl (x.Body.Vs.map VKVal.av), .sl (x.Body.Kids.map VKTerm.av)] := VBlock.cs_eq x
inductive VBProg where
  | mk (Blocks : List VBlock) (Main : VKTerm)
def VBProg.Blocks : VBProg → List VBlock
  | .mk a _ => a
def VBProg.Main : VBProg → VKTerm
  | .mk _ a => a
def VBProg.cs : VBProg → List AV
  | .mk Blocks Main => (.sl (Blocks.map VBlock.av) :: (Main.cs ++ []))
def VBProg.av (x : VBProg) : AV := .agg x.cs
def VBProg.ok : VBProg → Prop
  | .mk Blocks Main => (∀ y ∈ Blocks, y.ok) ∧ Main.ok
theorem VBProg.norefsC : ∀ x : VBProg, AV.norefs x.cs = true
  | .mk Blocks Main => by simp [VBProg.cs, AV.norefs, AV.noref, norefs_append, norefsM (f := VBlock.av) (l := Blocks) VBlock.noref, VKTerm.norefsC Main]
theorem VBProg.noref (x : VBProg) : x.av.noref = true   := VBProg.norefsC x
theorem VBProg.cs_eq (x : VBProg) : x.cs = [.sl (x.Blocks.map VBlock.av), .v (.int .i64 x.Main.Kind), .v (.string x.Main.Name), .v (.int .i64 x.Main.N), .v (.int .i64 x.Main.Num), .v (.int .i64 x.Main.T.Kind), .v (.int .i64 x.Main.T.N), .v (.string x.Main.T.Name), .sl (x.Main.T.Kids.map VTy.av), .sl (x.Main.Ts.map VTy.av), .sl (x.Main.Vs.map VKVal.av), .sl (x.Main.Kids.map VKTerm.av)] := by
  obtain ⟨Blocks, ⟨Main_Kind, Main_Name, Main_N, Main_Num, ⟨Main_T_Kind, Main_T_N, Main_T_Name, Main_T_Kids⟩, Main_Ts, Main_Vs, Main_Kids⟩⟩ := x
  simp only [VBProg.cs, VKTerm.cs, VTy.cs, VBProg.Blocks, VBProg.Main, VKTerm.Kids, VKTerm.Kind, VKTerm.N, VKTerm.Name, VKTerm.Num, VKTerm.T, VKTerm.Ts, VKTerm.Vs, VTy.Kids, VTy.Kind, VTy.N, VTy.Name, VKTerm.avs_eq, VTy.avs_eq, List.cons_append, List.nil_append]
theorem VBProg.cells (x : VBProg) : x.av.cells = [.sl (x.Blocks.map VBlock.av), .v (.int .i64 x.Main.Kind), .v (.string x.Main.Name), .v (.int .i64 x.Main.N), .v (.int .i64 x.Main.Num), .v (.int .i64 x.Main.T.Kind), .v (.int .i64 x.Main.T.N), .v (.string x.Main.T.Name), .sl (x.Main.T.Kids.map VTy.av), .sl (x.Main.Ts.map VTy.av), .sl (x.Main.Vs.map VKVal.av), .sl (x.Main.Kids.map VKTerm.av)] := VBProg.cs_eq x
inductive VInstr where
  | mk (Op : Int) (A : Int) (B : Int) (C : Int) (N : Int) (Text : ByteArray)
def VInstr.Op : VInstr → Int
  | .mk a _ _ _ _ _ => a
def VInstr.A : VInstr → Int
  | .mk _ a _ _ _ _ => a
def VInstr.B : VInstr → Int
  | .mk _ _ a _ _ _ => a
def VInstr.C : VInstr → Int
  | .mk _ _ _ a _ _ => a
def VInstr.N : VInstr → Int
  | .mk _ _ _ _ a _ => a
def VInstr.Text : VInstr → ByteArray
  | .mk _ _ _ _ _ a => a
def VInstr.cs : VInstr → List AV
  | .mk Op A B C N Text => (.v (.int .i64 Op) :: (.v (.int .i64 A) :: (.v (.int .i64 B) :: (.v (.int .i64 C) :: (.v (.int .i64 N) :: (.v (.string Text) :: []))))))
def VInstr.av (x : VInstr) : AV := .agg x.cs
def VInstr.wt : VInstr → Nat
  | .mk Op A B C N Text => Text.size
def VInstr.ok : VInstr → Prop
  | .mk Op A B C N Text => inR Op ∧ inR A ∧ inR B ∧ inR C ∧ inR N
theorem VInstr.norefsC : ∀ x : VInstr, AV.norefs x.cs = true
  | .mk Op A B C N Text => by simp [VInstr.cs, AV.norefs, AV.noref, norefs_append]
theorem VInstr.noref (x : VInstr) : x.av.noref = true   := VInstr.norefsC x
theorem VInstr.isAgg (x : VInstr) : x.av.isAgg = true := nr rfl
theorem VInstr.cs_eq (x : VInstr) : x.cs = [.v (.int .i64 x.Op), .v (.int .i64 x.A), .v (.int .i64 x.B), .v (.int .i64 x.C), .v (.int .i64 x.N), .v (.string x.Text)] := by
  obtain ⟨Op, A, B, C, N, Text⟩ := x
  simp only [VInstr.cs, VInstr.A, VInstr.B, VInstr.C, VInstr.N, VInstr.Op, VInstr.Text, List.cons_append, List.nil_append]
theorem VInstr.cells (x : VInstr) : x.av.cells = [.v (.int .i64 x.Op), .v (.int .i64 x.A), .v (.int .i64 x.B), .v (.int .i64 x.C), .v (.int .i64 x.N), .v (.string x.Text)] := VInstr.cs_eq x
theorem VInstr.width (x : VInstr) : x.av.cells.length = 6 := by rw [VInstr.cells]; rfl
theorem VInstr.storable (x : VInstr) : x.av.storable = true := by unfold AV.storable; rw [VInstr.cells]; rfl
theorem VInstr.eta (x : VInstr) : AV.agg [.v (.int .i64 x.Op), .v (.int .i64 x.A), .v (.int .i64 x.B), .v (.int .i64 x.C), .v (.int .i64 x.N), .v (.string x.Text)] = x.av := by
  show _ = AV.agg x.cs
  rw [VInstr.cs_eq]
theorem VInstr.shape (x : VInstr) : x.av.isAgg = true ∧ x.av.cells.length = 6 ∧ x.av.storable = true := ⟨rfl, VInstr.width x, VInstr.storable x⟩
theorem VInstr.shape4 (x : VInstr) : x.av.isAgg = true ∧ x.av.cells.length = 6 ∧ x.av.storable = true ∧ x.av.noref = true := ⟨rfl, VInstr.width x, VInstr.storable x, VInstr.noref x⟩
theorem VInstr.wt_eq (x : VInstr) : x.wt = x.Text.size := by
  cases x
  simp only [VInstr.wt, VInstr.Op, VInstr.A, VInstr.B, VInstr.C, VInstr.N, VInstr.Text]
theorem VInstr.facts {l : List VInstr} {b : Nat} (h : (l.map VInstr.wt).sum ≤ b) : ∀ x ∈ l, x.wt ≤ b ∧ x.wt = x.Text.size := fun x hx => ⟨Nat.le_trans (le_sum VInstr.wt hx) h, x.wt_eq⟩
theorem VInstr.ok_iff (x : VInstr) : x.ok ↔ inR x.Op ∧ inR x.A ∧ inR x.B ∧ inR x.C ∧ inR x.N := by
  cases x
  simp only [VInstr.ok, VInstr.Op, VInstr.A, VInstr.B, VInstr.C, VInstr.N, VInstr.Text]
inductive VCode where
  | mk (Instrs : List VInstr) (Starts : List Int)
def VCode.Instrs : VCode → List VInstr
  | .mk a _ => a
def VCode.Starts : VCode → List Int
  | .mk _ a => a
def VCode.cs : VCode → List AV
  | .mk Instrs Starts => (.sl (Instrs.map VInstr.av) :: (.sl (Starts.map fun x => .v (.int .i64 x)) :: []))
def VCode.av (x : VCode) : AV := .agg x.cs
def VCode.wt : VCode → Nat
  | .mk Instrs Starts => (Instrs.length + (Instrs.map VInstr.wt).sum) + Starts.length
def VCode.ok : VCode → Prop
  | .mk Instrs Starts => (∀ y ∈ Instrs, y.ok) ∧ (∀ y ∈ Starts, inR y)
theorem VCode.norefsC : ∀ x : VCode, AV.norefs x.cs = true
  | .mk Instrs Starts => by simp [VCode.cs, AV.norefs, AV.noref, norefs_append, norefsM (f := VInstr.av) (l := Instrs) VInstr.noref, norefsM (f := fun x => .v (.int .i64 x)) (l := Starts) (fun _ => rfl)]
theorem VCode.noref (x : VCode) : x.av.noref = true   := VCode.norefsC x
theorem VCode.isAgg (x : VCode) : x.av.isAgg = true := nr rfl
theorem VCode.cs_eq (x : VCode) : x.cs = [.sl (x.Instrs.map VInstr.av), .sl (x.Starts.map fun x => .v (.int .i64 x))] := by
  obtain ⟨Instrs, Starts⟩ := x
  simp only [VCode.cs, VCode.Instrs, VCode.Starts, List.cons_append, List.nil_append]
theorem VCode.cells (x : VCode) : x.av.cells = [.sl (x.Instrs.map VInstr.av), .sl (x.Starts.map fun x => .v (.int .i64 x))] := VCode.cs_eq x
theorem VCode.width (x : VCode) : x.av.cells.length = 2 := by rw [VCode.cells]; rfl
theorem VCode.storable (x : VCode) : x.av.storable = true := by unfold AV.storable; rw [VCode.cells]; rfl
theorem VCode.eta (x : VCode) : AV.agg [.sl (x.Instrs.map VInstr.av), .sl (x.Starts.map fun x => .v (.int .i64 x))] = x.av := by
  show _ = AV.agg x.cs
  rw [VCode.cs_eq]
theorem VCode.wt_eq (x : VCode) : x.wt = (x.Instrs.length + (x.Instrs.map VInstr.wt).sum) + x.Starts.length := by
  cases x
  simp only [VCode.wt, VCode.Instrs, VCode.Starts]
theorem VCode.ok_iff (x : VCode) : x.ok ↔ (∀ y ∈ x.Instrs, y.ok) ∧ (∀ y ∈ x.Starts, inR y) := by
  cases x
  simp only [VCode.ok, VCode.Instrs, VCode.Starts]
inductive VEvent where
  | mk (At : Int) (Room : Int) (Put : Int)
def VEvent.At : VEvent → Int
  | .mk a _ _ => a
def VEvent.Room : VEvent → Int
  | .mk _ a _ => a
def VEvent.Put : VEvent → Int
  | .mk _ _ a => a
def VEvent.cs : VEvent → List AV
  | .mk At Room Put => (.v (.int .i64 At) :: (.v (.int .i64 Room) :: (.v (.int .i64 Put) :: [])))
def VEvent.av (x : VEvent) : AV := .agg x.cs
def VEvent.ok : VEvent → Prop
  | .mk At Room Put => inR At ∧ inR Room ∧ inR Put
theorem VEvent.norefsC : ∀ x : VEvent, AV.norefs x.cs = true
  | .mk At Room Put => by simp [VEvent.cs, AV.norefs, AV.noref, norefs_append]
theorem VEvent.noref (x : VEvent) : x.av.noref = true   := VEvent.norefsC x
theorem VEvent.cs_eq (x : VEvent) : x.cs = [.v (.int .i64 x.At), .v (.int .i64 x.Room), .v (.int .i64 x.Put)] := by
  obtain ⟨At, Room, Put⟩ := x
  simp only [VEvent.cs, VEvent.At, VEvent.Put, VEvent.Room, List.cons_append, List.nil_append]
theorem VEvent.cells (x : VEvent) : x.av.cells = [.v (.int .i64 x.At), .v (.int .i64 x.Room), .v (.int .i64 x.Put)] := VEvent.cs_eq x
end Go.Ab
/-
  THE FUNCTIONS OF PACKAGE slices, once for all element types; loops with what holds at each round.
-/
namespace Go.Ab
set_option maxRecDepth 100000
section
variable {P : Program} {L : AX → SS → List AV → Prop} {R : AV → Prop} {t : T} {r : List AV} {S : List (List AV → Prop)}
/-- a loop that counts up, with what holds at each round -/
theorem loop_inv {init : List AV} (n : Nat) (I : Nat → Prop) (σ : Nat → List AV) (h0 : init = σ 0) (hI : I 0)
    (hr : ∀ i, i ≤ n → I i → wpT P L R t (r ++ σ i) ((fun vs => i < n ∧ I (i + 1) ∧ vs = σ (i + 1)) :: S)) : loopT P L R init t r S := by
  refine loop_intro (ι := Nat) (fun i => i ≤ n ∧ I i) σ (fun i => n - i) 0 ⟨Nat.zero_le _, hI⟩ h0 fun i hi => ?_
  refine wpT_mono (fun _ _ _ h => h) (fun _ h => h) t (.cons (fun vs hv => ?_) (.refl _)) (hr i hi.1 hi.2)
  exact ⟨i + 1, ⟨hv.1, hv.2.1⟩, by have := hv.1; omega, hv.2.2⟩
end
theorem dropC {α : Type} {l : List α} {i : Nat} (h : i < l.length) : l.drop i = l[i] :: l.drop (i + 1) := List.drop_eq_getElem_cons h
theorem dropE {α : Type} (l : List α) : l.drop l.length = [] := List.drop_length
/-- the first place from k on that passes -/
def idxR {α : Type} (p : α → Bool) : List α → Nat → Int
  | [], _ => -1
  | x :: r, k => if p x = true then (k : Int) else idxR p r (k + 1)
theorem idxR_any {α : Type} (p : α → Bool) : ∀ (l : List α) (k : Nat), decide (0 ≤ idxR p l k) = l.any p
  | [], _ => by simp [idxR]
  | x :: r, k => by
    unfold idxR
    by_cases h : p x = true
    · simp [h]
    · simp only [h, List.any_cons]; rw [if_neg (by simp), idxR_any p r (k + 1)]; simp
def TidxF (s : Nat) : T :=
.bind 0 (
 .op (.lenL (.x 0)) (
 .loop [(.c (.v (.int .i64 0)))] (
  .op (.bin .lss (.x 3) (.x 2)) (
  .ite (.x 4)
   (.op (.elem s (.x 0) (.x 3)) (
   .chk (.cells (.x 5) s) (
   .op (.callv (.x 1) [(.x 5)] false) (
   .ite (.x 6)
    (.esc (.esc (.ret [(.x 3)])))
    (.op (.bin .add (.x 3) (.c (.v (.int .i64 1)))) (
    .jump [(.x 7)]))))))
   (.esc (.jump [])))))) (
.ret [(.c (.v (.int .i64 (-1))))])
theorem idxF_T {P : Program} {L : AX → SS → List AV → Prop} {α : Type} {av : α → AV} {s : Nat} {g : FuncId} {caps : List AV} {l : List α} (p : α → Bool) (hs : ∀ x, (av x).isAgg = true ∧ (av x).cells.length = s ∧ (av x).storable = true)
    (hl : l.length ≤ 1073741824) (hc : ∀ x ∈ l, PCon P g (av x :: caps) (.v (.bool (p x)))) :
    wpT P L (fun a => a = .v (.int .i64 (idxR p l 0))) (TidxF s) [.sl (l.map av), .fn g caps] [] := by
  simp only [TidxF, WA, Nat.reduceEqDiff, Nat.reduceAdd, Nat.reduceLT, Nat.reduceLeDiff, Nat.reduceMul, reduceIte, reduceCtorEq, Int.reduceEq, Int.reduceLT, Int.reduceLE, Int.reduceNe]
  refine bind_push ?_
  simp only [WA, Nat.reduceEqDiff, Nat.reduceAdd, Nat.reduceLT, Nat.reduceLeDiff, Nat.reduceMul, reduceIte, reduceCtorEq, Int.reduceEq, Int.reduceLT, Int.reduceLE, Int.reduceNe]
  refine loop_inv l.length (fun i => idxR p l 0 = idxR p (l.drop i) i) (fun i => [.v (.int .i64 i)]) rfl rfl fun i hi hI => ?_
  simp only [WA, Nat.reduceEqDiff, Nat.reduceAdd, Nat.reduceLT, Nat.reduceLeDiff, Nat.reduceMul, reduceIte, reduceCtorEq, Int.reduceEq, Int.reduceLT, Int.reduceLE, Int.reduceNe]
  refine ite_dec (fun h => ?_) (fun h => ?_)
  · have hlt : i < l.length := by omega
    obtain ⟨x1, x2, x3⟩ := hs l[i]
    rw [dropC hlt, idxR] at hI
    simp only [WA, Nat.reduceEqDiff, Nat.reduceAdd, Nat.reduceLT, Nat.reduceLeDiff, Nat.reduceMul, reduceIte, reduceCtorEq, Int.reduceEq, Int.reduceLT, Int.reduceLE, Int.reduceNe]
    refine elemM av hlt x2 ?_
    simp only [x1, x2, x3, WA, Nat.reduceEqDiff, Nat.reduceAdd, Nat.reduceLT, Nat.reduceLeDiff, Nat.reduceMul, reduceIte, reduceCtorEq, Int.reduceEq, Int.reduceLT, Int.reduceLE, Int.reduceNe]
    refine call_v (hc _ (List.getElem_mem hlt)) ?_
    simp only [WA, Nat.reduceEqDiff, Nat.reduceAdd, Nat.reduceLT, Nat.reduceLeDiff, Nat.reduceMul, reduceIte, reduceCtorEq, Int.reduceEq, Int.reduceLT, Int.reduceLE, Int.reduceNe]
    refine ite_intro (fun h => ?_) (fun h => ?_)
    · simp only [h, if_pos] at hI
      simp only [hI, WA, Nat.reduceEqDiff, Nat.reduceAdd, Nat.reduceLT, Nat.reduceLeDiff, Nat.reduceMul, reduceIte, reduceCtorEq, Int.reduceEq, Int.reduceLT, Int.reduceLE, Int.reduceNe]
    · simp only [h] at hI
      simp (disch := omega) only [wrapA1, WA, Nat.reduceEqDiff, Nat.reduceAdd, Nat.reduceLT, Nat.reduceLeDiff, Nat.reduceMul, reduceIte, reduceCtorEq, Int.reduceEq, Int.reduceLT, Int.reduceLE, Int.reduceNe]
      exact ⟨hlt, by simpa using hI⟩
  · have he : i = l.length := by omega
    subst he
    rw [dropE, idxR] at hI
    simp only [hI, WA, Nat.reduceEqDiff, Nat.reduceAdd, Nat.reduceLT, Nat.reduceLeDiff, Nat.reduceMul, reduceIte, reduceCtorEq, Int.reduceEq, Int.reduceLT, Int.reduceLE, Int.reduceNe]
def TanyF (f : FuncId) (fl : Bool) : T :=
.op (.call f [(.x 0), (.x 1)] fl) (
.op (.bin .geq (.x 2) (.c (.v (.int .i64 0)))) (
.ret [(.x 3)]))
theorem anyF_T {fl : Bool} {P : Program} {L : AX → SS → List AV → Prop} {α : Type} {a b : AV} {f : FuncId} {l : List α} {p : α → Bool} (hc : PCon P f [a, b] (.v (.int .i64 (idxR p l 0)))) :
    wpT P L (fun r => r = .v (.bool (l.any p))) (TanyF f fl) [a, b] [] := by
  simp only [TanyF, WA, Nat.reduceEqDiff, Nat.reduceAdd, Nat.reduceLT, Nat.reduceLeDiff, Nat.reduceMul, reduceIte, reduceCtorEq, Int.reduceEq, Int.reduceLT, Int.reduceLE, Int.reduceNe]
  refine call_v hc ?_
  simp only [idxR_any, WA, Nat.reduceEqDiff, Nat.reduceAdd, Nat.reduceLT, Nat.reduceLeDiff, Nat.reduceMul, reduceIte, reduceCtorEq, Int.reduceEq, Int.reduceLT, Int.reduceLE, Int.reduceNe]
end Go.Ab
/-
  LOOPS OVER LISTS AND BYTES: what is left is what the list's rest asks.
-/
namespace Go.Ab
set_option maxRecDepth 100000
theorem not_any {α : Type} (p : α → Bool) (l : List α) : (!(l.any fun y => !p y)) = l.all p := by
  induction l with
  | nil => rfl
  | cons x l ih => simp only [List.any_cons, List.all_cons, ← ih]; cases p x <;> simp
theorem any_not {α : Type} (p : α → Bool) (l : List α) : (l.any fun y => !p y) = !l.all p := by rw [← not_any, Bool.not_not]
theorem avb {a b : Bool} (h : a = true ↔ b = true) : AV.v (.bool a) = AV.v (.bool b) := by rw [Bool.eq_iff_iff.2 h]
section
variable {P : Program} {L : AX → SS → List AV → Prop} {R : AV → Prop} {t : T} {r : List AV} {S : List (List AV → Prop)}
/-- a loop over a list: G tells what is still asked, of the rest and of what is kept -/
theorem loop_list {α β : Type} {init : List AV} (l : List α) (σ : Nat → β → List AV) (G : Nat → List α → β → Prop) (b0 : β) (h0 : init = σ 0 b0) (hG : G 0 l b0)
    (hc : ∀ (i : Nat) (x : α) (rest : List α) (b : β), i < l.length → l[i]? = some x → x ∈ l → (∀ (f : α → AV) (s : Nat) (k : IntKind) (K : AV → Prop), (f x).cells.length = s → elemP s (.sl (l.map f)) (.v (.int k (i : Int))) K = goT K (f x)) →
      decide ((i : Int) < (l.length : Int)) = true → G i (x :: rest) b → wpT P L R t (r ++ σ i b) ((fun vs => i < l.length ∧ ∃ b', G (i + 1) rest b' ∧ vs = σ (i + 1) b') :: S))
    (he : ∀ b, decide ((l.length : Int) < (l.length : Int)) = false → G l.length [] b → wpT P L R t (r ++ σ l.length b) ((fun _ => False) :: S)) : loopT P L R init t r S := by
  refine loop_intro (ι := Nat × β) (fun q => q.1 ≤ l.length ∧ G q.1 (l.drop q.1) q.2) (fun q => σ q.1 q.2) (fun q => l.length - q.1) (0, b0) ⟨Nat.zero_le _, hG⟩ h0 fun q hq => ?_
  obtain ⟨i, b⟩ := q
  obtain ⟨hi, hg⟩ := hq
  rcases Nat.lt_or_ge i l.length with h | h
  · have hg : G i (l[i] :: l.drop (i + 1)) b := by rw [← dropC h]; exact hg
    refine wpT_mono (fun _ _ _ h => h) (fun _ h => h) t (.cons (fun vs hv => ?_) (.refl _)) (hc i l[i] (l.drop (i + 1)) b h (List.getElem?_eq_getElem h) (List.getElem_mem h) (fun f s k K hs => ?_) (by simp; exact h) hg)
    · obtain ⟨_, b', h1, h2⟩ := hv
      exact ⟨(i + 1, b'), ⟨h, h1⟩, by simp only; omega, h2⟩
    · unfold elemP
      have hx : (l.map f).getD (Int.toNat (i : Int)) .top = f l[i] := by simp [List.getD, h]
      simp only [hx, hs, true_and, goT]
      exact propext ⟨fun q => q.2.2, fun q => ⟨Int.natCast_nonneg i, by simp; exact h, q⟩⟩
  · have he' : i = l.length := by simp only at hi; omega
    subst he'
    have hg : G l.length [] b := by simpa using hg
    refine wpT_mono (fun _ _ _ h => h) (fun _ h => h) t (.cons (fun vs hv => hv.elim) (.refl _)) (he b (by simp) hg)
/-- the same, with what is known of each -/
theorem loop_listF {α β : Type} {init : List AV} (l : List α) (σ : Nat → β → List AV) (G : Nat → List α → β → Prop) (b0 : β) {F : α → Prop} (hF : ∀ x ∈ l, F x) (h0 : init = σ 0 b0) (hG : G 0 l b0)
    (hc : ∀ (i : Nat) (x : α) (rest : List α) (b : β), i < l.length → l[i]? = some x → x ∈ l → (∀ (f : α → AV) (s : Nat) (k : IntKind) (K : AV → Prop), (f x).cells.length = s → elemP s (.sl (l.map f)) (.v (.int k (i : Int))) K = goT K (f x)) →
      decide ((i : Int) < (l.length : Int)) = true → F x → G i (x :: rest) b → wpT P L R t (r ++ σ i b) ((fun vs => i < l.length ∧ ∃ b', G (i + 1) rest b' ∧ vs = σ (i + 1) b') :: S))
    (he : ∀ b, decide ((l.length : Int) < (l.length : Int)) = false → G l.length [] b → wpT P L R t (r ++ σ l.length b) ((fun _ => False) :: S)) : loopT P L R init t r S :=
  loop_list l σ G b0 h0 hG (fun i x rest b hi hx hm hel hd hg => hc i x rest b hi hx hm hel hd (hF x hm) hg) he
/-- a string's bytes -/
def bs (s : ByteArray) : List Int := s.data.toList.map fun b => (b.toNat : Int)
theorem bs_len (s : ByteArray) : (bs s).length = s.size := by simp [bs]
theorem bs_range {s : ByteArray} {c : Int} (h : c ∈ bs s) : 0 ≤ c ∧ c < 256 := by
  simp only [bs, List.mem_map] at h
  obtain ⟨b, _, rfl⟩ := h
  exact ⟨by omega, by have := b.toNat_lt; omega⟩
theorem idxB {s : ByteArray} {i : Nat} {k : IntKind} {K : AV → Prop} (h : i < (bs s).length) (hk : goT K (.v (.int .u8 (bs s)[i]))) : idxT (.v (.string s)) (.v (.int k (i : Int))) K := by
  rw [i_idx]
  have hl := bs_len s
  refine ⟨by omega, by omega, ?_⟩
  have : (((s.data.toList.getD (Int.toNat (i : Int)) 0).toNat : Nat) : Int) = (bs s)[i] := by
    simp only [bs, Int.toNat_natCast, List.getElem_map, List.getD]
    have h1 : i < s.data.toList.length := by simpa [bs] using h
    rw [List.getElem?_eq_getElem h1]; rfl
  rw [this]; exact hk
theorem idxX {s : ByteArray} {i : Nat} {c : Int} (h : (bs s)[i]? = some c) (k : IntKind) (K : AV → Prop) : idxT (.v (.string s)) (.v (.int k (i : Int))) K = goT K (.v (.int .u8 c)) := by
  have hl := bs_len s
  obtain ⟨h1, h2⟩ := List.getElem?_eq_some_iff.1 h
  refine propext ⟨fun q => ?_, fun q => idxB h1 (by rw [h2]; exact q)⟩
  rw [i_idx] at q
  have q := q.2.2
  have : (((s.data.toList.getD (Int.toNat (i : Int)) 0).toNat : Nat) : Int) = c := by
    rw [← h2]
    simp only [bs, Int.toNat_natCast, List.getElem_map, List.getD]
    have h1 : i < s.data.toList.length := by simpa [bs] using h1
    rw [List.getElem?_eq_getElem h1]; rfl
  rw [this] at q; exact q
theorem wrap8 {c : Int} (h : 0 ≤ c) (h' : c < 256) : IntKind.i64.wrap c = c := wrapI (by omega) (by omega)
/-- a loop over the bytes of a string -/
theorem loop_bytes {β : Type} {init : List AV} (s : ByteArray) (σ : Nat → β → List AV) (G : Nat → List Int → β → Prop) (b0 : β) (h0 : init = σ 0 b0) (hG : G 0 (bs s) b0)
    (hc : ∀ (i : Nat) (c : Int) (rest : List Int) (b : β), i < s.size → (bs s)[i]? = some c → c ∈ bs s → (∀ (k : IntKind) (K : AV → Prop), idxT (.v (.string s)) (.v (.int k (i : Int))) K = goT K (.v (.int .u8 c))) →
      decide ((i : Int) < (s.size : Int)) = true → 0 ≤ c → c < 256 → IntKind.i64.wrap c = c → G i (c :: rest) b → wpT P L R t (r ++ σ i b) ((fun vs => i < s.size ∧ ∃ b', G (i + 1) rest b' ∧ vs = σ (i + 1) b') :: S))
    (he : ∀ b, decide ((s.size : Int) < (s.size : Int)) = false → G s.size [] b → wpT P L R t (r ++ σ s.size b) ((fun _ => False) :: S)) : loopT P L R init t r S := by
  have hl := bs_len s
  refine loop_list (bs s) σ G b0 h0 hG (fun i c rest b hi hx hm _ hd hg => ?_) (fun b hd hg => ?_)
  · obtain ⟨c0, c1⟩ := bs_range hm
    rw [hl] at hi hd
    rw [hl]
    exact hc i c rest b hi hx hm (idxX hx) hd c0 c1 (wrap8 c0 c1) hg
  · rw [hl] at hd hg ⊢
    exact he b hd hg
end
/- functions whose code the walk does not cover, by contracts in the model's own words -/
theorem enters_of {P : Program} {f : FuncId} (h : (match P.funcs[f]? with | some fn => fn.body.isSome && !(fn.name == "runtime.NumGoroutine") | none => false) = true) : Enters P f := by
  cases hf : P.funcs[f]? with
  | none => rw [hf] at h; cases h
  | some fn =>
    rw [hf] at h
    simp only [Bool.and_eq_true] at h
    exact ⟨fn, hf, h.1, by simpa using h.2⟩
theorem R.v_inv {I : Imm} {L : Nat → Loc} {O : List AObj} {a x : Value} (h : R I L O (.v a) x) : x = a := by cases h; rfl
theorem PCon.of_same {P : Program} {f : FuncId} {xs : List Value} {y : Value} (he : Enters P f) (hy : y.oneCell' = true) (h : ∀ w, Calls P f xs.toArray w fun e w' => e = .returned y ∧ w' = w) : PCon P f (xs.map .v) (.v y) := by
  refine ⟨he, fun I L w vs hi hr => ?_⟩
  have hv : vs = xs.toArray := by
    obtain ⟨hl, hr⟩ := hr
    apply Array.ext
    · simpa using hl.symm
    · intro i h1 h2
      have h3 : i < xs.length := by simpa using h2
      simpa using (hr i (.v xs[i]) vs[i] (by simp [h3]) (by simp [h1])).v_inv
  rw [hv]
  refine (h w).mono ?_
  rintro e w' ⟨rfl, rfl⟩
  exact ⟨y, I, L, rfl, .v y hy, Good.refl hi⟩
end Go.Ab
/-
  AN ELEMENT AT A PLACE THAT IS KNOWN.
-/
namespace Go.Ab
set_option maxRecDepth 100000
end Go.Ab
/-
  DOORS: the library's functions that read a table or build texts, by the contracts of the shelf; texts laid side by side.
-/
namespace Go.Ab
set_option maxRecDepth 100000
theorem PCon.of_below {P : Program} {f : FuncId} {args : List AV} {y : Value} (he : Enters P f) (hy : y.oneCell' = true)
    (h : ∀ I L w vs, Inv I L [] w → RL I L [] args vs → Calls P f vs w fun e w' => e = .returned y ∧ RowKit.Below w.heap.size w w') : PCon P f args (.v y) := by
  refine ⟨he, fun I L w vs hi hr => (h I L w vs hi hr).mono ?_⟩
  rintro e w' ⟨h1, hb⟩
  refine ⟨y, I, L, h1, .v y hy, ⟨⟨fun b o x hx => ?_, by simp, by simp, by simp, hi.fix, hi.blk_frm (fun b hb' _ => hb.block b hb') (fun _ _ _ h => h), .no (by simp), .no (by simp)⟩, .refl _ _ _, ⟨hb.os, hb.tape, hb.output, hb.size, fun b hb' _ => hb.block b hb'⟩, fun _ h => .inl h, fun _ _ _ h => .inl h⟩⟩
  have := hi.imm b o x hx
  rw [← this]
  exact World.cell?_of_block (a := ⟨b, o, none⟩) (hb.block b (cell_block this))
/-- the table of the powers of ten lies where it lay -/
theorem Inv.tab {P : Program} {I : Imm} {L : Nat → Loc} {O : List AObj} {w : World} (hi : Inv I L O w) (hg : P.globalNamed "internal/strconv.uint64pow10" = some tabNo) : Lib.TabIs P w "internal/strconv.uint64pow10" .u64 Lib.pow10Tab := by
  obtain ⟨h1, _⟩ := hi.blk (tabNo, 20) (List.mem_of_getElem? (i := 0) rfl)
  unfold blkSize at h1
  split at h1
  case h_2 => cases h1
  rename_i c e f hc
  simp only [Option.some.injEq] at h1
  have hz : ∀ k v, fixedCells[k]? = some (tabNo, k, v) → c[k]? = some v := fun k v hk => by
    have := hi.imm tabNo k v (hi.fix _ (List.mem_of_getElem? hk))
    rw [cell_cells hc] at this
    exact this
  unfold Lib.TabIs World.var?
  rw [hg]
  simp only [Option.bind_some, hc, Option.some.injEq]
  apply Array.ext
  · simp [h1, Lib.pow10Tab]
  · intro k hk1 hk2
    have hk : k < 20 := by omega
    have : c[k]? = some ((Lib.pow10Tab.map fun z => Value.int .u64 z).toArray[k]) := by
      clear hk1
      match k, hk, hk2 with
      | 0, _, _ => exact hz 0 _ rfl
      | 1, _, _ => exact hz 1 _ rfl
      | 2, _, _ => exact hz 2 _ rfl
      | 3, _, _ => exact hz 3 _ rfl
      | 4, _, _ => exact hz 4 _ rfl
      | 5, _, _ => exact hz 5 _ rfl
      | 6, _, _ => exact hz 6 _ rfl
      | 7, _, _ => exact hz 7 _ rfl
      | 8, _, _ => exact hz 8 _ rfl
      | 9, _, _ => exact hz 9 _ rfl
      | 10, _, _ => exact hz 10 _ rfl
      | 11, _, _ => exact hz 11 _ rfl
      | 12, _, _ => exact hz 12 _ rfl
      | 13, _, _ => exact hz 13 _ rfl
      | 14, _, _ => exact hz 14 _ rfl
      | 15, _, _ => exact hz 15 _ rfl
      | 16, _, _ => exact hz 16 _ rfl
      | 17, _, _ => exact hz 17 _ rfl
      | 18, _, _ => exact hz 18 _ rfl
      | 19, _, _ => exact hz 19 _ rfl
      | k + 20, hk, _ => exact absurd hk (by omega)
    rw [Array.getElem?_eq_getElem hk1] at this
    exact Option.some.inj this
/-- a decimal numeral -/
def numB (n : Int) : ByteArray := ⟨(Lib.itoa n).toArray⟩
theorem bytes_ext {a b : ByteArray} (h : a.data.toList = b.data.toList) : a = b := by
  cases a with | mk a => cases b with | mk b =>
  cases a with | mk a => cases b with | mk b =>
  simp only at h
  rw [h]
theorem app_list (a b : ByteArray) : (a ++ b).data.toList = a.data.toList ++ b.data.toList := by simp
theorem appE (a : ByteArray) : a ++ (⟨#[]⟩ : ByteArray) = a := bytes_ext (by rw [app_list]; simp)
theorem appA (a b c : ByteArray) : a ++ b ++ c = a ++ (b ++ c) := bytes_ext (by simp only [app_list, List.append_assoc])
theorem app_size (a b : ByteArray) : (a ++ b).size = a.size + b.size := by simp
theorem rl_1 {I : Imm} {L : Nat → Loc} {a : AV} {vs : Array Value} (h : RL I L [] [a] vs) : ∃ x, vs = #[x] ∧ R I L [] a x := by
  obtain ⟨h1, h2⟩ := h
  match vs, h1 with
  | ⟨[x]⟩, _ => exact ⟨x, rfl, h2 0 a x rfl rfl⟩
end Go.Ab
/-
  BYTES, AND THE ARITHMETIC OF NUMBERS AS FEW BYTES.
-/
namespace Go.Ab
set_option maxRecDepth 100000
/-- what the laws' mark writes -/
def marks (b : Nat) (n : Nat) : List Int := (List.range n).map fun i => IntKind.u8.wrap ((b + i : Nat) : Int)
/- numbers back of their bytes -/
def val : List Int → Nat
  | [] => 0
  | c :: r => (c % 128).toNat + 128 * val r
def unz (x : Nat) : Int := if x % 2 = 1 then -((x / 2 : Nat) : Int) - 1 else ((x / 2 : Nat) : Int)
/-- what both get: k bytes were read, they are worth acc -/
def gs (at' : Int) : Nat → Nat → List Int → Int × Int × Bool
  | _, _, [] => (0, 0, false)
  | k, acc, c :: r => if 10 ≤ k then (0, 0, false) else if 127 < c then gs at' (k + 1) (acc + (c % 128).toNat * 128 ^ k) r
    else if (0 < k ∧ c = 0) ∨ (k = 9 ∧ 1 < c) then (0, 0, false) else (unz (acc + (c % 128).toNat * 128 ^ k), at' + k + 1, true)
end Go.Ab
/-
  NIL SLICES ARE EMPTY ONES, at any depth: what a contract says of the one it says of the other.
-/
namespace Go.Ab
set_option maxRecDepth 100000
end Go.Ab
/-
  TREES OF ONE's OWN IN THE LAWS' HELPERS: rows of elements whose slices have names; toXS; what a walk needs for marks.
-/
namespace Go.Ab
set_option maxRecDepth 100000
/- LISTS -/
/- SPLITS -/
/-- its slices alone -/
def slc : List AV → List AV
  | [] => []
  | .v _ :: r => slc r
  | a :: r => a :: slc r
/- ENDS -/
theorem resK_mono {e : Env} {O : List AObj} : ∀ (rs : List ARes) (acc : List AV) (M M' : List AV → Prop), (∀ xs, M xs → M' xs) → resK e O rs acc M → resK e O rs acc M' := by
  intro rs
  induction rs with
  | nil => intro acc M M' hm h; exact hm _ h
  | cons r rs ih =>
    intro acc M M' hm h
    cases r with
    | tmp t => exact ih _ _ _ hm h
    | cell t n =>
      simp only [resK, ARes.get] at h ⊢
      split at h
      · split at h
        · exact ⟨h.1, ih _ _ _ hm h.2⟩
        · exact h.elim
      · exact h.elim
/-- of what was made some is kept, from number b on -/
theorem ret_from {rs : List ARes} {res rv : AV} {x : AX} (hx : x = .ret ∨ x = .normal) {e : Env} {O : List AObj} (b : Nat) (h : resK e O rs [] fun xs => packR xs = rv) (hr : rv = res.ren fun n => b + n) {O' : List AObj} (hO : O.drop b = O') (ho : ∀ ob ∈ O', ∃ d, ob = .own d)
    (hsc : res.inScope O'.length = true) : retK 0 rs res O' x e O := by
  subst hr
  have : resK e O rs [] fun xs => ∃ e', WK 0 (fun t => if t = 0 then packR xs else .top) O e' O' ∧ e' 0 = res := by
    refine resK_mono rs _ _ _ (fun xs hp => ?_) h
    refine ⟨fun t => if t = 0 then res else .top, .select (fun n => b + n) (fun i hi => ?_) (fun i j _ _ he => by omega) (fun ob hb => ?_) (fun t => ?_), rfl⟩
    · subst hO
      rw [List.getElem?_drop]
      cases hq : O[b + i]? with
      | none => rfl
      | some ob =>
        obtain ⟨d, rfl⟩ := ho ob (List.mem_of_getElem? (by rw [List.getElem?_drop]; exact hq))
        rfl
    · obtain ⟨d, rfl⟩ := ho ob hb; rfl
    · by_cases ht : t = 0
      · subst ht; exact .inr ⟨by simp [hp], by simpa using hsc⟩
      · exact .inl (by simp [ht])
  rcases hx with rfl | rfl <;> exact this
/- CALLS -/
/- toXS -/
/- MAPS, ITERATORS, POINTERS -/
theorem o_mkmap (P : Program) (e : Env) (O : List AObj) (K : KT) : wpOp P .mkmap e O K = k1 (.own O.length) (O ++ [.gho (.mp [])]) K := nr rfl
def mgetK (ok : Bool) (d : KD) (z m k : AV) (O : List AObj) (K : KT) : Prop := match m, k with
    | .own n, .v kv => match O[n]? with
      | some (.gho (.mp es)) => d.ok kv = true ∧ d.all es = true ∧ K (match mfind kv es 0 with
        | none => if ok then .tup [z, .v (.bool false)] else z
        | some (_, v) => if ok then .tup [v, .v (.bool true)] else v) O
      | _ => False
    | _, _ => False
theorem o_mget (P : Program) (ok : Bool) (d : KD) (z : AV) (m k : Opd) (e : Env) (O : List AObj) (K : KT) : wpOp P (.mget ok d z m k) e O K = mgetK ok d z (m.ev e) (k.ev e) O K := nr rfl
theorem mget_yes {ok : Bool} {d : KD} {z v : AV} {n i : Nat} {kv : Value} {O : List AObj} {K : KT} {es : List (AV × AV)} (hO : O[n]? = some (.gho (.mp es))) (hk : d.ok kv = true) (ha : d.all es = true) (hf : mfind kv es 0 = some (i, v)) (h : k1 (if ok then .tup [v, .v (.bool true)] else v) O K) : mgetK ok d z (.own n) (.v kv) O K := by
  simp only [mgetK, hO]; exact ⟨hk, ha, by rw [hf]; exact h⟩
def msetK (d : KD) (m k v : AV) (O : List AObj) (K : KT) : Prop := match m, k with
    | .own n, .v kv => match O[n]? with
      | some (.gho (.mp es)) => d.ok kv = true ∧ d.all es = true ∧ K (.tup []) (O.set n (.gho (.mp (mset kv v es))))
      | _ => False
    | _, _ => False
theorem o_mset (P : Program) (d : KD) (m k v : Opd) (e : Env) (O : List AObj) (K : KT) : wpOp P (.mset d m k v) e O K = msetK d (m.ev e) (k.ev e) (v.ev e) O K := nr rfl
theorem mset_intro {d : KD} {v : AV} {n : Nat} {kv : Value} {O : List AObj} {K : KT} {es : List (AV × AV)} (hO : O[n]? = some (.gho (.mp es))) (hk : d.ok kv = true) (ha : d.all es = true) (h : k1 (.tup []) (O.set n (.gho (.mp (mset kv v es)))) K) : msetK d (.own n) (.v kv) v O K := by
  simp only [msetK, hO]; exact ⟨hk, ha, h⟩
def pgetK (ok : Bool) (z m k : AV) (O : List AObj) (K : KT) : Prop := match m, k with
    | .own n, .ptr j 1 0 0 => match O[n]? with
      | some (.gho (.mp es)) => keyBox O j = true ∧ keyPtrs O es = true ∧ K (match pfind j es 0 with
        | none => if ok then .tup [z, .v (.bool false)] else z
        | some (_, v) => if ok then .tup [v, .v (.bool true)] else v) O
      | _ => False
    | _, _ => False
theorem o_pget (P : Program) (ok : Bool) (z : AV) (m k : Opd) (e : Env) (O : List AObj) (K : KT) : wpOp P (.pget ok z m k) e O K = pgetK ok z (m.ev e) (k.ev e) O K := nr rfl
def psetK (m k v : AV) (O : List AObj) (K : KT) : Prop := match m, k with
    | .own n, .ptr j 1 0 0 => match O[n]? with
      | some (.gho (.mp es)) => keyBox O j = true ∧ keyPtrs O es = true ∧ K (.tup []) (O.set n (.gho (.mp (pset j v es))))
      | _ => False
    | _, _ => False
theorem o_pset (P : Program) (m k v : Opd) (e : Env) (O : List AObj) (K : KT) : wpOp P (.pset m k v) e O K = psetK (m.ev e) (k.ev e) (v.ev e) O K := nr rfl
def stritK (a : AV) (O : List AObj) (K : KT) : Prop := match a with
    | .v (.string s) => K (.own O.length) (O ++ [.gho (.it s 0)])
    | _ => False
theorem o_strit (P : Program) (x : Opd) (e : Env) (O : List AObj) (K : KT) : wpOp P (.strit x) e O K = stritK (x.ev e) O K := nr rfl
theorem stritK_eq (s : ByteArray) (O : List AObj) (K : KT) : stritK (.v (.string s)) O K = k1 (.own O.length) (O ++ [.gho (.it s 0)]) K := nr rfl
def snextK (a : AV) (O : List AObj) (K : KT) : Prop := match a with
    | .own n => match O[n]? with
      | some (.gho (.it s pos)) => (pos < s.size → K (.tup [.v (.bool true), .v (.int .i64 pos), .v (.int .i32 (Utf8.decode s pos).1)]) (O.set n (.gho (.it s (pos + (Utf8.decode s pos).2))))) ∧ (¬ pos < s.size → K (.tup [.v (.bool false)]) O)
      | _ => False
    | _ => False
theorem o_snext (P : Program) (x : Opd) (e : Env) (O : List AObj) (K : KT) : wpOp P (.snext x) e O K = snextK (x.ev e) O K := nr rfl
theorem snext_more {n : Nat} {O : List AObj} {K : KT} {s : ByteArray} {pos : Nat} (hO : O[n]? = some (.gho (.it s pos))) (hp : pos < s.size) {c l : Nat} (hd : Utf8.decode s pos = (c, l)) (h : k1 (.tup [.v (.bool true), .v (.int .i64 pos), .v (.int .i32 c)]) (O.set n (.gho (.it s (pos + l)))) K) : snextK (.own n) O K := by
  simp only [snextK, hO]; exact ⟨fun _ => by rw [hd]; exact h, fun q => (q hp).elim⟩
theorem snext_end {n : Nat} {O : List AObj} {K : KT} {s : ByteArray} {pos : Nat} (hO : O[n]? = some (.gho (.it s pos))) (hp : ¬ pos < s.size) (h : k1 (.tup [.v (.bool false)]) O K) : snextK (.own n) O K := by
  simp only [snextK, hO]; exact ⟨fun q => (hp q).elim, fun _ => h⟩
def s2bK (t : Nat) (a : AV) (O : List AObj) (K : KT) : Prop := match a with
    | .v (.string s) => s.size ≤ maxLen ∧ K (.row O.length s.size) (O ++ [.live t 1 (s.data.toList.map fun c => .v (.int .u8 c.toNat))])
    | _ => False
theorem o_s2b (P : Program) (t : Nat) (x : Opd) (e : Env) (O : List AObj) (K : KT) : wpOp P (.s2b t x) e O K = s2bK t (x.ev e) O K := nr rfl
theorem s2bK_eq (t : Nat) (s : ByteArray) (O : List AObj) (K : KT) : s2bK t (.v (.string s)) O K = (s.size ≤ maxLen ∧ k1 (.row O.length s.size) (O ++ [.live t 1 (s.data.toList.map fun c => .v (.int .u8 c.toNat))]) K) := nr rfl
def pnilK (neg : Bool) (a : AV) (O : List AObj) (K : KT) : Prop := match a with
    | .v (.pointer none) => K (.v (.bool (neg != true))) O
    | .ptr n len _ _ => objK O[n]? fun _ _ xs => xs.length = len ∧ K (.v (.bool (neg != false))) O
    | _ => False
theorem o_pnil (P : Program) (neg : Bool) (x : Opd) (e : Env) (O : List AObj) (K : KT) : wpOp P (.pnil neg x) e O K = pnilK neg (x.ev e) O K := by
  simp only [wpOp, pnilK]
  cases x.ev e <;> first | rfl | (rename_i k l i f; cases O[k]? with | none => rfl | some o => cases o <;> rfl)
theorem pnilK_nilE (O : List AObj) (K : KT) : pnilK false (.v (.pointer none)) O K = k1 (.v (.bool true)) O K := nr rfl
theorem pnilK_nilN (O : List AObj) (K : KT) : pnilK true (.v (.pointer none)) O K = k1 (.v (.bool false)) O K := nr rfl
theorem pnilK_ptrE (n len i f : Nat) (O : List AObj) (K : KT) : pnilK false (.ptr n len i f) O K = objK O[n]? fun _ _ xs => xs.length = len ∧ k1 (.v (.bool false)) O K := nr rfl
theorem pnilK_ptrN (n len i f : Nat) (O : List AObj) (K : KT) : pnilK true (.ptr n len i f) O K = objK O[n]? fun _ _ xs => xs.length = len ∧ k1 (.v (.bool true)) O K := nr rfl
def peqK (neg : Bool) (a b : AV) (O : List AObj) (K : KT) : Prop := match a, b with
    | .ptr n 1 0 0, .ptr m 1 0 0 => keyBox O n = true ∧ keyBox O m = true ∧ K (.v (.bool (neg != decide (n = m)))) O
    | _, _ => False
theorem o_peq (P : Program) (neg : Bool) (x y : Opd) (e : Env) (O : List AObj) (K : KT) : wpOp P (.peq neg x y) e O K = peqK neg (x.ev e) (y.ev e) O K := nr rfl
theorem peqK_E (n m : Nat) (O : List AObj) (K : KT) : peqK false (.ptr n 1 0 0) (.ptr m 1 0 0) O K = (keyBox O n = true ∧ keyBox O m = true ∧ k1 (.v (.bool (decide (n = m)))) O K) := by
  simp only [peqK, Bool.false_bne, k1_eq]
theorem peqK_N (n m : Nat) (O : List AObj) (K : KT) : peqK true (.ptr n 1 0 0) (.ptr m 1 0 0) O K = (keyBox O n = true ∧ keyBox O m = true ∧ k1 (.v (.bool (!decide (n = m)))) O K) := by
  simp only [peqK, Bool.true_bne, k1_eq]
/-- a string's bytes are appended -/
def appSK (y x : AV) (t s b : Nat) (O : List AObj) (K : KT) : Prop := match y with
    | .v (.string c) => s = 1 ∧ ontoK O x t s b (c.data.toList.map fun c => .v (.int .u8 c.toNat)) K
    | _ => False
theorem o_appS (P : Program) (t s b : Nat) (x y : Opd) (e : Env) (O : List AObj) (K : KT) : wpOp P (.appS t s b x y) e O K = appSK (y.ev e) (x.ev e) t s b O K := by
  have h : ∀ ys, appK O (x.ev e) t s b ys K = ontoK O (x.ev e) t s b ys K := by
    intro ys; unfold appK ontoK; cases x.ev e <;> first | rfl | (rename_i k l; cases O[k]? with | none => rfl | some o => cases o <;> rfl)
  simp only [wpOp, h]
  rfl
theorem appSK_eq (c : ByteArray) (x : AV) (t s b : Nat) (O : List AObj) (K : KT) : appSK (.v (.string c)) x t s b O K = (s = 1 ∧ ontoK O x t s b (c.data.toList.map fun c => .v (.int .u8 c.toNat)) K) := nr rfl
def mkFK (bytes : Nat) (z a b : AV) (O : List AObj) (K : KT) : Prop := match a, b with
    | .v (.int .i64 n), .v (.int .i64 c) => 0 ≤ n ∧ n ≤ c ∧ bytes * c ≤ 2 ^ 48 ∧ c ≤ maxLen ∧ z.noref = true ∧ K (.sl (List.replicate n.toNat z)) O
    | _, _ => False
theorem o_mkF (P : Program) (t s b : Nat) (z : AV) (x y : Opd) (e : Env) (O : List AObj) (K : KT) : wpOp P (.mkF t s b z x y) e O K = mkFK b z (x.ev e) (y.ev e) O K := nr rfl
theorem mkFK_eq (bytes : Nat) (z : AV) (n c : Int) (O : List AObj) (K : KT) : mkFK bytes z (.v (.int .i64 n)) (.v (.int .i64 c)) O K = (0 ≤ n ∧ n ≤ c ∧ bytes * c ≤ 281474976710656 ∧ c ≤ 9223372036854775807 ∧ z.noref = true ∧ k1 (.sl (List.replicate n.toNat z)) O K) := by
  have h1 : (2 : Int) ^ 48 = 281474976710656 := by decide
  have h2 : ((maxLen : Nat) : Int) = 9223372036854775807 := by decide
  simp only [mkFK, h1, h2, k1]
def mkAtK (k t s bytes : Nat) (z a b : AV) (O : List AObj) (K : KT) : Prop := match a, b with
    | .v (.int .i64 n), .v (.int .i64 c) => 0 < n ∧ n ≤ c ∧ bytes * c ≤ 2 ^ 48 ∧ c ≤ maxLen ∧ z.noref = true ∧ O[k]? = some (.nil t s) ∧ K (.row k n.toNat) (O.set k (.live t s (List.replicate n.toNat z)))
    | _, _ => False
theorem o_mkAt (P : Program) (k t s b : Nat) (z : AV) (x y : Opd) (e : Env) (O : List AObj) (K : KT) : wpOp P (.mkAt k t s b z x y) e O K = mkAtK k t s b z (x.ev e) (y.ev e) O K := nr rfl
theorem mkAtK_eq (k t s bytes : Nat) (z : AV) (n c : Int) (O : List AObj) (K : KT) : mkAtK k t s bytes z (.v (.int .i64 n)) (.v (.int .i64 c)) O K = (0 < n ∧ n ≤ c ∧ bytes * c ≤ 281474976710656 ∧ c ≤ 9223372036854775807 ∧ z.noref = true ∧ O[k]? = some (.nil t s) ∧ k1 (.row k n.toNat) (O.set k (.live t s (List.replicate n.toNat z))) K) := by
  have h1 : (2 : Int) ^ 48 = 281474976710656 := by decide
  have h2 : ((maxLen : Nat) : Int) = 9223372036854775807 := by decide
  simp only [mkAtK, h1, h2, k1]
def markSK (t : Nat) (a : AV) (O : List AObj) (K : KT) : Prop := match a with
    | .row n len => objK O[n]? fun t' s xs => t' = t ∧ s = 1 ∧ xs.length = len ∧ K (.row n len) O
    | _ => False
theorem o_markS (P : Program) (t : Nat) (x : Opd) (e : Env) (O : List AObj) (K : KT) : wpOp P (.markS t x) e O K = markSK t (x.ev e) O K := by
  simp only [wpOp, markSK]
  cases x.ev e <;> first | rfl | (rename_i k l; cases O[k]? with | none => rfl | some o => cases o <;> rfl)
theorem markSK_row (t n len : Nat) (O : List AObj) (K : KT) : markSK t (.row n len) O K = objK O[n]? fun t' s xs => t' = t ∧ s = 1 ∧ xs.length = len ∧ k1 (.row n len) O K := nr rfl
/- DRAWN REGIONS -/
def drawK (P : Program) (n0 : Nat) (rows : List (List Nat)) (ops : List AOper) (Q : AX → Env → List AObj → Prop) (e : Env) (O : List AObj) : Prop := wpC P n0 (.region (some rows) ops) Q e O
theorem c_draw (P : Program) (n0 : Nat) (rows : List (List Nat)) (ops : List AOper) (Q : AX → Env → List AObj → Prop) (e : Env) (O : List AObj) : wpC P n0 (.region (some rows) ops) Q e O = drawK P n0 rows ops Q e O := nr rfl
theorem drawK_intro {P : Program} {n0 : Nat} {rows : List (List Nat)} {ops : List AOper} {Q : AX → Env → List AObj → Prop} {e : Env} {O : List AObj} (h : wpOpsL P ops [] e O fun labs e O => drawOkL rows (ops.zip labs) = true ∧ Q .normal e O) : drawK P n0 rows ops Q e O := ⟨ops, rfl, h⟩
def kontL (P : Program) (d : Option Nat) (e : Env) (r : List AOper) (acc : List Lab) (Q : List Lab → Env → List AObj → Prop) : KT := fun x O' => wpOpsL P r acc (setD e d x) O' Q
theorem k1_kontL (P : Program) (d : Option Nat) (e : Env) (r : List AOper) (acc : List Lab) (Q : List Lab → Env → List AObj → Prop) (a : AV) (O : List AObj) : k1 a O (kontL P d e r acc Q) = wpOpsL P r acc (setD e d a) O Q := nr rfl
theorem wpOpsL_kont (P : Program) (d : Option Nat) (op : AOp) (e : Env) (O : List AObj) (r : List AOper) (acc : List Lab) (Q : List Lab → Env → List AObj → Prop) :
    wpOpsL P (⟨none, d, op⟩ :: r) acc e O Q = wpOp P op e O (kontL P d e r (acc ++ [labOf op e O.length]) Q) := nr rfl
theorem wpOpsL_nil (P : Program) (e : Env) (O : List AObj) (acc : List Lab) (Q : List Lab → Env → List AObj → Prop) : wpOpsL P [] acc e O Q = Q acc e O := nr rfl
def beqK (neg : Bool) (a b : AV) (O : List AObj) (K : KT) : Prop := match a, b with
  | .v (.bool a), .v (.bool b) => K (.v (.bool (neg != (a == b)))) O
  | _, _ => False
theorem beqK_eq (neg a b : Bool) (O : List AObj) (K : KT) : beqK neg (.v (.bool a)) (.v (.bool b)) O K = k1 (.v (.bool (neg != (a == b)))) O K := nr rfl
theorem o_beq (P : Program) (neg : Bool) (x y : Opd) (e : Env) (O : List AObj) (K : KT) : wpOp P (.beq neg x y) e O K = beqK neg (x.ev e) (y.ev e) O K := nr rfl
theorem PCon.any {P : Program} {f : FuncId} {args : List AV} {res : AV} (h : PCon P f args res) (hn : AV.norefs args = true) (hr : res.noref = true) (O : List AObj) : Con P f args O res O := by
  have := Con.fresh h hn O
  rwa [noref_ren res hr, List.map_nil, List.append_nil] at this
theorem cells_own (n : Nat) : (AV.own n).cells = [.own n] := nr rfl
theorem isCell_own (n : Nat) : (AV.own n).isCell = true := nr rfl
theorem storable_own (n : Nat) : (AV.own n).storable = true := nr rfl
theorem upd_own {a b : AV} {cs : List AV} {i : Nat} (n : Nat) (h : i < (a :: b :: cs).length) : upd (.agg (a :: b :: cs)) i (.own n) = .agg ((a :: b :: cs).set i (.own n)) := upd_one rfl h
theorem ren_own (s : Nat → Nat) (n : Nat) : (AV.own n).ren s = .own (s n) := nr rfl
theorem ren_v (s : Nat → Nat) (x : Value) : (AV.v x).ren s = .v x := nr rfl
theorem ren_agg (s : Nat → Nat) (cs : List AV) : (AV.agg cs).ren s = .agg (cs.map (AV.ren s)) := by simp only [AV.ren, rens_eq]
theorem oren_own (s : Nat → Nat) (a : AV) : (AObj.own a).ren s = .own a := nr rfl
theorem oren_dead (s : Nat → Nat) : AObj.dead.ren s = .dead := nr rfl
/- CALLS THAT ARE LENT WHAT IS OWNED -/
theorem Frz.ob {O : List AObj} {n : Nat} {nl : Bool} {e s : Nat} {xs : List AV} (h : O[n]? = some (rowOb nl e s xs)) (hn : AV.norefs xs = true) : Frz O (.row n xs.length) (.sl xs) := by
  unfold rowOb at h
  split at h
  · rename_i hh
    have : xs = [] := by cases xs with
      | nil => rfl
      | cons a l => simp at hh
    subst this
    exact .nil n _ _ h
  · exact .row n _ _ _ _ h rfl hn
/- MORE RULES -/
def puKK (o : PU) (xs : List AV) (O : List AObj) (K : KT) : Prop := AV.norefs xs = true ∧ puK o xs fun v => K v O
theorem o_pu (P : Program) (o : PU) (as : List Opd) (e : Env) (O : List AObj) (K : KT) : wpOp P (.pu o as) e O K = puKK o (as.map fun x => frz O (x.ev e)) O K := nr rfl
theorem puKK_max (k : IntKind) (a b : Int) (O : List AObj) (K : KT) : puKK .max [.v (.int k a), .v (.int k b)] O K = k1 (.v (.int k (max a b))) O K := by
  have : (if a < b then b else a) = max a b := by rw [Int.max_def]; split <;> split <;> omega
  simp [puKK, puK, puF, AV.norefs, AV.noref, k1, this]
/-- a call on the last objects, which name nothing -/
theorem Con.back {P : Program} {f : FuncId} {args : List AV} {O1 O1' : List AObj} {res : AV} (h : Con P f args O1 res O1') (hl : O1'.length = O1.length) (ha : AV.scopeds O1.length args = true) (hr : res.noref = true)
    (ho : O1.all AObj.norefs = true) (ho' : O1'.all AObj.norefs = true) (A : List AObj) : Con P f (args.map (AV.ren fun n => A.length + n)) (A ++ O1) res (A ++ O1') := by
  have gO : ∀ {X : List AObj}, X.all AObj.norefs = true → ∀ i, (A ++ X)[A.length + i]? = (X[i]?).map (AObj.ren fun n => A.length + n) := by
    intro X hx i
    rw [List.getElem?_append_right (by omega), Nat.add_sub_cancel_left]
    cases hq : X[i]? with
    | none => rfl
    | some ob => simp only [Option.map_some]; rw [obj_norefs_ren (List.all_eq_true.1 hx ob (List.mem_of_getElem? hq))]
  have := h.frame (O := A ++ O1) (O'' := A ++ O1') (fun n => A.length + n) (fun i hi => by simp; omega) (fun i _ => gO ho i) (fun i j _ _ he => by omega)
    (fun i hi => by simp; omega) (fun a h' => scopeds_mem ha a h') (fun ob hb => obj_norefs_scoped (List.all_eq_true.1 ho ob hb)) (by simp [hl]) (fun i _ => gO ho' i) (fun n hn hno => ?_)
  · rwa [noref_ren res hr] at this
  · have hlt : n < A.length := by
      rcases Nat.lt_or_ge n A.length with h' | h'
      · exact h'
      · have : n < A.length + O1.length := by simpa using hn
        exact (hno (n - A.length) (by omega) (by omega)).elim
    rw [List.getElem?_append_left hlt, List.getElem?_append_left hlt]
/- MARKS THAT ARE KEPT -/
def fcallK (P : Program) (f : FuncId) (args : List AV) (O : List AObj) (K : KT) : Prop := ∃ res ob, AV.norefs args = true ∧ Con P f args [] res [ob] ∧ K (res.ren fun n => O.length + n) (O ++ [ob.ren fun n => O.length + n])
theorem o_fcall (P : Program) (nl : Bool) (t s : Nat) (f : FuncId) (as : List Opd) (e : Env) (O : List AObj) (K : KT) : wpOp P (.fcall nl t s f as) e O K = fcallK P f (as.map (Opd.ev e)) O K := nr rfl
def lcallK (P : Program) (rd : List Nat) (f : FuncId) (args : List AV) (O : List AObj) (K : KT) : Prop := ∃ res ob, (∀ O' : List AObj, O'.length = O.length → (∀ n ∈ rd, O'[n]? = O[n]?) → Con P f args O' res (O' ++ [ob])) ∧ K res (O ++ [ob])
def kcallK (P : Program) (rd : List Nat) (f : FuncId) (args : List AV) (O : List AObj) (K : KT) : Prop := ∃ res, (∀ O' : List AObj, (∀ n ∈ rd, O'[n]? = O[n]?) → Con P f args O' res O') ∧ K res O
theorem o_lcall (P : Program) (rd : List Nat) (f : FuncId) (as : List Opd) (e : Env) (O : List AObj) (K : KT) : wpOp P (.lcall rd f as) e O K = lcallK P rd f (as.map (Opd.ev e)) O K := nr rfl
theorem o_kcall (P : Program) (rd : List Nat) (f : FuncId) (as : List Opd) (e : Env) (O : List AObj) (K : KT) : wpOp P (.kcall rd f as) e O K = kcallK P rd f (as.map (Opd.ev e)) O K := nr rfl
def gopLK (P : Program) (a : AV) (want : Bool) (t : Nat) (d : Option Nat) (op : AOp) (r : List AOper) (acc : List Lab) (e : Env) (O : List AObj) (Q : List Lab → Env → List AObj → Prop) : Prop := match a with
  | .v (.bool b) =>
    (b = want → wpOp P op (e.set t (.v (.bool want))) O (kontL P d (e.set t (.v (.bool want))) r (acc ++ [labOf op (e.set t (.v (.bool want))) O.length]) Q)) ∧
    (b = !want → wpOpsL P r (acc ++ [⟨[], .nop⟩]) (setD (e.set t (.v (.bool (!want)))) d (.tup [])) O Q)
  | .tup [] => wpOpsL P r (acc ++ [⟨[], .nop⟩]) (setD e d (.tup [])) O Q
  | _ => False
section
variable (P : Program) (t : Nat) (d : Option Nat) (op : AOp) (r : List AOper) (acc : List Lab) (e : Env) (O : List AObj) (Q : List Lab → Env → List AObj → Prop)
theorem l_guard (want : Bool) : wpOpsL P (⟨some (t, want), d, op⟩ :: r) acc e O Q = gopLK P (e t) want t d op r acc e O Q := by
  simp only [wpOpsL]; unfold gopLK kontL; cases e t <;> try rfl
theorem gopLK_tt : gopLK P (.v (.bool true)) true t d op r acc e O Q = wpOp P op (e.set t (.v (.bool true))) O (kontL P d (e.set t (.v (.bool true))) r (acc ++ [labOf op (e.set t (.v (.bool true))) O.length]) Q) := by simp [gopLK]
theorem gopLK_ff : gopLK P (.v (.bool false)) false t d op r acc e O Q = wpOp P op (e.set t (.v (.bool false))) O (kontL P d (e.set t (.v (.bool false))) r (acc ++ [labOf op (e.set t (.v (.bool false))) O.length]) Q) := by simp [gopLK]
theorem gopLK_tf : gopLK P (.v (.bool true)) false t d op r acc e O Q = wpOpsL P r (acc ++ [⟨[], .nop⟩]) (setD (e.set t (.v (.bool true))) d (.tup [])) O Q := by simp [gopLK]
theorem gopLK_ft : gopLK P (.v (.bool false)) true t d op r acc e O Q = wpOpsL P r (acc ++ [⟨[], .nop⟩]) (setD (e.set t (.v (.bool false))) d (.tup [])) O Q := by simp [gopLK]
theorem gopLK_skip (want : Bool) : gopLK P (.tup []) want t d op r acc e O Q = wpOpsL P r (acc ++ [⟨[], .nop⟩]) (setD e d (.tup [])) O Q := by simp [gopLK]
end
/-- the rules of such walks, in few names -/
def OD0 := And.intro @c_draw (And.intro @wpOpsL_kont (And.intro @wpOpsL_nil (And.intro @o_beq (And.intro @o_pu (And.intro @l_guard (And.intro @o_fcall (And.intro @o_lcall (And.intro @o_kcall (And.intro @wpC_skip (And.intro @wpC_region (And.intro @c_seq (And.intro @c_cond (And.intro @c_block (And.intro @wpC_exit (And.intro @wpC_ret (And.intro @c_keep (And.intro @c_loop (And.intro @wpOps_nil (@wpOps_kont)))))))))))))))))))
def OD1 := And.intro @c_guard (And.intro @seqQ_n (And.intro @seqQ_e (And.intro @seqQ_r (And.intro @blockQ_n (And.intro @blockQ_e (And.intro @blockQ_r (And.intro @keepQ_n (And.intro @keepQ_e (And.intro @keepQ_r (And.intro @roundQ_e (And.intro @roundQ_r (And.intro @o_mov (And.intro @o_pick (And.intro @o_alloc (And.intro @o_box (And.intro @o_build (And.intro @o_buildSlice (And.intro @o_load (@o_store)))))))))))))))))))
def OD2 := And.intro @o_bin (And.intro @o_un (And.intro @o_conv (And.intro @o_faddr (And.intro @o_fld (And.intro @o_iaddr (And.intro @o_aaddr (And.intro @o_idxS (And.intro @o_sliceS (And.intro @o_sliceL (And.intro @o_mk (And.intro @o_lenS (And.intro @o_lenL (And.intro @o_app (And.intro @o_ext (And.intro @o_nilc (And.intro @o_mkfn (And.intro @o_call (And.intro @o_callv (@o_pcall)))))))))))))))))))
def OD3 := And.intro @o_pcallv (And.intro @o_qcall (And.intro @o_qcallv (And.intro @setD_some (And.intro @setD_none (And.intro @o_mkmap (And.intro @o_mget (And.intro @o_mset (And.intro @o_pget (And.intro @o_pset (And.intro @o_strit (And.intro @o_snext (And.intro @o_s2b (And.intro @o_pnil (And.intro @o_peq (And.intro @o_appS (And.intro @o_mkF (And.intro @o_mkAt (@o_markS))))))))))))))))))
def OA0 := And.intro @cells_own (And.intro @isCell_own (And.intro @storable_own (And.intro @upd_own (And.intro @ren_own (And.intro @ren_v (And.intro @ren_agg (And.intro @oren_own (And.intro @oren_dead (And.intro @k1_kontL (And.intro @beqK_eq (And.intro @gopLK_tt (And.intro @gopLK_ff (And.intro @gopLK_tf (And.intro @gopLK_ft (And.intro @gopLK_skip (And.intro @puKK_max (And.intro @k1_kont (And.intro @pickK_true (@pickK_false)))))))))))))))))))
def OA1 := And.intro @pickK_bool (And.intro @boxK_eq (And.intro @bldK_nil (And.intro @bldK_cons (And.intro @bslK_nil (And.intro @bslK_cons (And.intro @objK_live (And.intro @objN_live (And.intro @objN_nil (And.intro @loadK_iptr (And.intro @loadK_ptr (And.intro @storeK_ptr (And.intro @binK_add (And.intro @binK_sub (And.intro @binK_mul (And.intro @binK_and (And.intro @binK_or (And.intro @binK_xor (And.intro @binK_quo (@binK_rem)))))))))))))))))))
def OA2 := And.intro @binK_eql (And.intro @binK_neq (And.intro @binK_lss (And.intro @binK_leq (And.intro @binK_gtr (And.intro @binK_geq (And.intro @binK_shl (And.intro @binK_shr (And.intro @binK_sadd (And.intro @binK_seql (And.intro @binK_sneq (And.intro @unK_not (And.intro @unK_neg (And.intro @convK_eq (And.intro @faddrK_iptr (And.intro @faddrK_ptr (And.intro @fldK_eq (And.intro @iaddrK_sl (And.intro @aaddrK_iptr (@aaddrK_ptr)))))))))))))))))))
def OA3 := And.intro @iaddrK_row (And.intro @idxSK_eq (And.intro @bnd_none (And.intro @bnd_some (And.intro @sliceSK_eq (And.intro @sliceLK_eq (And.intro @mkK_eq (And.intro @lenSK_eq (And.intro @lenLK_nils (And.intro @lenLK_sl (And.intro @lenLK_row (And.intro @srcOf_nils (And.intro @srcOf_sl (And.intro @srcOf_row (And.intro @ontoK_nils1 (And.intro @ontoK_nils (And.intro @ontoK_row (And.intro @extK_eq (And.intro @nilcK_iptr (@nilcK_fn)))))))))))))))))))
def OA4 := And.intro @nilcK_ptr (And.intro @callvK_fn (And.intro @qcallvK_fn (And.intro @pcallvK_fn (And.intro @gopK_tt (And.intro @gopK_tf (And.intro @gopK_ft (And.intro @gopK_ff (And.intro @gopK_skip (And.intro @condK_true (And.intro @condK_false (And.intro @loadC_whole (And.intro @loadC_none (And.intro @upd_whole (And.intro @upd_v (And.intro @upd_sl (And.intro @upd_nils (And.intro @upd_row (And.intro @upd_ptr (@upd_fn)))))))))))))))))))
def OA5 := And.intro @upd_agg (And.intro @upd_agg0 (And.intro @frz_v (And.intro @frz_sl (And.intro @frz_nils (And.intro @frz_agg (And.intro @frz_fn (And.intro @resK_nil (And.intro @resK_tmp (And.intro @resK_cell (And.intro @cellK_ptr (And.intro @cellOK_live (And.intro @packR_one (And.intro @packR_more (And.intro @List.reverse_cons.{0} (And.intro @List.reverse_nil.{0} (And.intro @ne_eq.{1} (And.intro @Nat.add_eq_zero_iff (And.intro @not_false_eq_true (@Nat.one_ne_zero)))))))))))))))))))
def OA6 := And.intro @ev_t (And.intro @ev_c (And.intro @set_at (And.intro @entry_at (And.intro @envL_cons (And.intro @keepE_eq (And.intro @List.map_cons.{0,0} (And.intro @List.map_nil.{0,0} (And.intro @Option.map_some.{0,0} (And.intro @Option.map_none.{0,0} (And.intro @List.getD_cons_zero.{0} (And.intro @List.getD_cons_succ.{0} (And.intro @List.length_nil.{0} (And.intro @List.length_cons.{0} (And.intro @List.length_append.{0} (And.intro @List.length_set.{0} (And.intro @List.nil_append.{0} (And.intro @List.cons_append.{0} (And.intro @List.append_nil.{0} (@List.getElem?_cons_zero.{0})))))))))))))))))))
def OA7 := And.intro @List.getElem?_cons_succ.{0} (And.intro @List.set_cons_zero.{0} (And.intro @List.set_cons_succ.{0} (And.intro @List.drop_succ_cons.{0} (And.intro @List.drop_zero.{0} (And.intro @List.take_succ_cons.{0} (And.intro @List.take_zero.{0} (And.intro @List.replicate_succ.{0} (And.intro @List.replicate_zero.{0} (And.intro @if_true.{1} (And.intro @if_false.{1} (And.intro @cells_agg (And.intro @cells_v (And.intro @cells_nils (And.intro @cells_sl (And.intro @cells_row (And.intro @cells_ptr (And.intro @cells_fn (And.intro @isAgg_agg (@isCell_v)))))))))))))))))))
def OA8 := And.intro @isCell_nils (And.intro @isCell_sl (And.intro @isCell_row (And.intro @isCell_ptr (And.intro @isCell_fn (And.intro @storable_agg (And.intro @storable_v (And.intro @storable_nils (And.intro @storable_sl (And.intro @storable_row (And.intro @storable_ptr (And.intro @storable_fn (And.intro @frz_noref (And.intro @aft_flat (And.intro @flat_v (And.intro @norefs_nil (And.intro @norefs_cons (And.intro @noref_v (And.intro @noref_sl (@noref_agg)))))))))))))))))))
def OA9 := And.intro @noref_tup (And.intro @noref_nils (And.intro @noref_fn (And.intro @List.all_cons.{0} (And.intro @List.all_nil.{0} (And.intro @Bool.and_true (And.intro @Bool.true_and (And.intro @Bool.or_true (And.intro @Bool.true_or (And.intro @Bool.not_true (And.intro @Bool.not_false (And.intro @decide_true (And.intro @decide_false (And.intro @dlt0 (And.intro @Option.getD_none.{0} (And.intro @Option.getD_some.{0} (And.intro @true_and (And.intro @and_true (And.intro @Nat.zero_add (@Nat.add_zero)))))))))))))))))))
def OA10 := And.intro @Nat.lt_add_one (And.intro @Nat.zero_lt_succ (And.intro @Nat.le_refl (And.intro @stritK_eq (And.intro @s2bK_eq (And.intro @pnilK_nilE (And.intro @pnilK_nilN (And.intro @pnilK_ptrE (And.intro @pnilK_ptrN (And.intro @peqK_E (And.intro @peqK_N (And.intro @appSK_eq (And.intro @mkFK_eq (And.intro @mkAtK_eq (@markSK_row))))))))))))))
def OD := And.intro @OD0 (And.intro @OD1 (And.intro @OD2 (@OD3)))
def OA := And.intro @OA0 (And.intro @OA1 (And.intro @OA2 (And.intro @OA3 (And.intro @OA4 (And.intro @OA5 (And.intro @OA6 (And.intro @OA7 (And.intro @OA8 (And.intro @OA9 (@OA10))))))))))
end Go.Ab
