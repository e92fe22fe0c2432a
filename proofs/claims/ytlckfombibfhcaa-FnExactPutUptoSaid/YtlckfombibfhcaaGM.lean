/- Part of a proof: the functions that the law reaches, walked by the abstract logic of the texts Ab. -/
import Derived.Test.YtlckfombibfhcaaAbM4
import Derived.Test.YtlckfombibfhcaaAbM3
set_option linter.unusedVariables false
set_option linter.unusedSimpArgs false
set_option linter.defProp false
/-
  LISTS IN THE LAWS' OWN HELPERS, once for all element types: what is left of toXS, szXS, eqXS.
-/
namespace Go.Ab
set_option maxRecDepth 100000
theorem wrapI {n : Int} (h : -9223372036854775808 ≤ n) (h' : n ≤ 9223372036854775807) : IntKind.i64.wrap n = n := wrap_id h h'
theorem wrapS {a b : Nat} (h : b ≤ a) (h' : a ≤ 4611686018427387904) : IntKind.i64.wrap ((a : Int) - (b : Int)) = ((a - b : Nat) : Int) := by
  rw [wrapI (by omega) (by omega)]; omega
theorem wrapA {a b : Nat} (h : a + b ≤ 4611686018427387904) : IntKind.i64.wrap ((a : Int) + (b : Int)) = ((a + b : Nat) : Int) := by
  rw [wrapI (by omega) (by omega)]; omega
theorem wrapA1 {a : Nat} (h : a ≤ 4611686018427387904) : IntKind.i64.wrap ((a : Int) + 1) = ((a + 1 : Nat) : Int) := by
  rw [wrapI (by omega) (by omega)]; omega
theorem lt0 (n : Nat) : decide ((n : Int) < 0) = false := by simp
theorem getM {α : Type} (f : α → AV) {l : List α} {i : Nat} (h : i < l.length) : (l.map f)[i]? = some (f l[i]) := by simp [h]
theorem elemM {α : Type} (f : α → AV) {l : List α} {s n : Nat} {k : IntKind} {K : AV → Prop} (h : n < l.length) (hs : (f l[n]).cells.length = s) (hk : goT K (f l[n])) : elemP s (.sl (l.map f)) (.v (.int k (n : Int))) K :=
  elem_intro _ (getM f h) hs hk
theorem norefsM {α : Type} {f : α → AV} {l : List α} (h : ∀ x, (f x).noref = true) : AV.norefs (l.map f) = true := norefs_of fun a ha => by
  obtain ⟨x, _, rfl⟩ := List.mem_map.1 ha; exact h x
section
variable {P : Program} {L : AX → SS → List AV → Prop} {R : AV → Prop} {t : T} {r : List AV} {S : List (List AV → Prop)}
/-- a loop that counts up -/
theorem loop_up {init : List AV} (n : Nat) (σ : Nat → List AV) (h0 : init = σ 0)
    (hr : ∀ i, i ≤ n → wpT P L R t (r ++ σ i) ((fun vs => i < n ∧ vs = σ (i + 1)) :: S)) : loopT P L R init t r S := by
  refine loop_intro (ι := Nat) (fun i => i ≤ n) σ (fun i => n - i) 0 (Nat.zero_le _) h0 fun i hi => ?_
  refine wpT_mono (fun _ _ _ h => h) (fun _ h => h) t (.cons (fun vs hv => ?_) (.refl _)) (hr i hi)
  exact ⟨i + 1, hv.1, by have := hv.1; omega, hv.2⟩
end
def TszS (s : Nat) (f : FuncId) (fl : Bool) : T :=
.op (.lenL (.x 0)) (
.op (.bin .sub (.x 1) (.x 2)) (
.op (.bin .lss (.x 3) (.c (.v (.int .i64 0)))) (
.ite (.x 4)
 (.ret [(.c (.v (.int .i64 (-1))))])
 (.bind 1 (
  .loop [(.x 3), (.c (.v (.int .i64 0)))] (
   .op (.lenL (.x 0)) (
   .op (.bin .lss (.x 6) (.x 7)) (
   .ite (.x 8)
    (.op (.elem s (.x 0) (.x 6)) (
    .chk (.cells (.x 9) s) (
    .op (.call f [(.x 9), (.x 5)] fl) (
    .op (.bin .lss (.x 10) (.c (.v (.int .i64 0)))) (
    .ite (.x 11)
     (.esc (.esc (.ret [(.c (.v (.int .i64 (-1))))])))
     (.op (.bin .add (.x 6) (.c (.v (.int .i64 1)))) (
     .jump [(.x 10), (.x 12)])))))))
    (.esc (.jump [(.x 5)])))))) (
 .ret [(.x 5)])))))
theorem sum_take {α : Type} (wt : α → Nat) (l : List α) (i : Nat) (h : i < l.length) : ((l.take (i + 1)).map wt).sum = ((l.take i).map wt).sum + wt l[i] := by
  rw [List.take_add_one, List.getElem?_eq_getElem h]
  simp only [Option.toList_some, List.map_append, List.sum_append, List.map_cons, List.map_nil, List.sum_cons, List.sum_nil, Nat.add_zero]
theorem sum_le {α : Type} (wt : α → Nat) (l : List α) (i : Nat) : ((l.take i).map wt).sum ≤ (l.map wt).sum := by
  conv => rhs; rw [← List.take_append_drop i l]
  rw [List.map_append, List.sum_append]; omega
theorem szS_T {fl : Bool} {P : Program} {L : AX → SS → List AV → Prop} {α : Type} {av : α → AV} {wt : α → Nat} {s : Nat} {f : FuncId} {l : List α} (hs : ∀ x, (av x).isAgg = true ∧ (av x).cells.length = s ∧ (av x).storable = true)
    {b : Nat} (hb : l.length + (l.map wt).sum ≤ b) (hb' : b ≤ 1048576) (hc : ∀ x ∈ l, ∀ c : Nat, wt x ≤ c → c ≤ 1048576 → PCon P f [av x, .v (.int .i64 c)] (.v (.int .i64 (c - wt x : Nat)))) :
    wpT P L (fun a => a = .v (.int .i64 (b - (l.length + (l.map wt).sum) : Nat))) (TszS s f fl) [.sl (l.map av), .v (.int .i64 b)] [] := by
  simp (disch := omega) only [TszS, wrapS, lt0, WA, Nat.reduceEqDiff, Nat.reduceAdd, Nat.reduceLT, Nat.reduceLeDiff, Nat.reduceMul, reduceIte, reduceCtorEq, Int.reduceEq, Int.reduceLT, Int.reduceLE, Int.reduceNe]
  refine bind_cut [.v (.int .i64 (b - (l.length + (l.map wt).sum) : Nat))] rfl ?_ (by simp only [WA, Nat.reduceEqDiff, Nat.reduceAdd, Nat.reduceLT, Nat.reduceLeDiff, Nat.reduceMul, reduceIte, reduceCtorEq, Int.reduceEq, Int.reduceLT, Int.reduceLE, Int.reduceNe])
  simp only [WA, Nat.reduceEqDiff, Nat.reduceAdd, Nat.reduceLT, Nat.reduceLeDiff, Nat.reduceMul, reduceIte, reduceCtorEq, Int.reduceEq, Int.reduceLT, Int.reduceLE, Int.reduceNe]
  refine loop_up l.length (fun i => [.v (.int .i64 (b - (l.length + ((l.take i).map wt).sum) : Nat)), .v (.int .i64 i)]) (by simp) fun i hi => ?_
  simp only [WA, Nat.reduceEqDiff, Nat.reduceAdd, Nat.reduceLT, Nat.reduceLeDiff, Nat.reduceMul, reduceIte, reduceCtorEq, Int.reduceEq, Int.reduceLT, Int.reduceLE, Int.reduceNe]
  refine ite_dec (fun h => ?_) (fun h => ?_)
  · have hlt : i < l.length := by omega
    have h1 := sum_take wt l i hlt
    have h2 := sum_le wt l (i + 1)
    obtain ⟨x1, x2, x3⟩ := hs l[i]
    simp only [WA, Nat.reduceEqDiff, Nat.reduceAdd, Nat.reduceLT, Nat.reduceLeDiff, Nat.reduceMul, reduceIte, reduceCtorEq, Int.reduceEq, Int.reduceLT, Int.reduceLE, Int.reduceNe]
    refine elemM av hlt x2 ?_
    simp only [x1, x2, x3, WA, Nat.reduceEqDiff, Nat.reduceAdd, Nat.reduceLT, Nat.reduceLeDiff, Nat.reduceMul, reduceIte, reduceCtorEq, Int.reduceEq, Int.reduceLT, Int.reduceLE, Int.reduceNe]
    refine call_v (hc _ (List.getElem_mem hlt) _ (by omega) (by omega)) ?_
    simp (disch := omega) only [lt0, wrapA1, WA, Nat.reduceEqDiff, Nat.reduceAdd, Nat.reduceLT, Nat.reduceLeDiff, Nat.reduceMul, reduceIte, reduceCtorEq, Int.reduceEq, Int.reduceLT, Int.reduceLE, Int.reduceNe]
    exact ⟨hlt, by rw [h1, Nat.sub_sub, Nat.add_assoc]⟩
  · have he : i = l.length := by omega
    subst he
    simp only [List.take_length, WA, Nat.reduceEqDiff, Nat.reduceAdd, Nat.reduceLT, Nat.reduceLeDiff, Nat.reduceMul, reduceIte, reduceCtorEq, Int.reduceEq, Int.reduceLT, Int.reduceLE, Int.reduceNe]
def TtoS (s b : Nat) (z : AV) (f : FuncId) : T :=
.op (.lenL (.x 0)) (
.op (.rep b z (.x 1) (.x 1)) (
.bind 1 (
 .loop [(.x 2), (.c (.v (.int .i64 0)))] (
  .op (.lenL (.x 0)) (
  .op (.bin .lss (.x 4) (.x 5)) (
  .ite (.x 6)
   (.op (.elem s (.x 0) (.x 4)) (
   .chk (.cells (.x 7) s) (
   .op (.call f [(.x 7)] false) (
   .chk (.idx (.x 3) (.x 4)) (
   .chk (.cells (.x 8) s) (
   .op (.set (.x 3) (.x 4) 0 s (.x 8)) (
   .op (.bin .add (.x 4) (.c (.v (.int .i64 1)))) (
   .jump [(.x 9), (.x 10)]))))))))
   (.esc (.jump [(.x 3)])))))) (
.ret [(.sl (.x 3))])))
/-- a list that is filled from the left -/
def fillL {α : Type} (av : α → AV) (z : AV) (l : List α) (i : Nat) : List AV := (l.take i).map av ++ List.replicate (l.length - i) z
theorem fillL_len {α : Type} (av : α → AV) (z : AV) (l : List α) (i : Nat) (h : i ≤ l.length) : (fillL av z l i).length = l.length := by simp [fillL]; omega
theorem fillL_zero {α : Type} (av : α → AV) (z : AV) (l : List α) : fillL av z l 0 = List.replicate l.length z := by simp [fillL]
theorem fillL_end {α : Type} (av : α → AV) (z : AV) (l : List α) : fillL av z l l.length = l.map av := by simp [fillL]
theorem fillL_get {α : Type} (av : α → AV) (z : AV) (l : List α) (i : Nat) (h : i < l.length) : (fillL av z l i).getD i .top = z := by
  have h1 : ((l.take i).map av).length = i := by simp; omega
  rw [fillL, List.getD, List.getElem?_append_right (by omega), h1, Nat.sub_self, List.getElem?_replicate, if_pos (by omega)]; rfl
theorem fillL_set {α : Type} (av : α → AV) (z : AV) (l : List α) (i : Nat) (h : i < l.length) : (fillL av z l i).set i (av l[i]) = fillL av z l (i + 1) := by
  have h1 : ((l.take i).map av).length = i := by simp; omega
  unfold fillL
  rw [List.set_append_right _ _ (by omega), h1, Nat.sub_self]
  rw [show l.length - i = (l.length - (i + 1)) + 1 by omega, List.replicate_succ, List.set_cons_zero, List.take_add_one, List.getElem?_eq_getElem h]
  simp only [Option.toList_some, List.map_append, List.map_cons, List.map_nil, List.append_assoc, List.cons_append, List.nil_append]
theorem toS_T {P : Program} {L : AX → SS → List AV → Prop} {α : Type} {av : α → AV} {s b : Nat} {z : AV} {f : FuncId} {l : List α} (hs : ∀ x, (av x).isAgg = true ∧ (av x).cells.length = s ∧ (av x).storable = true ∧ (av x).noref = true)
    (hz : z.cells.length = s) (hb : b ≤ 1000) (hl : l.length ≤ 1048576) (hc : ∀ x ∈ l, PCon P f [av x] (av x)) :
    wpT P L (fun a => a = .sl (l.map av)) (TtoS s b z f) [.sl (l.map av)] [] := by
  have hbl : (b : Int) * (l.length : Int) ≤ 1048576000 := by
    have h1 : b * l.length ≤ 1000 * 1048576 := Nat.mul_le_mul hb hl
    have h2 : ((b * l.length : Nat) : Int) ≤ ((1048576000 : Nat) : Int) := Int.ofNat_le.2 h1
    rwa [Int.natCast_mul] at h2
  simp only [TtoS, WA, Nat.reduceEqDiff, Nat.reduceAdd, Nat.reduceLT, Nat.reduceLeDiff, Nat.reduceMul, reduceIte, reduceCtorEq, Int.reduceEq, Int.reduceLT, Int.reduceLE, Int.reduceNe]
  refine ⟨Int.le_refl _, by omega, by omega, ?_⟩
  refine bind_cut [.sl (l.map av)] rfl ?_ (by simp only [WA, Nat.reduceEqDiff, Nat.reduceAdd, Nat.reduceLT, Nat.reduceLeDiff, Nat.reduceMul, reduceIte, reduceCtorEq, Int.reduceEq, Int.reduceLT, Int.reduceLE, Int.reduceNe])
  simp only [WA, Nat.reduceEqDiff, Nat.reduceAdd, Nat.reduceLT, Nat.reduceLeDiff, Nat.reduceMul, reduceIte, reduceCtorEq, Int.reduceEq, Int.reduceLT, Int.reduceLE, Int.reduceNe]
  refine loop_up l.length (fun i => [.sl (fillL av z l i), .v (.int .i64 i)]) (by rw [fillL_zero]; simp) fun i hi => ?_
  simp only [WA, Nat.reduceEqDiff, Nat.reduceAdd, Nat.reduceLT, Nat.reduceLeDiff, Nat.reduceMul, reduceIte, reduceCtorEq, Int.reduceEq, Int.reduceLT, Int.reduceLE, Int.reduceNe]
  refine ite_dec (fun h => ?_) (fun h => ?_)
  · have hlt : i < l.length := by omega
    obtain ⟨x1, x2, x3, x4⟩ := hs l[i]
    simp only [WA, Nat.reduceEqDiff, Nat.reduceAdd, Nat.reduceLT, Nat.reduceLeDiff, Nat.reduceMul, reduceIte, reduceCtorEq, Int.reduceEq, Int.reduceLT, Int.reduceLE, Int.reduceNe]
    refine elemM av hlt x2 ?_
    simp only [x1, x2, x3, WA, Nat.reduceEqDiff, Nat.reduceAdd, Nat.reduceLT, Nat.reduceLeDiff, Nat.reduceMul, reduceIte, reduceCtorEq, Int.reduceEq, Int.reduceLT, Int.reduceLE, Int.reduceNe]
    refine call_p (hc _ (List.getElem_mem hlt)) x4 ?_
    simp (disch := omega) only [x1, x2, x3, fillL_len av z l i hi, fillL_get av z l i hlt, hz, wrapA1, WA, Nat.reduceEqDiff, Nat.reduceAdd, Nat.reduceLT, Nat.reduceLeDiff, Nat.reduceMul, reduceIte, reduceCtorEq, Int.reduceEq, Int.reduceLT, Int.reduceLE, Int.reduceNe]
    exact ⟨by omega, hlt, ⟨hlt, by rw [upd_whole (by rw [x2, hz]), fillL_set av z l i hlt]⟩⟩
  · have he : i = l.length := by omega
    subst he
    simp only [fillL_end, WA, Nat.reduceEqDiff, Nat.reduceAdd, Nat.reduceLT, Nat.reduceLeDiff, Nat.reduceMul, reduceIte, reduceCtorEq, Int.reduceEq, Int.reduceLT, Int.reduceLE, Int.reduceNe]
def TeqS (s : Nat) (f : FuncId) (fl : Bool) : T :=
.op (.lenL (.x 0)) (
.op (.lenL (.x 1)) (
.op (.bin .neq (.x 2) (.x 3)) (
.ite (.x 4)
 (.ret [(.c (.v (.bool false)))])
 (.bind 0 (
  .loop [(.c (.v (.int .i64 0)))] (
   .op (.lenL (.x 0)) (
   .op (.bin .lss (.x 5) (.x 6)) (
   .ite (.x 7)
    (.op (.elem s (.x 0) (.x 5)) (
    .chk (.cells (.x 8) s) (
    .op (.elem s (.x 1) (.x 5)) (
    .chk (.cells (.x 9) s) (
    .op (.call f [(.x 8), (.x 9)] fl) (
    .op (.un .not (.x 10)) (
    .ite (.x 11)
     (.esc (.esc (.ret [(.c (.v (.bool false)))])))
     (.op (.bin .add (.x 5) (.c (.v (.int .i64 1)))) (
     .jump [(.x 12)])))))))))
    (.esc (.jump [])))))) (
 .ret [(.c (.v (.bool true)))])))))
theorem eqS_T {fl : Bool} {P : Program} {L : AX → SS → List AV → Prop} {α : Type} {av : α → AV} {s : Nat} {f : FuncId} {l : List α} (hs : ∀ x, (av x).isAgg = true ∧ (av x).cells.length = s ∧ (av x).storable = true)
    (hl : l.length ≤ 1048576) (hc : ∀ x ∈ l, PCon P f [av x, av x] (.v (.bool true))) :
    wpT P L (fun a => a = .v (.bool true)) (TeqS s f fl) [.sl (l.map av), .sl (l.map av)] [] := by
  simp only [TeqS, WA, Nat.reduceEqDiff, Nat.reduceAdd, Nat.reduceLT, Nat.reduceLeDiff, Nat.reduceMul, reduceIte, reduceCtorEq, Int.reduceEq, Int.reduceLT, Int.reduceLE, Int.reduceNe]
  refine bind_cut [] rfl ?_ (by simp only [WA, Nat.reduceEqDiff, Nat.reduceAdd, Nat.reduceLT, Nat.reduceLeDiff, Nat.reduceMul, reduceIte, reduceCtorEq, Int.reduceEq, Int.reduceLT, Int.reduceLE, Int.reduceNe])
  simp only [WA, Nat.reduceEqDiff, Nat.reduceAdd, Nat.reduceLT, Nat.reduceLeDiff, Nat.reduceMul, reduceIte, reduceCtorEq, Int.reduceEq, Int.reduceLT, Int.reduceLE, Int.reduceNe]
  refine loop_up l.length (fun i => [.v (.int .i64 i)]) rfl fun i hi => ?_
  simp only [WA, Nat.reduceEqDiff, Nat.reduceAdd, Nat.reduceLT, Nat.reduceLeDiff, Nat.reduceMul, reduceIte, reduceCtorEq, Int.reduceEq, Int.reduceLT, Int.reduceLE, Int.reduceNe]
  refine ite_dec (fun h => ?_) (fun h => ?_)
  · have hlt : i < l.length := by omega
    obtain ⟨x1, x2, x3⟩ := hs l[i]
    simp only [WA, Nat.reduceEqDiff, Nat.reduceAdd, Nat.reduceLT, Nat.reduceLeDiff, Nat.reduceMul, reduceIte, reduceCtorEq, Int.reduceEq, Int.reduceLT, Int.reduceLE, Int.reduceNe]
    refine elemM av hlt x2 ?_
    simp only [x1, x2, x3, WA, Nat.reduceEqDiff, Nat.reduceAdd, Nat.reduceLT, Nat.reduceLeDiff, Nat.reduceMul, reduceIte, reduceCtorEq, Int.reduceEq, Int.reduceLT, Int.reduceLE, Int.reduceNe]
    refine elemM av hlt x2 ?_
    simp only [x1, x2, x3, WA, Nat.reduceEqDiff, Nat.reduceAdd, Nat.reduceLT, Nat.reduceLeDiff, Nat.reduceMul, reduceIte, reduceCtorEq, Int.reduceEq, Int.reduceLT, Int.reduceLE, Int.reduceNe]
    refine call_v (hc _ (List.getElem_mem hlt)) ?_
    simp (disch := omega) only [wrapA1, WA, Nat.reduceEqDiff, Nat.reduceAdd, Nat.reduceLT, Nat.reduceLeDiff, Nat.reduceMul, reduceIte, reduceCtorEq, Int.reduceEq, Int.reduceLT, Int.reduceLE, Int.reduceNe]
    exact hlt
  · simp only [WA, Nat.reduceEqDiff, Nat.reduceAdd, Nat.reduceLT, Nat.reduceLeDiff, Nat.reduceMul, reduceIte, reduceCtorEq, Int.reduceEq, Int.reduceLT, Int.reduceLE, Int.reduceNe]
/- numbers -/
abbrev avI (n : Int) : AV := .v (.int .i64 n)
abbrev avB (s : ByteArray) : AV := .v (.string s)
end Go.Ab
/-
  THE TYPES OF THE LAWS as types of our own (printed by wip/tool/types.py): their cells, their weights, small facts.
-/
namespace Go.Ab
set_option maxRecDepth 100000
/-- a number of 64 bits -/
def inR (n : Int) : Prop := -9223372036854775808 ≤ n ∧ n ≤ 9223372036854775807
theorem le_sum {α : Type} (w : α → Nat) {l : List α} {x : α} (h : x ∈ l) : w x ≤ (l.map w).sum := by
  induction l with
  | nil => simp at h
  | cons a l ih =>
    simp only [List.map_cons, List.sum_cons]
    rcases List.mem_cons.1 h with rfl | h
    · omega
    · have := ih h; omega
inductive VToken where
  | mk (Kind : Int) (Text : ByteArray) (Num : Int) (Pos : Int)
def VToken.Kind : VToken → Int
  | .mk a _ _ _ => a
def VToken.Text : VToken → ByteArray
  | .mk _ a _ _ => a
def VToken.Num : VToken → Int
  | .mk _ _ a _ => a
def VToken.Pos : VToken → Int
  | .mk _ _ _ a => a
def VToken.wt : VToken → Nat
  | .mk Kind Text Num Pos => Text.size
theorem VToken.wt_eq (x : VToken) : x.wt = x.Text.size := by
  cases x
  simp only [VToken.wt, VToken.Kind, VToken.Text, VToken.Num, VToken.Pos]
theorem VToken.facts {l : List VToken} {b : Nat} (h : (l.map VToken.wt).sum ≤ b) : ∀ x ∈ l, x.wt ≤ b ∧ x.wt = x.Text.size := fun x hx => ⟨Nat.le_trans (le_sum VToken.wt hx) h, x.wt_eq⟩
inductive VPat where
  | mk (Kind : Int) (Name : ByteArray) (Num : Int) (Pos : Int) (Kids : List VPat)
def VPat.Kind : VPat → Int
  | .mk a _ _ _ _ => a
def VPat.Name : VPat → ByteArray
  | .mk _ a _ _ _ => a
def VPat.Num : VPat → Int
  | .mk _ _ a _ _ => a
def VPat.Pos : VPat → Int
  | .mk _ _ _ a _ => a
def VPat.Kids : VPat → List VPat
  | .mk _ _ _ _ a => a
mutual
def VPat.wt : VPat → Nat
  | .mk Kind Name Num Pos Kids => Name.size + (Kids.length + VPat.wts Kids)
def VPat.wts : List VPat → Nat
  | [] => 0
  | x :: l => x.wt + VPat.wts l
end
theorem VPat.wts_eq (l : List VPat) : VPat.wts l = (l.map VPat.wt).sum := by
  induction l with
  | nil => rfl
  | cons x l ih => simp only [VPat.wts, ih, List.map_cons, List.sum_cons]
theorem VPat.wt_eq (x : VPat) : x.wt = x.Name.size + (x.Kids.length + (x.Kids.map VPat.wt).sum) := by
  cases x
  simp only [VPat.wt, VPat.wts_eq, VPat.Kind, VPat.Name, VPat.Num, VPat.Pos, VPat.Kids]
theorem VPat.facts {l : List VPat} {b : Nat} (h : (l.map VPat.wt).sum ≤ b) : ∀ x ∈ l, x.wt ≤ b ∧ x.wt = x.Name.size + (x.Kids.length + (x.Kids.map VPat.wt).sum) := fun x hx => ⟨Nat.le_trans (le_sum VPat.wt hx) h, x.wt_eq⟩
mutual
inductive VExp where
  | mk (Kind : Int) (Name : ByteArray) (Num : Int) (Text : ByteArray) (Pos : Int) (Kids : List VExp) (Arms : List VArm)
inductive VArm where
  | mk (P : VPat) (E : VExp)
end
def VExp.Kind : VExp → Int
  | .mk a _ _ _ _ _ _ => a
def VExp.Name : VExp → ByteArray
  | .mk _ a _ _ _ _ _ => a
def VExp.Num : VExp → Int
  | .mk _ _ a _ _ _ _ => a
def VExp.Text : VExp → ByteArray
  | .mk _ _ _ a _ _ _ => a
def VExp.Pos : VExp → Int
  | .mk _ _ _ _ a _ _ => a
def VExp.Kids : VExp → List VExp
  | .mk _ _ _ _ _ a _ => a
def VExp.Arms : VExp → List VArm
  | .mk _ _ _ _ _ _ a => a
def VArm.P : VArm → VPat
  | .mk a _ => a
def VArm.E : VArm → VExp
  | .mk _ a => a
mutual
def VExp.wt : VExp → Nat
  | .mk Kind Name Num Text Pos Kids Arms => Name.size + Text.size + (Kids.length + VExp.wts Kids) + (Arms.length + VArm.wts Arms)
def VArm.wt : VArm → Nat
  | .mk P E => P.wt + E.wt
def VExp.wts : List VExp → Nat
  | [] => 0
  | x :: l => x.wt + VExp.wts l
def VArm.wts : List VArm → Nat
  | [] => 0
  | x :: l => x.wt + VArm.wts l
end
theorem VExp.wts_eq (l : List VExp) : VExp.wts l = (l.map VExp.wt).sum := by
  induction l with
  | nil => rfl
  | cons x l ih => simp only [VExp.wts, ih, List.map_cons, List.sum_cons]
theorem VArm.wts_eq (l : List VArm) : VArm.wts l = (l.map VArm.wt).sum := by
  induction l with
  | nil => rfl
  | cons x l ih => simp only [VArm.wts, ih, List.map_cons, List.sum_cons]
theorem VExp.wt_eq (x : VExp) : x.wt = x.Name.size + x.Text.size + (x.Kids.length + (x.Kids.map VExp.wt).sum) + (x.Arms.length + (x.Arms.map VArm.wt).sum) := by
  cases x
  simp only [VExp.wt, VExp.wts_eq, VArm.wts_eq, VExp.Kind, VExp.Name, VExp.Num, VExp.Text, VExp.Pos, VExp.Kids, VExp.Arms]
theorem VExp.facts {l : List VExp} {b : Nat} (h : (l.map VExp.wt).sum ≤ b) : ∀ x ∈ l, x.wt ≤ b ∧ x.wt = x.Name.size + x.Text.size + (x.Kids.length + (x.Kids.map VExp.wt).sum) + (x.Arms.length + (x.Arms.map VArm.wt).sum) := fun x hx => ⟨Nat.le_trans (le_sum VExp.wt hx) h, x.wt_eq⟩
theorem VArm.wt_eq (x : VArm) : x.wt = x.P.wt + x.E.wt := by
  cases x
  simp only [VArm.wt, VExp.wts_eq, VArm.wts_eq, VArm.P, VArm.E]
theorem VArm.facts {l : List VArm} {b : Nat} (h : (l.map VArm.wt).sum ≤ b) : ∀ x ∈ l, x.wt ≤ b ∧ x.wt = x.P.wt + x.E.wt := fun x hx => ⟨Nat.le_trans (le_sum VArm.wt hx) h, x.wt_eq⟩
inductive VTypeExp where
  | mk (Kind : Int) (Name : ByteArray) (Pos : Int) (Kids : List VTypeExp)
def VTypeExp.Kind : VTypeExp → Int
  | .mk a _ _ _ => a
def VTypeExp.Name : VTypeExp → ByteArray
  | .mk _ a _ _ => a
def VTypeExp.Pos : VTypeExp → Int
  | .mk _ _ a _ => a
def VTypeExp.Kids : VTypeExp → List VTypeExp
  | .mk _ _ _ a => a
mutual
def VTypeExp.wt : VTypeExp → Nat
  | .mk Kind Name Pos Kids => Name.size + (Kids.length + VTypeExp.wts Kids)
def VTypeExp.wts : List VTypeExp → Nat
  | [] => 0
  | x :: l => x.wt + VTypeExp.wts l
end
theorem VTypeExp.wts_eq (l : List VTypeExp) : VTypeExp.wts l = (l.map VTypeExp.wt).sum := by
  induction l with
  | nil => rfl
  | cons x l ih => simp only [VTypeExp.wts, ih, List.map_cons, List.sum_cons]
theorem VTypeExp.wt_eq (x : VTypeExp) : x.wt = x.Name.size + (x.Kids.length + (x.Kids.map VTypeExp.wt).sum) := by
  cases x
  simp only [VTypeExp.wt, VTypeExp.wts_eq, VTypeExp.Kind, VTypeExp.Name, VTypeExp.Pos, VTypeExp.Kids]
theorem VTypeExp.facts {l : List VTypeExp} {b : Nat} (h : (l.map VTypeExp.wt).sum ≤ b) : ∀ x ∈ l, x.wt ≤ b ∧ x.wt = x.Name.size + (x.Kids.length + (x.Kids.map VTypeExp.wt).sum) := fun x hx => ⟨Nat.le_trans (le_sum VTypeExp.wt hx) h, x.wt_eq⟩
inductive VCtor where
  | mk (Name : ByteArray) (Has : Bool) (Arg : VTypeExp) (Pos : Int)
def VCtor.Name : VCtor → ByteArray
  | .mk a _ _ _ => a
def VCtor.Has : VCtor → Bool
  | .mk _ a _ _ => a
def VCtor.Arg : VCtor → VTypeExp
  | .mk _ _ a _ => a
def VCtor.Pos : VCtor → Int
  | .mk _ _ _ a => a
def VCtor.wt : VCtor → Nat
  | .mk Name Has Arg Pos => Name.size + Arg.wt
theorem VCtor.wt_eq (x : VCtor) : x.wt = x.Name.size + x.Arg.wt := by
  cases x
  simp only [VCtor.wt, VCtor.Name, VCtor.Has, VCtor.Arg, VCtor.Pos]
theorem VCtor.facts {l : List VCtor} {b : Nat} (h : (l.map VCtor.wt).sum ≤ b) : ∀ x ∈ l, x.wt ≤ b ∧ x.wt = x.Name.size + x.Arg.wt := fun x hx => ⟨Nat.le_trans (le_sum VCtor.wt hx) h, x.wt_eq⟩
inductive VData where
  | mk (Name : ByteArray) (Vars : List ByteArray) (Ctors : List VCtor) (Pos : Int)
def VData.Name : VData → ByteArray
  | .mk a _ _ _ => a
def VData.Vars : VData → List ByteArray
  | .mk _ a _ _ => a
def VData.Ctors : VData → List VCtor
  | .mk _ _ a _ => a
def VData.Pos : VData → Int
  | .mk _ _ _ a => a
def VData.wt : VData → Nat
  | .mk Name Vars Ctors Pos => Name.size + (Vars.length + (Vars.map fun x => x.size).sum) + (Ctors.length + (Ctors.map VCtor.wt).sum)
theorem VData.wt_eq (x : VData) : x.wt = x.Name.size + (x.Vars.length + (x.Vars.map fun x => x.size).sum) + (x.Ctors.length + (x.Ctors.map VCtor.wt).sum) := by
  cases x
  simp only [VData.wt, VData.Name, VData.Vars, VData.Ctors, VData.Pos]
theorem VData.facts {l : List VData} {b : Nat} (h : (l.map VData.wt).sum ≤ b) : ∀ x ∈ l, x.wt ≤ b ∧ x.wt = x.Name.size + (x.Vars.length + (x.Vars.map fun x => x.size).sum) + (x.Ctors.length + (x.Ctors.map VCtor.wt).sum) := fun x hx => ⟨Nat.le_trans (le_sum VData.wt hx) h, x.wt_eq⟩
inductive VProg where
  | mk (Types : List VData) (Body : VExp)
def VProg.Types : VProg → List VData
  | .mk a _ => a
def VProg.Body : VProg → VExp
  | .mk _ a => a
def VProg.wt : VProg → Nat
  | .mk Types Body => (Types.length + (Types.map VData.wt).sum) + Body.wt
theorem VProg.wt_eq (x : VProg) : x.wt = (x.Types.length + (x.Types.map VData.wt).sum) + x.Body.wt := by
  cases x
  simp only [VProg.wt, VProg.Types, VProg.Body]
theorem VProg.facts {l : List VProg} {b : Nat} (h : (l.map VProg.wt).sum ≤ b) : ∀ x ∈ l, x.wt ≤ b ∧ x.wt = (x.Types.length + (x.Types.map VData.wt).sum) + x.Body.wt := fun x hx => ⟨Nat.le_trans (le_sum VProg.wt hx) h, x.wt_eq⟩
inductive VTy where
  | mk (Kind : Int) (N : Int) (Name : ByteArray) (Kids : List VTy)
def VTy.Kind : VTy → Int
  | .mk a _ _ _ => a
def VTy.N : VTy → Int
  | .mk _ a _ _ => a
def VTy.Name : VTy → ByteArray
  | .mk _ _ a _ => a
def VTy.Kids : VTy → List VTy
  | .mk _ _ _ a => a
theorem VTy.Kind_mk (Kind : Int) (N : Int) (Name : ByteArray) (Kids : List VTy) : (VTy.mk Kind N Name Kids).Kind = Kind := nr rfl
theorem VTy.N_mk (Kind : Int) (N : Int) (Name : ByteArray) (Kids : List VTy) : (VTy.mk Kind N Name Kids).N = N := nr rfl
theorem VTy.Name_mk (Kind : Int) (N : Int) (Name : ByteArray) (Kids : List VTy) : (VTy.mk Kind N Name Kids).Name = Name := nr rfl
theorem VTy.Kids_mk (Kind : Int) (N : Int) (Name : ByteArray) (Kids : List VTy) : (VTy.mk Kind N Name Kids).Kids = Kids := nr rfl
mutual
def VTy.cs : VTy → List AV
  | .mk Kind N Name Kids => (.v (.int .i64 Kind) :: (.v (.int .i64 N) :: (.v (.string Name) :: (.sl (VTy.avs Kids) :: []))))
def VTy.avs : List VTy → List AV
  | [] => []
  | x :: l => .agg x.cs :: VTy.avs l
end
def VTy.av (x : VTy) : AV := .agg x.cs
theorem VTy.avs_eq (l : List VTy) : VTy.avs l = l.map VTy.av := by
  induction l with
  | nil => rfl
  | cons x l ih => simp only [VTy.avs, ih, List.map_cons, VTy.av]
mutual
def VTy.wt : VTy → Nat
  | .mk Kind N Name Kids => Name.size + (Kids.length + VTy.wts Kids)
def VTy.wts : List VTy → Nat
  | [] => 0
  | x :: l => x.wt + VTy.wts l
end
theorem VTy.wts_eq (l : List VTy) : VTy.wts l = (l.map VTy.wt).sum := by
  induction l with
  | nil => rfl
  | cons x l ih => simp only [VTy.wts, ih, List.map_cons, List.sum_cons]
mutual
def VTy.ok : VTy → Prop
  | .mk Kind N Name Kids => inR Kind ∧ inR N ∧ VTy.oks Kids
def VTy.oks : List VTy → Prop
  | [] => True
  | x :: l => x.ok ∧ VTy.oks l
end
theorem VTy.oks_iff (l : List VTy) : VTy.oks l ↔ ∀ y ∈ l, y.ok := by
  induction l with
  | nil => simp [VTy.oks]
  | cons x l ih => simp [VTy.oks, ih]
mutual
theorem VTy.norefsC : ∀ x : VTy, AV.norefs x.cs = true
  | .mk Kind N Name Kids => by simp [VTy.cs, AV.norefs, AV.noref, norefs_append, VTy.norefsL Kids]
theorem VTy.norefsL : ∀ l : List VTy, AV.norefs (VTy.avs l) = true
  | [] => rfl
  | x :: l => by simp [VTy.avs, AV.norefs, AV.noref, VTy.norefsC x, VTy.norefsL l]
end
theorem VTy.noref (x : VTy) : x.av.noref = true   := VTy.norefsC x
theorem VTy.isAgg (x : VTy) : x.av.isAgg = true := nr rfl
theorem VTy.cs_eq (x : VTy) : x.cs = [.v (.int .i64 x.Kind), .v (.int .i64 x.N), .v (.string x.Name), .sl (x.Kids.map VTy.av)] := by
  obtain ⟨Kind, N, Name, Kids⟩ := x
  simp only [VTy.cs, VTy.Kids, VTy.Kind, VTy.N, VTy.Name, VTy.avs_eq, List.cons_append, List.nil_append]
theorem VTy.cells (x : VTy) : x.av.cells = [.v (.int .i64 x.Kind), .v (.int .i64 x.N), .v (.string x.Name), .sl (x.Kids.map VTy.av)] := VTy.cs_eq x
theorem VTy.width (x : VTy) : x.av.cells.length = 4 := by rw [VTy.cells]; rfl
theorem VTy.storable (x : VTy) : x.av.storable = true := by unfold AV.storable; rw [VTy.cells]; rfl
theorem VTy.eta (x : VTy) : AV.agg [.v (.int .i64 x.Kind), .v (.int .i64 x.N), .v (.string x.Name), .sl (x.Kids.map VTy.av)] = x.av := by
  show _ = AV.agg x.cs
  rw [VTy.cs_eq]
theorem VTy.shape (x : VTy) : x.av.isAgg = true ∧ x.av.cells.length = 4 ∧ x.av.storable = true := ⟨rfl, VTy.width x, VTy.storable x⟩
theorem VTy.shape4 (x : VTy) : x.av.isAgg = true ∧ x.av.cells.length = 4 ∧ x.av.storable = true ∧ x.av.noref = true := ⟨rfl, VTy.width x, VTy.storable x, VTy.noref x⟩
theorem VTy.wt_eq (x : VTy) : x.wt = x.Name.size + (x.Kids.length + (x.Kids.map VTy.wt).sum) := by
  cases x
  simp only [VTy.wt, VTy.wts_eq, VTy.Kind, VTy.N, VTy.Name, VTy.Kids]
theorem VTy.facts {l : List VTy} {b : Nat} (h : (l.map VTy.wt).sum ≤ b) : ∀ x ∈ l, x.wt ≤ b ∧ x.wt = x.Name.size + (x.Kids.length + (x.Kids.map VTy.wt).sum) := fun x hx => ⟨Nat.le_trans (le_sum VTy.wt hx) h, x.wt_eq⟩
theorem VTy.ok_iff (x : VTy) : x.ok ↔ inR x.Kind ∧ inR x.N ∧ (∀ y ∈ x.Kids, y.ok) := by
  cases x
  simp only [VTy.ok, VTy.oks_iff, VTy.Kind, VTy.N, VTy.Name, VTy.Kids]
theorem VTy.Kids_lt {x : VTy} {y : VTy} (h : y ∈ x.Kids) : SizeOf.sizeOf y < SizeOf.sizeOf x := by
  cases x
  have := List.sizeOf_lt_of_mem h
  simp only [VTy.Kids] at this
  simp; omega
inductive VCtorInfo where
  | mk (Name : ByteArray) (Has : Bool) (Arg : VTy)
def VCtorInfo.Name : VCtorInfo → ByteArray
  | .mk a _ _ => a
def VCtorInfo.Has : VCtorInfo → Bool
  | .mk _ a _ => a
def VCtorInfo.Arg : VCtorInfo → VTy
  | .mk _ _ a => a
def VCtorInfo.wt : VCtorInfo → Nat
  | .mk Name Has Arg => Name.size + Arg.wt
theorem VCtorInfo.wt_eq (x : VCtorInfo) : x.wt = x.Name.size + x.Arg.wt := by
  cases x
  simp only [VCtorInfo.wt, VCtorInfo.Name, VCtorInfo.Has, VCtorInfo.Arg]
theorem VCtorInfo.facts {l : List VCtorInfo} {b : Nat} (h : (l.map VCtorInfo.wt).sum ≤ b) : ∀ x ∈ l, x.wt ≤ b ∧ x.wt = x.Name.size + x.Arg.wt := fun x hx => ⟨Nat.le_trans (le_sum VCtorInfo.wt hx) h, x.wt_eq⟩
inductive VDataInfo where
  | mk (Name : ByteArray) (Vars : Int) (Ctors : List VCtorInfo)
def VDataInfo.Name : VDataInfo → ByteArray
  | .mk a _ _ => a
def VDataInfo.Vars : VDataInfo → Int
  | .mk _ a _ => a
def VDataInfo.Ctors : VDataInfo → List VCtorInfo
  | .mk _ _ a => a
def VDataInfo.wt : VDataInfo → Nat
  | .mk Name Vars Ctors => Name.size + (Ctors.length + (Ctors.map VCtorInfo.wt).sum)
theorem VDataInfo.wt_eq (x : VDataInfo) : x.wt = x.Name.size + (x.Ctors.length + (x.Ctors.map VCtorInfo.wt).sum) := by
  cases x
  simp only [VDataInfo.wt, VDataInfo.Name, VDataInfo.Vars, VDataInfo.Ctors]
theorem VDataInfo.facts {l : List VDataInfo} {b : Nat} (h : (l.map VDataInfo.wt).sum ≤ b) : ∀ x ∈ l, x.wt ≤ b ∧ x.wt = x.Name.size + (x.Ctors.length + (x.Ctors.map VCtorInfo.wt).sum) := fun x hx => ⟨Nat.le_trans (le_sum VDataInfo.wt hx) h, x.wt_eq⟩
inductive VCPat where
  | mk (Kind : Int) (Num : Int) (Name : ByteArray) (T : VTy) (Kids : List VCPat)
def VCPat.Kind : VCPat → Int
  | .mk a _ _ _ _ => a
def VCPat.Num : VCPat → Int
  | .mk _ a _ _ _ => a
def VCPat.Name : VCPat → ByteArray
  | .mk _ _ a _ _ => a
def VCPat.T : VCPat → VTy
  | .mk _ _ _ a _ => a
def VCPat.Kids : VCPat → List VCPat
  | .mk _ _ _ _ a => a
mutual
def VCPat.wt : VCPat → Nat
  | .mk Kind Num Name T Kids => Name.size + T.wt + (Kids.length + VCPat.wts Kids)
def VCPat.wts : List VCPat → Nat
  | [] => 0
  | x :: l => x.wt + VCPat.wts l
end
theorem VCPat.wts_eq (l : List VCPat) : VCPat.wts l = (l.map VCPat.wt).sum := by
  induction l with
  | nil => rfl
  | cons x l ih => simp only [VCPat.wts, ih, List.map_cons, List.sum_cons]
theorem VCPat.wt_eq (x : VCPat) : x.wt = x.Name.size + x.T.wt + (x.Kids.length + (x.Kids.map VCPat.wt).sum) := by
  cases x
  simp only [VCPat.wt, VCPat.wts_eq, VCPat.Kind, VCPat.Num, VCPat.Name, VCPat.T, VCPat.Kids]
theorem VCPat.facts {l : List VCPat} {b : Nat} (h : (l.map VCPat.wt).sum ≤ b) : ∀ x ∈ l, x.wt ≤ b ∧ x.wt = x.Name.size + x.T.wt + (x.Kids.length + (x.Kids.map VCPat.wt).sum) := fun x hx => ⟨Nat.le_trans (le_sum VCPat.wt hx) h, x.wt_eq⟩
mutual
inductive VCore where
  | mk (Kind : Int) (N : Int) (Num : Int) (Text : ByteArray) (Name : ByteArray) (T : VTy) (Ts : List VTy) (Kids : List VCore) (Arms : List VCArm)
inductive VCArm where
  | mk (P : VCPat) (E : VCore)
end
def VCore.Kind : VCore → Int
  | .mk a _ _ _ _ _ _ _ _ => a
def VCore.N : VCore → Int
  | .mk _ a _ _ _ _ _ _ _ => a
def VCore.Num : VCore → Int
  | .mk _ _ a _ _ _ _ _ _ => a
def VCore.Text : VCore → ByteArray
  | .mk _ _ _ a _ _ _ _ _ => a
def VCore.Name : VCore → ByteArray
  | .mk _ _ _ _ a _ _ _ _ => a
def VCore.T : VCore → VTy
  | .mk _ _ _ _ _ a _ _ _ => a
def VCore.Ts : VCore → List VTy
  | .mk _ _ _ _ _ _ a _ _ => a
def VCore.Kids : VCore → List VCore
  | .mk _ _ _ _ _ _ _ a _ => a
def VCore.Arms : VCore → List VCArm
  | .mk _ _ _ _ _ _ _ _ a => a
def VCArm.P : VCArm → VCPat
  | .mk a _ => a
def VCArm.E : VCArm → VCore
  | .mk _ a => a
mutual
def VCore.wt : VCore → Nat
  | .mk Kind N Num Text Name T Ts Kids Arms => Text.size + Name.size + T.wt + (Ts.length + (Ts.map VTy.wt).sum) + (Kids.length + VCore.wts Kids) + (Arms.length + VCArm.wts Arms)
def VCArm.wt : VCArm → Nat
  | .mk P E => P.wt + E.wt
def VCore.wts : List VCore → Nat
  | [] => 0
  | x :: l => x.wt + VCore.wts l
def VCArm.wts : List VCArm → Nat
  | [] => 0
  | x :: l => x.wt + VCArm.wts l
end
theorem VCore.wts_eq (l : List VCore) : VCore.wts l = (l.map VCore.wt).sum := by
  induction l with
  | nil => rfl
  | cons x l ih => simp only [VCore.wts, ih, List.map_cons, List.sum_cons]
theorem VCArm.wts_eq (l : List VCArm) : VCArm.wts l = (l.map VCArm.wt).sum := by
  induction l with
  | nil => rfl
  | cons x l ih => simp only [VCArm.wts, ih, List.map_cons, List.sum_cons]
theorem VCore.wt_eq (x : VCore) : x.wt = x.Text.size + x.Name.size + x.T.wt + (x.Ts.length + (x.Ts.map VTy.wt).sum) + (x.Kids.length + (x.Kids.map VCore.wt).sum) + (x.Arms.length + (x.Arms.map VCArm.wt).sum) := by
  cases x
  simp only [VCore.wt, VCore.wts_eq, VCArm.wts_eq, VCore.Kind, VCore.N, VCore.Num, VCore.Text, VCore.Name, VCore.T, VCore.Ts, VCore.Kids, VCore.Arms]
theorem VCore.facts {l : List VCore} {b : Nat} (h : (l.map VCore.wt).sum ≤ b) : ∀ x ∈ l, x.wt ≤ b ∧ x.wt = x.Text.size + x.Name.size + x.T.wt + (x.Ts.length + (x.Ts.map VTy.wt).sum) + (x.Kids.length + (x.Kids.map VCore.wt).sum) + (x.Arms.length + (x.Arms.map VCArm.wt).sum) := fun x hx => ⟨Nat.le_trans (le_sum VCore.wt hx) h, x.wt_eq⟩
theorem VCArm.wt_eq (x : VCArm) : x.wt = x.P.wt + x.E.wt := by
  cases x
  simp only [VCArm.wt, VCore.wts_eq, VCArm.wts_eq, VCArm.P, VCArm.E]
theorem VCArm.facts {l : List VCArm} {b : Nat} (h : (l.map VCArm.wt).sum ≤ b) : ∀ x ∈ l, x.wt ≤ b ∧ x.wt = x.P.wt + x.E.wt := fun x hx => ⟨Nat.le_trans (le_sum VCArm.wt hx) h, x.wt_eq⟩
inductive VKVal where
  | mk (Kind : Int) (N : Int) (Num : Int) (Text : ByteArray)
def VKVal.Kind : VKVal → Int
  | .mk a _ _ _ => a
def VKVal.N : VKVal → Int
  | .mk _ a _ _ => a
def VKVal.Num : VKVal → Int
  | .mk _ _ a _ => a
def VKVal.Text : VKVal → ByteArray
  | .mk _ _ _ a => a
def VKVal.wt : VKVal → Nat
  | .mk Kind N Num Text => Text.size
theorem VKVal.wt_eq (x : VKVal) : x.wt = x.Text.size := by
  cases x
  simp only [VKVal.wt, VKVal.Kind, VKVal.N, VKVal.Num, VKVal.Text]
theorem VKVal.facts {l : List VKVal} {b : Nat} (h : (l.map VKVal.wt).sum ≤ b) : ∀ x ∈ l, x.wt ≤ b ∧ x.wt = x.Text.size := fun x hx => ⟨Nat.le_trans (le_sum VKVal.wt hx) h, x.wt_eq⟩
inductive VKTerm where
  | mk (Kind : Int) (Name : ByteArray) (N : Int) (Num : Int) (T : VTy) (Ts : List VTy) (Vs : List VKVal) (Kids : List VKTerm)
def VKTerm.Kind : VKTerm → Int
  | .mk a _ _ _ _ _ _ _ => a
def VKTerm.Name : VKTerm → ByteArray
  | .mk _ a _ _ _ _ _ _ => a
def VKTerm.N : VKTerm → Int
  | .mk _ _ a _ _ _ _ _ => a
def VKTerm.Num : VKTerm → Int
  | .mk _ _ _ a _ _ _ _ => a
def VKTerm.T : VKTerm → VTy
  | .mk _ _ _ _ a _ _ _ => a
def VKTerm.Ts : VKTerm → List VTy
  | .mk _ _ _ _ _ a _ _ => a
def VKTerm.Vs : VKTerm → List VKVal
  | .mk _ _ _ _ _ _ a _ => a
def VKTerm.Kids : VKTerm → List VKTerm
  | .mk _ _ _ _ _ _ _ a => a
mutual
def VKTerm.wt : VKTerm → Nat
  | .mk Kind Name N Num T Ts Vs Kids => Name.size + T.wt + (Ts.length + (Ts.map VTy.wt).sum) + (Vs.length + (Vs.map VKVal.wt).sum) + (Kids.length + VKTerm.wts Kids)
def VKTerm.wts : List VKTerm → Nat
  | [] => 0
  | x :: l => x.wt + VKTerm.wts l
end
theorem VKTerm.wts_eq (l : List VKTerm) : VKTerm.wts l = (l.map VKTerm.wt).sum := by
  induction l with
  | nil => rfl
  | cons x l ih => simp only [VKTerm.wts, ih, List.map_cons, List.sum_cons]
theorem VKTerm.wt_eq (x : VKTerm) : x.wt = x.Name.size + x.T.wt + (x.Ts.length + (x.Ts.map VTy.wt).sum) + (x.Vs.length + (x.Vs.map VKVal.wt).sum) + (x.Kids.length + (x.Kids.map VKTerm.wt).sum) := by
  cases x
  simp only [VKTerm.wt, VKTerm.wts_eq, VKTerm.Kind, VKTerm.Name, VKTerm.N, VKTerm.Num, VKTerm.T, VKTerm.Ts, VKTerm.Vs, VKTerm.Kids]
theorem VKTerm.facts {l : List VKTerm} {b : Nat} (h : (l.map VKTerm.wt).sum ≤ b) : ∀ x ∈ l, x.wt ≤ b ∧ x.wt = x.Name.size + x.T.wt + (x.Ts.length + (x.Ts.map VTy.wt).sum) + (x.Vs.length + (x.Vs.map VKVal.wt).sum) + (x.Kids.length + (x.Kids.map VKTerm.wt).sum) := fun x hx => ⟨Nat.le_trans (le_sum VKTerm.wt hx) h, x.wt_eq⟩
inductive VSlot where
  | mk (T : VTy) (Many : Int) (Cont : Bool)
def VSlot.T : VSlot → VTy
  | .mk a _ _ => a
def VSlot.Many : VSlot → Int
  | .mk _ a _ => a
def VSlot.Cont : VSlot → Bool
  | .mk _ _ a => a
def VSlot.wt : VSlot → Nat
  | .mk T Many Cont => T.wt
theorem VSlot.wt_eq (x : VSlot) : x.wt = x.T.wt := by
  cases x
  simp only [VSlot.wt, VSlot.T, VSlot.Many, VSlot.Cont]
theorem VSlot.facts {l : List VSlot} {b : Nat} (h : (l.map VSlot.wt).sum ≤ b) : ∀ x ∈ l, x.wt ≤ b ∧ x.wt = x.T.wt := fun x hx => ⟨Nat.le_trans (le_sum VSlot.wt hx) h, x.wt_eq⟩
inductive VBlock where
  | mk (Vars : Int) (Caps : List VSlot) (Cont : Bool) (T : VTy) (Body : VKTerm)
def VBlock.Vars : VBlock → Int
  | .mk a _ _ _ _ => a
def VBlock.Caps : VBlock → List VSlot
  | .mk _ a _ _ _ => a
def VBlock.Cont : VBlock → Bool
  | .mk _ _ a _ _ => a
def VBlock.T : VBlock → VTy
  | .mk _ _ _ a _ => a
def VBlock.Body : VBlock → VKTerm
  | .mk _ _ _ _ a => a
def VBlock.wt : VBlock → Nat
  | .mk Vars Caps Cont T Body => (Caps.length + (Caps.map VSlot.wt).sum) + T.wt + Body.wt
theorem VBlock.wt_eq (x : VBlock) : x.wt = (x.Caps.length + (x.Caps.map VSlot.wt).sum) + x.T.wt + x.Body.wt := by
  cases x
  simp only [VBlock.wt, VBlock.Vars, VBlock.Caps, VBlock.Cont, VBlock.T, VBlock.Body]
theorem VBlock.facts {l : List VBlock} {b : Nat} (h : (l.map VBlock.wt).sum ≤ b) : ∀ x ∈ l, x.wt ≤ b ∧ x.wt = (x.Caps.length + (x.Caps.map VSlot.wt).sum) + x.T.wt + x.Body.wt := fun x hx => ⟨Nat.le_trans (le_sum VBlock.wt hx) h, x.wt_eq⟩
inductive VBProg where
  | mk (Blocks : List VBlock) (Main : VKTerm)
def VBProg.Blocks : VBProg → List VBlock
  | .mk a _ => a
def VBProg.Main : VBProg → VKTerm
  | .mk _ a => a
def VBProg.wt : VBProg → Nat
  | .mk Blocks Main => (Blocks.length + (Blocks.map VBlock.wt).sum) + Main.wt
theorem VBProg.wt_eq (x : VBProg) : x.wt = (x.Blocks.length + (x.Blocks.map VBlock.wt).sum) + x.Main.wt := by
  cases x
  simp only [VBProg.wt, VBProg.Blocks, VBProg.Main]
theorem VBProg.facts {l : List VBProg} {b : Nat} (h : (l.map VBProg.wt).sum ≤ b) : ∀ x ∈ l, x.wt ≤ b ∧ x.wt = (x.Blocks.length + (x.Blocks.map VBlock.wt).sum) + x.Main.wt := fun x hx => ⟨Nat.le_trans (le_sum VBProg.wt hx) h, x.wt_eq⟩
inductive VInstr where
  | mk (Op : Int) (A : Int) (B : Int) (C : Int) (N : Int) (Text : ByteArray)
def VInstr.Op : VInstr → Int
  | .mk a _ _ _ _ _ => a
def VInstr.A : VInstr → Int
  | .mk _ a _ _ _ _ => a
def VInstr.B : VInstr → Int
  | .mk _ _ a _ _ _ => a
def VInstr.C : VInstr → Int
  | .mk _ _ _ a _ _ => a
def VInstr.N : VInstr → Int
  | .mk _ _ _ _ a _ => a
def VInstr.Text : VInstr → ByteArray
  | .mk _ _ _ _ _ a => a
def VInstr.wt : VInstr → Nat
  | .mk Op A B C N Text => Text.size
theorem VInstr.wt_eq (x : VInstr) : x.wt = x.Text.size := by
  cases x
  simp only [VInstr.wt, VInstr.Op, VInstr.A, VInstr.B, VInstr.C, VInstr.N, VInstr.Text]
theorem VInstr.facts {l : List VInstr} {b : Nat} (h : (l.map VInstr.wt).sum ≤ b) : ∀ x ∈ l, x.wt ≤ b ∧ x.wt = x.Text.size := fun x hx => ⟨Nat.le_trans (le_sum VInstr.wt hx) h, x.wt_eq⟩
inductive VCode where
  | mk (Instrs : List VInstr) (Starts : List Int)
def VCode.Instrs : VCode → List VInstr
  | .mk a _ => a
def VCode.Starts : VCode → List Int
  | .mk _ a => a
def VCode.wt : VCode → Nat
  | .mk Instrs Starts => (Instrs.length + (Instrs.map VInstr.wt).sum) + Starts.length
theorem VCode.wt_eq (x : VCode) : x.wt = (x.Instrs.length + (x.Instrs.map VInstr.wt).sum) + x.Starts.length := by
  cases x
  simp only [VCode.wt, VCode.Instrs, VCode.Starts]
theorem VCode.facts {l : List VCode} {b : Nat} (h : (l.map VCode.wt).sum ≤ b) : ∀ x ∈ l, x.wt ≤ b ∧ x.wt = (x.Instrs.length + (x.Instrs.map VInstr.wt).sum) + x.Starts.length := fun x hx => ⟨Nat.le_trans (le_sum VCode.wt hx) h, x.wt_eq⟩
inductive VEvent where
  | mk (At : Int) (Room : Int) (Put : Int)
def VEvent.At : VEvent → Int
  | .mk a _ _ => a
def VEvent.Room : VEvent → Int
  | .mk _ a _ => a
def VEvent.Put : VEvent → Int
  | .mk _ _ a => a
def VEvent.wt : VEvent → Nat
  | .mk At Room Put => 0
theorem VEvent.wt_eq (x : VEvent) : x.wt = 0 := by
  cases x
  simp only [VEvent.wt, VEvent.At, VEvent.Room, VEvent.Put]
theorem VEvent.facts {l : List VEvent} {b : Nat} (h : (l.map VEvent.wt).sum ≤ b) : ∀ x ∈ l, x.wt ≤ b ∧ x.wt = 0 := fun x hx => ⟨Nat.le_trans (le_sum VEvent.wt hx) h, x.wt_eq⟩
end Go.Ab
/-
  THE FUNCTIONS OF PACKAGE slices, once for all element types; loops with what holds at each round.
-/
namespace Go.Ab
set_option maxRecDepth 100000
section
variable {P : Program} {L : AX → SS → List AV → Prop} {R : AV → Prop} {t : T} {r : List AV} {S : List (List AV → Prop)}
/-- a loop that counts up, with what holds at each round -/
theorem loop_inv {init : List AV} (n : Nat) (I : Nat → Prop) (σ : Nat → List AV) (h0 : init = σ 0) (hI : I 0)
    (hr : ∀ i, i ≤ n → I i → wpT P L R t (r ++ σ i) ((fun vs => i < n ∧ I (i + 1) ∧ vs = σ (i + 1)) :: S)) : loopT P L R init t r S := by
  refine loop_intro (ι := Nat) (fun i => i ≤ n ∧ I i) σ (fun i => n - i) 0 ⟨Nat.zero_le _, hI⟩ h0 fun i hi => ?_
  refine wpT_mono (fun _ _ _ h => h) (fun _ h => h) t (.cons (fun vs hv => ?_) (.refl _)) (hr i hi.1 hi.2)
  exact ⟨i + 1, ⟨hv.1, hv.2.1⟩, by have := hv.1; omega, hv.2.2⟩
end
theorem dropC {α : Type} {l : List α} {i : Nat} (h : i < l.length) : l.drop i = l[i] :: l.drop (i + 1) := List.drop_eq_getElem_cons h
theorem dropE {α : Type} (l : List α) : l.drop l.length = [] := List.drop_length
/-- the first place from k on that passes -/
def idxR {α : Type} (p : α → Bool) : List α → Nat → Int
  | [], _ => -1
  | x :: r, k => if p x = true then (k : Int) else idxR p r (k + 1)
theorem idxR_any {α : Type} (p : α → Bool) : ∀ (l : List α) (k : Nat), decide (0 ≤ idxR p l k) = l.any p
  | [], _ => by simp [idxR]
  | x :: r, k => by
    unfold idxR
    by_cases h : p x = true
    · simp [h]
    · simp only [h, List.any_cons]; rw [if_neg (by simp), idxR_any p r (k + 1)]; simp
def TidxF (s : Nat) : T :=
.bind 0 (
 .op (.lenL (.x 0)) (
 .loop [(.c (.v (.int .i64 0)))] (
  .op (.bin .lss (.x 3) (.x 2)) (
  .ite (.x 4)
   (.op (.elem s (.x 0) (.x 3)) (
   .chk (.cells (.x 5) s) (
   .op (.callv (.x 1) [(.x 5)] false) (
   .ite (.x 6)
    (.esc (.esc (.ret [(.x 3)])))
    (.op (.bin .add (.x 3) (.c (.v (.int .i64 1)))) (
    .jump [(.x 7)]))))))
   (.esc (.jump [])))))) (
.ret [(.c (.v (.int .i64 (-1))))])
theorem idxF_T {P : Program} {L : AX → SS → List AV → Prop} {α : Type} {av : α → AV} {s : Nat} {g : FuncId} {caps : List AV} {l : List α} (p : α → Bool) (hs : ∀ x, (av x).isAgg = true ∧ (av x).cells.length = s ∧ (av x).storable = true)
    (hl : l.length ≤ 1073741824) (hc : ∀ x ∈ l, PCon P g (av x :: caps) (.v (.bool (p x)))) :
    wpT P L (fun a => a = .v (.int .i64 (idxR p l 0))) (TidxF s) [.sl (l.map av), .fn g caps] [] := by
  simp only [TidxF, WA, Nat.reduceEqDiff, Nat.reduceAdd, Nat.reduceLT, Nat.reduceLeDiff, Nat.reduceMul, reduceIte, reduceCtorEq, Int.reduceEq, Int.reduceLT, Int.reduceLE, Int.reduceNe]
  refine bind_push ?_
  simp only [WA, Nat.reduceEqDiff, Nat.reduceAdd, Nat.reduceLT, Nat.reduceLeDiff, Nat.reduceMul, reduceIte, reduceCtorEq, Int.reduceEq, Int.reduceLT, Int.reduceLE, Int.reduceNe]
  refine loop_inv l.length (fun i => idxR p l 0 = idxR p (l.drop i) i) (fun i => [.v (.int .i64 i)]) rfl rfl fun i hi hI => ?_
  simp only [WA, Nat.reduceEqDiff, Nat.reduceAdd, Nat.reduceLT, Nat.reduceLeDiff, Nat.reduceMul, reduceIte, reduceCtorEq, Int.reduceEq, Int.reduceLT, Int.reduceLE, Int.reduceNe]
  refine ite_dec (fun h => ?_) (fun h => ?_)
  · have hlt : i < l.length := by omega
    obtain ⟨x1, x2, x3⟩ := hs l[i]
    rw [dropC hlt, idxR] at hI
    simp only [WA, Nat.reduceEqDiff, Nat.reduceAdd, Nat.reduceLT, Nat.reduceLeDiff, Nat.reduceMul, reduceIte, reduceCtorEq, Int.reduceEq, Int.reduceLT, Int.reduceLE, Int.reduceNe]
    refine elemM av hlt x2 ?_
    simp only [x1, x2, x3, WA, Nat.reduceEqDiff, Nat.reduceAdd, Nat.reduceLT, Nat.reduceLeDiff, Nat.reduceMul, reduceIte, reduceCtorEq, Int.reduceEq, Int.reduceLT, Int.reduceLE, Int.reduceNe]
    refine call_v (hc _ (List.getElem_mem hlt)) ?_
    simp only [WA, Nat.reduceEqDiff, Nat.reduceAdd, Nat.reduceLT, Nat.reduceLeDiff, Nat.reduceMul, reduceIte, reduceCtorEq, Int.reduceEq, Int.reduceLT, Int.reduceLE, Int.reduceNe]
    refine ite_intro (fun h => ?_) (fun h => ?_)
    · simp only [h, if_pos] at hI
      simp only [hI, WA, Nat.reduceEqDiff, Nat.reduceAdd, Nat.reduceLT, Nat.reduceLeDiff, Nat.reduceMul, reduceIte, reduceCtorEq, Int.reduceEq, Int.reduceLT, Int.reduceLE, Int.reduceNe]
    · simp only [h] at hI
      simp (disch := omega) only [wrapA1, WA, Nat.reduceEqDiff, Nat.reduceAdd, Nat.reduceLT, Nat.reduceLeDiff, Nat.reduceMul, reduceIte, reduceCtorEq, Int.reduceEq, Int.reduceLT, Int.reduceLE, Int.reduceNe]
      exact ⟨hlt, by simpa using hI⟩
  · have he : i = l.length := by omega
    subst he
    rw [dropE, idxR] at hI
    simp only [hI, WA, Nat.reduceEqDiff, Nat.reduceAdd, Nat.reduceLT, Nat.reduceLeDiff, Nat.reduceMul, reduceIte, reduceCtorEq, Int.reduceEq, Int.reduceLT, Int.reduceLE, Int.reduceNe]
def TanyF (f : FuncId) (fl : Bool) : T :=
.op (.call f [(.x 0), (.x 1)] fl) (
.op (.bin .geq (.x 2) (.c (.v (.int .i64 0)))) (
.ret [(.x 3)]))
theorem anyF_T {fl : Bool} {P : Program} {L : AX → SS → List AV → Prop} {α : Type} {a b : AV} {f : FuncId} {l : List α} {p : α → Bool} (hc : PCon P f [a, b] (.v (.int .i64 (idxR p l 0)))) :
    wpT P L (fun r => r = .v (.bool (l.any p))) (TanyF f fl) [a, b] [] := by
  simp only [TanyF, WA, Nat.reduceEqDiff, Nat.reduceAdd, Nat.reduceLT, Nat.reduceLeDiff, Nat.reduceMul, reduceIte, reduceCtorEq, Int.reduceEq, Int.reduceLT, Int.reduceLE, Int.reduceNe]
  refine call_v hc ?_
  simp only [idxR_any, WA, Nat.reduceEqDiff, Nat.reduceAdd, Nat.reduceLT, Nat.reduceLeDiff, Nat.reduceMul, reduceIte, reduceCtorEq, Int.reduceEq, Int.reduceLT, Int.reduceLE, Int.reduceNe]
def TidxE : T :=
.bind 0 (
 .op (.lenL (.x 0)) (
 .loop [(.c (.v (.int .i64 0)))] (
  .op (.bin .lss (.x 3) (.x 2)) (
  .ite (.x 4)
   (.op (.elem 1 (.x 0) (.x 3)) (
   .chk (.lt (.x 5) 0) (
   .op (.bin .eql (.x 1) (.cell 5 0)) (
   .ite (.x 6)
    (.esc (.esc (.ret [(.x 3)])))
    (.op (.bin .add (.x 3) (.c (.v (.int .i64 1)))) (
    .jump [(.x 7)]))))))
   (.esc (.jump [])))))) (
.ret [(.c (.v (.int .i64 (-1))))])
theorem idxE_T {P : Program} {L : AX → SS → List AV → Prop} {α : Type} [DecidableEq α] {g : α → Value} {l : List α} {x : α} (hg : ∀ (x y : α) (K : AV → Prop), goT K (.v (.bool (decide (x = y)))) → binT .eql (.v (g x)) (.v (g y)) K)
    (hl : l.length ≤ 1073741824) : wpT P L (fun a => a = .v (.int .i64 (idxR (fun y => decide (x = y)) l 0))) TidxE [.sl (l.map fun y => .v (g y)), .v (g x)] [] := by
  simp only [TidxE, WA, Nat.reduceEqDiff, Nat.reduceAdd, Nat.reduceLT, Nat.reduceLeDiff, Nat.reduceMul, reduceIte, reduceCtorEq, Int.reduceEq, Int.reduceLT, Int.reduceLE, Int.reduceNe]
  refine bind_push ?_
  simp only [WA, Nat.reduceEqDiff, Nat.reduceAdd, Nat.reduceLT, Nat.reduceLeDiff, Nat.reduceMul, reduceIte, reduceCtorEq, Int.reduceEq, Int.reduceLT, Int.reduceLE, Int.reduceNe]
  refine loop_inv l.length (fun i => idxR (fun y => decide (x = y)) l 0 = idxR (fun y => decide (x = y)) (l.drop i) i) (fun i => [.v (.int .i64 i)]) rfl rfl fun i hi hI => ?_
  simp only [WA, Nat.reduceEqDiff, Nat.reduceAdd, Nat.reduceLT, Nat.reduceLeDiff, Nat.reduceMul, reduceIte, reduceCtorEq, Int.reduceEq, Int.reduceLT, Int.reduceLE, Int.reduceNe]
  refine ite_dec (fun h => ?_) (fun h => ?_)
  · have hlt : i < l.length := by omega
    rw [dropC hlt, idxR] at hI
    simp only [WA, Nat.reduceEqDiff, Nat.reduceAdd, Nat.reduceLT, Nat.reduceLeDiff, Nat.reduceMul, reduceIte, reduceCtorEq, Int.reduceEq, Int.reduceLT, Int.reduceLE, Int.reduceNe]
    refine elemM (fun y => .v (g y)) hlt rfl ?_
    simp only [WA, Nat.reduceEqDiff, Nat.reduceAdd, Nat.reduceLT, Nat.reduceLeDiff, Nat.reduceMul, reduceIte, reduceCtorEq, Int.reduceEq, Int.reduceLT, Int.reduceLE, Int.reduceNe]
    refine hg _ _ _ ?_
    simp only [WA, Nat.reduceEqDiff, Nat.reduceAdd, Nat.reduceLT, Nat.reduceLeDiff, Nat.reduceMul, reduceIte, reduceCtorEq, Int.reduceEq, Int.reduceLT, Int.reduceLE, Int.reduceNe]
    refine ite_dec (fun h => ?_) (fun h => ?_)
    · rw [if_pos (decide_eq_true h)] at hI
      simp only [hI, WA, Nat.reduceEqDiff, Nat.reduceAdd, Nat.reduceLT, Nat.reduceLeDiff, Nat.reduceMul, reduceIte, reduceCtorEq, Int.reduceEq, Int.reduceLT, Int.reduceLE, Int.reduceNe]
    · rw [if_neg (by simpa using h)] at hI
      simp (disch := omega) only [wrapA1, WA, Nat.reduceEqDiff, Nat.reduceAdd, Nat.reduceLT, Nat.reduceLeDiff, Nat.reduceMul, reduceIte, reduceCtorEq, Int.reduceEq, Int.reduceLT, Int.reduceLE, Int.reduceNe]
      exact ⟨hlt, hI⟩
  · have he : i = l.length := by omega
    subst he
    rw [dropE, idxR] at hI
    simp only [hI, WA, Nat.reduceEqDiff, Nat.reduceAdd, Nat.reduceLT, Nat.reduceLeDiff, Nat.reduceMul, reduceIte, reduceCtorEq, Int.reduceEq, Int.reduceLT, Int.reduceLE, Int.reduceNe]
theorem eqlS (x y : ByteArray) (K : AV → Prop) (h : goT K (.v (.bool (decide (x = y))))) : binT .eql (.v (.string x)) (.v (.string y)) K := by rw [b_seql]; exact h
end Go.Ab
/-
  LOOPS OVER LISTS AND BYTES: what is left is what the list's rest asks.
-/
namespace Go.Ab
set_option maxRecDepth 100000
theorem not_any {α : Type} (p : α → Bool) (l : List α) : (!(l.any fun y => !p y)) = l.all p := by
  induction l with
  | nil => rfl
  | cons x l ih => simp only [List.any_cons, List.all_cons, ← ih]; cases p x <;> simp
theorem avb {a b : Bool} (h : a = true ↔ b = true) : AV.v (.bool a) = AV.v (.bool b) := by rw [Bool.eq_iff_iff.2 h]
section
variable {P : Program} {L : AX → SS → List AV → Prop} {R : AV → Prop} {t : T} {r : List AV} {S : List (List AV → Prop)}
/-- a loop over a list: G tells what is still asked, of the rest and of what is kept -/
theorem loop_list {α β : Type} {init : List AV} (l : List α) (σ : Nat → β → List AV) (G : Nat → List α → β → Prop) (b0 : β) (h0 : init = σ 0 b0) (hG : G 0 l b0)
    (hc : ∀ (i : Nat) (x : α) (rest : List α) (b : β), i < l.length → l[i]? = some x → x ∈ l → (∀ (f : α → AV) (s : Nat) (k : IntKind) (K : AV → Prop), (f x).cells.length = s → elemP s (.sl (l.map f)) (.v (.int k (i : Int))) K = goT K (f x)) →
      decide ((i : Int) < (l.length : Int)) = true → G i (x :: rest) b → wpT P L R t (r ++ σ i b) ((fun vs => i < l.length ∧ ∃ b', G (i + 1) rest b' ∧ vs = σ (i + 1) b') :: S))
    (he : ∀ b, decide ((l.length : Int) < (l.length : Int)) = false → G l.length [] b → wpT P L R t (r ++ σ l.length b) ((fun _ => False) :: S)) : loopT P L R init t r S := by
  refine loop_intro (ι := Nat × β) (fun q => q.1 ≤ l.length ∧ G q.1 (l.drop q.1) q.2) (fun q => σ q.1 q.2) (fun q => l.length - q.1) (0, b0) ⟨Nat.zero_le _, hG⟩ h0 fun q hq => ?_
  obtain ⟨i, b⟩ := q
  obtain ⟨hi, hg⟩ := hq
  rcases Nat.lt_or_ge i l.length with h | h
  · have hg : G i (l[i] :: l.drop (i + 1)) b := by rw [← dropC h]; exact hg
    refine wpT_mono (fun _ _ _ h => h) (fun _ h => h) t (.cons (fun vs hv => ?_) (.refl _)) (hc i l[i] (l.drop (i + 1)) b h (List.getElem?_eq_getElem h) (List.getElem_mem h) (fun f s k K hs => ?_) (by simp; exact h) hg)
    · obtain ⟨_, b', h1, h2⟩ := hv
      exact ⟨(i + 1, b'), ⟨h, h1⟩, by simp only; omega, h2⟩
    · unfold elemP
      have hx : (l.map f).getD (Int.toNat (i : Int)) .top = f l[i] := by simp [List.getD, h]
      simp only [hx, hs, true_and, goT]
      exact propext ⟨fun q => q.2.2, fun q => ⟨Int.natCast_nonneg i, by simp; exact h, q⟩⟩
  · have he' : i = l.length := by simp only at hi; omega
    subst he'
    have hg : G l.length [] b := by simpa using hg
    refine wpT_mono (fun _ _ _ h => h) (fun _ h => h) t (.cons (fun vs hv => hv.elim) (.refl _)) (he b (by simp) hg)
/-- a string's bytes -/
def bs (s : ByteArray) : List Int := s.data.toList.map fun b => (b.toNat : Int)
theorem bs_len (s : ByteArray) : (bs s).length = s.size := by simp [bs]
theorem bs_range {s : ByteArray} {c : Int} (h : c ∈ bs s) : 0 ≤ c ∧ c < 256 := by
  simp only [bs, List.mem_map] at h
  obtain ⟨b, _, rfl⟩ := h
  exact ⟨by omega, by have := b.toNat_lt; omega⟩
theorem idxB {s : ByteArray} {i : Nat} {k : IntKind} {K : AV → Prop} (h : i < (bs s).length) (hk : goT K (.v (.int .u8 (bs s)[i]))) : idxT (.v (.string s)) (.v (.int k (i : Int))) K := by
  rw [i_idx]
  have hl := bs_len s
  refine ⟨by omega, by omega, ?_⟩
  have : (((s.data.toList.getD (Int.toNat (i : Int)) 0).toNat : Nat) : Int) = (bs s)[i] := by
    simp only [bs, Int.toNat_natCast, List.getElem_map, List.getD]
    have h1 : i < s.data.toList.length := by simpa [bs] using h
    rw [List.getElem?_eq_getElem h1]; rfl
  rw [this]; exact hk
theorem wrap8 {c : Int} (h : 0 ≤ c) (h' : c < 256) : IntKind.i64.wrap c = c := wrapI (by omega) (by omega)
end
/- functions whose code the walk does not cover, by contracts in the model's own words -/
end Go.Ab
/-
  AN ELEMENT AT A PLACE THAT IS KNOWN.
-/
namespace Go.Ab
set_option maxRecDepth 100000
end Go.Ab
/-
  TREES OF ONE's OWN IN THE LAWS' HELPERS: rows of elements whose slices have names; toXS; what a walk needs for marks.
-/
namespace Go.Ab
set_option maxRecDepth 100000
/- LISTS -/
theorem mid_get {α : Type} {B R : List α} {y d : α} {i : Nat} (h : B.length = i) : (B ++ y :: R).getD i d = y := by
  subst h; simp [List.getD]
theorem mid_set {α : Type} {B R : List α} {y z : α} {i : Nat} (h : B.length = i) : (B ++ y :: R).set i z = B ++ z :: R := by
  subst h; simp
theorem mid_getO {α : Type} {x y : α} {B R : List α} {i : Nat} (h : B.length + 1 = i) : (x :: (B ++ y :: R))[i]? = some y := by
  subst h; simp
theorem mid_setO {α : Type} {x y z : α} {B R : List α} {i : Nat} (h : B.length + 1 = i) : (x :: (B ++ y :: R)).set i z = x :: ((B ++ [z]) ++ R) := by
  subst h; simp
/- SPLITS -/
theorem sp_length : ∀ (n : Nat) (cs : List AV), (sp n cs).1.length = cs.length
  | n, [] => rfl
  | n, c :: cs => by cases c <;> simp [sp, sp_length]
theorem sp_count : ∀ (n m : Nat) (cs : List AV), (sp n cs).2 = (sp m cs).2
  | n, m, [] => rfl
  | n, m, c :: cs => by
    cases c <;> simp only [sp] <;> first | exact sp_count n m cs | rw [sp_count (n + 1) (m + 1) cs]
theorem spx_count (n m : Nat) (x : AV) : (spx n x).2 = (spx m x).2 := by
  cases x <;> simp only [spx]
  exact sp_count n m _
theorem spl_length : ∀ (n : Nat) (xs : List AV), (spl n xs).1.length = xs.length
  | n, [] => rfl
  | n, x :: xs => by simp [spl, spl_length]
theorem spl_snoc : ∀ (n : Nat) (xs : List AV) (x : AV), spl n (xs ++ [x]) = ((spl n xs).1 ++ [(spx (n + (spl n xs).2.length) x).1], (spl n xs).2 ++ (spx 0 x).2)
  | n, [], x => by simp [spl, spx_count n 0 x]
  | n, y :: xs, x => by
    simp only [List.cons_append, spl, spl_snoc _ xs x, List.length_append, List.append_assoc, Nat.add_assoc]
/-- its slices alone -/
def slc : List AV → List AV
  | [] => []
  | .v _ :: r => slc r
  | a :: r => a :: slc r
theorem sp_objs : ∀ (n : Nat) (cs : List AV), (sp n cs).2 = (slc cs).map AObj.own
  | n, [] => rfl
  | n, c :: cs => by cases c <;> simp [sp, slc, sp_objs]
theorem sp_ren (b : Nat) : ∀ (n : Nat) (cs : List AV), (sp n cs).1.map (AV.ren fun k => b + k) = (sp (b + n) cs).1
  | n, [] => rfl
  | n, c :: cs => by
    cases c <;> simp only [sp, List.map_cons, AV.ren, sp_ren b, Nat.add_assoc]
theorem spx_ren (b n : Nat) (x : AV) : (spx n x).1.ren (fun k => b + k) = (spx (b + n) x).1 := by
  cases x <;> simp only [spx, AV.ren, rens_eq, sp_ren]
theorem spx_own (n : Nat) (x : AV) : ∀ ob ∈ (spx n x).2, ∃ d, ob = .own d := by
  intro ob h
  cases x <;> simp only [spx] at h
  case agg cs =>
    rw [sp_objs] at h
    obtain ⟨d, _, rfl⟩ := List.mem_map.1 h
    exact ⟨d, rfl⟩
  all_goals first | (simp at h; done) | (simp at h; exact ⟨_, h⟩)
theorem spl_own : ∀ (n : Nat) (xs : List AV), ∀ ob ∈ (spl n xs).2, ∃ d, ob = .own d
  | n, [], ob, h => by simp [spl] at h
  | n, x :: xs, ob, h => by
    simp only [spl, List.mem_append] at h
    rcases h with h | h
    · exact spx_own n x ob h
    · exact spl_own _ xs ob h
theorem own_ren {s : Nat → Nat} {l : List AObj} (h : ∀ ob ∈ l, ∃ d, ob = .own d) : l.map (AObj.ren s) = l := by
  induction l with
  | nil => rfl
  | cons a l ih =>
    obtain ⟨d, rfl⟩ := h a (by simp)
    simp only [List.map_cons, AObj.ren, ih fun ob ho => h ob (by simp [ho])]
/-- cell j of the split: the value itself, or the next name -/
theorem sp_at : ∀ (n : Nat) (cs : List AV) (j : Nat) (c d : AV), (sp n cs).1[j]? = some c → cs[j]? = some d → (c = d ∧ ∃ v, d = .v v) ∨ ∃ k, c = .own (n + k) ∧ (sp n cs).2[k]? = some (.own d)
  | n, [], j, c, d, _, h => by simp at h
  | n, a :: cs, 0, c, d, hc, hd => by
    simp at hd; subst hd
    cases a <;> simp [sp] at hc <;> subst hc <;> first | exact .inl ⟨rfl, _, rfl⟩ | exact .inr ⟨0, rfl, rfl⟩
  | n, a :: cs, j + 1, c, d, hc, hd => by
    simp at hd
    cases a <;> simp [sp] at hc
    case v x => exact sp_at n cs j c d hc hd
    all_goals
      rcases sp_at (n + 1) cs j c d hc hd with h | ⟨k, rfl, hk⟩
      · exact .inl h
      · exact .inr ⟨k + 1, by congr 1; omega, by simpa [sp] using hk⟩
/-- each name stands at one place -/
theorem sp_inj : ∀ (n : Nat) (cs : List AV) (j j' k : Nat), (sp n cs).1[j]? = some (.own k) → (sp n cs).1[j']? = some (.own k) → (∀ c ∈ cs, ∀ m, c ≠ .own m) → n ≤ k ∧ k < n + (sp n cs).2.length ∧ j = j'
  | n, [], j, j', k, h, _, _ => by simp [sp] at h
  | n, a :: cs, j, j', k, h, h', hn => by
    have ih := fun n' j1 j2 h1 h2 => sp_inj n' cs j1 j2 k h1 h2 (fun c hc => hn c (by simp [hc]))
    cases a
    case v x =>
      cases j with
      | zero => simp [sp] at h
      | succ j =>
        cases j' with
        | zero => simp [sp] at h'
        | succ j' =>
          simp only [sp, List.getElem?_cons_succ] at h h'
          obtain ⟨h1, h2, h3⟩ := ih n j j' h h'
          exact ⟨h1, by simpa [sp] using h2, by omega⟩
    case own m => exact (hn (.own m) (by simp) m rfl).elim
    all_goals
      cases j with
      | zero =>
        simp [sp] at h
        subst h
        cases j' with
        | zero => exact ⟨Nat.le_refl _, by simp [sp], rfl⟩
        | succ j' =>
          simp only [sp, List.getElem?_cons_succ] at h'
          have := (ih (n + 1) j' j' h' h').1
          omega
      | succ j =>
        simp only [sp, List.getElem?_cons_succ] at h
        cases j' with
        | zero =>
          simp [sp] at h'
          subst h'
          have := (ih (n + 1) j j h h).1
          omega
        | succ j' =>
          simp only [sp, List.getElem?_cons_succ] at h'
          obtain ⟨h1, h2, h3⟩ := ih (n + 1) j j' h h'
          exact ⟨by omega, by simp only [sp, List.length_cons]; omega, by omega⟩
/-- each name has its place -/
theorem sp_cov : ∀ (n : Nat) (cs : List AV) (k : Nat) (d : AV), (sp n cs).2[k]? = some (.own d) → ∃ j : Nat, (sp n cs).1[j]? = some (AV.own (n + k)) ∧ cs[j]? = some d
  | n, [], k, d, h => by simp [sp] at h
  | n, a :: cs, k, d, h => by
    cases a <;> simp only [sp] at h ⊢
    case v x =>
      obtain ⟨j, h1, h2⟩ := sp_cov n cs k d h
      exact ⟨j + 1, by simpa using h1, by simpa using h2⟩
    all_goals
      cases k with
      | zero => simp at h; exact ⟨0, by simp, by simp [h]⟩
      | succ k =>
        obtain ⟨j, h1, h2⟩ := sp_cov (n + 1) cs k d (by simpa using h)
        exact ⟨j + 1, by simp only [List.getElem?_cons_succ]; rw [h1]; congr 2; omega, by simpa using h2⟩
/-- an element that may lie in a row -/
def AV.elem (x : AV) : Bool := x.isAgg && x.storable && x.noref
theorem spx_agg {x : AV} (h : x.isAgg = true) (n : Nat) : spx n x = (.agg (sp n x.cells).1, (sp n x.cells).2) := by
  cases x <;> first | rfl | (simp [AV.isAgg] at h; done)
theorem noref_own {x : AV} (h : x.noref = true) : ∀ c ∈ x.cells, ∀ m, c ≠ .own m := by
  intro c hc m e
  subst e
  have := noref_cells h _ hc
  simp [AV.noref] at this
theorem spl_at : ∀ (n : Nat) (xs : List AV) (i : Nat) (y : AV), (spl n xs).1[i]? = some y → ∃ m x, xs[i]? = some x ∧ y = (spx (n + m) x).1 ∧ m + (spx 0 x).2.length ≤ (spl n xs).2.length ∧ ∀ k d, (spx 0 x).2[k]? = some (.own d) → (spl n xs).2[m + k]? = some (.own d)
  | n, [], i, y, h => by simp [spl] at h
  | n, x :: xs, 0, y, h => by
    simp [spl] at h; subst h
    refine ⟨0, x, rfl, rfl, by simp [spl, spx_count n 0 x], fun k d hk => ?_⟩
    simp only [spl, spx_count n 0 x, Nat.zero_add]
    rw [List.getElem?_append_left (List.getElem?_eq_some_iff.1 hk).1, hk]
  | n, x :: xs, i + 1, y, h => by
    simp only [spl, List.getElem?_cons_succ] at h
    obtain ⟨m, x', h1, h2, h3, h4⟩ := spl_at _ xs i y h
    refine ⟨(spx n x).2.length + m, x', by simpa using h1, by rw [h2, Nat.add_assoc], by simp only [spl, List.length_append]; omega, fun k d hk => ?_⟩
    simp only [spl]
    rw [List.getElem?_append_right (by omega), show (spx n x).2.length + m + k - (spx n x).2.length = m + k by omega]
    exact h4 k d hk
theorem spl_inj : ∀ (n : Nat) (xs : List AV) (i : Nat) (y : AV) (j i' : Nat) (y' : AV) (j' k : Nat), (∀ x ∈ xs, x.elem = true) → (spl n xs).1[i]? = some y → y.cells[j]? = some (.own k) → (spl n xs).1[i']? = some y' → y'.cells[j']? = some (.own k) → n ≤ k ∧ i = i' ∧ j = j'
  | n, [], i, y, j, i', y', j', k, _, h, _, _, _ => by simp [spl] at h
  | n, x :: xs, i, y, j, i', y', j', k, he, h1, h2, h3, h4 => by
    have hx := he x (by simp)
    simp only [AV.elem, Bool.and_eq_true] at hx
    obtain ⟨⟨ha, _⟩, hn⟩ := hx
    have hno := noref_own hn
    have q := spx_agg ha n
    have ih := fun i y j i' y' j' => spl_inj (n + (spx n x).2.length) xs i y j i' y' j' k (fun z hz => he z (by simp [hz]))
    cases i with
    | zero =>
      simp only [spl, List.getElem?_cons_zero, Option.some.injEq] at h1
      subst h1
      rw [q] at h2
      have hk := sp_inj n x.cells j j k (by simpa [AV.cells] using h2) (by simpa [AV.cells] using h2) hno
      cases i' with
      | zero =>
        simp only [spl, List.getElem?_cons_zero, Option.some.injEq] at h3
        subst h3
        rw [q] at h4
        have := sp_inj n x.cells j j' k (by simpa [AV.cells] using h2) (by simpa [AV.cells] using h4) hno
        exact ⟨this.1, rfl, this.2.2⟩
      | succ i' =>
        simp only [spl, List.getElem?_cons_succ] at h3
        have := (ih i' y' j' i' y' j' h3 h4 h3 h4).1
        rw [q] at this
        have := hk.2.1
        first | omega | (simp only at *; omega)
    | succ i =>
      simp only [spl, List.getElem?_cons_succ] at h1
      cases i' with
      | zero =>
        simp only [spl, List.getElem?_cons_zero, Option.some.injEq] at h3
        subst h3
        rw [q] at h4
        have hk := sp_inj n x.cells j' j' k (by simpa [AV.cells] using h4) (by simpa [AV.cells] using h4) hno
        have := (ih i y j i y j h1 h2 h1 h2).1
        rw [q] at this
        have := hk.2.1
        first | omega | (simp only at *; omega)
      | succ i' =>
        simp only [spl, List.getElem?_cons_succ] at h3
        obtain ⟨h5, h6, h7⟩ := ih i y j i' y' j' h1 h2 h3 h4
        exact ⟨by omega, by omega, h7⟩
theorem spl_split {xs : List AV} (he : ∀ x ∈ xs, x.elem = true) (ob : AObj) : Split (ob :: (spl 1 xs).2) (spl 1 xs).1 xs := by
  refine ⟨spl_length 1 xs, fun i y x hy hx => ?_, fun i y x j c d hy hx hc hd => ?_, fun i y j i' y' j' k h1 h2 h3 h4 => (spl_inj 1 xs i y j i' y' j' k he h1 h2 h3 h4).2⟩
  · obtain ⟨m, x', h1, rfl, _⟩ := spl_at 1 xs i y hy
    rw [hx] at h1; cases h1
    have hxe := he x (List.mem_of_getElem? hx)
    simp only [AV.elem, Bool.and_eq_true] at hxe
    rw [spx_agg hxe.1.1]
    simp only [AV.cells, sp_length]
  · obtain ⟨m, x', h1, rfl, h3, h4⟩ := spl_at 1 xs i y hy
    rw [hx] at h1; cases h1
    have hxe := he x (List.mem_of_getElem? hx)
    simp only [AV.elem, Bool.and_eq_true] at hxe
    rw [spx_agg hxe.1.1] at hc
    rcases sp_at _ x.cells j c d (by simpa [AV.cells] using hc) hd with h | ⟨k, rfl, hk⟩
    · exact .inl h
    · refine .inr ⟨1 + m + k, rfl, ?_⟩
      rw [show 1 + m + k = (m + k) + 1 by omega, List.getElem?_cons_succ]
      refine h4 k d ?_
      rw [spx_agg hxe.1.1, sp_count 0 (1 + m)]
      exact hk
theorem spl_cov : ∀ (n : Nat) (xs : List AV) (k : Nat) (d : AV), (∀ x ∈ xs, x.isAgg = true) → (spl n xs).2[k]? = some (.own d) → ∃ (i : Nat) (y : AV) (j : Nat) (x : AV), (spl n xs).1[i]? = some y ∧ y.cells[j]? = some (AV.own (n + k)) ∧ xs[i]? = some x ∧ x.cells[j]? = some d
  | n, [], k, d, _, h => by simp [spl] at h
  | n, x :: xs, k, d, he, h => by
    have q := spx_agg (he x (by simp)) n
    simp only [spl] at h
    by_cases hk : k < (spx n x).2.length
    · rw [List.getElem?_append_left hk, q] at h
      obtain ⟨j, h1, h2⟩ := sp_cov n x.cells k d h
      exact ⟨0, _, j, x, rfl, by rw [q]; simpa [AV.cells] using h1, rfl, h2⟩
    · rw [List.getElem?_append_right (by omega)] at h
      obtain ⟨i, y, j, x', h1, h2, h3, h4⟩ := spl_cov _ xs _ d (fun z hz => he z (by simp [hz])) h
      refine ⟨i + 1, y, j, x', by simpa [spl] using h1, ?_, by simpa using h3, h4⟩
      rw [h2]; congr 2; omega
theorem spl_cover {xs : List AV} (he : ∀ x ∈ xs, x.isAgg = true) : Cover (spl 1 xs).2 (spl 1 xs).1 xs := by
  refine ⟨fun m ob h => spl_own 1 xs ob (List.mem_of_getElem? h), fun m d h => ?_⟩
  obtain ⟨i, y, j, x, h1, h2, h3, h4⟩ := spl_cov 1 xs m d he h
  exact ⟨i, y, j, x, h1, by rw [h2]; congr 2; omega, h3, h4⟩
/- ENDS -/
theorem ret_all {t : Nat} {res : AV} {x : AX} (hx : x = .ret ∨ x = .normal) {e : Env} {O : List AObj} (h : e t = res) : retK 0 [.tmp t] res O x e O := by
  have : resK e O [.tmp t] [] fun xs' => ∃ e', WK 0 (fun t => if t = 0 then packR xs' else .top) O e' O ∧ e' 0 = res := by
    rw [resK_tmp, resK_nil]
    simp only [List.reverse_cons, List.reverse_nil, List.nil_append, packR, h]
    exact ⟨fun t => if t = 0 then res else .top, .refl _ _ _, rfl⟩
  rcases hx with rfl | rfl <;> exact this
theorem resK_mono {e : Env} {O : List AObj} : ∀ (rs : List ARes) (acc : List AV) (M M' : List AV → Prop), (∀ xs, M xs → M' xs) → resK e O rs acc M → resK e O rs acc M' := by
  intro rs
  induction rs with
  | nil => intro acc M M' hm h; exact hm _ h
  | cons r rs ih =>
    intro acc M M' hm h
    cases r with
    | tmp t => exact ih _ _ _ hm h
    | cell t n =>
      simp only [resK, ARes.get] at h ⊢
      split at h
      · split at h
        · exact ⟨h.1, ih _ _ _ hm h.2⟩
        · exact h.elim
      · exact h.elim
/-- of what was made some is kept, from number b on -/
theorem ret_from {rs : List ARes} {res rv : AV} {x : AX} (hx : x = .ret ∨ x = .normal) {e : Env} {O : List AObj} (b : Nat) (h : resK e O rs [] fun xs => packR xs = rv) (hr : rv = res.ren fun n => b + n) {O' : List AObj} (hO : O.drop b = O') (ho : ∀ ob ∈ O', ∃ d, ob = .own d)
    (hsc : res.inScope O'.length = true) : retK 0 rs res O' x e O := by
  subst hr
  have : resK e O rs [] fun xs => ∃ e', WK 0 (fun t => if t = 0 then packR xs else .top) O e' O' ∧ e' 0 = res := by
    refine resK_mono rs _ _ _ (fun xs hp => ?_) h
    refine ⟨fun t => if t = 0 then res else .top, .select (fun n => b + n) (fun i hi => ?_) (fun i j _ _ he => by omega) (fun ob hb => ?_) (fun t => ?_), rfl⟩
    · subst hO
      rw [List.getElem?_drop]
      cases hq : O[b + i]? with
      | none => rfl
      | some ob =>
        obtain ⟨d, rfl⟩ := ho ob (List.mem_of_getElem? (by rw [List.getElem?_drop]; exact hq))
        rfl
    · obtain ⟨d, rfl⟩ := ho ob hb; rfl
    · by_cases ht : t = 0
      · subst ht; exact .inr ⟨by simp [hp], by simpa using hsc⟩
      · exact .inl (by simp [ht])
  rcases hx with rfl | rfl <;> exact this
theorem WK.die {n0 : Nat} {e e' : Env} {O : List AObj} (h : ∀ t, e' t = .top ∨ ∃ v, e' t = .v v ∧ e t = .v v) : WK n0 e O e' (List.replicate n0 .dead) := by
  intro I0 L0 O0 w0 I L w f hl hg hr
  subst hl
  have no : ∀ {n : Nat} {ob : AObj}, (List.replicate O0.length AObj.dead)[n]? = some ob → ob = .dead := by
    intro n ob h
    rw [List.getElem?_replicate] at h
    split at h <;> cases h
    rfl
  refine ⟨I, L, ⟨⟨hg.inv.imm, fun n e s xs hn => ?_, fun n m e s xs e' s' ys hn => ?_, fun n e s xs o hn => ?_, hg.inv.fix, hg.inv.blk, .no fun n a hn => ?_⟩, ⟨hg.ext.imm, by simp, fun n _ e s xs hn => ?_, fun n _ e s hn => ?_, fun n _ a hn => ?_⟩, hg.frm, ?_, hg.immNew⟩, fun t => ?_⟩
  any_goals (cases no hn; done)
  · rintro b (⟨n, e, s, xs, hn, _⟩ | ⟨n, a, o, v, hn, _⟩) <;> cases no hn
  · rcases h t with h | ⟨v, h1, h2⟩
    · rw [h]; exact .top _
    · have := hr t
      rw [h2] at this
      rw [h1]
      cases this
      exact .v _ (by assumption)
theorem ret_dead {n0 t : Nat} {v : Value} {x : AX} (hx : x = .ret ∨ x = .normal) {e : Env} {O : List AObj} (h : e t = .v v) : retK n0 [.tmp t] (.v v) (List.replicate n0 .dead) x e O := by
  have : resK e O [.tmp t] [] fun xs' => ∃ e', WK n0 (fun t => if t = 0 then packR xs' else .top) O e' (List.replicate n0 .dead) ∧ e' 0 = .v v := by
    rw [resK_tmp, resK_nil]
    simp only [List.reverse_cons, List.reverse_nil, List.nil_append, packR, h]
    refine ⟨fun t => if t = 0 then .v v else .top, .die fun t => ?_, rfl⟩
    by_cases ht : t = 0
    · subst ht; exact .inr ⟨v, rfl, rfl⟩
    · exact .inl (by simp [ht])
  rcases hx with rfl | rfl <;> exact this
mutual
theorem ren_congr {k : Nat} {s s' : Nat → Nat} (hs : ∀ n, n < k → s n = s' n) : ∀ (a : AV), a.inScope k = true → a.ren s = a.ren s'
  | .top, _ | .v _, _ | .nils, _ => rfl
  | .sl xs, h => by simp only [AV.ren]; rw [rens_congr hs xs (by simpa [AV.inScope] using h)]
  | .iptr x f, h => by simp only [AV.ren]; rw [ren_congr hs x (by simpa [AV.inScope] using h)]
  | .row n l, h => by simp only [AV.ren]; rw [hs n (by simpa [AV.inScope] using h)]
  | .ptr n l i f, h => by simp only [AV.ren]; rw [hs n (by simpa [AV.inScope] using h)]
  | .fn f cs, h => by simp only [AV.ren]; rw [rens_congr hs cs (by simpa [AV.inScope] using h)]
  | .agg cs, h => by simp only [AV.ren]; rw [rens_congr hs cs (by simpa [AV.inScope] using h)]
  | .tup cs, h => by simp only [AV.ren]; rw [rens_congr hs cs (by simpa [AV.inScope] using h)]
  | .own n, h => by simp only [AV.ren]; rw [hs n (by simpa [AV.inScope] using h)]
theorem rens_congr {k : Nat} {s s' : Nat → Nat} (hs : ∀ n, n < k → s n = s' n) : ∀ (xs : List AV), AV.scopeds k xs = true → AV.rens s xs = AV.rens s' xs
  | [], _ => rfl
  | x :: xs, h => by
    simp only [AV.scopeds, Bool.and_eq_true] at h
    simp only [AV.rens]
    rw [ren_congr hs x h.1, rens_congr hs xs h.2]
end
/- CALLS -/
theorem Con.kill {P : Program} {f : FuncId} {k : Value} {r : Value} {a : AV} (h : Con P f [.own 0, .v k] [.own a] (.v r) [.dead]) {O : List AObj} (m : Nat) (hm : O[m]? = some (.own a)) : Con P f [.own m, .v k] O (.v r) (O.set m .dead) :=
  h.one' (by simp [AV.one, AV.noref]) rfl rfl rfl m hm
/-- a call on the trees of one value, which lie side by side -/
theorem Con.at {P : Program} {f : FuncId} {args : List AV} {O1 : List AObj} {res : AV} (h : Con P f args O1 res (List.replicate O1.length .dead)) (ho : ∀ ob ∈ O1, ∃ d, ob = .own d) (ha : ∀ a ∈ args, a.inScope O1.length = true) (hr : res.flat = true) (A B : List AObj) :
    Con P f (args.map (AV.ren fun n => A.length + n)) (A ++ (O1 ++ B)) res (A ++ (List.replicate O1.length .dead ++ B)) := by
  have hrn : res.noref = true := by
    cases res <;> first | rfl | (simp [AV.flat] at hr; done) | skip
    rename_i vs
    simp only [AV.flat] at hr
    simp only [AV.noref]
    refine norefs_of fun x hx => ?_
    have := List.all_eq_true.1 hr x hx
    cases x <;> first | rfl | (simp at this; done)
  let s : Nat → Nat := fun n => if n < O1.length then A.length + n else A.length + O1.length + B.length + (n - O1.length)
  have hs : ∀ n, n < O1.length → s n = A.length + n := fun n hn => if_pos hn
  have := h.frame (O := A ++ (O1 ++ B)) (O'' := A ++ (List.replicate O1.length .dead ++ B)) s (fun i hi => by rw [hs i hi]; simp; omega) (fun i hi => ?_) (fun i j hi hj he => by rw [hs i hi, hs j hj] at he; omega)
    (fun i hi => by show (if i < O1.length then _ else _) = _; rw [if_neg (by omega)]; simp; omega) ha (fun ob hb => by obtain ⟨d, rfl⟩ := ho ob hb; rfl) (by simp) (fun i hi => ?_) (fun n hn hno => ?_)
  · rw [noref_ren res hrn] at this
    have he : args.map (AV.ren s) = args.map (AV.ren fun n => A.length + n) := List.map_congr_left fun a h' => ren_congr hs a (ha a h')
    rwa [he] at this
  · rw [hs i hi, List.getElem?_append_right (by omega), Nat.add_sub_cancel_left, List.getElem?_append_left hi]
    have : O1[i]? = some O1[i] := by simp [hi]
    obtain ⟨d, hd⟩ := ho O1[i] (List.getElem_mem hi)
    rw [this, hd]; rfl
  · have hi' : i < O1.length := by simpa using hi
    rw [hs i hi', List.getElem?_append_right (by omega), Nat.add_sub_cancel_left, List.getElem?_append_left (by simpa using hi'), List.getElem?_replicate, if_pos hi']
    rfl
  · by_cases h1 : n < A.length
    · rw [List.getElem?_append_left h1, List.getElem?_append_left h1]
    · have e1 : ∀ X : List AObj, (A ++ X)[n]? = X[n - A.length]? := fun X => List.getElem?_append_right (by omega)
      rw [e1, e1]
      by_cases h2 : n - A.length < O1.length
      · exact (hno (n - A.length) h2 (by rw [hs _ h2]; omega)).elim
      · have e2 : ∀ X : List AObj, X.length = O1.length → (X ++ B)[n - A.length]? = B[n - A.length - O1.length]? := fun X hX => by rw [List.getElem?_append_right (by omega), hX]
        rw [e2 _ (by simp), e2 _ rfl]
/- toXS -/
def toSCodeC (t s b : Nat) (z : AV) (f : FuncId) : AFn where
  nargs := 1
  nt := 23
  res := [.tmp 2]
  code := .seq (.keep [0] (.region none [
     ⟨none, (some 2), .mov (.c .nils)⟩]))
   (.seq (.keep [0, 3] (.region none [
     ⟨none, (some 5), .mov (.t 0)⟩,
     ⟨none, (some 6), .lenL (.t 5)⟩,
     ⟨none, (some 7), .mk t s b z (.t 6) (.t 6)⟩,
     ⟨none, (some 3), .mov (.t 7)⟩]))
   (.seq (.seq (.keep [0, 3, 4] (.region none [
     ⟨none, (some 4), .mov (.c (.v (.int .i64 0)))⟩]))
   (.block 0 (.loop (.seq (.seq (.keep [0, 3, 4, 11] (.region none [
       ⟨none, (some 8), .mov (.t 4)⟩,
       ⟨none, (some 9), .mov (.t 0)⟩,
       ⟨none, (some 10), .lenL (.t 9)⟩,
       ⟨none, (some 11), .bin .lss (.t 8) (.t 10)⟩]))
     (.cond (.t 11)
      (.skip)
      (.exit 0)))
     (.seq (.block 1 (.keep [0, 3, 4] (.region none [
        ⟨none, (some 14), .mov (.t 3)⟩,
        ⟨none, (some 15), .mov (.t 4)⟩,
        ⟨none, (some 16), .mov (.t 0)⟩,
        ⟨none, (some 17), .mov (.t 4)⟩,
        ⟨none, (some 18), .iaddr s (.t 16) (.t 17)⟩,
        ⟨none, (some 19), .load (some s) (.t 18)⟩,
        ⟨none, (some 20), .call f [(.t 19)]⟩,
        ⟨none, (some 21), .iaddr s (.t 14) (.t 15)⟩,
        ⟨none, none, .store s (.t 21) (.t 20)⟩])))
     (.keep [0, 3, 4] (.region none [
       ⟨none, (some 12), .mov (.t 4)⟩,
       ⟨none, (some 13), .bin .add (.t 12) (.c (.v (.int .i64 1)))⟩,
       ⟨none, (some 4), .mov (.t 13)⟩])))))))
   (.seq (.keep [2] (.region none [
     ⟨none, (some 22), .mov (.t 3)⟩,
     ⟨none, (some 2), .mov (.t 22)⟩]))
   (.ret))))
theorem spx_cells {x : AV} (h : x.isAgg = true) (n : Nat) : (spx n x).1.cells.length = x.cells.length := by
  rw [spx_agg h]; simp only [AV.cells, sp_length]
theorem sp_storable : ∀ (n : Nat) (cs : List AV), cs.all AV.isCell = true → (sp n cs).1.all AV.isCell = true
  | n, [], _ => rfl
  | n, c :: cs, h => by
    simp only [List.all_cons, Bool.and_eq_true] at h
    cases c <;> simp only [sp, List.all_cons, sp_storable _ cs h.2, Bool.and_true] <;> first | rfl | exact h.1
theorem spx_storable {x : AV} (h : x.isAgg = true) (hs : x.storable = true) (n : Nat) : (spx n x).1.storable = true := by
  rw [spx_agg h]; exact sp_storable n _ hs
theorem toS_own {P : Program} {fS f : FuncId} {t s b : Nat} {z : AV} (hA : cFn P fS (toSCodeC t s b z f)) (xs : List AV) (hb : (b : Int) * (xs.length : Int) ≤ 281474976710656) (hm : xs.length ≤ 1048576)
    (hx : ∀ x ∈ xs, x.elem = true ∧ x.cells.length = s) (hz : z.cells.length = s) (hc : ∀ x ∈ xs, Con P f [x] [] (spx 0 x).1 (spx 0 x).2) : Con P fS [.sl xs] [] (.own 0) [.own (.sl xs)] := by
  refine Con.closes (len := xs.length) (e := t) (s := s) (ys := (spl 1 xs).1) (T := (spl 1 xs).2) ?_ (spl_length 1 xs) (spl_split (fun x h => (hx x h).1) _)
  refine con_of_wp hA rfl ?_
  simp only [toSCodeC, ↓wpC_skip, ↓wpC_region, ↓c_seq, ↓c_cond, ↓c_block, ↓wpC_exit, ↓wpC_ret, ↓c_keep, ↓c_loop, ↓wpOps_nil, ↓wpOps_kont, ↓c_guard, ↓seqQ_n, ↓seqQ_e, ↓seqQ_r, ↓blockQ_n, ↓blockQ_e, ↓blockQ_r, ↓keepQ_n, ↓keepQ_e, ↓keepQ_r, ↓roundQ_e, ↓roundQ_r, ↓o_mov, ↓o_pick, ↓o_alloc, ↓o_box, ↓o_build, ↓o_buildSlice, ↓o_load, ↓o_store, ↓o_bin, ↓o_un, ↓o_conv, ↓o_faddr, ↓o_fld, ↓o_iaddr, ↓o_idxS, ↓o_sliceS, ↓o_sliceL, ↓o_mk, ↓o_lenS, ↓o_lenL, ↓o_app, ↓o_ext, ↓o_nilc, ↓o_mkfn, ↓o_call, ↓o_callv, ↓o_pcall, ↓o_pcallv, ↓o_qcall, ↓o_qcallv, k1_kont, pickK_true, pickK_false, pickK_bool, boxK_eq, bldK_nil, bldK_cons, bslK_nil, bslK_cons, objK_live, objN_live, objN_nil, loadK_iptr, loadK_ptr, storeK_ptr, binK_add, binK_sub, binK_mul, binK_and, binK_or, binK_xor, binK_quo, binK_rem, binK_eql, binK_neq, binK_lss, binK_leq, binK_gtr, binK_geq, binK_shl, binK_shr, binK_sadd, binK_seql, binK_sneq, unK_not, unK_neg, convK_eq, faddrK_iptr, faddrK_ptr, fldK_eq, iaddrK_sl, iaddrK_row, idxSK_eq, bnd_none, bnd_some, sliceSK_eq, sliceLK_eq, mkK_eq, lenSK_eq, lenLK_nils, lenLK_sl, lenLK_row, srcOf_nils, srcOf_sl, srcOf_row, ontoK_nils1, ontoK_nils, ontoK_row, extK_eq, nilcK_iptr, nilcK_fn, nilcK_ptr, callvK_fn, qcallvK_fn, pcallvK_fn, gopK_tt, gopK_tf, gopK_ft, gopK_ff, gopK_skip, condK_true, condK_false, loadC_whole, loadC_none, upd_whole, upd_v, upd_sl, upd_nils, upd_row, upd_ptr, upd_fn, upd_agg, upd_agg0, frz_v, frz_sl, frz_nils, frz_agg, frz_fn, resK_nil, resK_tmp, resK_cell, cellK_ptr, cellOK_live, packR_one, packR_more, List.reverse_cons, List.reverse_nil, ne_eq, Nat.add_eq_zero_iff, Nat.reduceEqDiff, not_false_eq_true, reduceCtorEq, Nat.one_ne_zero, ↓setD_some, ↓setD_none, ev_t, ev_c, set_at, entry_at, envL_cons, keepE_eq, List.map_cons, List.map_nil, Option.map_some, Option.map_none, List.getD_cons_zero, List.getD_cons_succ, List.length_nil, List.length_cons, List.length_append, List.length_set, List.nil_append, List.cons_append, List.append_nil, List.getElem?_cons_zero, List.getElem?_cons_succ, List.set_cons_zero, List.set_cons_succ, List.drop_succ_cons, List.drop_zero, List.take_succ_cons, List.take_zero, List.replicate_succ, List.replicate_zero, Nat.reduceEqDiff, Nat.reduceAdd, Nat.reduceLT, Nat.reduceLeDiff, if_true, if_false, reduceIte, cells_agg, cells_v, cells_nils, cells_sl, cells_row, cells_ptr, cells_fn, isAgg_agg, isCell_v, isCell_nils, isCell_sl, isCell_row, isCell_ptr, isCell_fn, storable_agg, storable_v, storable_nils, storable_sl, storable_row, storable_ptr, storable_fn, frz_noref, aft_flat, flat_v, norefs_nil, norefs_cons, noref_v, noref_sl, noref_agg, noref_tup, noref_nils, noref_fn, List.all_cons, List.all_nil, Bool.and_true, Bool.true_and, Bool.or_true, Bool.true_or, Bool.not_true, Bool.not_false, decide_true, decide_false, dlt0, Option.getD_none, Option.getD_some, true_and, and_true, Nat.zero_add, Nat.add_zero, Nat.lt_add_one, Nat.zero_lt_succ, Nat.le_refl]
  refine ⟨by omega, by omega, hb, by omega, ?_⟩
  refine loopK_intro (ι := List AV × List AV) (fun p => p.1 ++ p.2 = xs) (fun p => envL [(0, .sl xs), (3, .row 0 xs.length), (4, .v (.int .i64 p.1.length))]) (fun p => .live t s ((spl 1 p.1).1 ++ List.replicate p.2.length z) :: (spl 1 p.1).2) (fun p => p.2.length) ([], xs) rfl
    (.of_eq (by simp) (by simp [spl])) ?_
  rintro ⟨done, rest⟩ hd
  simp only at hd
  subst hd
  simp only [Int.toNat_natCast, ↓wpC_skip, ↓wpC_region, ↓c_seq, ↓c_cond, ↓c_block, ↓wpC_exit, ↓wpC_ret, ↓c_keep, ↓c_loop, ↓wpOps_nil, ↓wpOps_kont, ↓c_guard, ↓seqQ_n, ↓seqQ_e, ↓seqQ_r, ↓blockQ_n, ↓blockQ_e, ↓blockQ_r, ↓keepQ_n, ↓keepQ_e, ↓keepQ_r, ↓roundQ_e, ↓roundQ_r, ↓o_mov, ↓o_pick, ↓o_alloc, ↓o_box, ↓o_build, ↓o_buildSlice, ↓o_load, ↓o_store, ↓o_bin, ↓o_un, ↓o_conv, ↓o_faddr, ↓o_fld, ↓o_iaddr, ↓o_idxS, ↓o_sliceS, ↓o_sliceL, ↓o_mk, ↓o_lenS, ↓o_lenL, ↓o_app, ↓o_ext, ↓o_nilc, ↓o_mkfn, ↓o_call, ↓o_callv, ↓o_pcall, ↓o_pcallv, ↓o_qcall, ↓o_qcallv, k1_kont, pickK_true, pickK_false, pickK_bool, boxK_eq, bldK_nil, bldK_cons, bslK_nil, bslK_cons, objK_live, objN_live, objN_nil, loadK_iptr, loadK_ptr, storeK_ptr, binK_add, binK_sub, binK_mul, binK_and, binK_or, binK_xor, binK_quo, binK_rem, binK_eql, binK_neq, binK_lss, binK_leq, binK_gtr, binK_geq, binK_shl, binK_shr, binK_sadd, binK_seql, binK_sneq, unK_not, unK_neg, convK_eq, faddrK_iptr, faddrK_ptr, fldK_eq, iaddrK_sl, iaddrK_row, idxSK_eq, bnd_none, bnd_some, sliceSK_eq, sliceLK_eq, mkK_eq, lenSK_eq, lenLK_nils, lenLK_sl, lenLK_row, srcOf_nils, srcOf_sl, srcOf_row, ontoK_nils1, ontoK_nils, ontoK_row, extK_eq, nilcK_iptr, nilcK_fn, nilcK_ptr, callvK_fn, qcallvK_fn, pcallvK_fn, gopK_tt, gopK_tf, gopK_ft, gopK_ff, gopK_skip, condK_true, condK_false, loadC_whole, loadC_none, upd_whole, upd_v, upd_sl, upd_nils, upd_row, upd_ptr, upd_fn, upd_agg, upd_agg0, frz_v, frz_sl, frz_nils, frz_agg, frz_fn, resK_nil, resK_tmp, resK_cell, cellK_ptr, cellOK_live, packR_one, packR_more, List.reverse_cons, List.reverse_nil, ne_eq, Nat.add_eq_zero_iff, Nat.reduceEqDiff, not_false_eq_true, reduceCtorEq, Nat.one_ne_zero, ↓setD_some, ↓setD_none, ev_t, ev_c, set_at, entry_at, envL_cons, keepE_eq, List.map_cons, List.map_nil, Option.map_some, Option.map_none, List.getD_cons_zero, List.getD_cons_succ, List.length_nil, List.length_cons, List.length_append, List.length_set, List.nil_append, List.cons_append, List.append_nil, List.getElem?_cons_zero, List.getElem?_cons_succ, List.set_cons_zero, List.set_cons_succ, List.drop_succ_cons, List.drop_zero, List.take_succ_cons, List.take_zero, List.replicate_succ, List.replicate_zero, Nat.reduceEqDiff, Nat.reduceAdd, Nat.reduceLT, Nat.reduceLeDiff, if_true, if_false, reduceIte, cells_agg, cells_v, cells_nils, cells_sl, cells_row, cells_ptr, cells_fn, isAgg_agg, isCell_v, isCell_nils, isCell_sl, isCell_row, isCell_ptr, isCell_fn, storable_agg, storable_v, storable_nils, storable_sl, storable_row, storable_ptr, storable_fn, frz_noref, aft_flat, flat_v, norefs_nil, norefs_cons, noref_v, noref_sl, noref_agg, noref_tup, noref_nils, noref_fn, List.all_cons, List.all_nil, Bool.and_true, Bool.true_and, Bool.or_true, Bool.true_or, Bool.not_true, Bool.not_false, decide_true, decide_false, dlt0, Option.getD_none, Option.getD_some, true_and, and_true, Nat.zero_add, Nat.add_zero, Nat.lt_add_one, Nat.zero_lt_succ, Nat.le_refl]
  refine condK_intro (fun h => ?_) (fun h => ?_)
  · cases rest with
    | nil => simp at h
    | cons x r =>
    obtain ⟨hx1, hx2⟩ := hx x (by simp)
    simp only [AV.elem, Bool.and_eq_true] at hx1
    obtain ⟨⟨ha, hst⟩, hno⟩ := hx1
    have hcall := (hc x (by simp)).fresh (by simp [AV.norefs, hno]) (.live t s ((spl 1 done).1 ++ List.replicate (r.length + 1) z) :: (spl 1 done).2)
    rw [spx_ren, own_ren (spx_own 0 x)] at hcall
    have hl1 : (spl 1 done).1.length = done.length := spl_length 1 done
    have hdl : done.length ≤ 1048576 := by simp at hm; omega
    simp only [Int.toNat_natCast, mid_get rfl, hx2, ha, ↓wpC_skip, ↓wpC_region, ↓c_seq, ↓c_cond, ↓c_block, ↓wpC_exit, ↓wpC_ret, ↓c_keep, ↓c_loop, ↓wpOps_nil, ↓wpOps_kont, ↓c_guard, ↓seqQ_n, ↓seqQ_e, ↓seqQ_r, ↓blockQ_n, ↓blockQ_e, ↓blockQ_r, ↓keepQ_n, ↓keepQ_e, ↓keepQ_r, ↓roundQ_e, ↓roundQ_r, ↓o_mov, ↓o_pick, ↓o_alloc, ↓o_box, ↓o_build, ↓o_buildSlice, ↓o_load, ↓o_store, ↓o_bin, ↓o_un, ↓o_conv, ↓o_faddr, ↓o_fld, ↓o_iaddr, ↓o_idxS, ↓o_sliceS, ↓o_sliceL, ↓o_mk, ↓o_lenS, ↓o_lenL, ↓o_app, ↓o_ext, ↓o_nilc, ↓o_mkfn, ↓o_call, ↓o_callv, ↓o_pcall, ↓o_pcallv, ↓o_qcall, ↓o_qcallv, k1_kont, pickK_true, pickK_false, pickK_bool, boxK_eq, bldK_nil, bldK_cons, bslK_nil, bslK_cons, objK_live, objN_live, objN_nil, loadK_iptr, loadK_ptr, storeK_ptr, binK_add, binK_sub, binK_mul, binK_and, binK_or, binK_xor, binK_quo, binK_rem, binK_eql, binK_neq, binK_lss, binK_leq, binK_gtr, binK_geq, binK_shl, binK_shr, binK_sadd, binK_seql, binK_sneq, unK_not, unK_neg, convK_eq, faddrK_iptr, faddrK_ptr, fldK_eq, iaddrK_sl, iaddrK_row, idxSK_eq, bnd_none, bnd_some, sliceSK_eq, sliceLK_eq, mkK_eq, lenSK_eq, lenLK_nils, lenLK_sl, lenLK_row, srcOf_nils, srcOf_sl, srcOf_row, ontoK_nils1, ontoK_nils, ontoK_row, extK_eq, nilcK_iptr, nilcK_fn, nilcK_ptr, callvK_fn, qcallvK_fn, pcallvK_fn, gopK_tt, gopK_tf, gopK_ft, gopK_ff, gopK_skip, condK_true, condK_false, loadC_whole, loadC_none, upd_whole, upd_v, upd_sl, upd_nils, upd_row, upd_ptr, upd_fn, upd_agg, upd_agg0, frz_v, frz_sl, frz_nils, frz_agg, frz_fn, resK_nil, resK_tmp, resK_cell, cellK_ptr, cellOK_live, packR_one, packR_more, List.reverse_cons, List.reverse_nil, ne_eq, Nat.add_eq_zero_iff, Nat.reduceEqDiff, not_false_eq_true, reduceCtorEq, Nat.one_ne_zero, ↓setD_some, ↓setD_none, ev_t, ev_c, set_at, entry_at, envL_cons, keepE_eq, List.map_cons, List.map_nil, Option.map_some, Option.map_none, List.getD_cons_zero, List.getD_cons_succ, List.length_nil, List.length_cons, List.length_append, List.length_set, List.nil_append, List.cons_append, List.append_nil, List.getElem?_cons_zero, List.getElem?_cons_succ, List.set_cons_zero, List.set_cons_succ, List.drop_succ_cons, List.drop_zero, List.take_succ_cons, List.take_zero, List.replicate_succ, List.replicate_zero, Nat.reduceEqDiff, Nat.reduceAdd, Nat.reduceLT, Nat.reduceLeDiff, if_true, if_false, reduceIte, cells_agg, cells_v, cells_nils, cells_sl, cells_row, cells_ptr, cells_fn, isAgg_agg, isCell_v, isCell_nils, isCell_sl, isCell_row, isCell_ptr, isCell_fn, storable_agg, storable_v, storable_nils, storable_sl, storable_row, storable_ptr, storable_fn, frz_noref, aft_flat, flat_v, norefs_nil, norefs_cons, noref_v, noref_sl, noref_agg, noref_tup, noref_nils, noref_fn, List.all_cons, List.all_nil, Bool.and_true, Bool.true_and, Bool.or_true, Bool.true_or, Bool.not_true, Bool.not_false, decide_true, decide_false, dlt0, Option.getD_none, Option.getD_some, true_and, and_true, Nat.zero_add, Nat.add_zero, Nat.lt_add_one, Nat.zero_lt_succ, Nat.le_refl]
    refine ⟨by omega, by omega, ?_⟩
    refine callK_intro _ _ hcall ?_
    simp only [List.replicate_succ, Int.toNat_natCast, mid_get hl1, hz, hl1, spx_cells ha, hx2, spx_storable ha hst, List.length_replicate, ↓wpC_skip, ↓wpC_region, ↓c_seq, ↓c_cond, ↓c_block, ↓wpC_exit, ↓wpC_ret, ↓c_keep, ↓c_loop, ↓wpOps_nil, ↓wpOps_kont, ↓c_guard, ↓seqQ_n, ↓seqQ_e, ↓seqQ_r, ↓blockQ_n, ↓blockQ_e, ↓blockQ_r, ↓keepQ_n, ↓keepQ_e, ↓keepQ_r, ↓roundQ_e, ↓roundQ_r, ↓o_mov, ↓o_pick, ↓o_alloc, ↓o_box, ↓o_build, ↓o_buildSlice, ↓o_load, ↓o_store, ↓o_bin, ↓o_un, ↓o_conv, ↓o_faddr, ↓o_fld, ↓o_iaddr, ↓o_idxS, ↓o_sliceS, ↓o_sliceL, ↓o_mk, ↓o_lenS, ↓o_lenL, ↓o_app, ↓o_ext, ↓o_nilc, ↓o_mkfn, ↓o_call, ↓o_callv, ↓o_pcall, ↓o_pcallv, ↓o_qcall, ↓o_qcallv, k1_kont, pickK_true, pickK_false, pickK_bool, boxK_eq, bldK_nil, bldK_cons, bslK_nil, bslK_cons, objK_live, objN_live, objN_nil, loadK_iptr, loadK_ptr, storeK_ptr, binK_add, binK_sub, binK_mul, binK_and, binK_or, binK_xor, binK_quo, binK_rem, binK_eql, binK_neq, binK_lss, binK_leq, binK_gtr, binK_geq, binK_shl, binK_shr, binK_sadd, binK_seql, binK_sneq, unK_not, unK_neg, convK_eq, faddrK_iptr, faddrK_ptr, fldK_eq, iaddrK_sl, iaddrK_row, idxSK_eq, bnd_none, bnd_some, sliceSK_eq, sliceLK_eq, mkK_eq, lenSK_eq, lenLK_nils, lenLK_sl, lenLK_row, srcOf_nils, srcOf_sl, srcOf_row, ontoK_nils1, ontoK_nils, ontoK_row, extK_eq, nilcK_iptr, nilcK_fn, nilcK_ptr, callvK_fn, qcallvK_fn, pcallvK_fn, gopK_tt, gopK_tf, gopK_ft, gopK_ff, gopK_skip, condK_true, condK_false, loadC_whole, loadC_none, upd_whole, upd_v, upd_sl, upd_nils, upd_row, upd_ptr, upd_fn, upd_agg, upd_agg0, frz_v, frz_sl, frz_nils, frz_agg, frz_fn, resK_nil, resK_tmp, resK_cell, cellK_ptr, cellOK_live, packR_one, packR_more, List.reverse_cons, List.reverse_nil, ne_eq, Nat.add_eq_zero_iff, Nat.reduceEqDiff, not_false_eq_true, reduceCtorEq, Nat.one_ne_zero, ↓setD_some, ↓setD_none, ev_t, ev_c, set_at, entry_at, envL_cons, keepE_eq, List.map_cons, List.map_nil, Option.map_some, Option.map_none, List.getD_cons_zero, List.getD_cons_succ, List.length_nil, List.length_cons, List.length_append, List.length_set, List.nil_append, List.cons_append, List.append_nil, List.getElem?_cons_zero, List.getElem?_cons_succ, List.set_cons_zero, List.set_cons_succ, List.drop_succ_cons, List.drop_zero, List.take_succ_cons, List.take_zero, List.replicate_succ, List.replicate_zero, Nat.reduceEqDiff, Nat.reduceAdd, Nat.reduceLT, Nat.reduceLeDiff, if_true, if_false, reduceIte, cells_agg, cells_v, cells_nils, cells_sl, cells_row, cells_ptr, cells_fn, isAgg_agg, isCell_v, isCell_nils, isCell_sl, isCell_row, isCell_ptr, isCell_fn, storable_agg, storable_v, storable_nils, storable_sl, storable_row, storable_ptr, storable_fn, frz_noref, aft_flat, flat_v, norefs_nil, norefs_cons, noref_v, noref_sl, noref_agg, noref_tup, noref_nils, noref_fn, List.all_cons, List.all_nil, Bool.and_true, Bool.true_and, Bool.or_true, Bool.true_or, Bool.not_true, Bool.not_false, decide_true, decide_false, dlt0, Option.getD_none, Option.getD_some, true_and, and_true, Nat.zero_add, Nat.add_zero, Nat.lt_add_one, Nat.zero_lt_succ, Nat.le_refl]
    refine ⟨by omega, by omega, by omega, ?_⟩
    rw [mid_set hl1, wrap_id (by omega) (by omega)]
    refine roundQ_intro (done ++ [x], r) (by simp) (by simp) (.of_eq (by simp) ?_)
    simp only [spl_snoc, List.append_assoc, List.cons_append, List.nil_append, Nat.zero_add]
    congr 5
    rw [Nat.add_comm]
  · have : rest = [] := by
      cases rest with
      | nil => rfl
      | cons x r => simp at h; omega
    subst this
    simp only [List.append_nil, List.length_nil, List.replicate_zero] at h ⊢
    refine ret_all (.inl rfl) ?_
    simp only [↓wpC_skip, ↓wpC_region, ↓c_seq, ↓c_cond, ↓c_block, ↓wpC_exit, ↓wpC_ret, ↓c_keep, ↓c_loop, ↓wpOps_nil, ↓wpOps_kont, ↓c_guard, ↓seqQ_n, ↓seqQ_e, ↓seqQ_r, ↓blockQ_n, ↓blockQ_e, ↓blockQ_r, ↓keepQ_n, ↓keepQ_e, ↓keepQ_r, ↓roundQ_e, ↓roundQ_r, ↓o_mov, ↓o_pick, ↓o_alloc, ↓o_box, ↓o_build, ↓o_buildSlice, ↓o_load, ↓o_store, ↓o_bin, ↓o_un, ↓o_conv, ↓o_faddr, ↓o_fld, ↓o_iaddr, ↓o_idxS, ↓o_sliceS, ↓o_sliceL, ↓o_mk, ↓o_lenS, ↓o_lenL, ↓o_app, ↓o_ext, ↓o_nilc, ↓o_mkfn, ↓o_call, ↓o_callv, ↓o_pcall, ↓o_pcallv, ↓o_qcall, ↓o_qcallv, k1_kont, pickK_true, pickK_false, pickK_bool, boxK_eq, bldK_nil, bldK_cons, bslK_nil, bslK_cons, objK_live, objN_live, objN_nil, loadK_iptr, loadK_ptr, storeK_ptr, binK_add, binK_sub, binK_mul, binK_and, binK_or, binK_xor, binK_quo, binK_rem, binK_eql, binK_neq, binK_lss, binK_leq, binK_gtr, binK_geq, binK_shl, binK_shr, binK_sadd, binK_seql, binK_sneq, unK_not, unK_neg, convK_eq, faddrK_iptr, faddrK_ptr, fldK_eq, iaddrK_sl, iaddrK_row, idxSK_eq, bnd_none, bnd_some, sliceSK_eq, sliceLK_eq, mkK_eq, lenSK_eq, lenLK_nils, lenLK_sl, lenLK_row, srcOf_nils, srcOf_sl, srcOf_row, ontoK_nils1, ontoK_nils, ontoK_row, extK_eq, nilcK_iptr, nilcK_fn, nilcK_ptr, callvK_fn, qcallvK_fn, pcallvK_fn, gopK_tt, gopK_tf, gopK_ft, gopK_ff, gopK_skip, condK_true, condK_false, loadC_whole, loadC_none, upd_whole, upd_v, upd_sl, upd_nils, upd_row, upd_ptr, upd_fn, upd_agg, upd_agg0, frz_v, frz_sl, frz_nils, frz_agg, frz_fn, resK_nil, resK_tmp, resK_cell, cellK_ptr, cellOK_live, packR_one, packR_more, List.reverse_cons, List.reverse_nil, ne_eq, Nat.add_eq_zero_iff, Nat.reduceEqDiff, not_false_eq_true, reduceCtorEq, Nat.one_ne_zero, ↓setD_some, ↓setD_none, ev_t, ev_c, set_at, entry_at, envL_cons, keepE_eq, List.map_cons, List.map_nil, Option.map_some, Option.map_none, List.getD_cons_zero, List.getD_cons_succ, List.length_nil, List.length_cons, List.length_append, List.length_set, List.nil_append, List.cons_append, List.append_nil, List.getElem?_cons_zero, List.getElem?_cons_succ, List.set_cons_zero, List.set_cons_succ, List.drop_succ_cons, List.drop_zero, List.take_succ_cons, List.take_zero, List.replicate_succ, List.replicate_zero, Nat.reduceEqDiff, Nat.reduceAdd, Nat.reduceLT, Nat.reduceLeDiff, if_true, if_false, reduceIte, cells_agg, cells_v, cells_nils, cells_sl, cells_row, cells_ptr, cells_fn, isAgg_agg, isCell_v, isCell_nils, isCell_sl, isCell_row, isCell_ptr, isCell_fn, storable_agg, storable_v, storable_nils, storable_sl, storable_row, storable_ptr, storable_fn, frz_noref, aft_flat, flat_v, norefs_nil, norefs_cons, noref_v, noref_sl, noref_agg, noref_tup, noref_nils, noref_fn, List.all_cons, List.all_nil, Bool.and_true, Bool.true_and, Bool.or_true, Bool.true_or, Bool.not_true, Bool.not_false, decide_true, decide_false, dlt0, Option.getD_none, Option.getD_some, true_and, and_true, Nat.zero_add, Nat.add_zero, Nat.lt_add_one, Nat.zero_lt_succ, Nat.le_refl]
/- DRAWN REGIONS -/
def drawK (P : Program) (n0 : Nat) (rows : List (List Nat)) (ops : List AOper) (Q : AX → Env → List AObj → Prop) (e : Env) (O : List AObj) : Prop := wpC P n0 (.region (some rows) ops) Q e O
theorem c_draw (P : Program) (n0 : Nat) (rows : List (List Nat)) (ops : List AOper) (Q : AX → Env → List AObj → Prop) (e : Env) (O : List AObj) : wpC P n0 (.region (some rows) ops) Q e O = drawK P n0 rows ops Q e O := nr rfl
theorem drawK_intro {P : Program} {n0 : Nat} {rows : List (List Nat)} {ops : List AOper} {Q : AX → Env → List AObj → Prop} {e : Env} {O : List AObj} (h : wpOpsL P ops [] e O fun labs e O => drawOkL rows (ops.zip labs) = true ∧ Q .normal e O) : drawK P n0 rows ops Q e O := ⟨ops, rfl, h⟩
def kontL (P : Program) (d : Option Nat) (e : Env) (r : List AOper) (acc : List Lab) (Q : List Lab → Env → List AObj → Prop) : KT := fun x O' => wpOpsL P r acc (setD e d x) O' Q
theorem k1_kontL (P : Program) (d : Option Nat) (e : Env) (r : List AOper) (acc : List Lab) (Q : List Lab → Env → List AObj → Prop) (a : AV) (O : List AObj) : k1 a O (kontL P d e r acc Q) = wpOpsL P r acc (setD e d a) O Q := nr rfl
theorem wpOpsL_kont (P : Program) (d : Option Nat) (op : AOp) (e : Env) (O : List AObj) (r : List AOper) (acc : List Lab) (Q : List Lab → Env → List AObj → Prop) :
    wpOpsL P (⟨none, d, op⟩ :: r) acc e O Q = wpOp P op e O (kontL P d e r (acc ++ [labOf op e O.length]) Q) := nr rfl
theorem wpOpsL_nil (P : Program) (e : Env) (O : List AObj) (acc : List Lab) (Q : List Lab → Env → List AObj → Prop) : wpOpsL P [] acc e O Q = Q acc e O := nr rfl
def beqK (neg : Bool) (a b : AV) (O : List AObj) (K : KT) : Prop := match a, b with
  | .v (.bool a), .v (.bool b) => K (.v (.bool (neg != (a == b)))) O
  | _, _ => False
theorem beqK_eq (neg a b : Bool) (O : List AObj) (K : KT) : beqK neg (.v (.bool a)) (.v (.bool b)) O K = k1 (.v (.bool (neg != (a == b)))) O K := nr rfl
theorem o_beq (P : Program) (neg : Bool) (x y : Opd) (e : Env) (O : List AObj) (K : KT) : wpOp P (.beq neg x y) e O K = beqK neg (x.ev e) (y.ev e) O K := nr rfl
theorem mid_get' {α : Type} {B R : List α} {y d : α} : (B ++ y :: R).getD B.length d = y := mid_get rfl
theorem mid_set' {α : Type} {B R : List α} {y z : α} : (B ++ y :: R).set B.length z = B ++ z :: R := mid_set rfl
/-- a flat result: whatever was owned may be forgotten -/
theorem Con.die {P : Program} {f : FuncId} {args : List AV} {O O' : List AObj} {res : AV} (h : Con P f args O res O') (hr : res.flat = true) : Con P f args O res (List.replicate O.length .dead) := by
  refine ⟨h.1, fun I L w vs hi hv => (h.2 I L w vs hi hv).mono ?_⟩
  rintro e w' ⟨y, I', L', rfl, hy, hg⟩
  have no : ∀ {n : Nat} {ob : AObj}, (List.replicate O.length AObj.dead)[n]? = some ob → ob = .dead := by
    intro n ob h
    rw [List.getElem?_replicate] at h
    split at h <;> cases h
    rfl
  refine ⟨y, I', L', rfl, hy.flat hr, ⟨⟨hg.inv.imm, fun n e s xs hn => ?_, fun n m e s xs e' s' ys hn => ?_, fun n e s xs o hn => ?_, hg.inv.fix, hg.inv.blk, .no fun n a hn => ?_⟩, ⟨hg.ext.imm, by simp, fun n _ e s xs hn => ?_, fun n _ e s hn => ?_, fun n _ a hn => ?_⟩, hg.frm, ?_, hg.immNew⟩⟩
  any_goals (cases no hn; done)
  rintro b (⟨n, e, s, xs, hn, _⟩ | ⟨n, a, o, v, hn, _⟩) <;> cases no hn
theorem PCon.any {P : Program} {f : FuncId} {args : List AV} {res : AV} (h : PCon P f args res) (hn : AV.norefs args = true) (hr : res.noref = true) (O : List AObj) : Con P f args O res O := by
  have := Con.fresh h hn O
  rwa [noref_ren res hr, List.map_nil, List.append_nil] at this
theorem Con.open0 {P : Program} {f : FuncId} {rest : List AV} {r : Value} (h : PCon P f (.sl [] :: rest) (.v r)) (hrest : AV.norefs rest = true) : Con P f (.own 0 :: rest) [.own (.sl [])] (.v r) [.dead] := by
  have := Con.lend (args := .own 0 :: rest) (O := [.own (.sl [])]) h rfl (fun i a b ha hb => by
    cases i with
    | zero => simp at ha hb; subst ha; subst hb; exact .own 0 _ rfl
    | succ i =>
      simp at ha hb
      rw [ha] at hb; cases hb
      exact .same a (norefs_mem hrest a (List.mem_of_getElem? ha))) rfl rfl
  exact this.die rfl
theorem cells_own (n : Nat) : (AV.own n).cells = [.own n] := nr rfl
theorem isCell_own (n : Nat) : (AV.own n).isCell = true := nr rfl
theorem storable_own (n : Nat) : (AV.own n).storable = true := nr rfl
theorem upd_own {a b : AV} {cs : List AV} {i : Nat} (n : Nat) (h : i < (a :: b :: cs).length) : upd (.agg (a :: b :: cs)) i (.own n) = .agg ((a :: b :: cs).set i (.own n)) := upd_one rfl h
theorem ren_own (s : Nat → Nat) (n : Nat) : (AV.own n).ren s = .own (s n) := nr rfl
theorem ren_v (s : Nat → Nat) (x : Value) : (AV.v x).ren s = .v x := nr rfl
theorem ren_agg (s : Nat → Nat) (cs : List AV) : (AV.agg cs).ren s = .agg (cs.map (AV.ren s)) := by simp only [AV.ren, rens_eq]
theorem oren_own (s : Nat → Nat) (a : AV) : (AObj.own a).ren s = .own a := nr rfl
theorem oren_dead (s : Nat → Nat) : AObj.dead.ren s = .dead := nr rfl
def AObj.isOwn : AObj → Bool
  | .own _ => true
  | _ => false
theorem owns_of {l : List AObj} (h : l.all AObj.isOwn = true) : ∀ ob ∈ l, ∃ d, ob = .own d := fun ob hb => by
  have := List.all_eq_true.1 h ob hb
  cases ob <;> simp [AObj.isOwn] at this
  exact ⟨_, rfl⟩
theorem kept_call {P : Program} {f : FuncId} {args : List AV} {res : AV} {O1 : List AObj} (h : Con P f args [] res O1) (hn : AV.norefs args = true) (ho : O1.all AObj.isOwn = true) (O : List AObj) : Con P f args O (res.ren fun n => O.length + n) (O ++ O1) := by
  have := h.fresh hn O
  rwa [own_ren (owns_of ho)] at this
mutual
/-- HOW MANY MARKS a tree takes -/
def AV.cnt : AV → Nat
  | .v _ => 1
  | .sl xs => AV.cnts xs
  | .agg cs => AV.cnts cs
  | _ => 0
def AV.cnts : List AV → Nat
  | [] => 0
  | x :: xs => x.cnt + AV.cnts xs
end
theorem cnts_length {α : Type} {f : α → AV} (h : ∀ x, 1 ≤ (f x).cnt) : ∀ l : List α, l.length ≤ AV.cnts (l.map f)
  | [] => Nat.zero_le _
  | x :: l => by
    have := h x
    have := cnts_length h l
    simp only [List.length_cons, List.map_cons, AV.cnts]
    omega
theorem cnts_le {α : Type} {f : α → AV} (wt : α → Nat) (C : Nat) : ∀ l : List α, (∀ x ∈ l, (f x).cnt ≤ C * (wt x + 1)) → AV.cnts (l.map f) ≤ C * (l.length + (l.map wt).sum)
  | [], _ => Nat.zero_le _
  | x :: l, h => by
    have h1 := h x (by simp)
    have h2 := cnts_le wt C l fun y hy => h y (by simp [hy])
    simp only [List.length_cons, List.map_cons, AV.cnts, List.sum_cons]
    have : C * (l.length + 1 + (wt x + (l.map wt).sum)) = C * (wt x + 1) + C * (l.length + (l.map wt).sum) := by rw [← Nat.mul_add]; congr 1; omega
    omega
/- CALLS THAT ARE LENT WHAT IS OWNED -/
theorem Frz.ob {O : List AObj} {n : Nat} {nl : Bool} {e s : Nat} {xs : List AV} (h : O[n]? = some (rowOb nl e s xs)) (hn : AV.norefs xs = true) : Frz O (.row n xs.length) (.sl xs) := by
  unfold rowOb at h
  split at h
  · rename_i hh
    have : xs = [] := by cases xs with
      | nil => rfl
      | cons a l => simp at hh
    subst this
    exact .nil n _ _ h
  · exact .row n _ _ _ _ h rfl hn
theorem Frz.tree {O : List AObj} {m : Nat} {x : AV} (hx : x.elem = true) (h : ∀ (k : Nat) d, (spx 0 x).2[k]? = some (.own d) → O[m + k]? = some (.own d)) : Frz O (spx m x).1 x := by
  simp only [AV.elem, Bool.and_eq_true] at hx
  obtain ⟨⟨ha, hs⟩, hn⟩ := hx
  have hq := AV.agg_of ha
  rw [spx_agg ha]
  rw [spx_agg ha] at h
  rw [hq]
  rw [hq] at h
  refine .agg _ _ (sp_length m _) fun i a b hi hj => ?_
  simp only [AV.cells] at hi hj h
  rcases sp_at m x.cells i a b hi hj with ⟨rfl, v, rfl⟩ | ⟨k, rfl, hk⟩
  · exact .same _ rfl
  · exact .own _ _ (h k b (by rw [sp_count 0 m]; exact hk))
inductive FrzL (O : List AObj) : List AV → List AV → Prop
  | nil : FrzL O [] []
  | cons {a b : AV} {as bs : List AV} : Frz O a b → FrzL O as bs → FrzL O (a :: as) (b :: bs)
theorem FrzL.get {O : List AObj} {as bs : List AV} (h : FrzL O as bs) : as.length = bs.length ∧ ∀ (i : Nat) a b, as[i]? = some a → bs[i]? = some b → Frz O a b := by
  induction h with
  | nil => exact ⟨rfl, fun i a b h => by simp at h⟩
  | cons h _ ih =>
    refine ⟨by simp [ih.1], fun i a b ha hb => ?_⟩
    cases i with
    | zero => simp at ha hb; subst ha; subst hb; exact h
    | succ i => exact ih.2 i a b (by simpa using ha) (by simpa using hb)
theorem PCon.lendv {P : Program} {f : FuncId} {args fargs : List AV} {O : List AObj} {r : Value} (h : PCon P f fargs (.v r)) (hf : FrzL O args fargs) : Con P f args O (.v r) O := by
  have := Con.lend h hf.get.1 hf.get.2 rfl rfl
  rwa [List.map_nil, List.append_nil] at this
/- MORE RULES -/
def puKK (o : PU) (xs : List AV) (O : List AObj) (K : KT) : Prop := AV.norefs xs = true ∧ puK o xs fun v => K v O
theorem o_pu (P : Program) (o : PU) (as : List Opd) (e : Env) (O : List AObj) (K : KT) : wpOp P (.pu o as) e O K = puKK o (as.map fun x => frz O (x.ev e)) O K := nr rfl
theorem puKK_max (k : IntKind) (a b : Int) (O : List AObj) (K : KT) : puKK .max [.v (.int k a), .v (.int k b)] O K = k1 (.v (.int k (max a b))) O K := by
  have : (if a < b then b else a) = max a b := by rw [Int.max_def]; split <;> split <;> omega
  simp [puKK, puK, puF, AV.norefs, AV.noref, k1, this]
mutual
theorem ren_id : ∀ a : AV, a.ren (fun n => n) = a
  | .top | .v _ | .nils => rfl
  | .sl xs => by simp only [AV.ren]; rw [rens_id xs]
  | .iptr x f => by simp only [AV.ren]; rw [ren_id x]
  | .row n l => rfl
  | .ptr n l i f => rfl
  | .fn f cs => by simp only [AV.ren]; rw [rens_id cs]
  | .agg cs => by simp only [AV.ren]; rw [rens_id cs]
  | .tup cs => by simp only [AV.ren]; rw [rens_id cs]
  | .own n => rfl
theorem rens_id : ∀ xs : List AV, AV.rens (fun n => n) xs = xs
  | [] => rfl
  | x :: xs => by simp only [AV.rens]; rw [ren_id x, rens_id xs]
end
theorem oren_scoped {s : Nat → Nat} {k : Nat} (hs : ∀ n, n < k → s n = n) {ob : AObj} (h : ob.inScope k = true) : ob.ren s = ob := by
  cases ob with
  | live e z xs =>
    simp only [AObj.ren]
    have : AV.rens s xs = xs := by rw [rens_congr (s' := fun n => n) hs xs h, rens_id]
    rw [← rens_eq, this]
  | _ => rfl
/-- the call's objects stand first -/
theorem Con.front {P : Program} {f : FuncId} {args : List AV} {O1 O1' : List AObj} {res : AV} (h : Con P f args O1 res O1') (hl : O1'.length = O1.length) (ha : AV.scopeds O1.length args = true) (hr : res.inScope O1.length = true)
    (ho : O1.all (AObj.inScope O1.length) = true) (ho' : O1'.all (AObj.inScope O1.length) = true) (B : List AObj) : Con P f args (O1 ++ B) res (O1' ++ B) := by
  let s : Nat → Nat := fun n => if n < O1.length then n else B.length + n
  have hs : ∀ n, n < O1.length → s n = n := fun n hn => if_pos hn
  have gO : ∀ {X : List AObj}, X.length = O1.length → X.all (AObj.inScope O1.length) = true → ∀ i, i < O1.length → (X ++ B)[s i]? = (X[i]?).map (AObj.ren s) := by
    intro X hX hx i hi
    rw [hs i hi, List.getElem?_append_left (by omega)]
    cases hq : X[i]? with
    | none => rfl
    | some ob => simp only [Option.map_some]; rw [oren_scoped hs (List.all_eq_true.1 hx ob (List.mem_of_getElem? hq))]
  have := h.frame (O := O1 ++ B) (O'' := O1' ++ B) s (fun i hi => by rw [hs i hi]; simp; omega) (gO rfl ho) (fun i j hi hj he => by rw [hs i hi, hs j hj] at he; exact he)
    (fun i hi => by show (if i < O1.length then _ else _) = _; rw [if_neg (by omega)]; simp; omega) (fun a h' => scopeds_mem ha a h') (fun ob hb => List.all_eq_true.1 ho ob hb) (by simp [hl]) (fun i hi => gO hl ho' i (by omega)) (fun n hn hno => ?_)
  · have e1 : args.map (AV.ren s) = args := by rw [← rens_eq, rens_congr (s' := fun n => n) hs args ha, rens_id]
    have e2 : res.ren s = res := by rw [ren_congr (s' := fun n => n) hs res hr, ren_id]
    rwa [e1, e2] at this
  · have hge : O1.length ≤ n := by
      rcases Nat.lt_or_ge n O1.length with h' | h'
      · exact (hno n h' (hs n h')).elim
      · exact h'
    rw [List.getElem?_append_right (by omega), List.getElem?_append_right hge, hl]
/- MARKS THAT ARE KEPT -/
theorem ret_same {n0 t : Nat} {res : AV} {x : AX} (hx : x = .ret ∨ x = .normal) {e : Env} {O : List AObj} (h : e t = res) : retK n0 [.tmp t] res O x e O := by
  have : resK e O [.tmp t] [] fun xs' => ∃ e', WK n0 (fun t => if t = 0 then packR xs' else .top) O e' O ∧ e' 0 = res := by
    rw [resK_tmp, resK_nil]
    simp only [List.reverse_cons, List.reverse_nil, List.nil_append, packR, h]
    exact ⟨fun t => if t = 0 then res else .top, .refl _ _ _, rfl⟩
  rcases hx with rfl | rfl <;> exact this
theorem Con.turn {P : Program} {f : FuncId} {k : Value} {r : Value} {a a' : AV} (h : Con P f [.own 0, .v k] [.own a] (.v r) [.own a']) {O : List AObj} (m : Nat) (hm : O[m]? = some (.own a)) : Con P f [.own m, .v k] O (.v r) (O.set m (.own a')) :=
  h.one' (by simp [AV.one, AV.noref]) rfl rfl rfl m hm
/-- a call on the trees of one value, which lie side by side, and stay such -/
theorem Con.atK {P : Program} {f : FuncId} {args : List AV} {O1 O1' : List AObj} {res : AV} (h : Con P f args O1 res O1') (hl : O1'.length = O1.length) (ho : ∀ ob ∈ O1, ∃ d, ob = .own d) (ho' : ∀ ob ∈ O1', ∃ d, ob = .own d) (ha : ∀ a ∈ args, a.inScope O1.length = true) (hr : res.noref = true) (A B : List AObj) :
    Con P f (args.map (AV.ren fun n => A.length + n)) (A ++ (O1 ++ B)) res (A ++ (O1' ++ B)) := by
  let s : Nat → Nat := fun n => if n < O1.length then A.length + n else A.length + O1.length + B.length + (n - O1.length)
  have hs : ∀ n, n < O1.length → s n = A.length + n := fun n hn => if_pos hn
  have gO : ∀ {X : List AObj}, X.length = O1.length → (∀ ob ∈ X, ∃ d, ob = .own d) → ∀ i, i < O1.length → (A ++ (X ++ B))[s i]? = (X[i]?).map (AObj.ren s) := by
    intro X hX hx i hi
    rw [hs i hi, List.getElem?_append_right (by omega), Nat.add_sub_cancel_left, List.getElem?_append_left (by omega)]
    have : X[i]? = some (X[i]'(by omega)) := by simp [hX, hi]
    obtain ⟨d, hd⟩ := hx (X[i]'(by omega)) (List.getElem_mem _)
    rw [this, hd]; rfl
  have := h.frame (O := A ++ (O1 ++ B)) (O'' := A ++ (O1' ++ B)) s (fun i hi => by rw [hs i hi]; simp; omega) (gO rfl ho) (fun i j hi hj he => by rw [hs i hi, hs j hj] at he; omega)
    (fun i hi => by show (if i < O1.length then _ else _) = _; rw [if_neg (by omega)]; simp; omega) ha (fun ob hb => by obtain ⟨d, rfl⟩ := ho ob hb; rfl) (by simp [hl]) (fun i hi => gO hl ho' i (by omega)) (fun n hn hno => ?_)
  · rw [noref_ren res hr] at this
    have he : args.map (AV.ren s) = args.map (AV.ren fun n => A.length + n) := List.map_congr_left fun a h' => ren_congr hs a (ha a h')
    rwa [he] at this
  · by_cases h1 : n < A.length
    · rw [List.getElem?_append_left h1, List.getElem?_append_left h1]
    · have e1 : ∀ X : List AObj, (A ++ X)[n]? = X[n - A.length]? := fun X => List.getElem?_append_right (by omega)
      rw [e1, e1]
      by_cases h2 : n - A.length < O1.length
      · exact (hno (n - A.length) h2 (by rw [hs _ h2]; omega)).elim
      · have e2 : ∀ X : List AObj, X.length = O1.length → (X ++ B)[n - A.length]? = B[n - A.length - O1.length]? := fun X hX => by rw [List.getElem?_append_right (by omega), hX]
        rw [e2 _ hl, e2 _ rfl]
/-- a cell of a box that is nil is a slice of one's own to be -/
theorem WK.nilCell {n0 : Nat} {e : Env} {O : List AObj} {n ty z t' z' : Nat} {cs : List AV} {j : Nat} (hn : O[n]? = some (.live ty z [.agg cs])) (hj : cs[j]? = some .nils) :
    WK n0 e O e (O.set n (.live ty z [.agg (cs.set j (.row O.length 0))]) ++ [.nil t' z']) := by
  intro I0 L0 O0 w0 I L w f hl hg hr
  have hlt : n < O.length := (List.getElem?_eq_some_iff.1 hn).1
  let O' := O.set n (.live ty z [.agg (cs.set j (.row O.length 0))]) ++ [.nil t' z']
  have gn : O'[n]? = some (.live ty z [.agg (cs.set j (.row O.length 0))]) := by
    show (O.set n _ ++ _)[n]? = _
    rw [List.getElem?_append_left (by simpa using hlt), List.getElem?_set_self hlt]
  have go : ∀ {m : Nat}, m < O.length → m ≠ n → O'[m]? = O[m]? := fun {m} h h' => by
    show (O.set n _ ++ _)[m]? = _
    rw [List.getElem?_append_left (by simpa using h), List.getElem?_set_ne (Ne.symm h')]
  have gl : O'[O.length]? = some (.nil t' z') := by
    show (O.set n _ ++ _)[O.length]? = _
    rw [List.getElem?_append_right (by simp)]; simp
  have gx : ∀ {m : Nat} {ob : AObj}, O'[m]? = some ob → m = n ∨ (m < O.length ∧ m ≠ n) ∨ m = O.length := fun {m ob} h => by
    have : m < O'.length := (List.getElem?_eq_some_iff.1 h).1
    have h2 : O'.length = O.length + 1 := by simp [O']
    omega
  have live : ∀ {m e' k : Nat} {xs : List AV}, O'[m]? = some (AObj.live e' k xs) → ∃ ys : List AV, O[m]? = some (AObj.live e' k ys) ∧ ys.length = xs.length := fun {m e' k xs} h => by
    rcases gx h with rfl | ⟨h1, h2⟩ | rfl
    · rw [gn] at h; cases h; exact ⟨_, hn, rfl⟩
    · rw [go h1 h2] at h; exact ⟨xs, h, rfl⟩
    · rw [gl] at h; cases h
  have own : ∀ {m : Nat} {a : AV}, O'[m]? = some (AObj.own a) → O[m]? = some (AObj.own a) := fun {m a} h => by
    rcases gx h with rfl | ⟨h1, h2⟩ | rfl
    · rw [gn] at h; cases h
    · rwa [go h1 h2] at h
    · rw [gl] at h; cases h
  have ext : Ext I L O I L O' := by
    refine ⟨fun _ _ _ h => h, by simp [O'], fun m hm e' k xs hx => ?_, fun m hm e' k hx => ?_, fun m hm a hx => ⟨⟨a, own hx⟩, rfl⟩⟩
    · obtain ⟨ys, h1, h2⟩ := live hx
      exact .inl ⟨ys, h1, by omega, fun _ => rfl⟩
    · by_cases hmn : m = n
      · subst hmn; rw [gn] at hx; cases hx
      · rwa [go hm hmn] at hx
  have hi := hg.inv
  refine ⟨I, L, ⟨⟨hi.imm, fun m e' k xs hx => ?_, fun m m' e' k xs e'' k' ys hx hy hb => ?_, fun m e' k xs o hx => ?_, hi.fix, hi.blk, hi.ow.same (fun m a h => ⟨own h, rfl⟩) (fun b o v hv => .inl ⟨o, v, hv⟩) (fun m e' k xs hx => ?_) rfl⟩, hg.ext.trans ext, hg.frm, ?_, hg.immNew⟩, fun t => (hr t).mono ext⟩
  · rcases gx hx with rfl | ⟨h1, h2⟩ | rfl
    · rw [gn] at hx; cases hx
      obtain ⟨c, q1, q2, q3, q4, q5, q6⟩ := hi.obj m _ _ _ hn
      refine ⟨c, q1, q2, q3, q4, q5, fun i x hx => ?_⟩
      cases i with
      | succ i => simp at hx
      | zero =>
        simp at hx; subst hx
        obtain ⟨r1, r2⟩ := q6 0 _ rfl
        refine ⟨by simpa [AV.cells] using r1, fun i a ha => ?_⟩
        simp only [AV.cells] at ha r2
        rw [List.getElem?_set] at ha
        split at ha
        · rename_i hji
          subst hji
          split at ha
          · cases ha
            obtain ⟨y, hy, ho, hry⟩ := r2 j _ hj
            cases hry
            exact ⟨_, hy, ho, .rowNil O.length t' z' gl⟩
          · cases ha
        · obtain ⟨y, hy, ho, hry⟩ := r2 i a ha
          exact ⟨y, hy, ho, hry.mono ext⟩
    · rw [go h1 h2] at hx
      exact (hi.obj m _ _ _ hx).congr rfl fun _ _ h => h.mono ext
    · rw [gl] at hx; cases hx
  · obtain ⟨ys', h1, _⟩ := live hx
    obtain ⟨ys'', h2, _⟩ := live hy
    exact hi.sep m m' _ _ _ _ _ _ h1 h2 hb
  · obtain ⟨ys', h1, _⟩ := live hx
    exact hi.immSep m _ _ _ o h1
  · obtain ⟨ys', h1, _⟩ := live hx
    exact .inl ⟨m, _, _, _, h1, rfl⟩
  · rintro b (⟨m, e', k, xs, hx, hb⟩ | ⟨m, a, o, v, hx, hv⟩)
    · obtain ⟨ys', h1, _⟩ := live hx
      exact hg.lb b (.inl ⟨m, _, _, _, h1, hb⟩)
    · exact hg.lb b (.inr ⟨m, a, o, v, own hx, hv⟩)
def fcallK (P : Program) (f : FuncId) (args : List AV) (O : List AObj) (K : KT) : Prop := ∃ res ob, AV.norefs args = true ∧ Con P f args [] res [ob] ∧ K (res.ren fun n => O.length + n) (O ++ [ob.ren fun n => O.length + n])
theorem o_fcall (P : Program) (nl : Bool) (t s : Nat) (f : FuncId) (as : List Opd) (e : Env) (O : List AObj) (K : KT) : wpOp P (.fcall nl t s f as) e O K = fcallK P f (as.map (Opd.ev e)) O K := nr rfl
theorem fcallK_intro {P : Program} {f : FuncId} {args : List AV} {O : List AObj} {K : KT} {res : AV} {a : AV} (h : Con P f args [] res [.own a]) (hn : AV.norefs args = true) (k : k1 (res.ren fun n => O.length + n) (O ++ [.own a]) K) : fcallK P f args O K := ⟨res, .own a, hn, h, k⟩
theorem Split.congr {O O' : List AObj} {ys xs : List AV} (h : Split O ys xs) (ho : ∀ (m : Nat) d, O[m]? = some (.own d) → O'[m]? = some (.own d)) : Split O' ys xs :=
  ⟨h.len, h.cells, fun i y x j c d hy hx hc hd => (h.half i y x j c d hy hx hc hd).imp id fun ⟨k, h1, h2⟩ => ⟨k, h1, ho k d h2⟩, h.inj⟩
theorem Split.nil (O : List AObj) : Split O [] [] := ⟨rfl, fun i y x h => by simp at h, fun i y x j c d h => by simp at h, fun i y j i' y' j' k h => by simp at h⟩
/-- one more element, with new names -/
theorem Split.snoc {O N : List AObj} {ys xs : List AV} (h : Split O ys xs) {x : AV} {b : Nat} (hb : O.length ≤ b) (hx : x.elem = true) (ho : ∀ (k : Nat) d, (spx 0 x).2[k]? = some (.own d) → (O ++ N)[b + k]? = some (.own d)) :
    Split (O ++ N) (ys ++ [(spx b x).1]) (xs ++ [x]) := by
  have hx' := hx
  simp only [AV.elem, Bool.and_eq_true] at hx
  obtain ⟨⟨ha, _⟩, hn⟩ := hx
  have hcl := spx_cells ha b
  have hno := noref_own hn
  have q := spx_agg ha b
  have hq0 := spx_agg ha 0
  have old : ∀ {i : Nat} {y : AV}, (ys ++ [(spx b x).1])[i]? = some y → (ys[i]? = some y ∧ i < ys.length) ∨ (i = ys.length ∧ y = (spx b x).1) := fun {i y} hi => by
    by_cases hlt : i < ys.length
    · rw [List.getElem?_append_left hlt] at hi; exact .inl ⟨hi, hlt⟩
    · rw [List.getElem?_append_right (by omega)] at hi
      have : i - ys.length = 0 := by
        rcases Nat.eq_zero_or_pos (i - ys.length) with h0 | h0
        · exact h0
        · rw [List.getElem?_eq_none (by simp; omega)] at hi; cases hi
      rw [this] at hi
      simp at hi
      exact .inr ⟨by omega, hi.symm⟩
  have oldx : ∀ {i : Nat} {z : AV}, (xs ++ [x])[i]? = some z → (i < ys.length → xs[i]? = some z) ∧ (i = ys.length → z = x) := fun {i z} hi => by
    refine ⟨fun hlt => ?_, fun he => ?_⟩
    · rwa [List.getElem?_append_left (by rw [← h.len]; exact hlt)] at hi
    · rw [List.getElem?_append_right (by rw [← h.len]; omega), he, h.len, Nat.sub_self] at hi
      simp at hi; exact hi.symm
  have ref : ∀ {i : Nat} {y : AV} {j k : Nat}, ys[i]? = some y → y.cells[j]? = some (.own k) → k < O.length := fun {i y j k} hi hj => by
    have hlt := (List.getElem?_eq_some_iff.1 hi).1
    obtain ⟨z, hz⟩ : ∃ z, xs[i]? = some z := ⟨xs[i]'(by rw [← h.len]; exact hlt), by simp [← h.len, hlt]⟩
    have hl := h.cells i y z hi hz
    have hjl := (List.getElem?_eq_some_iff.1 hj).1
    obtain ⟨d, hd⟩ : ∃ d, z.cells[j]? = some d := ⟨z.cells[j]'(by omega), by simp <;> omega⟩
    rcases h.half i y z j _ d hi hz hj hd with ⟨h1, v, h2⟩ | ⟨m, h1, h2⟩
    · rw [← h1] at h2; cases h2
    · cases h1; exact (List.getElem?_eq_some_iff.1 h2).1
  have refn : ∀ {j k : Nat}, (spx b x).1.cells[j]? = some (.own k) → b ≤ k := fun {j k} hj => by
    rw [q] at hj
    exact (sp_inj b x.cells j j k (by simpa [AV.cells] using hj) (by simpa [AV.cells] using hj) hno).1
  refine ⟨by simp [h.len], fun i y z hy hz => ?_, fun i y z j c d hy hz hc hd => ?_, fun i y j i' y' j' k h1 h2 h3 h4 => ?_⟩
  · rcases old hy with ⟨h1, h2⟩ | ⟨h1, rfl⟩
    · exact h.cells i y z h1 ((oldx hz).1 h2)
    · rw [(oldx hz).2 h1]; exact hcl
  · rcases old hy with ⟨h1, h2⟩ | ⟨h1, rfl⟩
    · rcases h.half i y z j c d h1 ((oldx hz).1 h2) hc hd with h3 | ⟨k, h3, h4⟩
      · exact .inl h3
      · exact .inr ⟨k, h3, by rw [List.getElem?_append_left (List.getElem?_eq_some_iff.1 h4).1]; exact h4⟩
    · rw [(oldx hz).2 h1] at hd
      rw [q] at hc
      rcases sp_at b x.cells j c d (by simpa [AV.cells] using hc) hd with h3 | ⟨k, h3, h4⟩
      · exact .inl h3
      · exact .inr ⟨b + k, h3, ho k d (by rw [hq0, sp_count 0 b]; exact h4)⟩
  · rcases old h1 with ⟨h5, h6⟩ | ⟨h5, rfl⟩ <;> rcases old h3 with ⟨h7, h8⟩ | ⟨h7, rfl⟩
    · exact h.inj i y j i' y' j' k h5 h2 h7 h4
    · have := ref h5 h2; have := refn h4; omega
    · have := ref h7 h4; have := refn h2; omega
    · rw [q] at h2 h4
      exact ⟨by omega, (sp_inj b x.cells j j' k (by simpa [AV.cells] using h2) (by simpa [AV.cells] using h4) hno).2.2⟩
open Classical in
/-- at the end: a row among the cells of what is given back is a tree of one's own -/
theorem ret_close {rs : List ARes} {x : AX} (hx : x = .ret ∨ x = .normal) {e : Env} {O : List AObj} {cs : List AV} {j k len ty z : Nat} {ys xs : List AV} (h : resK e O rs [] fun xs => packR xs = .agg cs) (hj : cs[j]? = some (.row k len)) (hv : ∀ (i : Nat) c, i ≠ j → cs[i]? = some c → ∃ v, c = .v v)
    (hO : O[k]? = some (rowOb true ty z ys)) (hl : ys.length = len) (hs : Split O ys xs) : retK 0 rs (.agg (cs.set j (.own 0))) [.own (.sl xs)] x e O := by
  have : resK e O rs [] fun xs' => ∃ e', WK 0 (fun t => if t = 0 then packR xs' else .top) O e' [.own (.sl xs)] ∧ e' 0 = .agg (cs.set j (.own 0)) := by
    refine resK_mono rs _ _ _ (fun xs' hp => ?_) h
    refine ⟨fun t => if t = 0 then .agg (cs.set j (.own 0)) else .top, ?_, rfl⟩
    intro I0 L0 O0 w0 I L w f hl0 hg hr
    obtain rfl : O0 = [] := List.eq_nil_of_length_eq_zero hl0
    have hr0 := hr 0
    simp only [if_true, hp] at hr0
    generalize hf : f 0 = y0 at hr0
    cases hr0 with
    | agg _ vs h1 h2 =>
    have hjl := (List.getElem?_eq_some_iff.1 hj).1
    have hjv : vs[j]? = some (vs[j]'(by omega)) := by simp [h1 ▸ hjl]
    have hrj := h2 j _ _ hj hjv
    obtain ⟨S, hS, hb⟩ : ∃ S : Nat → Prop, OT w (.sl xs) (vs[j]'(by omega)) S ∧ ∀ b, S b → LB L O b := by
      by_cases hy : ys = []
      · subst hy
        have hxs : xs = [] := List.eq_nil_of_length_eq_zero (by rw [← hs.len]; rfl)
        subst hxs
        have hO' : O[k]? = some (.nil ty z) := by rw [hO]; simp [rowOb]
        rw [(hrj.row_nil hO').1]
        exact ⟨_, .sl0 _ _, fun b h => h.elim⟩
      · have hO' : O[k]? = some (.live ty z ys) := by rw [hO]; simp [rowOb, hy]
        rw [hrj.row_live hO' hl, ← hl, hs.len]
        exact hg.inv.closes hO' hs
    have hinv := hg.inv.one_own hS hb
    refine ⟨I, _, ⟨hinv, ⟨hg.ext.imm, Nat.zero_le _, fun n hn => by simp at hn, fun n hn => by simp at hn, fun n hn => by simp at hn⟩, hg.frm, ?_, hg.immNew⟩, fun t => ?_⟩
    · rintro b (⟨n, e', s', xs', hn, _⟩ | ⟨n, a, o, v, hn, hv'⟩)
      · cases n <;> simp at hn
      · have hSb : S b := by
          by_cases hb' : S b
          · exact hb'
          · simp [hb'] at hv'
        exact hg.lb b (hb b hSb)
    · by_cases ht : t = 0
      · subst ht
        simp only [if_true]
        rw [hf]
        refine .agg _ vs (by simpa using h1) fun i c q hc hq => ?_
        rw [List.getElem?_set] at hc
        split at hc
        · rename_i hji
          subst hji
          cases hc
          rw [hjv] at hq
          cases hq
          exact .ownLive 0 (.sl xs) rfl hS.oneCell
        · rename_i hji
          obtain ⟨v, rfl⟩ := hv i c (fun h => hji h.symm) hc
          have := h2 i _ q hc hq
          cases this
          exact .v _ (by assumption)
      · simp only [if_neg ht]; exact .top _
  rcases hx with rfl | rfl <;> exact this
/-- the rules of such walks, in few names -/
def OD0 := And.intro @c_draw (And.intro @wpOpsL_kont (And.intro @wpOpsL_nil (And.intro @o_beq (And.intro @o_pu (And.intro @o_fcall (And.intro @wpC_skip (And.intro @wpC_region (And.intro @c_seq (And.intro @c_cond (And.intro @c_block (And.intro @wpC_exit (And.intro @wpC_ret (And.intro @c_keep (And.intro @c_loop (And.intro @wpOps_nil (And.intro @wpOps_kont (And.intro @c_guard (And.intro @seqQ_n (@seqQ_e)))))))))))))))))))
def OD1 := And.intro @seqQ_r (And.intro @blockQ_n (And.intro @blockQ_e (And.intro @blockQ_r (And.intro @keepQ_n (And.intro @keepQ_e (And.intro @keepQ_r (And.intro @roundQ_e (And.intro @roundQ_r (And.intro @o_mov (And.intro @o_pick (And.intro @o_alloc (And.intro @o_box (And.intro @o_build (And.intro @o_buildSlice (And.intro @o_load (And.intro @o_store (And.intro @o_bin (And.intro @o_un (@o_conv)))))))))))))))))))
def OD2 := And.intro @o_faddr (And.intro @o_fld (And.intro @o_iaddr (And.intro @o_idxS (And.intro @o_sliceS (And.intro @o_sliceL (And.intro @o_mk (And.intro @o_lenS (And.intro @o_lenL (And.intro @o_app (And.intro @o_ext (And.intro @o_nilc (And.intro @o_mkfn (And.intro @o_call (And.intro @o_callv (And.intro @o_pcall (And.intro @o_pcallv (And.intro @o_qcall (And.intro @o_qcallv (@setD_some)))))))))))))))))))
def OD3 := @setD_none
def OA0 := And.intro @cells_own (And.intro @isCell_own (And.intro @storable_own (And.intro @upd_own (And.intro @ren_own (And.intro @ren_v (And.intro @ren_agg (And.intro @oren_own (And.intro @oren_dead (And.intro @k1_kontL (And.intro @beqK_eq (And.intro @puKK_max (And.intro @k1_kont (And.intro @pickK_true (And.intro @pickK_false (And.intro @pickK_bool (And.intro @boxK_eq (And.intro @bldK_nil (And.intro @bldK_cons (@bslK_nil)))))))))))))))))))
def OA1 := And.intro @bslK_cons (And.intro @objK_live (And.intro @objN_live (And.intro @objN_nil (And.intro @loadK_iptr (And.intro @loadK_ptr (And.intro @storeK_ptr (And.intro @binK_add (And.intro @binK_sub (And.intro @binK_mul (And.intro @binK_and (And.intro @binK_or (And.intro @binK_xor (And.intro @binK_quo (And.intro @binK_rem (And.intro @binK_eql (And.intro @binK_neq (And.intro @binK_lss (And.intro @binK_leq (@binK_gtr)))))))))))))))))))
def OA2 := And.intro @binK_geq (And.intro @binK_shl (And.intro @binK_shr (And.intro @binK_sadd (And.intro @binK_seql (And.intro @binK_sneq (And.intro @unK_not (And.intro @unK_neg (And.intro @convK_eq (And.intro @faddrK_iptr (And.intro @faddrK_ptr (And.intro @fldK_eq (And.intro @iaddrK_sl (And.intro @iaddrK_row (And.intro @idxSK_eq (And.intro @bnd_none (And.intro @bnd_some (And.intro @sliceSK_eq (And.intro @sliceLK_eq (@mkK_eq)))))))))))))))))))
def OA3 := And.intro @lenSK_eq (And.intro @lenLK_nils (And.intro @lenLK_sl (And.intro @lenLK_row (And.intro @srcOf_nils (And.intro @srcOf_sl (And.intro @srcOf_row (And.intro @ontoK_nils1 (And.intro @ontoK_nils (And.intro @ontoK_row (And.intro @extK_eq (And.intro @nilcK_iptr (And.intro @nilcK_fn (And.intro @nilcK_ptr (And.intro @callvK_fn (And.intro @qcallvK_fn (And.intro @pcallvK_fn (And.intro @gopK_tt (And.intro @gopK_tf (@gopK_ft)))))))))))))))))))
def OA4 := And.intro @gopK_ff (And.intro @gopK_skip (And.intro @condK_true (And.intro @condK_false (And.intro @loadC_whole (And.intro @loadC_none (And.intro @upd_whole (And.intro @upd_v (And.intro @upd_sl (And.intro @upd_nils (And.intro @upd_row (And.intro @upd_ptr (And.intro @upd_fn (And.intro @upd_agg (And.intro @upd_agg0 (And.intro @frz_v (And.intro @frz_sl (And.intro @frz_nils (And.intro @frz_agg (@frz_fn)))))))))))))))))))
def OA5 := And.intro @resK_nil (And.intro @resK_tmp (And.intro @resK_cell (And.intro @cellK_ptr (And.intro @cellOK_live (And.intro @packR_one (And.intro @packR_more (And.intro @List.reverse_cons.{0} (And.intro @List.reverse_nil.{0} (And.intro @ne_eq.{1} (And.intro @Nat.add_eq_zero_iff (And.intro @not_false_eq_true (And.intro @Nat.one_ne_zero (And.intro @ev_t (And.intro @ev_c (And.intro @set_at (And.intro @entry_at (And.intro @envL_cons (And.intro @keepE_eq (@List.map_cons.{0,0})))))))))))))))))))
def OA6 := And.intro @List.map_nil.{0,0} (And.intro @Option.map_some.{0,0} (And.intro @Option.map_none.{0,0} (And.intro @List.getD_cons_zero.{0} (And.intro @List.getD_cons_succ.{0} (And.intro @List.length_nil.{0} (And.intro @List.length_cons.{0} (And.intro @List.length_append.{0} (And.intro @List.length_set.{0} (And.intro @List.nil_append.{0} (And.intro @List.cons_append.{0} (And.intro @List.append_nil.{0} (And.intro @List.getElem?_cons_zero.{0} (And.intro @List.getElem?_cons_succ.{0} (And.intro @List.set_cons_zero.{0} (And.intro @List.set_cons_succ.{0} (And.intro @List.drop_succ_cons.{0} (And.intro @List.drop_zero.{0} (And.intro @List.take_succ_cons.{0} (@List.take_zero.{0})))))))))))))))))))
def OA7 := And.intro @List.replicate_succ.{0} (And.intro @List.replicate_zero.{0} (And.intro @if_true.{1} (And.intro @if_false.{1} (And.intro @cells_agg (And.intro @cells_v (And.intro @cells_nils (And.intro @cells_sl (And.intro @cells_row (And.intro @cells_ptr (And.intro @cells_fn (And.intro @isAgg_agg (And.intro @isCell_v (And.intro @isCell_nils (And.intro @isCell_sl (And.intro @isCell_row (And.intro @isCell_ptr (And.intro @isCell_fn (And.intro @storable_agg (@storable_v)))))))))))))))))))
def OA8 := And.intro @storable_nils (And.intro @storable_sl (And.intro @storable_row (And.intro @storable_ptr (And.intro @storable_fn (And.intro @frz_noref (And.intro @aft_flat (And.intro @flat_v (And.intro @norefs_nil (And.intro @norefs_cons (And.intro @noref_v (And.intro @noref_sl (And.intro @noref_agg (And.intro @noref_tup (And.intro @noref_nils (And.intro @noref_fn (And.intro @List.all_cons.{0} (And.intro @List.all_nil.{0} (And.intro @Bool.and_true (@Bool.true_and)))))))))))))))))))
def OA9 := And.intro @Bool.or_true (And.intro @Bool.true_or (And.intro @Bool.not_true (And.intro @Bool.not_false (And.intro @decide_true (And.intro @decide_false (And.intro @dlt0 (And.intro @Option.getD_none.{0} (And.intro @Option.getD_some.{0} (And.intro @true_and (And.intro @and_true (And.intro @Nat.zero_add (And.intro @Nat.add_zero (And.intro @Nat.lt_add_one (And.intro @Nat.zero_lt_succ (@Nat.le_refl)))))))))))))))
def OD := And.intro @OD0 (And.intro @OD1 (And.intro @OD2 (@OD3)))
def OA := And.intro @OA0 (And.intro @OA1 (And.intro @OA2 (And.intro @OA3 (And.intro @OA4 (And.intro @OA5 (And.intro @OA6 (And.intro @OA7 (And.intro @OA8 (@OA9)))))))))
end Go.Ab
