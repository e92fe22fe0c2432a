/-
  WHAT Put GIVES where metas stand for themselves, or ints for them; the size of a type; the text of a right type is not empty.
-/
import Derived.Test.YtaefihlbielllaaDoorCPut
import Derived.Test.YtaefihlbielllaaDoorCTyText
import Derived.Test.YtaefihlbielllaaDoorCSameTy
set_option linter.unusedVariables false
set_option linter.unusedSimpArgs false
set_option linter.defProp false
namespace Go.Ab
set_option maxRecDepth 100000
set_option maxHeartbeats 4000000
def metasL (m : Nat) : List VTy := (List.range m).map fun (k : Nat) => VTy.mk 11 (k : Int) ⟨#[]⟩ []
def intsL (m : Nat) : List VTy := List.replicate m (.mk 1 0 ⟨#[]⟩ [])
theorem metasL_len (m : Nat) : (metasL m).length = m := by simp [metasL]
theorem intsL_len (m : Nat) : (intsL m).length = m := by simp [intsL]
theorem VTy.okM_name {x : VTy} (h : x.okM = true) (hk : x.Kind ≠ 7) : x.Name = emp := by
  rw [x.okM_eq] at h
  simp only [Bool.and_eq_true, VTy.nodeM, Bool.or_eq_true, decide_eq_true_eq] at h
  rcases h.1.1.1 with h | h
  · exact (hk h).elim
  · exact h
theorem VTy.put_metas (m : Nat) (x : VTy) (h : x.okM = true) : x.put 11 (metasL m) = x := by
  have hpe := x.put_eq 11 (metasL m)
  rw [metasL_len] at hpe
  by_cases hc : x.Kind = 11 ∧ x.N < (m : Int)
  · rw [if_pos hc] at hpe
    obtain ⟨h0, hk⟩ := x.okM_var h (by omega)
    have hnm := x.okM_name h (by omega)
    have hg : (metasL m)[x.N.toNat]? = some (.mk 11 (x.N.toNat : Int) ⟨#[]⟩ []) := by
      have hlt : x.N.toNat < m := by omega
      simp [metasL, hlt]
    rw [hpe, hg, Option.getD_some, Int.toNat_of_nonneg h0]
    obtain ⟨k, n, s, kids⟩ := x
    simp only [VTy.Kind_mk, VTy.N_mk, VTy.Name_mk, VTy.Kids_mk] at *
    subst hk; subst hnm
    rw [hc.1]; rfl
  · rw [if_neg hc] at hpe
    have hm : (x.Kids.map fun y => y.put 11 (metasL m)) = x.Kids := by
      have : (x.Kids.map fun y => y.put 11 (metasL m)) = x.Kids.map id := List.map_congr_left fun y hy => VTy.put_metas m y (VTy.okM_kid h hy)
      rw [this, List.map_id]
    rw [hpe, hm]
    cases x; rfl
termination_by SizeOf.sizeOf x
decreasing_by all_goals exact VTy.Kids_lt hy
theorem all2_refl {α : Type} {p : α → α → Bool} : ∀ l : List α, (∀ y ∈ l, p y y = true) → all2 p l l = true
  | [], _ => rfl
  | x :: l, h => by
    rw [all2, h x (by simp), Bool.true_and]
    exact all2_refl l fun y hy => h y (by simp [hy])
theorem VTy.same_refl (x : VTy) : x.same x = true := by
  rw [x.same_eq, all2_refl x.Kids fun y hy => VTy.same_refl y]
  simp
termination_by SizeOf.sizeOf x
decreasing_by all_goals exact VTy.Kids_lt hy
theorem VTy.freesL_mem (n k : Int) : ∀ l : List VTy, n ∈ VTy.freesL l k → ∃ y ∈ l, n ∈ y.frees k
  | [], h => by rw [VTy.freesL] at h; cases h
  | x :: l, h => by
    rw [VTy.freesL] at h
    rcases List.mem_append.1 h with h | h
    · exact ⟨x, by simp, h⟩
    · obtain ⟨y, hy, hn⟩ := VTy.freesL_mem n k l h
      exact ⟨y, by simp [hy], hn⟩
theorem VTy.put_ints {m : Nat} {x : VTy} (h : x.okM = true) (hc : x.Kind = 11 ∧ x.N < (m : Int)) : x.put 11 (intsL m) = .mk 1 0 ⟨#[]⟩ [] := by
  have hpe := x.put_eq 11 (intsL m)
  rw [intsL_len, if_pos hc] at hpe
  obtain ⟨h0, hk⟩ := x.okM_var h (by omega)
  have hlt : x.N.toNat < m := by omega
  rw [hpe]
  simp [intsL, hlt]
theorem VTy.put_ints' {m : Nat} {x : VTy} (hc : ¬ (x.Kind = 11 ∧ x.N < (m : Int))) : x.put 11 (intsL m) = .mk x.Kind x.N x.Name (x.Kids.map fun y => y.put 11 (intsL m)) := by
  have hpe := x.put_eq 11 (intsL m)
  rwa [intsL_len, if_neg hc] at hpe
theorem VTy.frees_ints (m : Nat) (x : VTy) (h : x.okM = true) : ∀ n ∈ (x.put 11 (intsL m)).frees 11, (m : Int) ≤ n := by
  intro n hn
  by_cases hc : x.Kind = 11 ∧ x.N < (m : Int)
  · rw [VTy.put_ints h hc, VTy.frees_eq] at hn
    simp [VTy.Kind, VTy.Kids, VTy.freesL] at hn
  · rw [VTy.put_ints' hc, VTy.frees_eq] at hn
    simp only [VTy.Kind_mk, VTy.N_mk, VTy.Kids_mk] at hn
    rcases List.mem_append.1 hn with hn | hn
    · split at hn
      · rw [List.mem_singleton.1 hn]; omega
      · cases hn
    · obtain ⟨y, hy, hn⟩ := VTy.freesL_mem n 11 _ hn
      obtain ⟨z, hz, rfl⟩ := List.mem_map.1 hy
      exact VTy.frees_ints m z (VTy.okM_kid h hz) n hn
termination_by SizeOf.sizeOf x
decreasing_by all_goals exact VTy.Kids_lt hz
mutual
def VTy.siz : VTy → Nat
  | .mk _ _ _ kids => 1 + VTy.sizL kids
def VTy.sizL : List VTy → Nat
  | [] => 0
  | x :: l => x.siz + VTy.sizL l
end
theorem VTy.sizL_eq : ∀ l : List VTy, VTy.sizL l = (l.map VTy.siz).sum
  | [] => rfl
  | x :: l => by rw [VTy.sizL, VTy.sizL_eq l]; rfl
theorem VTy.siz_eq (x : VTy) : x.siz = 1 + (x.Kids.map VTy.siz).sum := by cases x; rw [VTy.siz, VTy.sizL_eq]; rfl
theorem VTy.siz_put (m : Nat) (x : VTy) (h : x.okM = true) : (x.put 11 (intsL m)).siz = x.siz := by
  by_cases hc : x.Kind = 11 ∧ x.N < (m : Int)
  · have hv := x.okM_var h (by omega)
    rw [VTy.put_ints h hc, VTy.siz_eq, VTy.siz_eq x, hv.2]
    rfl
  · rw [VTy.put_ints' hc, VTy.siz_eq, VTy.siz_eq x]
    simp only [VTy.Kids_mk, List.map_map]
    congr 2
    exact List.map_congr_left fun y hy => VTy.siz_put m y (VTy.okM_kid h hy)
termination_by SizeOf.sizeOf x
decreasing_by all_goals exact VTy.Kids_lt hy
theorem VTy.siz_le (x : VTy) : x.siz ≤ x.wt + 1 := by
  have h1 := x.siz_eq
  have h2 := x.wt_eq
  have h3 : ∀ l : List VTy, (∀ y ∈ l, y.siz ≤ y.wt + 1) → (l.map VTy.siz).sum ≤ l.length + (l.map VTy.wt).sum := by
    intro l
    induction l with
    | nil => intro _; simp
    | cons y l ih =>
      intro h
      have := h y (by simp)
      have := ih fun z hz => h z (by simp [hz])
      simp only [List.map_cons, List.sum_cons, List.length_cons]; omega
  have := h3 x.Kids fun y hy => VTy.siz_le y
  omega
termination_by SizeOf.sizeOf x
decreasing_by all_goals exact VTy.Kids_lt hy
theorem VTy.wt_ints (m : Nat) (x : VTy) (h : x.okM = true) : (x.put 11 (intsL m)).wt ≤ x.wt := by
  by_cases hc : x.Kind = 11 ∧ x.N < (m : Int)
  · rw [VTy.put_ints h hc, VTy.wt_eq]
    exact Nat.zero_le _
  · have hs : ∀ l : List VTy, (∀ y ∈ l, (y.put 11 (intsL m)).wt ≤ y.wt) → ((l.map fun y => y.put 11 (intsL m)).map VTy.wt).sum ≤ (l.map VTy.wt).sum := by
      intro l
      induction l with
      | nil => intro _; simp
      | cons y l ih =>
        intro hq
        have h1 := hq y (by simp)
        have h2 := ih fun z hz => hq z (by simp [hz])
        simp only [List.map_cons, List.sum_cons]; omega
    have h1 := hs x.Kids fun y hy => VTy.wt_ints m y (VTy.okM_kid h hy)
    rw [VTy.put_ints' hc, VTy.wt_eq, VTy.wt_eq x]
    simp only [VTy.Name_mk, VTy.Kids_mk, List.length_map]
    omega
termination_by SizeOf.sizeOf x
decreasing_by all_goals exact VTy.Kids_lt hy
/- rows of such types, as they are made: with nil slices -/
def metasN (m : Nat) : List AV := (List.range m).map fun (k : Nat) => AV.agg [.v (.int .i64 11), .v (.int .i64 (k : Int)), .v (.string ⟨#[]⟩), .nils]
def intN : AV := AV.agg [.v (.int .i64 1), .v (.int .i64 0), .v (.string ⟨#[]⟩), .nils]
def mixN (m i : Nat) : List AV := List.replicate i intN ++ (metasN m).drop i
theorem metasN_len (m : Nat) : (metasN m).length = m := by simp [metasN]
theorem metasN_succ (m : Nat) : metasN (m + 1) = metasN m ++ [AV.agg [.v (.int .i64 11), .v (.int .i64 (m : Int)), .v (.string ⟨#[]⟩), .nils]] := by simp [metasN, List.range_succ]
theorem mixN_len {m i : Nat} (h : i ≤ m) : (mixN m i).length = m := by simp [mixN, metasN_len]; omega
theorem mixN_set {m i : Nat} (h : i < m) : (mixN m i).set i intN = mixN m (i + 1) := by
  unfold mixN
  rw [List.set_append_right _ _ (by simp), List.length_replicate, Nat.sub_self, List.drop_eq_getElem_cons (by rw [metasN_len]; exact h), List.set_cons_zero, List.replicate_succ']
  simp
theorem norefs_all {l : List AV} (h : ∀ a ∈ l, a.noref = true) : AV.norefs l = true := by
  induction l with
  | nil => rfl
  | cons a l ih => simp [AV.norefs, h a (by simp), ih fun b hb => h b (by simp [hb])]
theorem metasN_noref {m : Nat} : ∀ a ∈ metasN m, a.noref = true := by
  intro a ha
  obtain ⟨k, _, rfl⟩ := List.mem_map.1 ha
  rfl
theorem metasN_wide {m : Nat} : ∀ a ∈ metasN m, a.cells.length = 4 := by
  intro a ha
  obtain ⟨k, _, rfl⟩ := List.mem_map.1 ha
  rfl
theorem mixN_mem {m i : Nat} {P : AV → Prop} (h1 : P intN) (h2 : ∀ a ∈ metasN m, P a) : ∀ a ∈ mixN m i, P a := by
  intro a ha
  rcases List.mem_append.1 ha with ha | ha
  · rw [(List.mem_replicate.1 ha).2]; exact h1
  · exact h2 a (List.mem_of_mem_drop ha)
theorem leL {xs : List AV} {ys : List VTy} (hl : xs.length = ys.length) (h : ∀ (i : Nat) (a : AV) (y : VTy), xs[i]? = some a → ys[i]? = some y → ∃ k n : Int, a = AV.agg [.v (.int .i64 k), .v (.int .i64 n), .v (.string ⟨#[]⟩), .nils] ∧ y = VTy.mk k n ⟨#[]⟩ []) : AV.leD (.sl xs) (.sl (ys.map VTy.av)) := by
  have key : ∀ (i : Nat) (x y : AV), xs[i]? = some x → (ys.map VTy.av)[i]? = some y → ∃ k n : Int, x = .agg [.v (.int .i64 k), .v (.int .i64 n), .v (.string ⟨#[]⟩), .nils] ∧ y.cells = [.v (.int .i64 k), .v (.int .i64 n), .v (.string ⟨#[]⟩), .sl []] := by
    intro i x y hx hy
    rw [List.getElem?_map] at hy
    cases hq : ys[i]? with
    | none => rw [hq] at hy; cases hy
    | some z =>
      rw [hq] at hy
      obtain ⟨k, n, h1, h2⟩ := h i x z hx hq
      simp only [Option.map_some, Option.some.injEq] at hy
      subst hy; subst h2
      exact ⟨k, n, h1, by rw [VTy.cells]; rfl⟩
  refine .sl _ _ (by simpa using hl) (fun i x y hx hy => ?_) fun i x y j c d hx hy hc hd => ?_
  · obtain ⟨k, n, rfl, h2⟩ := key i x y hx hy
    rw [h2]; rfl
  · obtain ⟨k, n, rfl, h2⟩ := key i x y hx hy
    rw [h2] at hd
    rcases j with _ | _ | _ | _ | j <;> simp [AV.cells] at hc hd <;> subst hc <;> subst hd <;> first | exact .refl _ | exact .nil
theorem metas_le (m : Nat) : AV.leD (.sl (metasN m)) (.sl ((metasL m).map VTy.av)) := by
  refine leL (by simp [metasN, metasL]) fun i a y ha hy => ?_
  unfold metasN at ha
  unfold metasL at hy
  rw [List.getElem?_map] at ha hy
  cases hq : (List.range m)[i]? with
  | none => rw [hq] at ha; cases ha
  | some k =>
    rw [hq] at ha hy
    exact ⟨11, k, (Option.some.inj ha).symm, (Option.some.inj hy).symm⟩
theorem ints_le (m : Nat) : AV.leD (.sl (mixN m m)) (.sl ((intsL m).map VTy.av)) := by
  have hd : (metasN m).drop m = [] := List.drop_eq_nil_of_le (by rw [metasN_len]; exact Nat.le_refl _)
  refine leL (by rw [mixN_len (Nat.le_refl _), intsL_len]) fun i a y ha hy => ?_
  unfold mixN at ha
  rw [hd, List.append_nil] at ha
  have h1 := (List.mem_replicate.1 (List.mem_of_getElem? ha)).2
  have h2 := (List.mem_replicate.1 (List.mem_of_getElem? hy)).2
  exact ⟨1, 0, h1, h2⟩
theorem Con.argsD {P : Program} {f : FuncId} {as' bs : List AV} {O O' : List AObj} {res : AV} (h : Con P f bs O res O') (hl : as'.length = bs.length) (hle : ∀ (i : Nat) (a b : AV), as'[i]? = some a → bs[i]? = some b → AV.leD a b) : Con P f as' O res O' :=
  ⟨h.1, fun I L w vs hi hr => h.2 I L w vs hi ⟨by rw [← hl]; exact hr.1, fun i b x hb hx => by
    obtain ⟨a, ha⟩ := get_other hl hb
    exact (hle i a b ha hb).sound (hr.2 i a x ha hx)⟩⟩
theorem roundB_pos {s : ByteArray} {l a : Int} (h : 0 < s.size) : 0 < (roundB s l a).size := by
  unfold roundB; split
  · simp only [app_size, byteB_size]; omega
  · exact h
theorem lowM_pos {s : ByteArray} (h : lowM s = true) : 0 < s.size := by
  unfold lowM isNameM at h
  simp only [Bool.and_eq_true] at h
  by_cases hs : s.size = 0
  · have : bs s = [] := by
      apply List.eq_nil_of_length_eq_zero
      rw [bs_len, hs]
    rw [this] at h
    simp [nameL] at h
  · omega
theorem VTy.exp_pos {x : VTy} (h : x.okM = true) : 0 < x.exp.form.size := by
  have hf := x.exp.form_eq
  have he := x.exp_eq
  have hl : 6 ≤ x.Kind → x.Kind = 6 → 2 ≤ x.Kids.length := fun _ h6 => by
    have h1 := h
    rw [x.okM_eq] at h1
    simp only [Bool.and_eq_true, VTy.nodeM] at h1
    have h2 := h1.1.2
    rw [if_neg (by omega), if_neg (by omega), if_pos h6] at h2
    simpa using h2
  have h7 : x.Kind = 7 → lowM x.Name = true := fun h7 => by
    have h1 := h
    rw [x.okM_eq] at h1
    simp only [Bool.and_eq_true, VTy.nodeM] at h1
    have h2 := h1.1.2
    rwa [if_neg (by omega), if_neg (by omega), if_neg (by omega), if_pos h7] at h2
  have hr : x.Kind = 1 ∨ x.Kind = 2 ∨ x.Kind = 3 ∨ x.Kind = 4 ∨ x.Kind = 5 ∨ x.Kind = 6 ∨ x.Kind = 7 ∨ x.Kind = 8 ∨ (x.Kind = 9 ∨ x.Kind = 10 ∨ x.Kind = 11) := by
    have h1 := h
    rw [x.okM_eq] at h1
    simp only [Bool.and_eq_true, VTy.nodeM] at h1
    have h2 := h1.1.2
    by_cases e1 : x.Kind = 1 ∨ x.Kind = 2 ∨ x.Kind = 3 ∨ x.Kind = 4
    · omega
    rw [if_neg e1] at h2
    by_cases e2 : x.Kind = 5
    · omega
    rw [if_neg e2] at h2
    by_cases e3 : x.Kind = 6
    · omega
    rw [if_neg e3] at h2
    by_cases e4 : x.Kind = 7
    · omega
    rw [if_neg e4] at h2
    by_cases e5 : x.Kind = 8
    · omega
    rw [if_neg e5] at h2
    by_cases e6 : x.Kind = 9 ∨ x.Kind = 10 ∨ x.Kind = 11
    · omega
    rw [if_neg e6] at h2
    cases h2
  have name : tyKind x.Kind = 1 → 0 < (tyName x.Kind x.N x.Name).size → 0 < x.exp.form.size := fun h1 h2 => by
    rw [hf, he]
    simp only [VTypeExp.Kind_mk, VTypeExp.Name_mk, VTypeExp.Kids_mk, h1]
    rw [if_neg (by decide), if_neg (by decide), if_neg (by decide), if_neg (by decide)]
    split
    · exact h2
    · rw [app_size]; omega
  rcases hr with e | e | e | e | e | e | e | e | e
  · exact name (by rw [e]; rfl) (by rw [e]; exact Nat.succ_pos _)
  · exact name (by rw [e]; rfl) (by rw [e]; exact Nat.succ_pos _)
  · exact name (by rw [e]; rfl) (by rw [e]; exact Nat.succ_pos _)
  · exact name (by rw [e]; rfl) (by rw [e]; exact Nat.succ_pos _)
  · rw [hf, he]
    simp only [VTypeExp.Kind_mk, VTypeExp.Name_mk, VTypeExp.Kids_mk, e]
    rw [if_pos (by decide)]
    have : sArrow.size = 4 := by decide
    rw [app_size, app_size]; omega
  · have h2 := hl (by omega) e
    rw [hf, he]
    simp only [VTypeExp.Kind_mk, VTypeExp.Name_mk, VTypeExp.Kids_mk, e]
    rw [if_neg (by decide), if_pos (by decide)]
    have : sStar.size = 3 := by decide
    match hk : x.Kids, h2 with
    | a :: b :: l, _ =>
      simp only [List.map_cons, joinB, tailB, app_size]; omega
  · exact name (by rw [e]; rfl) (by rw [e]; exact lowM_pos (h7 e))
  · rw [hf, he]
    simp only [VTypeExp.Kind_mk, VTypeExp.Name_mk, VTypeExp.Kids_mk, e]
    rw [if_neg (by decide), if_neg (by decide), if_pos (by decide)]
    have : sRef.size = 4 := by decide
    rw [app_size]; omega
  · rw [hf, he]
    have hk2 : tyKind x.Kind = 2 := by rcases e with e | e | e <;> rw [e] <;> rfl
    simp only [VTypeExp.Kind_mk, VTypeExp.Name_mk, VTypeExp.Kids_mk, hk2]
    rw [if_neg (by decide), if_neg (by decide), if_neg (by decide), if_pos (by decide), app_size, byteB_size]; omega
end Go.Ab
namespace Go.Proofs.Ab
open Go.Ab
set_option maxRecDepth 100000
set_option maxHeartbeats 4000000
theorem text_pos {x : VTy} (h : x.okM = true) : tyTextM x ≠ ⟨#[]⟩ := by
  unfold tyTextM
  rw [if_pos h]
  intro hc
  have h1 := roundB_pos (l := x.exp.level) (a := 0) (VTy.exp_pos h)
  have h2 : (x.exp.txt 0).size = 0 := by rw [hc]; rfl
  unfold VTypeExp.txt at h2
  omega
theorem impl_TySize_c (x : VTy) (hb : x.wt ≤ 1048576) : PCon Tryd.prog F.impl_TySize [x.av] (avI x.siz) := by
  have hw := x.wt_eq
  have hv := x.siz_eq
  have hvl := x.siz_le
  refine T.impl_TySize_con rfl (by simp [AV.norefs, AV.noref, VTy.noref]) ?_
  simp only [T.impl_TySize, VTy.cells, VTy.isAgg, VTy.storable, WA, Nat.reduceEqDiff, Nat.reduceAdd, Nat.reduceLT, Nat.reduceLeDiff, Nat.reduceMul, reduceIte, reduceCtorEq, Int.reduceEq, Int.reduceLT, Int.reduceLE, Int.reduceNe]
  refine bind_cut [avI x.siz] rfl ?_ ?_
  · simp only [VTy.cells, WA, Nat.reduceEqDiff, Nat.reduceAdd, Nat.reduceLT, Nat.reduceLeDiff, Nat.reduceMul, reduceIte, reduceCtorEq, Int.reduceEq, Int.reduceLT, Int.reduceLE, Int.reduceNe]
    refine loop_up x.Kids.length (fun i => [avI ((1 + ((x.Kids.take i).map VTy.siz).sum : Nat) : Int), avI i]) rfl fun i hi => ?_
    simp only [VTy.cells, List.length_map, WA, Nat.reduceEqDiff, Nat.reduceAdd, Nat.reduceLT, Nat.reduceLeDiff, Nat.reduceMul, reduceIte, reduceCtorEq, Int.reduceEq, Int.reduceLT, Int.reduceLE, Int.reduceNe]
    refine ite_dec (fun h => ?_) (fun h => ?_)
    · have hlt : i < x.Kids.length := by omega
      have hkw := le_sum VTy.wt (List.getElem_mem hlt)
      simp only [VTy.cells, WA, Nat.reduceEqDiff, Nat.reduceAdd, Nat.reduceLT, Nat.reduceLeDiff, Nat.reduceMul, reduceIte, reduceCtorEq, Int.reduceEq, Int.reduceLT, Int.reduceLE, Int.reduceNe]
      refine elemM VTy.av hlt (VTy.width _) ?_
      simp only [VTy.cells, VTy.isAgg, VTy.width, VTy.storable, WA, Nat.reduceEqDiff, Nat.reduceAdd, Nat.reduceLT, Nat.reduceLeDiff, Nat.reduceMul, reduceIte, reduceCtorEq, Int.reduceEq, Int.reduceLT, Int.reduceLE, Int.reduceNe]
      refine call_v (impl_TySize_c x.Kids[i] (by omega)) ?_
      have hs : ((x.Kids.take (i + 1)).map VTy.siz).sum = ((x.Kids.take i).map VTy.siz).sum + (x.Kids[i]).siz := by
        rw [List.take_succ_eq_append_getElem hlt, List.map_append, List.sum_append]; simp
      have hle : ((x.Kids.take (i + 1)).map VTy.siz).sum ≤ (x.Kids.map VTy.siz).sum := by
        conv => rhs; rw [← List.take_append_drop (i + 1) x.Kids, List.map_append, List.sum_append]
        omega
      have hw2 : IntKind.i64.wrap (((1 + ((x.Kids.take i).map VTy.siz).sum : Nat) : Int) + ((x.Kids[i]).siz : Int)) = ((1 + ((x.Kids.take (i + 1)).map VTy.siz).sum : Nat) : Int) := by
        rw [wrapI (by omega) (by omega)]; omega
      simp (disch := omega) only [hw2, wrapA1, WA, Nat.reduceEqDiff, Nat.reduceAdd, Nat.reduceLT, Nat.reduceLeDiff, Nat.reduceMul, reduceIte, reduceCtorEq, Int.reduceEq, Int.reduceLT, Int.reduceLE, Int.reduceNe]
      first | exact hlt | exact ⟨hlt, rfl⟩
    · have he : i = x.Kids.length := by omega
      subst he
      rw [List.take_length]
      simp only [WA, Nat.reduceEqDiff, Nat.reduceAdd, Nat.reduceLT, Nat.reduceLeDiff, Nat.reduceMul, reduceIte, reduceCtorEq, Int.reduceEq, Int.reduceLT, Int.reduceLE, Int.reduceNe]
      simp only [← hv, WA, Nat.reduceEqDiff, Nat.reduceAdd, Nat.reduceLT, Nat.reduceLeDiff, Nat.reduceMul, reduceIte, reduceCtorEq, Int.reduceEq, Int.reduceLT, Int.reduceLE, Int.reduceNe]
  · simp only [WA, Nat.reduceEqDiff, Nat.reduceAdd, Nat.reduceLT, Nat.reduceLeDiff, Nat.reduceMul, reduceIte, reduceCtorEq, Int.reduceEq, Int.reduceLT, Int.reduceLE, Int.reduceNe]
termination_by SizeOf.sizeOf x
decreasing_by all_goals exact VTy.Kids_lt (List.getElem_mem hlt)
end Go.Proofs.Ab
