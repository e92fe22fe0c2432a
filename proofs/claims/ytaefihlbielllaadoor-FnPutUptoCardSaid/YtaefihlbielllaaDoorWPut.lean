/-
  Put of the program: trees of one's own.
-/
import Derived.Test.YtaefihlbielllaaDoorCPut
import Derived.Test.YtaefihlbielllaaDoorOwn
import Derived.Test.YtaefihlbielllaaDoorSP
set_option linter.unusedVariables false
set_option linter.unusedSimpArgs false
set_option linter.defProp false
namespace Go.Ab
set_option maxRecDepth 100000
theorem app_get0 {A B : List AObj} {a : AObj} : (A ++ a :: B)[A.length]? = some a := by rw [List.getElem?_append_right (Nat.le_refl _), Nat.sub_self]; rfl
theorem app_get1 {A B : List AObj} {a b : AObj} : (A ++ a :: b :: B)[A.length + 1]? = some b := by rw [List.getElem?_append_right (by omega), Nat.add_sub_cancel_left]; rfl
theorem app_get2 {A B : List AObj} {a b c : AObj} : (A ++ a :: b :: c :: B)[A.length + 1 + 1]? = some c := by rw [List.getElem?_append_right (by omega), Nat.add_assoc, Nat.add_sub_cancel_left]; rfl
theorem app_set0 {A B : List AObj} {a z : AObj} : (A ++ a :: B).set A.length z = A ++ z :: B := mid_set'
end Go.Ab
namespace Go.Proofs.Ab
open Go.Ab
set_option maxRecDepth 100000
set_option maxHeartbeats 4000000
theorem fcopy {f : FuncId} {args : List AV} {y : VTy} (h : Con Tryd.prog f args [] (spx 0 y.av).1 (spx 0 y.av).2) : Con Tryd.prog f args [] (.agg [.v (.int .i64 y.Kind), .v (.int .i64 y.N), .v (.string y.Name), .own 0]) [.own (.sl (y.Kids.map VTy.av))] := by
  have := h
  simp only [VTy.spx] at this
  exact this
theorem kid_snoc {tail : List AObj} {ys : List AV} {done : List VTy} {y : VTy} {o o' : AObj} (h : Split (.dead :: .dead :: .dead :: tail) ys (done.map VTy.av)) :
    Split (.dead :: .dead :: .dead :: (tail ++ [o, .own (.sl (y.Kids.map VTy.av)), o'])) (ys ++ [.agg [.v (.int .i64 y.Kind), .v (.int .i64 y.N), .v (.string y.Name), .own (tail.length + 1 + 1 + 1 + 1)]]) ((done ++ [y]).map VTy.av) := by
  have := h.snoc (N := [o, .own (.sl (y.Kids.map VTy.av)), o']) (x := y.av) (b := tail.length + 1 + 1 + 1 + 1) (by simp) (VTy.elem y) (fun k d hk => by
    rw [VTy.spx] at hk
    match k, hk with
    | 0, hk =>
      simp at hk; subst hk
      simp)
  rw [VTy.spx] at this
  simpa using this
theorem kid_end {rs : List ARes} {e : Env} {tail : List AObj} {ys : List AV} {done : List VTy} {K N : Int} {S : ByteArray} {o0 o1 : AObj} {m : Nat} (hyl : ys.length = m) (hs : Split (.dead :: .dead :: .dead :: tail) ys (done.map VTy.av))
    (h : resK e (o0 :: o1 :: rowOb true 26 4 ys :: tail) rs [] fun xs => packR xs = .agg [.v (.int .i64 K), .v (.int .i64 N), .v (.string S), .row 2 m]) :
    retK 0 rs (.agg [.v (.int .i64 K), .v (.int .i64 N), .v (.string S), .own 0]) [.own (.sl (done.map VTy.av))] .ret e (o0 :: o1 :: rowOb true 26 4 ys :: tail) := by
  refine ret_close (j := 3) (k := 2) (len := m) (ty := 26) (z := 4) (ys := ys) (cs := [.v (.int .i64 K), .v (.int .i64 N), .v (.string S), .row 2 m]) (.inl rfl) h rfl (fun i c hi hc => ?_) rfl hyl (hs.congr fun q d hq => ?_)
  · match i, hc with
    | 0, hc => simp at hc; exact ⟨_, hc.symm⟩
    | 1, hc => simp at hc; exact ⟨_, hc.symm⟩
    | 2, hc => simp at hc; exact ⟨_, hc.symm⟩
    | 3, hc => exact (hi rfl).elim
    | i + 4, hc => simp at hc
  · match q, hq with
    | 0, hq => simp at hq
    | 1, hq => simp at hq
    | 2, hq => simp at hq
    | q + 3, hq => simpa using hq
theorem copyTy_own (x : VTy) (hb : x.wt ≤ 1048576) : Con Tryd.prog F.impl_copyTy [x.av] [] (spx 0 x.av).1 (spx 0 x.av).2 := by
  have hw := x.wt_eq
  refine con_of_wp A.impl_copyTy_ok rfl ?_
  rw [VTy.flat_eq x]
  simp only [A.impl_copyTy, ↓OD, OA, Nat.reduceEqDiff, reduceCtorEq, Nat.reduceAdd, Nat.reduceLT, Nat.reduceLeDiff, reduceIte]
  refine loopK_intro (ι := List VTy × List VTy × List AV × List AObj) (fun p => p.1 ++ p.2.1 = x.Kids ∧ Split (.dead :: .dead :: .dead :: p.2.2.2) p.2.2.1 (p.1.map VTy.av))
    (fun p => envL [(1, .ptr 0 1 0 0), (2, .ptr 1 1 0 0), (9, .sl (x.Kids.map VTy.av)), (10, .v (.int .i64 (x.Kids.length : Int))), (11, .v (.int .i64 (p.1.length : Int)))])
    (fun p => .live 26 4 [.agg [.v (.int .i64 x.Kind), .v (.int .i64 x.N), .v (.string x.Name), .row 2 p.1.length]] :: .live 26 4 [.agg [.v (.int .i64 0), .v (.int .i64 0), .v (.string ⟨#[]⟩), .nils]] :: rowOb true 26 4 p.2.2.1 :: p.2.2.2)
    (fun p => p.2.1.length) ([], x.Kids, [], []) ⟨rfl, .nil _⟩ ?_ ?_
  · exact (WK.nilCell (n := 0) (j := 3) (t' := 26) (z' := 4) rfl rfl).trans (.of_eq (by simp) (by simp [rowOb]))
  rintro ⟨done, rest, ys, tail⟩ ⟨hd, hs⟩
  simp only at hd hs
  have hlen : done.length + rest.length = x.Kids.length := by rw [← hd, List.length_append]
  have hyl : ys.length = done.length := by rw [hs.len, List.length_map]
  simp only [↓OD, OA, Nat.reduceEqDiff, reduceCtorEq, Nat.reduceAdd, Nat.reduceLT, Nat.reduceLeDiff, reduceIte]
  refine condK_intro (fun hc => ?_) (fun hc => ?_)
  · cases rest with
    | nil => simp at hc hlen; omega
    | cons k r =>
    have hm : k ∈ x.Kids := by rw [← hd]; simp
    have hkw := le_sum VTy.wt hm
    have hlt : done.length < x.Kids.length := by simp at hlen; omega
    have hg : (x.Kids.map VTy.av).getD done.length .top = k.av := by rw [← hd, List.map_append, List.map_cons]; exact mid_get (by simp)
    have hrec := fcopy (copyTy_own k (by omega))
    have hgx : (.live 26 4 [k.av] : AObj) = .live 26 4 [k.av] := rfl
    simp only [Int.toNat_natCast, List.length_map, hg, VTy.width, VTy.isAgg, VTy.storable, ↓OD, OA, Nat.reduceEqDiff, reduceCtorEq, Nat.reduceAdd, Nat.reduceLT, Nat.reduceLeDiff, reduceIte]
    refine ⟨by omega, by omega, ?_⟩
    simp only [app_get0, app_set0, VTy.width, VTy.isAgg, VTy.storable, ↓OD, OA, Nat.reduceEqDiff, reduceCtorEq, Nat.reduceAdd, Nat.reduceLT, Nat.reduceLeDiff, reduceIte]
    by_cases hy : ys = []
    · subst hy
      have hd0 : done = [] := List.eq_nil_of_length_eq_zero (by rw [← hyl]; rfl)
      subst hd0
      have hob : rowOb true 26 4 [] = .nil 26 4 := by simp [rowOb]
      simp only [hob, List.length_nil, ↓OD, OA, Nat.reduceEqDiff, reduceCtorEq, Nat.reduceAdd, Nat.reduceLT, Nat.reduceLeDiff, reduceIte]
      refine drawK_intro ?_
      simp only [app_get0, app_get1, app_get2, List.append_assoc, VTy.width, VTy.isAgg, VTy.storable, ↓OD, OA, Nat.reduceEqDiff, reduceCtorEq, Nat.reduceAdd, Nat.reduceLT, Nat.reduceLeDiff, reduceIte]
      refine fcallK_intro hrec (by simp [AV.norefs, VTy.noref]) ?_
      simp only [app_get0, app_get1, app_get2, List.append_assoc, VTy.width, VTy.isAgg, VTy.storable, ↓OD, OA, Nat.reduceEqDiff, reduceCtorEq, Nat.reduceAdd, Nat.reduceLT, Nat.reduceLeDiff, reduceIte]
      refine ⟨fun y hy => by rw [List.mem_singleton.1 hy]; rfl, by decide, by decide, fun h => h.elim, fun _ => ?_⟩
      refine ⟨by kernel_rfl, ?_⟩
      refine roundQ_intro ([k], r, _, _) ⟨hd, kid_snoc (o := .live 26 4 [k.av]) (o' := .live 26 4 [.agg [.v (.int .i64 k.Kind), .v (.int .i64 k.N), .v (.string k.Name), .own (tail.length + 4)]]) hs⟩ (by simp) (.of_eq (by simp [show IntKind.i64.wrap 1 = 1 from wrapI (by decide) (by decide)]) ?_)
      simp [rowOb]
    · have hob : ∀ l : List AV, l ≠ [] → rowOb true 26 4 l = .live 26 4 l := fun l hl => by simp [rowOb, hl]
      simp only [hob ys hy, ↓OD, OA, Nat.reduceEqDiff, reduceCtorEq, Nat.reduceAdd, Nat.reduceLT, Nat.reduceLeDiff, reduceIte]
      refine drawK_intro ?_
      simp only [app_get0, app_get1, app_get2, List.append_assoc, VTy.width, VTy.isAgg, VTy.storable, ↓OD, OA, Nat.reduceEqDiff, reduceCtorEq, Nat.reduceAdd, Nat.reduceLT, Nat.reduceLeDiff, reduceIte]
      refine fcallK_intro hrec (by simp [AV.norefs, VTy.noref]) ?_
      simp only [app_get0, app_get1, app_get2, List.append_assoc, VTy.width, VTy.isAgg, VTy.storable, ↓OD, OA, Nat.reduceEqDiff, reduceCtorEq, Nat.reduceAdd, Nat.reduceLT, Nat.reduceLeDiff, reduceIte]
      have hml : done.length + 1 ≤ maxLen := by have : maxLen = 9223372036854775807 := rfl
                                                omega
      refine ⟨fun y hy => by rw [List.mem_singleton.1 hy]; rfl, hyl, by omega, hml, ?_⟩
      refine ⟨by kernel_rfl, ?_⟩
      refine roundQ_intro (done ++ [k], r, _, _) ⟨by simp [← hd], kid_snoc (o := .live 26 4 [k.av]) (o' := .live 26 4 [.agg [.v (.int .i64 k.Kind), .v (.int .i64 k.N), .v (.string k.Name), .own (tail.length + 4)]]) hs⟩ (by simp) (.of_eq ?_ ?_)
      · rw [wrapA1 (by omega)]
        simp
      · rw [hob _ (by simp)]
        simp
  · have hr0 : rest = [] := by
      cases rest with
      | nil => rfl
      | cons k r => simp at hc hlen; omega
    subst hr0
    simp only [List.append_nil] at hd
    rw [← VTy.flat_eq x, VTy.spx, ← hd]
    simp only [↓OD, OA, Nat.reduceEqDiff, reduceCtorEq, Nat.reduceAdd, Nat.reduceLT, Nat.reduceLeDiff, reduceIte]
    exact kid_end hyl hs (by simp only [↓OD, OA, Nat.reduceEqDiff, reduceCtorEq, Nat.reduceAdd, Nat.reduceLT, Nat.reduceLeDiff, reduceIte])
termination_by SizeOf.sizeOf x
decreasing_by all_goals exact VTy.Kids_lt hm
theorem kid_snoc4 {tail : List AObj} {ys xs : List AV} {y : VTy} {o o' : AObj} (h : Split (.dead :: .dead :: .dead :: .dead :: tail) ys xs) :
    Split (.dead :: .dead :: .dead :: .dead :: (tail ++ [o, .own (.sl (y.Kids.map VTy.av)), o'])) (ys ++ [.agg [.v (.int .i64 y.Kind), .v (.int .i64 y.N), .v (.string y.Name), .own (tail.length + 1 + 1 + 1 + 1 + 1)]]) (xs ++ [y.av]) := by
  have := h.snoc (N := [o, .own (.sl (y.Kids.map VTy.av)), o']) (x := y.av) (b := tail.length + 1 + 1 + 1 + 1 + 1) (by simp) (VTy.elem y) (fun k d hk => by
    rw [VTy.spx] at hk
    match k, hk with
    | 0, hk =>
      simp at hk; subst hk
      simp)
  rw [VTy.spx] at this
  simpa using this
theorem kid_end4 {rs : List ARes} {e : Env} {tail : List AObj} {ys xs : List AV} {K N : Int} {S : ByteArray} {o0 o1 o2 : AObj} {m : Nat} (hyl : ys.length = m) (hs : Split (.dead :: .dead :: .dead :: .dead :: tail) ys xs)
    (h : resK e (o0 :: o1 :: o2 :: rowOb true 26 4 ys :: tail) rs [] fun xs => packR xs = .agg [.v (.int .i64 K), .v (.int .i64 N), .v (.string S), .row 3 m]) :
    retK 0 rs (.agg [.v (.int .i64 K), .v (.int .i64 N), .v (.string S), .own 0]) [.own (.sl xs)] .ret e (o0 :: o1 :: o2 :: rowOb true 26 4 ys :: tail) := by
  refine ret_close (j := 3) (k := 3) (len := m) (ty := 26) (z := 4) (ys := ys) (cs := [.v (.int .i64 K), .v (.int .i64 N), .v (.string S), .row 3 m]) (.inl rfl) h rfl (fun i c hi hc => ?_) rfl hyl (hs.congr fun q d hq => ?_)
  · match i, hc with
    | 0, hc => simp at hc; exact ⟨_, hc.symm⟩
    | 1, hc => simp at hc; exact ⟨_, hc.symm⟩
    | 2, hc => simp at hc; exact ⟨_, hc.symm⟩
    | 3, hc => exact (hi rfl).elim
    | i + 4, hc => simp at hc
  · match q, hq with
    | 0, hq => simp at hq
    | 1, hq => simp at hq
    | 2, hq => simp at hq
    | 3, hq => simp at hq
    | q + 4, hq => simpa using hq
theorem put_own (x : VTy) (kd : Int) (l : List VTy) (hok : x.okM = true) (hkd : kd = 9 ∨ kd = 10 ∨ kd = 11) (hb : x.wt ≤ 1048576) (hl : l.length + (l.map VTy.wt).sum ≤ 1048576) :
    Con Tryd.prog F.impl_put [x.av, avI kd, .sl (l.map VTy.av)] [] (spx 0 (x.put kd l).av).1 (spx 0 (x.put kd l).av).2 := by
  have hw := x.wt_eq
  have hpe := x.put_eq kd l
  have hnl : (AV.sl (l.map VTy.av)).noref = true := norTy l
  refine con_of_wp A.impl_put_ok rfl ?_
  by_cases h : x.Kind = kd ∧ x.N < (l.length : Int)
  · have hv := x.okM_var hok (by omega)
    have hlt : x.N.toNat < l.length := by omega
    have hN : x.N = ((x.N.toNat : Nat) : Int) := by omega
    rw [if_pos h, List.getElem?_eq_getElem hlt, Option.getD_some] at hpe
    rw [hpe]
    have hml : l[x.N.toNat] ∈ l := List.getElem_mem hlt
    have hws := le_sum VTy.wt hml
    have d1 : decide (x.Kind = kd) = true := decide_eq_true h.1
    have d2 : decide (x.N < (l.length : Int)) = true := decide_eq_true h.2
    have hg : (l.map VTy.av).getD x.N.toNat .top = (l[x.N.toNat]).av := by simp [List.getD, hlt]
    generalize l[x.N.toNat] = y at *
    have hcp := copyTy_own y (by omega)
    obtain ⟨w1, w2, w3⟩ := VTy.spx_w y 2
    rw [VTy.flat_eq x]
    simp only [A.impl_put, d1, d2, List.length_map, avI, ↓OD, OA, Nat.reduceEqDiff, reduceCtorEq, Nat.reduceAdd, Nat.reduceLT, Nat.reduceLeDiff, reduceIte]
    simp only [d1, d2, hg, List.length_map, VTy.width, VTy.isAgg, VTy.storable, avI, ↓OD, OA, Nat.reduceEqDiff, reduceCtorEq, Nat.reduceAdd, Nat.reduceLT, Nat.reduceLeDiff, reduceIte]
    refine ⟨by omega, by omega, ?_⟩
    refine callK_intro _ _ (kept_call hcp (by simp [AV.norefs, VTy.noref]) (by rw [VTy.spx]; rfl) _) ?_
    simp only [spx_ren, w1, w2, w3, ↓OD, OA, Nat.reduceEqDiff, reduceCtorEq, Nat.reduceAdd, Nat.reduceLT, Nat.reduceLeDiff, reduceIte]
    refine ret_from (rv := (spx 2 y.av).1) (.inl rfl) 2 ?_ (by rw [spx_ren]) rfl (spx_own 0 _) (by rw [VTy.spx]; rfl)
    simp only [w1, w2, w3, ↓OD, OA, Nat.reduceEqDiff, reduceCtorEq, Nat.reduceAdd, Nat.reduceLT, Nat.reduceLeDiff, reduceIte]
  · rw [if_neg h] at hpe
    rw [hpe]
    have hcase : (decide (x.Kind = kd) = true ∧ decide (x.N < (l.length : Int)) = false) ∨ decide (x.Kind = kd) = false := by
      by_cases hk9 : x.Kind = kd
      · exact .inl ⟨decide_eq_true hk9, decide_eq_false fun hc => h ⟨hk9, hc⟩⟩
      · exact .inr (decide_eq_false hk9)
    rw [VTy.flat_eq x]
    rcases hcase with ⟨d1, d2⟩ | d1
    all_goals
      simp only [A.impl_put, d1, List.length_map, avI, ↓OD, OA, Nat.reduceEqDiff, reduceCtorEq, Nat.reduceAdd, Nat.reduceLT, Nat.reduceLeDiff, reduceIte]
      try simp only [d1, d2, List.length_map, avI, ↓OD, OA, Nat.reduceEqDiff, reduceCtorEq, Nat.reduceAdd, Nat.reduceLT, Nat.reduceLeDiff, reduceIte]
      refine loopK_intro (ι := List VTy × List VTy × List AV × List AObj) (fun p => p.1 ++ p.2.1 = x.Kids ∧ Split (.dead :: .dead :: .dead :: .dead :: p.2.2.2) p.2.2.1 ((p.1.map fun y => y.put kd l).map VTy.av))
        (fun p => envL [(1, avI kd), (2, .sl (l.map VTy.av)), (6, .ptr 1 1 0 0), (7, .ptr 2 1 0 0), (30, .sl (x.Kids.map VTy.av)), (31, .v (.int .i64 (x.Kids.length : Int))), (32, .v (.int .i64 (p.1.length : Int)))])
        (fun p => .live 26 4 [.agg [.v (.int .i64 x.Kind), .v (.int .i64 x.N), .v (.string x.Name), .sl (x.Kids.map VTy.av)]] :: .live 26 4 [.agg [.v (.int .i64 0), .v (.int .i64 0), .v (.string ⟨#[]⟩), .nils]] ::
          .live 26 4 [.agg [.v (.int .i64 x.Kind), .v (.int .i64 x.N), .v (.string x.Name), .row 3 p.1.length]] :: rowOb true 26 4 p.2.2.1 :: p.2.2.2)
        (fun p => p.2.1.length) ([], x.Kids, [], []) ⟨rfl, .nil _⟩ ?_ ?_
      · exact (WK.nilCell (n := 2) (j := 3) (t' := 26) (z' := 4) rfl rfl).trans (.of_eq (by simp [avI]) (by simp [rowOb]))
      rintro ⟨done, rest, ys, tail⟩ ⟨hd, hs⟩
      simp only at hd hs
      have hlen : done.length + rest.length = x.Kids.length := by rw [← hd, List.length_append]
      have hyl : ys.length = done.length := by rw [hs.len, List.length_map, List.length_map]
      simp only [avI, ↓OD, OA, Nat.reduceEqDiff, reduceCtorEq, Nat.reduceAdd, Nat.reduceLT, Nat.reduceLeDiff, reduceIte]
      refine condK_intro (fun hc => ?_) (fun hc => ?_)
      · cases rest with
        | nil => simp at hc hlen; omega
        | cons k r =>
        have hm : k ∈ x.Kids := by rw [← hd]; simp
        have hkw := le_sum VTy.wt hm
        have hlt : done.length < x.Kids.length := by simp at hlen; omega
        have hg : (x.Kids.map VTy.av).getD done.length .top = k.av := by rw [← hd, List.map_append, List.map_cons]; exact mid_get (by simp)
        have hrec := fcopy (put_own k kd l (VTy.okM_kid hok hm) hkd (by omega) hl)
        have hnk : AV.norefs [k.av, .v (.int .i64 kd), .sl (l.map VTy.av)] = true := by simp [AV.norefs, AV.noref, VTy.noref, norTy]
        simp only [Int.toNat_natCast, List.length_map, hg, VTy.width, VTy.isAgg, VTy.storable, avI, ↓OD, OA, Nat.reduceEqDiff, reduceCtorEq, Nat.reduceAdd, Nat.reduceLT, Nat.reduceLeDiff, reduceIte]
        refine ⟨by omega, by omega, ?_⟩
        simp only [app_get0, app_set0, VTy.width, VTy.isAgg, VTy.storable, ↓OD, OA, Nat.reduceEqDiff, reduceCtorEq, Nat.reduceAdd, Nat.reduceLT, Nat.reduceLeDiff, reduceIte]
        have hml : done.length + 1 ≤ maxLen := by
          have : maxLen = 9223372036854775807 := rfl
          omega
        generalize hkp : k.put kd l = kp at *
        have hmp : ((done ++ [k]).map fun y => y.put kd l).map VTy.av = (done.map fun y => y.put kd l).map VTy.av ++ [kp.av] := by simp [hkp]
        have hob : ∀ q : List AV, q ≠ [] → rowOb true 26 4 q = .live 26 4 q := fun q hq => by simp [rowOb, hq]
        have hob0 : rowOb true 26 4 [] = .nil 26 4 := by simp [rowOb]
        have hsn := kid_snoc4 (y := kp) (o := .live 26 4 [k.av]) (o' := .live 26 4 [.agg [.v (.int .i64 kp.Kind), .v (.int .i64 kp.N), .v (.string kp.Name), .own (tail.length + 1 + 1 + 1 + 1 + 1)]]) hs
        rw [← hmp] at hsn
        have hw1 : IntKind.i64.wrap ((done.length : Int) + 1) = ((done.length + 1 : Nat) : Int) := wrapA1 (by omega)
        by_cases hy : ys = []
        · subst hy
          have hd0 : done = [] := List.eq_nil_of_length_eq_zero (by rw [← hyl]; rfl)
          subst hd0
          simp only [hob0, List.length_nil, ↓OD, OA, Nat.reduceEqDiff, reduceCtorEq, Nat.reduceAdd, Nat.reduceLT, Nat.reduceLeDiff, reduceIte]
          refine drawK_intro ?_
          simp only [app_get0, app_get1, app_get2, List.append_assoc, VTy.width, VTy.isAgg, VTy.storable, avI, ↓OD, OA, Nat.reduceEqDiff, reduceCtorEq, Nat.reduceAdd, Nat.reduceLT, Nat.reduceLeDiff, reduceIte]
          refine fcallK_intro hrec hnk ?_
          simp only [app_get0, app_get1, app_get2, List.append_assoc, VTy.width, VTy.isAgg, VTy.storable, avI, ↓OD, OA, Nat.reduceEqDiff, reduceCtorEq, Nat.reduceAdd, Nat.reduceLT, Nat.reduceLeDiff, reduceIte]
          refine ⟨fun y hy => by rw [List.mem_singleton.1 hy]; rfl, by decide, by decide, fun h => h.elim, fun _ => ?_⟩
          refine ⟨by kernel_rfl, ?_⟩
          refine roundQ_intro ([] ++ [k], r, _, _) ⟨hd, hsn⟩ (by simp) (.of_eq ?_ ?_)
          · simp [avI, show IntKind.i64.wrap 1 = 1 from wrapI (by decide) (by decide)]
          · rw [hob _ (by simp)]; simp
        · simp only [hob ys hy, ↓OD, OA, Nat.reduceEqDiff, reduceCtorEq, Nat.reduceAdd, Nat.reduceLT, Nat.reduceLeDiff, reduceIte]
          refine drawK_intro ?_
          simp only [app_get0, app_get1, app_get2, List.append_assoc, VTy.width, VTy.isAgg, VTy.storable, avI, ↓OD, OA, Nat.reduceEqDiff, reduceCtorEq, Nat.reduceAdd, Nat.reduceLT, Nat.reduceLeDiff, reduceIte]
          refine fcallK_intro hrec hnk ?_
          simp only [app_get0, app_get1, app_get2, List.append_assoc, VTy.width, VTy.isAgg, VTy.storable, avI, ↓OD, OA, Nat.reduceEqDiff, reduceCtorEq, Nat.reduceAdd, Nat.reduceLT, Nat.reduceLeDiff, reduceIte]
          refine ⟨fun y hy => by rw [List.mem_singleton.1 hy]; rfl, hyl, by omega, hml, ?_⟩
          refine ⟨by kernel_rfl, ?_⟩
          refine roundQ_intro (done ++ [k], r, _, _) ⟨by simp [← hd], hsn⟩ (by simp) (.of_eq ?_ ?_)
          · rw [hw1]; simp [avI]
          · rw [hob _ (by simp)]; simp
      · have hr0 : rest = [] := by
          cases rest with
          | nil => rfl
          | cons k r => simp at hc hlen; omega
        subst hr0
        simp only [List.append_nil] at hd
        rw [VTy.spx, VTy.Kind_mk, VTy.N_mk, VTy.Name_mk, VTy.Kids_mk, ← hd]
        simp only [↓OD, OA, Nat.reduceEqDiff, reduceCtorEq, Nat.reduceAdd, Nat.reduceLT, Nat.reduceLeDiff, reduceIte]
        exact kid_end4 hyl hs (by simp only [↓OD, OA, Nat.reduceEqDiff, reduceCtorEq, Nat.reduceAdd, Nat.reduceLT, Nat.reduceLeDiff, reduceIte])
termination_by SizeOf.sizeOf x
decreasing_by all_goals exact VTy.Kids_lt hm
theorem impl_Put_own (x : VTy) (kd : Int) (l : List VTy) (hb : x.wt ≤ 1048576) (hl : l.length + (l.map VTy.wt).sum ≤ 1048576) :
    Con Tryd.prog F.impl_Put [x.av, avI kd, .sl (l.map VTy.av)] [] (spx 0 (putM x kd l).av).1 (spx 0 (putM x kd l).av).2 := by
  have hn1 : AV.norefs [x.av] = true := by simp [AV.norefs, VTy.noref]
  have hn3 : AV.norefs [x.av, .v (.int .i64 kd), .sl (l.map VTy.av)] = true := by simp [AV.norefs, AV.noref, VTy.noref, norTy]
  refine con_of_wp A.impl_Put_ok rfl ?_
  by_cases h1 : inB kd 9 11 = true
  · have h9 := h1
    simp only [inB, Bool.and_eq_true, decide_eq_true_eq] at h9
    simp only [A.impl_Put, VTy.width, VTy.isAgg, VTy.storable, avI, ↓OD, OA, Nat.reduceEqDiff, reduceCtorEq, Nat.reduceAdd, Nat.reduceLT, Nat.reduceLeDiff, reduceIte]
    refine callK_intro _ _ ((impl_isVarKind_c kd).any rfl rfl _) ?_
    simp only [h1, VTy.width, VTy.isAgg, VTy.storable, avI, ↓OD, OA, Nat.reduceEqDiff, reduceCtorEq, Nat.reduceAdd, Nat.reduceLT, Nat.reduceLeDiff, reduceIte]
    refine callK_intro _ _ ((impl_TyOk_c x hb).any hn1 rfl _) ?_
    by_cases h2 : x.okM = true
    · have hm : putM x kd l = x.put kd l := by rw [putM, h1, h2]; rfl
      have hcp := put_own x kd l h2 (by omega) hb hl
      rw [hm]
      generalize x.put kd l = y at *
      obtain ⟨w1, w2, w3⟩ := VTy.spx_w y 2
      have e2 : (spx 0 y.av).2 = [.own (.sl (y.Kids.map VTy.av))] := by rw [VTy.spx]
      simp only [h2, VTy.width, VTy.isAgg, VTy.storable, avI, ↓OD, OA, Nat.reduceEqDiff, reduceCtorEq, Nat.reduceAdd, Nat.reduceLT, Nat.reduceLeDiff, reduceIte]
      refine callK_intro _ _ (kept_call hcp hn3 (by rw [e2]; rfl) _) ?_
      simp only [spx_ren, w1, w2, w3, ↓OD, OA, Nat.reduceEqDiff, reduceCtorEq, Nat.reduceAdd, Nat.reduceLT, Nat.reduceLeDiff, reduceIte]
      refine ret_from (rv := (spx 2 y.av).1) (.inl rfl) 2 ?_ (by rw [spx_ren]) rfl (spx_own 0 _) (by rw [VTy.spx]; rfl)
      simp only [w1, w2, w3, ↓OD, OA, Nat.reduceEqDiff, reduceCtorEq, Nat.reduceAdd, Nat.reduceLT, Nat.reduceLeDiff, reduceIte]
    · have h2' : x.okM = false := by simpa using h2
      have hm : putM x kd l = x := by rw [putM, h2']; rfl
      have hcp := copyTy_own x hb
      rw [hm]
      obtain ⟨w1, w2, w3⟩ := VTy.spx_w x 2
      have e2 : (spx 0 x.av).2 = [.own (.sl (x.Kids.map VTy.av))] := by rw [VTy.spx]
      simp only [h2', VTy.width, VTy.isAgg, VTy.storable, avI, ↓OD, OA, Nat.reduceEqDiff, reduceCtorEq, Nat.reduceAdd, Nat.reduceLT, Nat.reduceLeDiff, reduceIte]
      refine callK_intro _ _ (kept_call hcp hn1 (by rw [e2]; rfl) _) ?_
      simp only [spx_ren, w1, w2, w3, ↓OD, OA, Nat.reduceEqDiff, reduceCtorEq, Nat.reduceAdd, Nat.reduceLT, Nat.reduceLeDiff, reduceIte]
      refine ret_from (rv := (spx 2 x.av).1) (.inl rfl) 2 ?_ (by rw [spx_ren]) rfl (spx_own 0 _) (by rw [VTy.spx]; rfl)
      simp only [w1, w2, w3, ↓OD, OA, Nat.reduceEqDiff, reduceCtorEq, Nat.reduceAdd, Nat.reduceLT, Nat.reduceLeDiff, reduceIte]
  · have h1' : inB kd 9 11 = false := by simpa using h1
    have hm : putM x kd l = x := by rw [putM, h1', Bool.and_false]; rfl
    have hcp := copyTy_own x hb
    rw [hm]
    obtain ⟨w1, w2, w3⟩ := VTy.spx_w x 2
    have e2 : (spx 0 x.av).2 = [.own (.sl (x.Kids.map VTy.av))] := by rw [VTy.spx]
    simp only [A.impl_Put, VTy.width, VTy.isAgg, VTy.storable, avI, ↓OD, OA, Nat.reduceEqDiff, reduceCtorEq, Nat.reduceAdd, Nat.reduceLT, Nat.reduceLeDiff, reduceIte]
    refine callK_intro _ _ ((impl_isVarKind_c kd).any rfl rfl _) ?_
    simp only [h1', VTy.width, VTy.isAgg, VTy.storable, avI, ↓OD, OA, Nat.reduceEqDiff, reduceCtorEq, Nat.reduceAdd, Nat.reduceLT, Nat.reduceLeDiff, reduceIte]
    refine callK_intro _ _ (kept_call hcp hn1 (by rw [e2]; rfl) _) ?_
    simp only [spx_ren, w1, w2, w3, ↓OD, OA, Nat.reduceEqDiff, reduceCtorEq, Nat.reduceAdd, Nat.reduceLT, Nat.reduceLeDiff, reduceIte]
    refine ret_from (rv := (spx 2 x.av).1) (.inl rfl) 2 ?_ (by rw [spx_ren]) rfl (spx_own 0 _) (by rw [VTy.spx]; rfl)
    simp only [w1, w2, w3, ↓OD, OA, Nat.reduceEqDiff, reduceCtorEq, Nat.reduceAdd, Nat.reduceLT, Nat.reduceLeDiff, reduceIte]
end Go.Proofs.Ab
