/-
  LISTS OF STRUCTS IN THE LAWS' OWN HELPERS, once for all element types: toXS, szXS, eqXS.
-/
import Derived.Test.YtnkpfblgkonpoaaAbFz
set_option linter.unusedVariables false
set_option linter.unusedSimpArgs false
namespace Go.Ab
set_option maxRecDepth 100000

/-- a row that is filled from the left -/
def fillRow (l : List AV) (z : AV) (i : Nat) : List AV := l.take i ++ List.replicate (l.length - i) z
theorem fillRow_length (l : List AV) (z : AV) (i : Nat) (h : i ≤ l.length) : (fillRow l z i).length = l.length := by simp [fillRow]; omega
theorem fillRow_get (l : List AV) (z : AV) (i : Nat) (h : i < l.length) : (fillRow l z i).getD i .top = z := by
  have h0 : i - (l.take i).length = 0 := by simp; omega
  rw [fillRow, List.getD, List.getElem?_append_right (by simp; omega), h0, List.getElem?_replicate, if_pos (by omega)]
  rfl
theorem fillRow_set (l : List AV) (z : AV) (i : Nat) (h : i < l.length) (y : AV) (hy : l[i]? = some y) : (fillRow l z i).set i y = fillRow l z (i + 1) := by
  apply List.ext_getElem?
  intro k
  unfold fillRow
  rw [List.getElem?_set]
  by_cases hk : i = k
  · subst hk
    rw [if_pos rfl, if_pos (by simp; omega), List.getElem?_append_left (by simp; omega), List.getElem?_take, if_pos (by omega), hy]
  · rw [if_neg hk]
    by_cases hlt : k < i
    · rw [List.getElem?_append_left (by simp; omega), List.getElem?_append_left (by simp; omega), List.getElem?_take, List.getElem?_take, if_pos hlt, if_pos (by omega)]
    · rw [List.getElem?_append_right (by simp; omega), List.getElem?_append_right (by simp; omega), List.getElem?_replicate, List.getElem?_replicate]
      simp only [List.length_take]
      split <;> split <;> first | rfl | omega
theorem fillRow_zero (l : List AV) (z : AV) : fillRow l z 0 = List.replicate l.length z := by simp [fillRow]
theorem fillRow_end (l : List AV) (z : AV) (i : Nat) (h : l.length ≤ i) : fillRow l z i = l := by simp [fillRow, List.take_of_length_le h, Nat.sub_eq_zero_of_le h]

theorem getD_of {l : List AV} {i : Nat} {x : AV} (h : l[i]? = some x) : l.getD i .top = x := by simp [List.getD, h]

def toSCode (t s b : Nat) (z : AV) (f : FuncId) : AFn where
  nargs := 1
  nt := 23
  res := [.tmp 2]
  code := .seq (.keep [0] (.region none [
     ⟨none, (some 2), .mov (.c .nils)⟩]))
   (.seq (.keep [0, 3] (.region none [
     ⟨none, (some 5), .mov (.t 0)⟩,
     ⟨none, (some 6), .lenL (.t 5)⟩,
     ⟨none, (some 7), .mk t s b z (.t 6) (.t 6)⟩,
     ⟨none, (some 3), .mov (.t 7)⟩]))
   (.seq (.seq (.keep [0, 3, 4] (.region none [
     ⟨none, (some 4), .mov (.c (.v (.int .i64 0)))⟩]))
   (.block 0 (.loop (.seq (.seq (.keep [0, 3, 4, 11] (.region none [
       ⟨none, (some 8), .mov (.t 4)⟩,
       ⟨none, (some 9), .mov (.t 0)⟩,
       ⟨none, (some 10), .lenL (.t 9)⟩,
       ⟨none, (some 11), .bin .lss (.t 8) (.t 10)⟩]))
     (.cond (.t 11)
      (.skip)
      (.exit 0)))
     (.seq (.block 1 (.keep [0, 3, 4] (.region none [
        ⟨none, (some 14), .mov (.t 3)⟩,
        ⟨none, (some 15), .mov (.t 4)⟩,
        ⟨none, (some 16), .mov (.t 0)⟩,
        ⟨none, (some 17), .mov (.t 4)⟩,
        ⟨none, (some 18), .iaddr s (.t 16) (.t 17)⟩,
        ⟨none, (some 19), .load (some s) (.t 18)⟩,
        ⟨none, (some 20), .pcall f [(.t 19)]⟩,
        ⟨none, (some 21), .iaddr s (.t 14) (.t 15)⟩,
        ⟨none, none, .store s (.t 21) (.t 20)⟩])))
     (.keep [0, 3, 4] (.region none [
       ⟨none, (some 12), .mov (.t 4)⟩,
       ⟨none, (some 13), .bin .add (.t 12) (.c (.v (.int .i64 1)))⟩,
       ⟨none, (some 4), .mov (.t 13)⟩])))))))
   (.seq (.keep [2] (.region none [
     ⟨none, (some 22), .mov (.t 3)⟩,
     ⟨none, (some 2), .mov (.t 22)⟩]))
   (.ret))))

theorem toS_con {P : Program} {fS f : FuncId} {t s b : Nat} {z : AV} (hA : cFn P fS (toSCode t s b z f)) (l l' : List AV) (hlen : l'.length = l.length) (hb : (b : Int) * (l.length : Int) ≤ 281474976710656) (hm : l.length ≤ 1048576)
    (hl : ∀ x ∈ l, x.isAgg = true ∧ x.cells.length = s ∧ x.noref = true) (hl' : ∀ y ∈ l', y.cells.length = s ∧ y.storable = true ∧ y.noref = true ∧ ∀ O k, fz O k y = y) (hz : z.cells.length = s)
    (hc : ∀ (i : Nat) (x y : AV), l[i]? = some x → l'[i]? = some y → PCon P f [x] y) (hn : AV.norefs l' = true) : PCon P fS [.sl l] (.sl l') := by
  refine con_of_wp hA rfl ?_
  simp only [toSCode, ↓wpC_skip, ↓wpC_region, ↓c_seq, ↓c_cond, ↓c_block, ↓wpC_exit, ↓wpC_ret, ↓c_keep, ↓c_loop, ↓wpOps_nil, ↓wpOps_kont, ↓c_guard, ↓seqQ_n, ↓seqQ_e, ↓seqQ_r, ↓blockQ_n, ↓blockQ_e, ↓blockQ_r, ↓keepQ_n, ↓keepQ_e, ↓keepQ_r, ↓roundQ_e, ↓roundQ_r, ↓o_mov, ↓o_pick, ↓o_alloc, ↓o_box, ↓o_build, ↓o_buildSlice, ↓o_load, ↓o_store, ↓o_bin, ↓o_un, ↓o_conv, ↓o_faddr, ↓o_fld, ↓o_iaddr, ↓o_idxS, ↓o_sliceS, ↓o_sliceL, ↓o_mk, ↓o_lenS, ↓o_lenL, ↓o_app, ↓o_ext, ↓o_nilc, ↓o_mkfn, ↓o_call, ↓o_callv, ↓o_pcall, ↓o_pcallv, ↓o_qcall, ↓o_qcallv, k1_kont, pickK_true, pickK_false, pickK_bool, boxK_eq, bldK_nil, bldK_cons, bslK_nil, bslK_cons, objK_live, loadK_iptr, loadK_ptr, storeK_ptr, binK_add, binK_sub, binK_mul, binK_and, binK_or, binK_xor, binK_quo, binK_rem, binK_eql, binK_neq, binK_lss, binK_leq, binK_gtr, binK_geq, binK_shl, binK_shr, binK_sadd, binK_seql, binK_sneq, unK_not, unK_neg, convK_eq, faddrK_iptr, faddrK_ptr, fldK_eq, iaddrK_sl, iaddrK_row, idxSK_eq, bnd_none, bnd_some, sliceSK_eq, sliceLK_eq, mkK_eq, lenSK_eq, lenLK_nils, lenLK_sl, lenLK_row, srcOf_nils, srcOf_sl, srcOf_row, ontoK_nils1, ontoK_nils, ontoK_row, extK_eq, nilcK_iptr, nilcK_fn, nilcK_ptr, callvK_fn, qcallvK_fn, pcallvK_fn, gopK_tt, gopK_tf, gopK_ft, gopK_ff, gopK_skip, condK_true, condK_false, loadC_whole, loadC_none, upd_whole, upd_v, upd_sl, upd_nils, upd_row, upd_ptr, upd_fn, upd_agg, upd_agg0, frz_v, frz_sl, frz_nils, frz_agg, frz_fn, resK_nil, resK_tmp, resK_cell, cellK_ptr, cellOK_live, packR_one, packR_more, List.reverse_cons, List.reverse_nil, ne_eq, Nat.add_eq_zero_iff, Nat.reduceEqDiff, not_false_eq_true, reduceCtorEq, Nat.one_ne_zero, ↓setD_some, ↓setD_none, ev_t, ev_c, set_at, entry_at, envL_cons, keepE_eq, List.map_cons, List.map_nil, Option.map_some, Option.map_none, List.getD_cons_zero, List.getD_cons_succ, List.length_nil, List.length_cons, List.length_append, List.length_set, List.nil_append, List.cons_append, List.append_nil, List.getElem?_cons_zero, List.getElem?_cons_succ, List.set_cons_zero, List.set_cons_succ, List.drop_succ_cons, List.drop_zero, List.take_succ_cons, List.take_zero, List.replicate_succ, List.replicate_zero, Nat.reduceEqDiff, Nat.reduceAdd, Nat.reduceLT, Nat.reduceLeDiff, if_true, if_false, reduceIte, cells_agg, cells_v, cells_nils, cells_sl, cells_row, cells_ptr, cells_fn, isAgg_agg, isCell_v, isCell_nils, isCell_sl, isCell_row, isCell_ptr, isCell_fn, storable_agg, storable_v, storable_nils, storable_sl, storable_row, storable_ptr, storable_fn, frz_noref, aft_flat, flat_v, norefs_nil, norefs_cons, noref_v, noref_sl, noref_agg, noref_tup, noref_nils, noref_fn, List.all_cons, List.all_nil, Bool.and_true, Bool.true_and, Bool.or_true, Bool.true_or, Bool.not_true, Bool.not_false, decide_true, decide_false, dlt0, Option.getD_none, Option.getD_some, true_and, and_true, Nat.zero_add, Nat.add_zero, Nat.lt_add_one, Nat.zero_lt_succ, Nat.le_refl]
  refine ⟨by omega, by omega, hb, by omega, ?_⟩
  refine loopK_intro (ι := Nat) (fun i => i ≤ l.length) (fun i => envL [(0, .sl l), (3, .row 0 l.length), (4, .v (.int .i64 i))]) (fun i => [.live t s (fillRow l' z i)]) (fun i => l.length - i) 0 (Nat.zero_le _)
    (.of_eq (by simp) (by simp [fillRow_zero, hlen])) ?_
  intro i hi
  simp only [Int.toNat_natCast, ↓wpC_skip, ↓wpC_region, ↓c_seq, ↓c_cond, ↓c_block, ↓wpC_exit, ↓wpC_ret, ↓c_keep, ↓c_loop, ↓wpOps_nil, ↓wpOps_kont, ↓c_guard, ↓seqQ_n, ↓seqQ_e, ↓seqQ_r, ↓blockQ_n, ↓blockQ_e, ↓blockQ_r, ↓keepQ_n, ↓keepQ_e, ↓keepQ_r, ↓roundQ_e, ↓roundQ_r, ↓o_mov, ↓o_pick, ↓o_alloc, ↓o_box, ↓o_build, ↓o_buildSlice, ↓o_load, ↓o_store, ↓o_bin, ↓o_un, ↓o_conv, ↓o_faddr, ↓o_fld, ↓o_iaddr, ↓o_idxS, ↓o_sliceS, ↓o_sliceL, ↓o_mk, ↓o_lenS, ↓o_lenL, ↓o_app, ↓o_ext, ↓o_nilc, ↓o_mkfn, ↓o_call, ↓o_callv, ↓o_pcall, ↓o_pcallv, ↓o_qcall, ↓o_qcallv, k1_kont, pickK_true, pickK_false, pickK_bool, boxK_eq, bldK_nil, bldK_cons, bslK_nil, bslK_cons, objK_live, loadK_iptr, loadK_ptr, storeK_ptr, binK_add, binK_sub, binK_mul, binK_and, binK_or, binK_xor, binK_quo, binK_rem, binK_eql, binK_neq, binK_lss, binK_leq, binK_gtr, binK_geq, binK_shl, binK_shr, binK_sadd, binK_seql, binK_sneq, unK_not, unK_neg, convK_eq, faddrK_iptr, faddrK_ptr, fldK_eq, iaddrK_sl, iaddrK_row, idxSK_eq, bnd_none, bnd_some, sliceSK_eq, sliceLK_eq, mkK_eq, lenSK_eq, lenLK_nils, lenLK_sl, lenLK_row, srcOf_nils, srcOf_sl, srcOf_row, ontoK_nils1, ontoK_nils, ontoK_row, extK_eq, nilcK_iptr, nilcK_fn, nilcK_ptr, callvK_fn, qcallvK_fn, pcallvK_fn, gopK_tt, gopK_tf, gopK_ft, gopK_ff, gopK_skip, condK_true, condK_false, loadC_whole, loadC_none, upd_whole, upd_v, upd_sl, upd_nils, upd_row, upd_ptr, upd_fn, upd_agg, upd_agg0, frz_v, frz_sl, frz_nils, frz_agg, frz_fn, resK_nil, resK_tmp, resK_cell, cellK_ptr, cellOK_live, packR_one, packR_more, List.reverse_cons, List.reverse_nil, ne_eq, Nat.add_eq_zero_iff, Nat.reduceEqDiff, not_false_eq_true, reduceCtorEq, Nat.one_ne_zero, ↓setD_some, ↓setD_none, ev_t, ev_c, set_at, entry_at, envL_cons, keepE_eq, List.map_cons, List.map_nil, Option.map_some, Option.map_none, List.getD_cons_zero, List.getD_cons_succ, List.length_nil, List.length_cons, List.length_append, List.length_set, List.nil_append, List.cons_append, List.append_nil, List.getElem?_cons_zero, List.getElem?_cons_succ, List.set_cons_zero, List.set_cons_succ, List.drop_succ_cons, List.drop_zero, List.take_succ_cons, List.take_zero, List.replicate_succ, List.replicate_zero, Nat.reduceEqDiff, Nat.reduceAdd, Nat.reduceLT, Nat.reduceLeDiff, if_true, if_false, reduceIte, cells_agg, cells_v, cells_nils, cells_sl, cells_row, cells_ptr, cells_fn, isAgg_agg, isCell_v, isCell_nils, isCell_sl, isCell_row, isCell_ptr, isCell_fn, storable_agg, storable_v, storable_nils, storable_sl, storable_row, storable_ptr, storable_fn, frz_noref, aft_flat, flat_v, norefs_nil, norefs_cons, noref_v, noref_sl, noref_agg, noref_tup, noref_nils, noref_fn, List.all_cons, List.all_nil, Bool.and_true, Bool.true_and, Bool.or_true, Bool.true_or, Bool.not_true, Bool.not_false, decide_true, decide_false, dlt0, Option.getD_none, Option.getD_some, true_and, and_true, Nat.zero_add, Nat.add_zero, Nat.lt_add_one, Nat.zero_lt_succ, Nat.le_refl]
  refine condK_intro (fun h => ?_) (fun h => ?_)
  · have hlt : i < l.length := by simpa using h
    have hlt' : i < l'.length := by omega
    have hx : l[i]? = some l[i] := by simp [hlt]
    have hy : l'[i]? = some l'[i] := by simp [hlt']
    obtain ⟨x1, x2, x3⟩ := hl _ (List.getElem_mem hlt)
    obtain ⟨y1, y2, y3, y4⟩ := hl' _ (List.getElem_mem hlt')
    generalize l[i] = x at *
    generalize l'[i] = y at *
    simp only [Int.toNat_natCast, getD_of hx, x1, x2, x3, ↓wpC_skip, ↓wpC_region, ↓c_seq, ↓c_cond, ↓c_block, ↓wpC_exit, ↓wpC_ret, ↓c_keep, ↓c_loop, ↓wpOps_nil, ↓wpOps_kont, ↓c_guard, ↓seqQ_n, ↓seqQ_e, ↓seqQ_r, ↓blockQ_n, ↓blockQ_e, ↓blockQ_r, ↓keepQ_n, ↓keepQ_e, ↓keepQ_r, ↓roundQ_e, ↓roundQ_r, ↓o_mov, ↓o_pick, ↓o_alloc, ↓o_box, ↓o_build, ↓o_buildSlice, ↓o_load, ↓o_store, ↓o_bin, ↓o_un, ↓o_conv, ↓o_faddr, ↓o_fld, ↓o_iaddr, ↓o_idxS, ↓o_sliceS, ↓o_sliceL, ↓o_mk, ↓o_lenS, ↓o_lenL, ↓o_app, ↓o_ext, ↓o_nilc, ↓o_mkfn, ↓o_call, ↓o_callv, ↓o_pcall, ↓o_pcallv, ↓o_qcall, ↓o_qcallv, k1_kont, pickK_true, pickK_false, pickK_bool, boxK_eq, bldK_nil, bldK_cons, bslK_nil, bslK_cons, objK_live, loadK_iptr, loadK_ptr, storeK_ptr, binK_add, binK_sub, binK_mul, binK_and, binK_or, binK_xor, binK_quo, binK_rem, binK_eql, binK_neq, binK_lss, binK_leq, binK_gtr, binK_geq, binK_shl, binK_shr, binK_sadd, binK_seql, binK_sneq, unK_not, unK_neg, convK_eq, faddrK_iptr, faddrK_ptr, fldK_eq, iaddrK_sl, iaddrK_row, idxSK_eq, bnd_none, bnd_some, sliceSK_eq, sliceLK_eq, mkK_eq, lenSK_eq, lenLK_nils, lenLK_sl, lenLK_row, srcOf_nils, srcOf_sl, srcOf_row, ontoK_nils1, ontoK_nils, ontoK_row, extK_eq, nilcK_iptr, nilcK_fn, nilcK_ptr, callvK_fn, qcallvK_fn, pcallvK_fn, gopK_tt, gopK_tf, gopK_ft, gopK_ff, gopK_skip, condK_true, condK_false, loadC_whole, loadC_none, upd_whole, upd_v, upd_sl, upd_nils, upd_row, upd_ptr, upd_fn, upd_agg, upd_agg0, frz_v, frz_sl, frz_nils, frz_agg, frz_fn, resK_nil, resK_tmp, resK_cell, cellK_ptr, cellOK_live, packR_one, packR_more, List.reverse_cons, List.reverse_nil, ne_eq, Nat.add_eq_zero_iff, Nat.reduceEqDiff, not_false_eq_true, reduceCtorEq, Nat.one_ne_zero, ↓setD_some, ↓setD_none, ev_t, ev_c, set_at, entry_at, envL_cons, keepE_eq, List.map_cons, List.map_nil, Option.map_some, Option.map_none, List.getD_cons_zero, List.getD_cons_succ, List.length_nil, List.length_cons, List.length_append, List.length_set, List.nil_append, List.cons_append, List.append_nil, List.getElem?_cons_zero, List.getElem?_cons_succ, List.set_cons_zero, List.set_cons_succ, List.drop_succ_cons, List.drop_zero, List.take_succ_cons, List.take_zero, List.replicate_succ, List.replicate_zero, Nat.reduceEqDiff, Nat.reduceAdd, Nat.reduceLT, Nat.reduceLeDiff, if_true, if_false, reduceIte, cells_agg, cells_v, cells_nils, cells_sl, cells_row, cells_ptr, cells_fn, isAgg_agg, isCell_v, isCell_nils, isCell_sl, isCell_row, isCell_ptr, isCell_fn, storable_agg, storable_v, storable_nils, storable_sl, storable_row, storable_ptr, storable_fn, frz_noref, aft_flat, flat_v, norefs_nil, norefs_cons, noref_v, noref_sl, noref_agg, noref_tup, noref_nils, noref_fn, List.all_cons, List.all_nil, Bool.and_true, Bool.true_and, Bool.or_true, Bool.true_or, Bool.not_true, Bool.not_false, decide_true, decide_false, dlt0, Option.getD_none, Option.getD_some, true_and, and_true, Nat.zero_add, Nat.add_zero, Nat.lt_add_one, Nat.zero_lt_succ, Nat.le_refl]
    refine ⟨by omega, by omega, ?_⟩
    refine pcallK_intro _ (hc i x y hx hy) (by simp [norefs_cons, norefs_nil, x3]) ?_
    rw [aft_norefs (by simp [norefs_cons, norefs_nil, x3])]
    have hfl := fillRow_length l' z i (by omega)
    simp only [fillRow_get l' z i hlt', hz, y1, y2, hfl, hlen, Int.toNat_natCast, ↓wpC_skip, ↓wpC_region, ↓c_seq, ↓c_cond, ↓c_block, ↓wpC_exit, ↓wpC_ret, ↓c_keep, ↓c_loop, ↓wpOps_nil, ↓wpOps_kont, ↓c_guard, ↓seqQ_n, ↓seqQ_e, ↓seqQ_r, ↓blockQ_n, ↓blockQ_e, ↓blockQ_r, ↓keepQ_n, ↓keepQ_e, ↓keepQ_r, ↓roundQ_e, ↓roundQ_r, ↓o_mov, ↓o_pick, ↓o_alloc, ↓o_box, ↓o_build, ↓o_buildSlice, ↓o_load, ↓o_store, ↓o_bin, ↓o_un, ↓o_conv, ↓o_faddr, ↓o_fld, ↓o_iaddr, ↓o_idxS, ↓o_sliceS, ↓o_sliceL, ↓o_mk, ↓o_lenS, ↓o_lenL, ↓o_app, ↓o_ext, ↓o_nilc, ↓o_mkfn, ↓o_call, ↓o_callv, ↓o_pcall, ↓o_pcallv, ↓o_qcall, ↓o_qcallv, k1_kont, pickK_true, pickK_false, pickK_bool, boxK_eq, bldK_nil, bldK_cons, bslK_nil, bslK_cons, objK_live, loadK_iptr, loadK_ptr, storeK_ptr, binK_add, binK_sub, binK_mul, binK_and, binK_or, binK_xor, binK_quo, binK_rem, binK_eql, binK_neq, binK_lss, binK_leq, binK_gtr, binK_geq, binK_shl, binK_shr, binK_sadd, binK_seql, binK_sneq, unK_not, unK_neg, convK_eq, faddrK_iptr, faddrK_ptr, fldK_eq, iaddrK_sl, iaddrK_row, idxSK_eq, bnd_none, bnd_some, sliceSK_eq, sliceLK_eq, mkK_eq, lenSK_eq, lenLK_nils, lenLK_sl, lenLK_row, srcOf_nils, srcOf_sl, srcOf_row, ontoK_nils1, ontoK_nils, ontoK_row, extK_eq, nilcK_iptr, nilcK_fn, nilcK_ptr, callvK_fn, qcallvK_fn, pcallvK_fn, gopK_tt, gopK_tf, gopK_ft, gopK_ff, gopK_skip, condK_true, condK_false, loadC_whole, loadC_none, upd_whole, upd_v, upd_sl, upd_nils, upd_row, upd_ptr, upd_fn, upd_agg, upd_agg0, frz_v, frz_sl, frz_nils, frz_agg, frz_fn, resK_nil, resK_tmp, resK_cell, cellK_ptr, cellOK_live, packR_one, packR_more, List.reverse_cons, List.reverse_nil, ne_eq, Nat.add_eq_zero_iff, Nat.reduceEqDiff, not_false_eq_true, reduceCtorEq, Nat.one_ne_zero, ↓setD_some, ↓setD_none, ev_t, ev_c, set_at, entry_at, envL_cons, keepE_eq, List.map_cons, List.map_nil, Option.map_some, Option.map_none, List.getD_cons_zero, List.getD_cons_succ, List.length_nil, List.length_cons, List.length_append, List.length_set, List.nil_append, List.cons_append, List.append_nil, List.getElem?_cons_zero, List.getElem?_cons_succ, List.set_cons_zero, List.set_cons_succ, List.drop_succ_cons, List.drop_zero, List.take_succ_cons, List.take_zero, List.replicate_succ, List.replicate_zero, Nat.reduceEqDiff, Nat.reduceAdd, Nat.reduceLT, Nat.reduceLeDiff, if_true, if_false, reduceIte, cells_agg, cells_v, cells_nils, cells_sl, cells_row, cells_ptr, cells_fn, isAgg_agg, isCell_v, isCell_nils, isCell_sl, isCell_row, isCell_ptr, isCell_fn, storable_agg, storable_v, storable_nils, storable_sl, storable_row, storable_ptr, storable_fn, frz_noref, aft_flat, flat_v, norefs_nil, norefs_cons, noref_v, noref_sl, noref_agg, noref_tup, noref_nils, noref_fn, List.all_cons, List.all_nil, Bool.and_true, Bool.true_and, Bool.or_true, Bool.true_or, Bool.not_true, Bool.not_false, decide_true, decide_false, dlt0, Option.getD_none, Option.getD_some, true_and, and_true, Nat.zero_add, Nat.add_zero, Nat.lt_add_one, Nat.zero_lt_succ, Nat.le_refl]
    refine ⟨by omega, by omega, hlt, ?_⟩
    rw [fillRow_set l' z i hlt' y hy, wrap_id (by omega) (by omega)]
    exact roundQ_intro (i + 1) (by omega) (by omega) (.of_eq (by rw [Int.natCast_add]; rfl) rfl)
  · have hge : l'.length ≤ i := by
      have h1 : ¬ (i < l.length) := by simpa using h
      omega
    refine pret (.inl rfl) 2 ?_ (by simpa [AV.noref] using hn)
    simp only [resK_tmp, resK_nil, List.reverse_cons, List.reverse_nil, List.nil_append, packR, ↓wpC_skip, ↓wpC_region, ↓c_seq, ↓c_cond, ↓c_block, ↓wpC_exit, ↓wpC_ret, ↓c_keep, ↓c_loop, ↓wpOps_nil, ↓wpOps_kont, ↓c_guard, ↓seqQ_n, ↓seqQ_e, ↓seqQ_r, ↓blockQ_n, ↓blockQ_e, ↓blockQ_r, ↓keepQ_n, ↓keepQ_e, ↓keepQ_r, ↓roundQ_e, ↓roundQ_r, ↓o_mov, ↓o_pick, ↓o_alloc, ↓o_box, ↓o_build, ↓o_buildSlice, ↓o_load, ↓o_store, ↓o_bin, ↓o_un, ↓o_conv, ↓o_faddr, ↓o_fld, ↓o_iaddr, ↓o_idxS, ↓o_sliceS, ↓o_sliceL, ↓o_mk, ↓o_lenS, ↓o_lenL, ↓o_app, ↓o_ext, ↓o_nilc, ↓o_mkfn, ↓o_call, ↓o_callv, ↓o_pcall, ↓o_pcallv, ↓o_qcall, ↓o_qcallv, k1_kont, pickK_true, pickK_false, pickK_bool, boxK_eq, bldK_nil, bldK_cons, bslK_nil, bslK_cons, objK_live, loadK_iptr, loadK_ptr, storeK_ptr, binK_add, binK_sub, binK_mul, binK_and, binK_or, binK_xor, binK_quo, binK_rem, binK_eql, binK_neq, binK_lss, binK_leq, binK_gtr, binK_geq, binK_shl, binK_shr, binK_sadd, binK_seql, binK_sneq, unK_not, unK_neg, convK_eq, faddrK_iptr, faddrK_ptr, fldK_eq, iaddrK_sl, iaddrK_row, idxSK_eq, bnd_none, bnd_some, sliceSK_eq, sliceLK_eq, mkK_eq, lenSK_eq, lenLK_nils, lenLK_sl, lenLK_row, srcOf_nils, srcOf_sl, srcOf_row, ontoK_nils1, ontoK_nils, ontoK_row, extK_eq, nilcK_iptr, nilcK_fn, nilcK_ptr, callvK_fn, qcallvK_fn, pcallvK_fn, gopK_tt, gopK_tf, gopK_ft, gopK_ff, gopK_skip, condK_true, condK_false, loadC_whole, loadC_none, upd_whole, upd_v, upd_sl, upd_nils, upd_row, upd_ptr, upd_fn, upd_agg, upd_agg0, frz_v, frz_sl, frz_nils, frz_agg, frz_fn, resK_nil, resK_tmp, resK_cell, cellK_ptr, cellOK_live, packR_one, packR_more, List.reverse_cons, List.reverse_nil, ne_eq, Nat.add_eq_zero_iff, Nat.reduceEqDiff, not_false_eq_true, reduceCtorEq, Nat.one_ne_zero, ↓setD_some, ↓setD_none, ev_t, ev_c, set_at, entry_at, envL_cons, keepE_eq, List.map_cons, List.map_nil, Option.map_some, Option.map_none, List.getD_cons_zero, List.getD_cons_succ, List.length_nil, List.length_cons, List.length_append, List.length_set, List.nil_append, List.cons_append, List.append_nil, List.getElem?_cons_zero, List.getElem?_cons_succ, List.set_cons_zero, List.set_cons_succ, List.drop_succ_cons, List.drop_zero, List.take_succ_cons, List.take_zero, List.replicate_succ, List.replicate_zero, Nat.reduceEqDiff, Nat.reduceAdd, Nat.reduceLT, Nat.reduceLeDiff, if_true, if_false, reduceIte, cells_agg, cells_v, cells_nils, cells_sl, cells_row, cells_ptr, cells_fn, isAgg_agg, isCell_v, isCell_nils, isCell_sl, isCell_row, isCell_ptr, isCell_fn, storable_agg, storable_v, storable_nils, storable_sl, storable_row, storable_ptr, storable_fn, frz_noref, aft_flat, flat_v, norefs_nil, norefs_cons, noref_v, noref_sl, noref_agg, noref_tup, noref_nils, noref_fn, List.all_cons, List.all_nil, Bool.and_true, Bool.true_and, Bool.or_true, Bool.true_or, Bool.not_true, Bool.not_false, decide_true, decide_false, dlt0, Option.getD_none, Option.getD_some, true_and, and_true, Nat.zero_add, Nat.add_zero, Nat.lt_add_one, Nat.zero_lt_succ, Nat.le_refl]
    rw [fz_row (e := t) (s := s) (xs := fillRow l' z i) (by simp) (by rw [fillRow_end l' z i hge, hlen]), fillRow_end l' z i hge]
    congr 1
    rw [List.map_congr_left (g := id) fun y hy => (hl' y hy).2.2.2 _ _]
    simp

def szSCode (s : Nat) (f : FuncId) : AFn where
  nargs := 2
  nt := 27
  res := [.tmp 4]
  code := .seq (.keep [0, 1] (.region none [
     ⟨none, (some 4), .mov (.c (.v (.int .i64 0)))⟩]))
   (.seq (.keep [0, 1] (.region none [
     ⟨none, (some 6), .mov (.t 1)⟩,
     ⟨none, (some 7), .mov (.t 0)⟩,
     ⟨none, (some 8), .lenL (.t 7)⟩,
     ⟨none, (some 9), .bin .sub (.t 6) (.t 8)⟩,
     ⟨none, (some 1), .mov (.t 9)⟩]))
   (.seq (.seq (.keep [0, 1, 11] (.region none [
     ⟨none, (some 10), .mov (.t 1)⟩,
     ⟨none, (some 11), .bin .lss (.t 10) (.c (.v (.int .i64 0)))⟩]))
   (.cond (.t 11)
    (.seq (.keep [4] (.region none [
      ⟨none, (some 4), .mov (.c (.v (.int .i64 (-1))))⟩]))
    (.ret))
    (.skip)))
   (.seq (.seq (.keep [0, 1, 5] (.region none [
     ⟨none, (some 5), .mov (.c (.v (.int .i64 0)))⟩]))
   (.block 0 (.loop (.seq (.seq (.keep [0, 1, 5, 15] (.region none [
       ⟨none, (some 12), .mov (.t 5)⟩,
       ⟨none, (some 13), .mov (.t 0)⟩,
       ⟨none, (some 14), .lenL (.t 13)⟩,
       ⟨none, (some 15), .bin .lss (.t 12) (.t 14)⟩]))
     (.cond (.t 15)
      (.skip)
      (.exit 0)))
     (.seq (.block 1 (.seq (.keep [0, 1, 5] (.region none [
        ⟨none, (some 18), .mov (.t 0)⟩,
        ⟨none, (some 19), .mov (.t 5)⟩,
        ⟨none, (some 20), .iaddr s (.t 18) (.t 19)⟩,
        ⟨none, (some 21), .load (some s) (.t 20)⟩,
        ⟨none, (some 22), .mov (.t 1)⟩,
        ⟨none, (some 23), .pcall f [(.t 21), (.t 22)]⟩,
        ⟨none, (some 1), .mov (.t 23)⟩]))
      (.seq (.keep [0, 1, 5, 25] (.region none [
        ⟨none, (some 24), .mov (.t 1)⟩,
        ⟨none, (some 25), .bin .lss (.t 24) (.c (.v (.int .i64 0)))⟩]))
      (.cond (.t 25)
       (.seq (.keep [4] (.region none [
         ⟨none, (some 4), .mov (.c (.v (.int .i64 (-1))))⟩]))
       (.ret))
       (.skip)))))
     (.keep [0, 1, 5] (.region none [
       ⟨none, (some 16), .mov (.t 5)⟩,
       ⟨none, (some 17), .bin .add (.t 16) (.c (.v (.int .i64 1)))⟩,
       ⟨none, (some 5), .mov (.t 17)⟩])))))))
   (.seq (.keep [4] (.region none [
     ⟨none, (some 26), .mov (.t 1)⟩,
     ⟨none, (some 4), .mov (.t 26)⟩]))
   (.ret)))))

theorem sum_take_succ (ws : List Nat) (i k : Nat) (h : ws[i]? = some k) : (ws.take (i + 1)).sum = (ws.take i).sum + k := by
  rw [List.take_add_one, h]; simp
theorem sum_take_le (ws : List Nat) (i : Nat) : (ws.take i).sum ≤ ws.sum := by
  have h : ((ws.take i) ++ ws.drop i).sum = ws.sum := by rw [List.take_append_drop]
  rw [List.sum_append] at h
  omega

theorem szS_con {P : Program} {fS f : FuncId} {s : Nat} (hA : cFn P fS (szSCode s f)) (l : List AV) (ws : List Nat) (hlen : ws.length = l.length) (b : Nat) (hb : l.length + ws.sum ≤ b) (hb' : b ≤ 2 ^ 62)
    (hl : ∀ x ∈ l, x.isAgg = true ∧ x.cells.length = s ∧ x.noref = true)
    (hc : ∀ (i : Nat) (x : AV) (k : Nat), l[i]? = some x → ws[i]? = some k → ∀ c : Nat, k ≤ c → c ≤ 2 ^ 62 → PCon P f [x, .v (.int .i64 c)] (.v (.int .i64 (c - k : Nat)))) :
    PCon P fS [.sl l, .v (.int .i64 b)] (.v (.int .i64 (b - (l.length + ws.sum) : Nat))) := by
  refine con_of_wp hA rfl ?_
  have hb2 : l.length ≤ b := by omega
  simp only [szSCode, ↓wpC_skip, ↓wpC_region, ↓c_seq, ↓c_cond, ↓c_block, ↓wpC_exit, ↓wpC_ret, ↓c_keep, ↓c_loop, ↓wpOps_nil, ↓wpOps_kont, ↓c_guard, ↓seqQ_n, ↓seqQ_e, ↓seqQ_r, ↓blockQ_n, ↓blockQ_e, ↓blockQ_r, ↓keepQ_n, ↓keepQ_e, ↓keepQ_r, ↓roundQ_e, ↓roundQ_r, ↓o_mov, ↓o_pick, ↓o_alloc, ↓o_box, ↓o_build, ↓o_buildSlice, ↓o_load, ↓o_store, ↓o_bin, ↓o_un, ↓o_conv, ↓o_faddr, ↓o_fld, ↓o_iaddr, ↓o_idxS, ↓o_sliceS, ↓o_sliceL, ↓o_mk, ↓o_lenS, ↓o_lenL, ↓o_app, ↓o_ext, ↓o_nilc, ↓o_mkfn, ↓o_call, ↓o_callv, ↓o_pcall, ↓o_pcallv, ↓o_qcall, ↓o_qcallv, k1_kont, pickK_true, pickK_false, pickK_bool, boxK_eq, bldK_nil, bldK_cons, bslK_nil, bslK_cons, objK_live, loadK_iptr, loadK_ptr, storeK_ptr, binK_add, binK_sub, binK_mul, binK_and, binK_or, binK_xor, binK_quo, binK_rem, binK_eql, binK_neq, binK_lss, binK_leq, binK_gtr, binK_geq, binK_shl, binK_shr, binK_sadd, binK_seql, binK_sneq, unK_not, unK_neg, convK_eq, faddrK_iptr, faddrK_ptr, fldK_eq, iaddrK_sl, iaddrK_row, idxSK_eq, bnd_none, bnd_some, sliceSK_eq, sliceLK_eq, mkK_eq, lenSK_eq, lenLK_nils, lenLK_sl, lenLK_row, srcOf_nils, srcOf_sl, srcOf_row, ontoK_nils1, ontoK_nils, ontoK_row, extK_eq, nilcK_iptr, nilcK_fn, nilcK_ptr, callvK_fn, qcallvK_fn, pcallvK_fn, gopK_tt, gopK_tf, gopK_ft, gopK_ff, gopK_skip, condK_true, condK_false, loadC_whole, loadC_none, upd_whole, upd_v, upd_sl, upd_nils, upd_row, upd_ptr, upd_fn, upd_agg, upd_agg0, frz_v, frz_sl, frz_nils, frz_agg, frz_fn, resK_nil, resK_tmp, resK_cell, cellK_ptr, cellOK_live, packR_one, packR_more, List.reverse_cons, List.reverse_nil, ne_eq, Nat.add_eq_zero_iff, Nat.reduceEqDiff, not_false_eq_true, reduceCtorEq, Nat.one_ne_zero, ↓setD_some, ↓setD_none, ev_t, ev_c, set_at, entry_at, envL_cons, keepE_eq, List.map_cons, List.map_nil, Option.map_some, Option.map_none, List.getD_cons_zero, List.getD_cons_succ, List.length_nil, List.length_cons, List.length_append, List.length_set, List.nil_append, List.cons_append, List.append_nil, List.getElem?_cons_zero, List.getElem?_cons_succ, List.set_cons_zero, List.set_cons_succ, List.drop_succ_cons, List.drop_zero, List.take_succ_cons, List.take_zero, List.replicate_succ, List.replicate_zero, Nat.reduceEqDiff, Nat.reduceAdd, Nat.reduceLT, Nat.reduceLeDiff, if_true, if_false, reduceIte, cells_agg, cells_v, cells_nils, cells_sl, cells_row, cells_ptr, cells_fn, isAgg_agg, isCell_v, isCell_nils, isCell_sl, isCell_row, isCell_ptr, isCell_fn, storable_agg, storable_v, storable_nils, storable_sl, storable_row, storable_ptr, storable_fn, frz_noref, aft_flat, flat_v, norefs_nil, norefs_cons, noref_v, noref_sl, noref_agg, noref_tup, noref_nils, noref_fn, List.all_cons, List.all_nil, Bool.and_true, Bool.true_and, Bool.or_true, Bool.true_or, Bool.not_true, Bool.not_false, decide_true, decide_false, dlt0, Option.getD_none, Option.getD_some, true_and, and_true, Nat.zero_add, Nat.add_zero, Nat.lt_add_one, Nat.zero_lt_succ, Nat.le_refl]
  rw [wrap_id (by omega) (by omega)]
  refine condK_intro (fun h => absurd h (by simp; omega)) (fun _ => ?_)
  simp only [↓wpC_skip, ↓wpC_region, ↓c_seq, ↓c_cond, ↓c_block, ↓wpC_exit, ↓wpC_ret, ↓c_keep, ↓c_loop, ↓wpOps_nil, ↓wpOps_kont, ↓c_guard, ↓seqQ_n, ↓seqQ_e, ↓seqQ_r, ↓blockQ_n, ↓blockQ_e, ↓blockQ_r, ↓keepQ_n, ↓keepQ_e, ↓keepQ_r, ↓roundQ_e, ↓roundQ_r, ↓o_mov, ↓o_pick, ↓o_alloc, ↓o_box, ↓o_build, ↓o_buildSlice, ↓o_load, ↓o_store, ↓o_bin, ↓o_un, ↓o_conv, ↓o_faddr, ↓o_fld, ↓o_iaddr, ↓o_idxS, ↓o_sliceS, ↓o_sliceL, ↓o_mk, ↓o_lenS, ↓o_lenL, ↓o_app, ↓o_ext, ↓o_nilc, ↓o_mkfn, ↓o_call, ↓o_callv, ↓o_pcall, ↓o_pcallv, ↓o_qcall, ↓o_qcallv, k1_kont, pickK_true, pickK_false, pickK_bool, boxK_eq, bldK_nil, bldK_cons, bslK_nil, bslK_cons, objK_live, loadK_iptr, loadK_ptr, storeK_ptr, binK_add, binK_sub, binK_mul, binK_and, binK_or, binK_xor, binK_quo, binK_rem, binK_eql, binK_neq, binK_lss, binK_leq, binK_gtr, binK_geq, binK_shl, binK_shr, binK_sadd, binK_seql, binK_sneq, unK_not, unK_neg, convK_eq, faddrK_iptr, faddrK_ptr, fldK_eq, iaddrK_sl, iaddrK_row, idxSK_eq, bnd_none, bnd_some, sliceSK_eq, sliceLK_eq, mkK_eq, lenSK_eq, lenLK_nils, lenLK_sl, lenLK_row, srcOf_nils, srcOf_sl, srcOf_row, ontoK_nils1, ontoK_nils, ontoK_row, extK_eq, nilcK_iptr, nilcK_fn, nilcK_ptr, callvK_fn, qcallvK_fn, pcallvK_fn, gopK_tt, gopK_tf, gopK_ft, gopK_ff, gopK_skip, condK_true, condK_false, loadC_whole, loadC_none, upd_whole, upd_v, upd_sl, upd_nils, upd_row, upd_ptr, upd_fn, upd_agg, upd_agg0, frz_v, frz_sl, frz_nils, frz_agg, frz_fn, resK_nil, resK_tmp, resK_cell, cellK_ptr, cellOK_live, packR_one, packR_more, List.reverse_cons, List.reverse_nil, ne_eq, Nat.add_eq_zero_iff, Nat.reduceEqDiff, not_false_eq_true, reduceCtorEq, Nat.one_ne_zero, ↓setD_some, ↓setD_none, ev_t, ev_c, set_at, entry_at, envL_cons, keepE_eq, List.map_cons, List.map_nil, Option.map_some, Option.map_none, List.getD_cons_zero, List.getD_cons_succ, List.length_nil, List.length_cons, List.length_append, List.length_set, List.nil_append, List.cons_append, List.append_nil, List.getElem?_cons_zero, List.getElem?_cons_succ, List.set_cons_zero, List.set_cons_succ, List.drop_succ_cons, List.drop_zero, List.take_succ_cons, List.take_zero, List.replicate_succ, List.replicate_zero, Nat.reduceEqDiff, Nat.reduceAdd, Nat.reduceLT, Nat.reduceLeDiff, if_true, if_false, reduceIte, cells_agg, cells_v, cells_nils, cells_sl, cells_row, cells_ptr, cells_fn, isAgg_agg, isCell_v, isCell_nils, isCell_sl, isCell_row, isCell_ptr, isCell_fn, storable_agg, storable_v, storable_nils, storable_sl, storable_row, storable_ptr, storable_fn, frz_noref, aft_flat, flat_v, norefs_nil, norefs_cons, noref_v, noref_sl, noref_agg, noref_tup, noref_nils, noref_fn, List.all_cons, List.all_nil, Bool.and_true, Bool.true_and, Bool.or_true, Bool.true_or, Bool.not_true, Bool.not_false, decide_true, decide_false, dlt0, Option.getD_none, Option.getD_some, true_and, and_true, Nat.zero_add, Nat.add_zero, Nat.lt_add_one, Nat.zero_lt_succ, Nat.le_refl]
  refine loopK_intro (ι := Nat) (fun i => i ≤ l.length) (fun i => envL [(0, .sl l), (1, .v (.int .i64 (b - (l.length + (ws.take i).sum) : Nat))), (5, .v (.int .i64 i))]) (fun i => []) (fun i => l.length - i) 0 (Nat.zero_le _)
    (.of_eq (by rw [List.take_zero, List.sum_nil, Nat.add_zero, Int.ofNat_sub hb2]; rfl) rfl) ?_
  intro i hi
  simp only [Int.toNat_natCast, ↓wpC_skip, ↓wpC_region, ↓c_seq, ↓c_cond, ↓c_block, ↓wpC_exit, ↓wpC_ret, ↓c_keep, ↓c_loop, ↓wpOps_nil, ↓wpOps_kont, ↓c_guard, ↓seqQ_n, ↓seqQ_e, ↓seqQ_r, ↓blockQ_n, ↓blockQ_e, ↓blockQ_r, ↓keepQ_n, ↓keepQ_e, ↓keepQ_r, ↓roundQ_e, ↓roundQ_r, ↓o_mov, ↓o_pick, ↓o_alloc, ↓o_box, ↓o_build, ↓o_buildSlice, ↓o_load, ↓o_store, ↓o_bin, ↓o_un, ↓o_conv, ↓o_faddr, ↓o_fld, ↓o_iaddr, ↓o_idxS, ↓o_sliceS, ↓o_sliceL, ↓o_mk, ↓o_lenS, ↓o_lenL, ↓o_app, ↓o_ext, ↓o_nilc, ↓o_mkfn, ↓o_call, ↓o_callv, ↓o_pcall, ↓o_pcallv, ↓o_qcall, ↓o_qcallv, k1_kont, pickK_true, pickK_false, pickK_bool, boxK_eq, bldK_nil, bldK_cons, bslK_nil, bslK_cons, objK_live, loadK_iptr, loadK_ptr, storeK_ptr, binK_add, binK_sub, binK_mul, binK_and, binK_or, binK_xor, binK_quo, binK_rem, binK_eql, binK_neq, binK_lss, binK_leq, binK_gtr, binK_geq, binK_shl, binK_shr, binK_sadd, binK_seql, binK_sneq, unK_not, unK_neg, convK_eq, faddrK_iptr, faddrK_ptr, fldK_eq, iaddrK_sl, iaddrK_row, idxSK_eq, bnd_none, bnd_some, sliceSK_eq, sliceLK_eq, mkK_eq, lenSK_eq, lenLK_nils, lenLK_sl, lenLK_row, srcOf_nils, srcOf_sl, srcOf_row, ontoK_nils1, ontoK_nils, ontoK_row, extK_eq, nilcK_iptr, nilcK_fn, nilcK_ptr, callvK_fn, qcallvK_fn, pcallvK_fn, gopK_tt, gopK_tf, gopK_ft, gopK_ff, gopK_skip, condK_true, condK_false, loadC_whole, loadC_none, upd_whole, upd_v, upd_sl, upd_nils, upd_row, upd_ptr, upd_fn, upd_agg, upd_agg0, frz_v, frz_sl, frz_nils, frz_agg, frz_fn, resK_nil, resK_tmp, resK_cell, cellK_ptr, cellOK_live, packR_one, packR_more, List.reverse_cons, List.reverse_nil, ne_eq, Nat.add_eq_zero_iff, Nat.reduceEqDiff, not_false_eq_true, reduceCtorEq, Nat.one_ne_zero, ↓setD_some, ↓setD_none, ev_t, ev_c, set_at, entry_at, envL_cons, keepE_eq, List.map_cons, List.map_nil, Option.map_some, Option.map_none, List.getD_cons_zero, List.getD_cons_succ, List.length_nil, List.length_cons, List.length_append, List.length_set, List.nil_append, List.cons_append, List.append_nil, List.getElem?_cons_zero, List.getElem?_cons_succ, List.set_cons_zero, List.set_cons_succ, List.drop_succ_cons, List.drop_zero, List.take_succ_cons, List.take_zero, List.replicate_succ, List.replicate_zero, Nat.reduceEqDiff, Nat.reduceAdd, Nat.reduceLT, Nat.reduceLeDiff, if_true, if_false, reduceIte, cells_agg, cells_v, cells_nils, cells_sl, cells_row, cells_ptr, cells_fn, isAgg_agg, isCell_v, isCell_nils, isCell_sl, isCell_row, isCell_ptr, isCell_fn, storable_agg, storable_v, storable_nils, storable_sl, storable_row, storable_ptr, storable_fn, frz_noref, aft_flat, flat_v, norefs_nil, norefs_cons, noref_v, noref_sl, noref_agg, noref_tup, noref_nils, noref_fn, List.all_cons, List.all_nil, Bool.and_true, Bool.true_and, Bool.or_true, Bool.true_or, Bool.not_true, Bool.not_false, decide_true, decide_false, dlt0, Option.getD_none, Option.getD_some, true_and, and_true, Nat.zero_add, Nat.add_zero, Nat.lt_add_one, Nat.zero_lt_succ, Nat.le_refl]
  refine condK_intro (fun h => ?_) (fun h => ?_)
  · have hlt : i < l.length := by simpa using h
    have hlt' : i < ws.length := by omega
    have hx : l[i]? = some l[i] := by simp [hlt]
    have hy : ws[i]? = some ws[i] := by simp [hlt']
    obtain ⟨x1, x2, x3⟩ := hl _ (List.getElem_mem hlt)
    generalize l[i] = x at *
    generalize ws[i] = k at *
    have ht := sum_take_succ ws i k hy
    have hle := sum_take_le ws (i + 1)
    simp only [Int.toNat_natCast, getD_of hx, x1, x2, x3, ↓wpC_skip, ↓wpC_region, ↓c_seq, ↓c_cond, ↓c_block, ↓wpC_exit, ↓wpC_ret, ↓c_keep, ↓c_loop, ↓wpOps_nil, ↓wpOps_kont, ↓c_guard, ↓seqQ_n, ↓seqQ_e, ↓seqQ_r, ↓blockQ_n, ↓blockQ_e, ↓blockQ_r, ↓keepQ_n, ↓keepQ_e, ↓keepQ_r, ↓roundQ_e, ↓roundQ_r, ↓o_mov, ↓o_pick, ↓o_alloc, ↓o_box, ↓o_build, ↓o_buildSlice, ↓o_load, ↓o_store, ↓o_bin, ↓o_un, ↓o_conv, ↓o_faddr, ↓o_fld, ↓o_iaddr, ↓o_idxS, ↓o_sliceS, ↓o_sliceL, ↓o_mk, ↓o_lenS, ↓o_lenL, ↓o_app, ↓o_ext, ↓o_nilc, ↓o_mkfn, ↓o_call, ↓o_callv, ↓o_pcall, ↓o_pcallv, ↓o_qcall, ↓o_qcallv, k1_kont, pickK_true, pickK_false, pickK_bool, boxK_eq, bldK_nil, bldK_cons, bslK_nil, bslK_cons, objK_live, loadK_iptr, loadK_ptr, storeK_ptr, binK_add, binK_sub, binK_mul, binK_and, binK_or, binK_xor, binK_quo, binK_rem, binK_eql, binK_neq, binK_lss, binK_leq, binK_gtr, binK_geq, binK_shl, binK_shr, binK_sadd, binK_seql, binK_sneq, unK_not, unK_neg, convK_eq, faddrK_iptr, faddrK_ptr, fldK_eq, iaddrK_sl, iaddrK_row, idxSK_eq, bnd_none, bnd_some, sliceSK_eq, sliceLK_eq, mkK_eq, lenSK_eq, lenLK_nils, lenLK_sl, lenLK_row, srcOf_nils, srcOf_sl, srcOf_row, ontoK_nils1, ontoK_nils, ontoK_row, extK_eq, nilcK_iptr, nilcK_fn, nilcK_ptr, callvK_fn, qcallvK_fn, pcallvK_fn, gopK_tt, gopK_tf, gopK_ft, gopK_ff, gopK_skip, condK_true, condK_false, loadC_whole, loadC_none, upd_whole, upd_v, upd_sl, upd_nils, upd_row, upd_ptr, upd_fn, upd_agg, upd_agg0, frz_v, frz_sl, frz_nils, frz_agg, frz_fn, resK_nil, resK_tmp, resK_cell, cellK_ptr, cellOK_live, packR_one, packR_more, List.reverse_cons, List.reverse_nil, ne_eq, Nat.add_eq_zero_iff, Nat.reduceEqDiff, not_false_eq_true, reduceCtorEq, Nat.one_ne_zero, ↓setD_some, ↓setD_none, ev_t, ev_c, set_at, entry_at, envL_cons, keepE_eq, List.map_cons, List.map_nil, Option.map_some, Option.map_none, List.getD_cons_zero, List.getD_cons_succ, List.length_nil, List.length_cons, List.length_append, List.length_set, List.nil_append, List.cons_append, List.append_nil, List.getElem?_cons_zero, List.getElem?_cons_succ, List.set_cons_zero, List.set_cons_succ, List.drop_succ_cons, List.drop_zero, List.take_succ_cons, List.take_zero, List.replicate_succ, List.replicate_zero, Nat.reduceEqDiff, Nat.reduceAdd, Nat.reduceLT, Nat.reduceLeDiff, if_true, if_false, reduceIte, cells_agg, cells_v, cells_nils, cells_sl, cells_row, cells_ptr, cells_fn, isAgg_agg, isCell_v, isCell_nils, isCell_sl, isCell_row, isCell_ptr, isCell_fn, storable_agg, storable_v, storable_nils, storable_sl, storable_row, storable_ptr, storable_fn, frz_noref, aft_flat, flat_v, norefs_nil, norefs_cons, noref_v, noref_sl, noref_agg, noref_tup, noref_nils, noref_fn, List.all_cons, List.all_nil, Bool.and_true, Bool.true_and, Bool.or_true, Bool.true_or, Bool.not_true, Bool.not_false, decide_true, decide_false, dlt0, Option.getD_none, Option.getD_some, true_and, and_true, Nat.zero_add, Nat.add_zero, Nat.lt_add_one, Nat.zero_lt_succ, Nat.le_refl]
    refine ⟨by omega, by omega, ?_⟩
    refine pcallK_intro _ (hc i x k hx hy (b - (l.length + (ws.take i).sum)) (by omega) (by omega)) (by simp [norefs_cons, norefs_nil, x3, AV.noref]) ?_
    simp only [↓wpC_skip, ↓wpC_region, ↓c_seq, ↓c_cond, ↓c_block, ↓wpC_exit, ↓wpC_ret, ↓c_keep, ↓c_loop, ↓wpOps_nil, ↓wpOps_kont, ↓c_guard, ↓seqQ_n, ↓seqQ_e, ↓seqQ_r, ↓blockQ_n, ↓blockQ_e, ↓blockQ_r, ↓keepQ_n, ↓keepQ_e, ↓keepQ_r, ↓roundQ_e, ↓roundQ_r, ↓o_mov, ↓o_pick, ↓o_alloc, ↓o_box, ↓o_build, ↓o_buildSlice, ↓o_load, ↓o_store, ↓o_bin, ↓o_un, ↓o_conv, ↓o_faddr, ↓o_fld, ↓o_iaddr, ↓o_idxS, ↓o_sliceS, ↓o_sliceL, ↓o_mk, ↓o_lenS, ↓o_lenL, ↓o_app, ↓o_ext, ↓o_nilc, ↓o_mkfn, ↓o_call, ↓o_callv, ↓o_pcall, ↓o_pcallv, ↓o_qcall, ↓o_qcallv, k1_kont, pickK_true, pickK_false, pickK_bool, boxK_eq, bldK_nil, bldK_cons, bslK_nil, bslK_cons, objK_live, loadK_iptr, loadK_ptr, storeK_ptr, binK_add, binK_sub, binK_mul, binK_and, binK_or, binK_xor, binK_quo, binK_rem, binK_eql, binK_neq, binK_lss, binK_leq, binK_gtr, binK_geq, binK_shl, binK_shr, binK_sadd, binK_seql, binK_sneq, unK_not, unK_neg, convK_eq, faddrK_iptr, faddrK_ptr, fldK_eq, iaddrK_sl, iaddrK_row, idxSK_eq, bnd_none, bnd_some, sliceSK_eq, sliceLK_eq, mkK_eq, lenSK_eq, lenLK_nils, lenLK_sl, lenLK_row, srcOf_nils, srcOf_sl, srcOf_row, ontoK_nils1, ontoK_nils, ontoK_row, extK_eq, nilcK_iptr, nilcK_fn, nilcK_ptr, callvK_fn, qcallvK_fn, pcallvK_fn, gopK_tt, gopK_tf, gopK_ft, gopK_ff, gopK_skip, condK_true, condK_false, loadC_whole, loadC_none, upd_whole, upd_v, upd_sl, upd_nils, upd_row, upd_ptr, upd_fn, upd_agg, upd_agg0, frz_v, frz_sl, frz_nils, frz_agg, frz_fn, resK_nil, resK_tmp, resK_cell, cellK_ptr, cellOK_live, packR_one, packR_more, List.reverse_cons, List.reverse_nil, ne_eq, Nat.add_eq_zero_iff, Nat.reduceEqDiff, not_false_eq_true, reduceCtorEq, Nat.one_ne_zero, ↓setD_some, ↓setD_none, ev_t, ev_c, set_at, entry_at, envL_cons, keepE_eq, List.map_cons, List.map_nil, Option.map_some, Option.map_none, List.getD_cons_zero, List.getD_cons_succ, List.length_nil, List.length_cons, List.length_append, List.length_set, List.nil_append, List.cons_append, List.append_nil, List.getElem?_cons_zero, List.getElem?_cons_succ, List.set_cons_zero, List.set_cons_succ, List.drop_succ_cons, List.drop_zero, List.take_succ_cons, List.take_zero, List.replicate_succ, List.replicate_zero, Nat.reduceEqDiff, Nat.reduceAdd, Nat.reduceLT, Nat.reduceLeDiff, if_true, if_false, reduceIte, cells_agg, cells_v, cells_nils, cells_sl, cells_row, cells_ptr, cells_fn, isAgg_agg, isCell_v, isCell_nils, isCell_sl, isCell_row, isCell_ptr, isCell_fn, storable_agg, storable_v, storable_nils, storable_sl, storable_row, storable_ptr, storable_fn, frz_noref, aft_flat, flat_v, norefs_nil, norefs_cons, noref_v, noref_sl, noref_agg, noref_tup, noref_nils, noref_fn, List.all_cons, List.all_nil, Bool.and_true, Bool.true_and, Bool.or_true, Bool.true_or, Bool.not_true, Bool.not_false, decide_true, decide_false, dlt0, Option.getD_none, Option.getD_some, true_and, and_true, Nat.zero_add, Nat.add_zero, Nat.lt_add_one, Nat.zero_lt_succ, Nat.le_refl]
    rw [wrap_id (by omega) (by omega)]
    refine roundQ_intro (i + 1) (by omega) (by omega) (.of_eq ?_ rfl)
    rw [Nat.sub_sub, ht, Nat.add_assoc]; rfl
  · have hge : l.length ≤ i := by
      have h1 : ¬ (i < l.length) := by simpa using h
      omega
    refine pret_tmp (.inl rfl) ?_ rfl
    simp only [↓wpC_skip, ↓wpC_region, ↓c_seq, ↓c_cond, ↓c_block, ↓wpC_exit, ↓wpC_ret, ↓c_keep, ↓c_loop, ↓wpOps_nil, ↓wpOps_kont, ↓c_guard, ↓seqQ_n, ↓seqQ_e, ↓seqQ_r, ↓blockQ_n, ↓blockQ_e, ↓blockQ_r, ↓keepQ_n, ↓keepQ_e, ↓keepQ_r, ↓roundQ_e, ↓roundQ_r, ↓o_mov, ↓o_pick, ↓o_alloc, ↓o_box, ↓o_build, ↓o_buildSlice, ↓o_load, ↓o_store, ↓o_bin, ↓o_un, ↓o_conv, ↓o_faddr, ↓o_fld, ↓o_iaddr, ↓o_idxS, ↓o_sliceS, ↓o_sliceL, ↓o_mk, ↓o_lenS, ↓o_lenL, ↓o_app, ↓o_ext, ↓o_nilc, ↓o_mkfn, ↓o_call, ↓o_callv, ↓o_pcall, ↓o_pcallv, ↓o_qcall, ↓o_qcallv, k1_kont, pickK_true, pickK_false, pickK_bool, boxK_eq, bldK_nil, bldK_cons, bslK_nil, bslK_cons, objK_live, loadK_iptr, loadK_ptr, storeK_ptr, binK_add, binK_sub, binK_mul, binK_and, binK_or, binK_xor, binK_quo, binK_rem, binK_eql, binK_neq, binK_lss, binK_leq, binK_gtr, binK_geq, binK_shl, binK_shr, binK_sadd, binK_seql, binK_sneq, unK_not, unK_neg, convK_eq, faddrK_iptr, faddrK_ptr, fldK_eq, iaddrK_sl, iaddrK_row, idxSK_eq, bnd_none, bnd_some, sliceSK_eq, sliceLK_eq, mkK_eq, lenSK_eq, lenLK_nils, lenLK_sl, lenLK_row, srcOf_nils, srcOf_sl, srcOf_row, ontoK_nils1, ontoK_nils, ontoK_row, extK_eq, nilcK_iptr, nilcK_fn, nilcK_ptr, callvK_fn, qcallvK_fn, pcallvK_fn, gopK_tt, gopK_tf, gopK_ft, gopK_ff, gopK_skip, condK_true, condK_false, loadC_whole, loadC_none, upd_whole, upd_v, upd_sl, upd_nils, upd_row, upd_ptr, upd_fn, upd_agg, upd_agg0, frz_v, frz_sl, frz_nils, frz_agg, frz_fn, resK_nil, resK_tmp, resK_cell, cellK_ptr, cellOK_live, packR_one, packR_more, List.reverse_cons, List.reverse_nil, ne_eq, Nat.add_eq_zero_iff, Nat.reduceEqDiff, not_false_eq_true, reduceCtorEq, Nat.one_ne_zero, ↓setD_some, ↓setD_none, ev_t, ev_c, set_at, entry_at, envL_cons, keepE_eq, List.map_cons, List.map_nil, Option.map_some, Option.map_none, List.getD_cons_zero, List.getD_cons_succ, List.length_nil, List.length_cons, List.length_append, List.length_set, List.nil_append, List.cons_append, List.append_nil, List.getElem?_cons_zero, List.getElem?_cons_succ, List.set_cons_zero, List.set_cons_succ, List.drop_succ_cons, List.drop_zero, List.take_succ_cons, List.take_zero, List.replicate_succ, List.replicate_zero, Nat.reduceEqDiff, Nat.reduceAdd, Nat.reduceLT, Nat.reduceLeDiff, if_true, if_false, reduceIte, cells_agg, cells_v, cells_nils, cells_sl, cells_row, cells_ptr, cells_fn, isAgg_agg, isCell_v, isCell_nils, isCell_sl, isCell_row, isCell_ptr, isCell_fn, storable_agg, storable_v, storable_nils, storable_sl, storable_row, storable_ptr, storable_fn, frz_noref, aft_flat, flat_v, norefs_nil, norefs_cons, noref_v, noref_sl, noref_agg, noref_tup, noref_nils, noref_fn, List.all_cons, List.all_nil, Bool.and_true, Bool.true_and, Bool.or_true, Bool.true_or, Bool.not_true, Bool.not_false, decide_true, decide_false, dlt0, Option.getD_none, Option.getD_some, true_and, and_true, Nat.zero_add, Nat.add_zero, Nat.lt_add_one, Nat.zero_lt_succ, Nat.le_refl, List.take_of_length_le (show ws.length ≤ i by omega)]

def eqSCode (s : Nat) (f : FuncId) : AFn where
  nargs := 2
  nt := 27
  res := [.tmp 4]
  code := .seq (.keep [0, 1] (.region none [
     ⟨none, (some 4), .mov (.c (.v (.bool false)))⟩]))
   (.seq (.seq (.keep [0, 1, 10] (.region none [
     ⟨none, (some 6), .mov (.t 0)⟩,
     ⟨none, (some 7), .lenL (.t 6)⟩,
     ⟨none, (some 8), .mov (.t 1)⟩,
     ⟨none, (some 9), .lenL (.t 8)⟩,
     ⟨none, (some 10), .bin .neq (.t 7) (.t 9)⟩]))
   (.cond (.t 10)
    (.seq (.keep [4] (.region none [
      ⟨none, (some 4), .mov (.c (.v (.bool false)))⟩]))
    (.ret))
    (.skip)))
   (.seq (.seq (.keep [0, 1, 5] (.region none [
     ⟨none, (some 5), .mov (.c (.v (.int .i64 0)))⟩]))
   (.block 0 (.loop (.seq (.seq (.keep [0, 1, 5, 14] (.region none [
       ⟨none, (some 11), .mov (.t 5)⟩,
       ⟨none, (some 12), .mov (.t 0)⟩,
       ⟨none, (some 13), .lenL (.t 12)⟩,
       ⟨none, (some 14), .bin .lss (.t 11) (.t 13)⟩]))
     (.cond (.t 14)
      (.skip)
      (.exit 0)))
     (.seq (.block 1 (.seq (.keep [0, 1, 5, 26] (.region (some [[], [], [0, 1], [2], [], [], [4, 5], [6], [3, 7], [8]]) [
        ⟨none, (some 17), .mov (.t 0)⟩,
        ⟨none, (some 18), .mov (.t 5)⟩,
        ⟨none, (some 19), .iaddr s (.t 17) (.t 18)⟩,
        ⟨none, (some 20), .load (some s) (.t 19)⟩,
        ⟨none, (some 21), .mov (.t 1)⟩,
        ⟨none, (some 22), .mov (.t 5)⟩,
        ⟨none, (some 23), .iaddr s (.t 21) (.t 22)⟩,
        ⟨none, (some 24), .load (some s) (.t 23)⟩,
        ⟨none, (some 25), .qcall f [(.t 20), (.t 24)]⟩,
        ⟨none, (some 26), .un .not (.t 25)⟩]))
      (.cond (.t 26)
       (.seq (.keep [4] (.region none [
         ⟨none, (some 4), .mov (.c (.v (.bool false)))⟩]))
       (.ret))
       (.skip))))
     (.keep [0, 1, 5] (.region none [
       ⟨none, (some 15), .mov (.t 5)⟩,
       ⟨none, (some 16), .bin .add (.t 15) (.c (.v (.int .i64 1)))⟩,
       ⟨none, (some 5), .mov (.t 16)⟩])))))))
   (.seq (.keep [4] (.region none [
     ⟨none, (some 4), .mov (.c (.v (.bool true)))⟩]))
   (.ret))))

theorem eqS_con {P : Program} {fS f : FuncId} {s : Nat} (hA : cFn P fS (eqSCode s f)) (l : List AV) (hm : l.length ≤ 1048576)
    (hl : ∀ x ∈ l, x.isAgg = true ∧ x.cells.length = s ∧ x.noref = true) (hc : ∀ x ∈ l, PCon P f [x, x] (.v (.bool true))) : PCon P fS [.sl l, .sl l] (.v (.bool true)) := by
  refine con_of_wp hA rfl ?_
  simp only [eqSCode, ↓wpC_skip, ↓wpC_region, ↓c_seq, ↓c_cond, ↓c_block, ↓wpC_exit, ↓wpC_ret, ↓c_keep, ↓c_loop, ↓wpOps_nil, ↓wpOps_kont, ↓c_guard, ↓seqQ_n, ↓seqQ_e, ↓seqQ_r, ↓blockQ_n, ↓blockQ_e, ↓blockQ_r, ↓keepQ_n, ↓keepQ_e, ↓keepQ_r, ↓roundQ_e, ↓roundQ_r, ↓o_mov, ↓o_pick, ↓o_alloc, ↓o_box, ↓o_build, ↓o_buildSlice, ↓o_load, ↓o_store, ↓o_bin, ↓o_un, ↓o_conv, ↓o_faddr, ↓o_fld, ↓o_iaddr, ↓o_idxS, ↓o_sliceS, ↓o_sliceL, ↓o_mk, ↓o_lenS, ↓o_lenL, ↓o_app, ↓o_ext, ↓o_nilc, ↓o_mkfn, ↓o_call, ↓o_callv, ↓o_pcall, ↓o_pcallv, ↓o_qcall, ↓o_qcallv, k1_kont, pickK_true, pickK_false, pickK_bool, boxK_eq, bldK_nil, bldK_cons, bslK_nil, bslK_cons, objK_live, loadK_iptr, loadK_ptr, storeK_ptr, binK_add, binK_sub, binK_mul, binK_and, binK_or, binK_xor, binK_quo, binK_rem, binK_eql, binK_neq, binK_lss, binK_leq, binK_gtr, binK_geq, binK_shl, binK_shr, binK_sadd, binK_seql, binK_sneq, unK_not, unK_neg, convK_eq, faddrK_iptr, faddrK_ptr, fldK_eq, iaddrK_sl, iaddrK_row, idxSK_eq, bnd_none, bnd_some, sliceSK_eq, sliceLK_eq, mkK_eq, lenSK_eq, lenLK_nils, lenLK_sl, lenLK_row, srcOf_nils, srcOf_sl, srcOf_row, ontoK_nils1, ontoK_nils, ontoK_row, extK_eq, nilcK_iptr, nilcK_fn, nilcK_ptr, callvK_fn, qcallvK_fn, pcallvK_fn, gopK_tt, gopK_tf, gopK_ft, gopK_ff, gopK_skip, condK_true, condK_false, loadC_whole, loadC_none, upd_whole, upd_v, upd_sl, upd_nils, upd_row, upd_ptr, upd_fn, upd_agg, upd_agg0, frz_v, frz_sl, frz_nils, frz_agg, frz_fn, resK_nil, resK_tmp, resK_cell, cellK_ptr, cellOK_live, packR_one, packR_more, List.reverse_cons, List.reverse_nil, ne_eq, Nat.add_eq_zero_iff, Nat.reduceEqDiff, not_false_eq_true, reduceCtorEq, Nat.one_ne_zero, ↓setD_some, ↓setD_none, ev_t, ev_c, set_at, entry_at, envL_cons, keepE_eq, List.map_cons, List.map_nil, Option.map_some, Option.map_none, List.getD_cons_zero, List.getD_cons_succ, List.length_nil, List.length_cons, List.length_append, List.length_set, List.nil_append, List.cons_append, List.append_nil, List.getElem?_cons_zero, List.getElem?_cons_succ, List.set_cons_zero, List.set_cons_succ, List.drop_succ_cons, List.drop_zero, List.take_succ_cons, List.take_zero, List.replicate_succ, List.replicate_zero, Nat.reduceEqDiff, Nat.reduceAdd, Nat.reduceLT, Nat.reduceLeDiff, if_true, if_false, reduceIte, cells_agg, cells_v, cells_nils, cells_sl, cells_row, cells_ptr, cells_fn, isAgg_agg, isCell_v, isCell_nils, isCell_sl, isCell_row, isCell_ptr, isCell_fn, storable_agg, storable_v, storable_nils, storable_sl, storable_row, storable_ptr, storable_fn, frz_noref, aft_flat, flat_v, norefs_nil, norefs_cons, noref_v, noref_sl, noref_agg, noref_tup, noref_nils, noref_fn, List.all_cons, List.all_nil, Bool.and_true, Bool.true_and, Bool.or_true, Bool.true_or, Bool.not_true, Bool.not_false, decide_true, decide_false, dlt0, Option.getD_none, Option.getD_some, true_and, and_true, Nat.zero_add, Nat.add_zero, Nat.lt_add_one, Nat.zero_lt_succ, Nat.le_refl]
  refine loopK_intro (ι := Nat) (fun i => i ≤ l.length) (fun i => envL [(0, .sl l), (1, .sl l), (5, .v (.int .i64 i))]) (fun i => []) (fun i => l.length - i) 0 (Nat.zero_le _)
    (.of_eq rfl rfl) ?_
  intro i hi
  simp only [Int.toNat_natCast, ↓wpC_skip, ↓wpC_region, ↓c_seq, ↓c_cond, ↓c_block, ↓wpC_exit, ↓wpC_ret, ↓c_keep, ↓c_loop, ↓wpOps_nil, ↓wpOps_kont, ↓c_guard, ↓seqQ_n, ↓seqQ_e, ↓seqQ_r, ↓blockQ_n, ↓blockQ_e, ↓blockQ_r, ↓keepQ_n, ↓keepQ_e, ↓keepQ_r, ↓roundQ_e, ↓roundQ_r, ↓o_mov, ↓o_pick, ↓o_alloc, ↓o_box, ↓o_build, ↓o_buildSlice, ↓o_load, ↓o_store, ↓o_bin, ↓o_un, ↓o_conv, ↓o_faddr, ↓o_fld, ↓o_iaddr, ↓o_idxS, ↓o_sliceS, ↓o_sliceL, ↓o_mk, ↓o_lenS, ↓o_lenL, ↓o_app, ↓o_ext, ↓o_nilc, ↓o_mkfn, ↓o_call, ↓o_callv, ↓o_pcall, ↓o_pcallv, ↓o_qcall, ↓o_qcallv, k1_kont, pickK_true, pickK_false, pickK_bool, boxK_eq, bldK_nil, bldK_cons, bslK_nil, bslK_cons, objK_live, loadK_iptr, loadK_ptr, storeK_ptr, binK_add, binK_sub, binK_mul, binK_and, binK_or, binK_xor, binK_quo, binK_rem, binK_eql, binK_neq, binK_lss, binK_leq, binK_gtr, binK_geq, binK_shl, binK_shr, binK_sadd, binK_seql, binK_sneq, unK_not, unK_neg, convK_eq, faddrK_iptr, faddrK_ptr, fldK_eq, iaddrK_sl, iaddrK_row, idxSK_eq, bnd_none, bnd_some, sliceSK_eq, sliceLK_eq, mkK_eq, lenSK_eq, lenLK_nils, lenLK_sl, lenLK_row, srcOf_nils, srcOf_sl, srcOf_row, ontoK_nils1, ontoK_nils, ontoK_row, extK_eq, nilcK_iptr, nilcK_fn, nilcK_ptr, callvK_fn, qcallvK_fn, pcallvK_fn, gopK_tt, gopK_tf, gopK_ft, gopK_ff, gopK_skip, condK_true, condK_false, loadC_whole, loadC_none, upd_whole, upd_v, upd_sl, upd_nils, upd_row, upd_ptr, upd_fn, upd_agg, upd_agg0, frz_v, frz_sl, frz_nils, frz_agg, frz_fn, resK_nil, resK_tmp, resK_cell, cellK_ptr, cellOK_live, packR_one, packR_more, List.reverse_cons, List.reverse_nil, ne_eq, Nat.add_eq_zero_iff, Nat.reduceEqDiff, not_false_eq_true, reduceCtorEq, Nat.one_ne_zero, ↓setD_some, ↓setD_none, ev_t, ev_c, set_at, entry_at, envL_cons, keepE_eq, List.map_cons, List.map_nil, Option.map_some, Option.map_none, List.getD_cons_zero, List.getD_cons_succ, List.length_nil, List.length_cons, List.length_append, List.length_set, List.nil_append, List.cons_append, List.append_nil, List.getElem?_cons_zero, List.getElem?_cons_succ, List.set_cons_zero, List.set_cons_succ, List.drop_succ_cons, List.drop_zero, List.take_succ_cons, List.take_zero, List.replicate_succ, List.replicate_zero, Nat.reduceEqDiff, Nat.reduceAdd, Nat.reduceLT, Nat.reduceLeDiff, if_true, if_false, reduceIte, cells_agg, cells_v, cells_nils, cells_sl, cells_row, cells_ptr, cells_fn, isAgg_agg, isCell_v, isCell_nils, isCell_sl, isCell_row, isCell_ptr, isCell_fn, storable_agg, storable_v, storable_nils, storable_sl, storable_row, storable_ptr, storable_fn, frz_noref, aft_flat, flat_v, norefs_nil, norefs_cons, noref_v, noref_sl, noref_agg, noref_tup, noref_nils, noref_fn, List.all_cons, List.all_nil, Bool.and_true, Bool.true_and, Bool.or_true, Bool.true_or, Bool.not_true, Bool.not_false, decide_true, decide_false, dlt0, Option.getD_none, Option.getD_some, true_and, and_true, Nat.zero_add, Nat.add_zero, Nat.lt_add_one, Nat.zero_lt_succ, Nat.le_refl]
  refine condK_intro (fun h => ?_) (fun h => ?_)
  · have hlt : i < l.length := by simpa using h
    have hx : l[i]? = some l[i] := by simp [hlt]
    obtain ⟨x1, x2, x3⟩ := hl _ (List.getElem_mem hlt)
    have hq := hc _ (List.getElem_mem hlt)
    generalize l[i] = x at *
    simp only [Int.toNat_natCast, getD_of hx, x1, x2, x3, ↓wpC_skip, ↓wpC_region, ↓c_seq, ↓c_cond, ↓c_block, ↓wpC_exit, ↓wpC_ret, ↓c_keep, ↓c_loop, ↓wpOps_nil, ↓wpOps_kont, ↓c_guard, ↓seqQ_n, ↓seqQ_e, ↓seqQ_r, ↓blockQ_n, ↓blockQ_e, ↓blockQ_r, ↓keepQ_n, ↓keepQ_e, ↓keepQ_r, ↓roundQ_e, ↓roundQ_r, ↓o_mov, ↓o_pick, ↓o_alloc, ↓o_box, ↓o_build, ↓o_buildSlice, ↓o_load, ↓o_store, ↓o_bin, ↓o_un, ↓o_conv, ↓o_faddr, ↓o_fld, ↓o_iaddr, ↓o_idxS, ↓o_sliceS, ↓o_sliceL, ↓o_mk, ↓o_lenS, ↓o_lenL, ↓o_app, ↓o_ext, ↓o_nilc, ↓o_mkfn, ↓o_call, ↓o_callv, ↓o_pcall, ↓o_pcallv, ↓o_qcall, ↓o_qcallv, k1_kont, pickK_true, pickK_false, pickK_bool, boxK_eq, bldK_nil, bldK_cons, bslK_nil, bslK_cons, objK_live, loadK_iptr, loadK_ptr, storeK_ptr, binK_add, binK_sub, binK_mul, binK_and, binK_or, binK_xor, binK_quo, binK_rem, binK_eql, binK_neq, binK_lss, binK_leq, binK_gtr, binK_geq, binK_shl, binK_shr, binK_sadd, binK_seql, binK_sneq, unK_not, unK_neg, convK_eq, faddrK_iptr, faddrK_ptr, fldK_eq, iaddrK_sl, iaddrK_row, idxSK_eq, bnd_none, bnd_some, sliceSK_eq, sliceLK_eq, mkK_eq, lenSK_eq, lenLK_nils, lenLK_sl, lenLK_row, srcOf_nils, srcOf_sl, srcOf_row, ontoK_nils1, ontoK_nils, ontoK_row, extK_eq, nilcK_iptr, nilcK_fn, nilcK_ptr, callvK_fn, qcallvK_fn, pcallvK_fn, gopK_tt, gopK_tf, gopK_ft, gopK_ff, gopK_skip, condK_true, condK_false, loadC_whole, loadC_none, upd_whole, upd_v, upd_sl, upd_nils, upd_row, upd_ptr, upd_fn, upd_agg, upd_agg0, frz_v, frz_sl, frz_nils, frz_agg, frz_fn, resK_nil, resK_tmp, resK_cell, cellK_ptr, cellOK_live, packR_one, packR_more, List.reverse_cons, List.reverse_nil, ne_eq, Nat.add_eq_zero_iff, Nat.reduceEqDiff, not_false_eq_true, reduceCtorEq, Nat.one_ne_zero, ↓setD_some, ↓setD_none, ev_t, ev_c, set_at, entry_at, envL_cons, keepE_eq, List.map_cons, List.map_nil, Option.map_some, Option.map_none, List.getD_cons_zero, List.getD_cons_succ, List.length_nil, List.length_cons, List.length_append, List.length_set, List.nil_append, List.cons_append, List.append_nil, List.getElem?_cons_zero, List.getElem?_cons_succ, List.set_cons_zero, List.set_cons_succ, List.drop_succ_cons, List.drop_zero, List.take_succ_cons, List.take_zero, List.replicate_succ, List.replicate_zero, Nat.reduceEqDiff, Nat.reduceAdd, Nat.reduceLT, Nat.reduceLeDiff, if_true, if_false, reduceIte, cells_agg, cells_v, cells_nils, cells_sl, cells_row, cells_ptr, cells_fn, isAgg_agg, isCell_v, isCell_nils, isCell_sl, isCell_row, isCell_ptr, isCell_fn, storable_agg, storable_v, storable_nils, storable_sl, storable_row, storable_ptr, storable_fn, frz_noref, aft_flat, flat_v, norefs_nil, norefs_cons, noref_v, noref_sl, noref_agg, noref_tup, noref_nils, noref_fn, List.all_cons, List.all_nil, Bool.and_true, Bool.true_and, Bool.or_true, Bool.true_or, Bool.not_true, Bool.not_false, decide_true, decide_false, dlt0, Option.getD_none, Option.getD_some, true_and, and_true, Nat.zero_add, Nat.add_zero, Nat.lt_add_one, Nat.zero_lt_succ, Nat.le_refl]
    refine ⟨by omega, by omega, by omega, by omega, ?_⟩
    refine qcallK_intro _ hq (by simp [norefs_cons, norefs_nil, x3]) ?_
    simp only [↓wpC_skip, ↓wpC_region, ↓c_seq, ↓c_cond, ↓c_block, ↓wpC_exit, ↓wpC_ret, ↓c_keep, ↓c_loop, ↓wpOps_nil, ↓wpOps_kont, ↓c_guard, ↓seqQ_n, ↓seqQ_e, ↓seqQ_r, ↓blockQ_n, ↓blockQ_e, ↓blockQ_r, ↓keepQ_n, ↓keepQ_e, ↓keepQ_r, ↓roundQ_e, ↓roundQ_r, ↓o_mov, ↓o_pick, ↓o_alloc, ↓o_box, ↓o_build, ↓o_buildSlice, ↓o_load, ↓o_store, ↓o_bin, ↓o_un, ↓o_conv, ↓o_faddr, ↓o_fld, ↓o_iaddr, ↓o_idxS, ↓o_sliceS, ↓o_sliceL, ↓o_mk, ↓o_lenS, ↓o_lenL, ↓o_app, ↓o_ext, ↓o_nilc, ↓o_mkfn, ↓o_call, ↓o_callv, ↓o_pcall, ↓o_pcallv, ↓o_qcall, ↓o_qcallv, k1_kont, pickK_true, pickK_false, pickK_bool, boxK_eq, bldK_nil, bldK_cons, bslK_nil, bslK_cons, objK_live, loadK_iptr, loadK_ptr, storeK_ptr, binK_add, binK_sub, binK_mul, binK_and, binK_or, binK_xor, binK_quo, binK_rem, binK_eql, binK_neq, binK_lss, binK_leq, binK_gtr, binK_geq, binK_shl, binK_shr, binK_sadd, binK_seql, binK_sneq, unK_not, unK_neg, convK_eq, faddrK_iptr, faddrK_ptr, fldK_eq, iaddrK_sl, iaddrK_row, idxSK_eq, bnd_none, bnd_some, sliceSK_eq, sliceLK_eq, mkK_eq, lenSK_eq, lenLK_nils, lenLK_sl, lenLK_row, srcOf_nils, srcOf_sl, srcOf_row, ontoK_nils1, ontoK_nils, ontoK_row, extK_eq, nilcK_iptr, nilcK_fn, nilcK_ptr, callvK_fn, qcallvK_fn, pcallvK_fn, gopK_tt, gopK_tf, gopK_ft, gopK_ff, gopK_skip, condK_true, condK_false, loadC_whole, loadC_none, upd_whole, upd_v, upd_sl, upd_nils, upd_row, upd_ptr, upd_fn, upd_agg, upd_agg0, frz_v, frz_sl, frz_nils, frz_agg, frz_fn, resK_nil, resK_tmp, resK_cell, cellK_ptr, cellOK_live, packR_one, packR_more, List.reverse_cons, List.reverse_nil, ne_eq, Nat.add_eq_zero_iff, Nat.reduceEqDiff, not_false_eq_true, reduceCtorEq, Nat.one_ne_zero, ↓setD_some, ↓setD_none, ev_t, ev_c, set_at, entry_at, envL_cons, keepE_eq, List.map_cons, List.map_nil, Option.map_some, Option.map_none, List.getD_cons_zero, List.getD_cons_succ, List.length_nil, List.length_cons, List.length_append, List.length_set, List.nil_append, List.cons_append, List.append_nil, List.getElem?_cons_zero, List.getElem?_cons_succ, List.set_cons_zero, List.set_cons_succ, List.drop_succ_cons, List.drop_zero, List.take_succ_cons, List.take_zero, List.replicate_succ, List.replicate_zero, Nat.reduceEqDiff, Nat.reduceAdd, Nat.reduceLT, Nat.reduceLeDiff, if_true, if_false, reduceIte, cells_agg, cells_v, cells_nils, cells_sl, cells_row, cells_ptr, cells_fn, isAgg_agg, isCell_v, isCell_nils, isCell_sl, isCell_row, isCell_ptr, isCell_fn, storable_agg, storable_v, storable_nils, storable_sl, storable_row, storable_ptr, storable_fn, frz_noref, aft_flat, flat_v, norefs_nil, norefs_cons, noref_v, noref_sl, noref_agg, noref_tup, noref_nils, noref_fn, List.all_cons, List.all_nil, Bool.and_true, Bool.true_and, Bool.or_true, Bool.true_or, Bool.not_true, Bool.not_false, decide_true, decide_false, dlt0, Option.getD_none, Option.getD_some, true_and, and_true, Nat.zero_add, Nat.add_zero, Nat.lt_add_one, Nat.zero_lt_succ, Nat.le_refl]
    rw [wrap_id (by omega) (by omega)]
    exact roundQ_intro (i + 1) (by omega) (by omega) (.of_eq rfl rfl)
  · exact pret_tmp (.inl rfl) rfl rfl

end Go.Ab
