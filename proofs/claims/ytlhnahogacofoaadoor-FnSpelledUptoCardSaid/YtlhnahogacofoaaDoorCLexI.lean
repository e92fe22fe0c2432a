/-
  THE PROGRAM'S LEXER: what it computes, in the plain words of CLexM.
-/
import Derived.Test.YtlhnahogacofoaaDoorCAtoi
import Derived.Test.YtlhnahogacofoaaDoorCLexS
set_option linter.unusedVariables false
set_option linter.unusedSimpArgs false
set_option linter.defProp false
namespace Go.Ab
set_option maxRecDepth 100000
set_option maxHeartbeats 4000000
theorem Good.of_below {I : Imm} {L : Nat → Go.Ab.Loc} {w w' : World} (hi : Go.Ab.Inv I L [] w) (hb : RowKit.Below w.heap.size w w') : Go.Ab.Good I L [] w I L [] w' := by
  refine ⟨⟨fun b o x hx => ?_, by simp, by simp, by simp, hi.fix, hi.blk_frm (fun b hb' _ => hb.block b hb') (fun _ _ _ h => h), .no (by simp)⟩, .refl _ _ _, ⟨hb.os, hb.tape, hb.output, hb.size, fun b hb' _ => hb.block b hb'⟩, fun _ h => .inl h, fun _ _ _ h => .inl h⟩
  have := hi.imm b o x hx
  rw [← this]
  exact World.cell?_of_block (a := ⟨b, o, none⟩) (hb.block b (cell_block this))
theorem bs_toNat (s : ByteArray) : s.data.toList.map (fun c => (c.toNat : Int)) = bs s := rfl
end Go.Ab
namespace Go.Proofs.Ab
open Go.Ab
set_option maxRecDepth 100000
set_option maxHeartbeats 4000000
theorem stringslite_HasPrefix_c (s p : ByteArray) : PCon Tryd.prog F.internalstringslite_HasPrefix [avB s, avB p] (.v (.bool ((bs p).isPrefixOf (bs s)))) := by
  refine T.internalstringslite_HasPrefix_con rfl rfl ?_
  simp only [T.internalstringslite_HasPrefix, WA, Nat.reduceEqDiff, Nat.reduceAdd, Nat.reduceLT, Nat.reduceLeDiff, Nat.reduceMul, reduceIte, reduceCtorEq, Int.reduceEq, Int.reduceLT, Int.reduceLE, Int.reduceNe]
  refine bind_cut [.v (.bool ((bs p).isPrefixOf (bs s)))] rfl ?_ (by simp only [WA, Nat.reduceEqDiff, Nat.reduceAdd, Nat.reduceLT, Nat.reduceLeDiff, Nat.reduceMul, reduceIte, reduceCtorEq, Int.reduceEq, Int.reduceLT, Int.reduceLE, Int.reduceNe])
  simp only [WA, Nat.reduceEqDiff, Nat.reduceAdd, Nat.reduceLT, Nat.reduceLeDiff, Nat.reduceMul, reduceIte, reduceCtorEq, Int.reduceEq, Int.reduceLT, Int.reduceLE, Int.reduceNe]
  refine ite_dec (fun h => ?_) (fun h => ?_)
  · have hp := prefix_ext s p 0 (by omega)
    rw [List.drop_zero, Nat.zero_add] at hp
    rw [hp]
    simp only [Int.toNat_natCast, Int.toNat_zero, WA, Nat.reduceEqDiff, Nat.reduceAdd, Nat.reduceLT, Nat.reduceLeDiff, Nat.reduceMul, reduceIte, reduceCtorEq, Int.reduceEq, Int.reduceLT, Int.reduceLE, Int.reduceNe]
    repeat (refine And.intro (by omega) ?_)
    try simp only [WA, Nat.reduceEqDiff, Nat.reduceAdd, Nat.reduceLT, Nat.reduceLeDiff, Nat.reduceMul, reduceIte, reduceCtorEq, Int.reduceEq, Int.reduceLT, Int.reduceLE, Int.reduceNe]
    try omega
  · have hp := prefix_short s p 0 (Nat.zero_le _) (by omega)
    rw [List.drop_zero] at hp
    rw [hp]
    simp only [WA, Nat.reduceEqDiff, Nat.reduceAdd, Nat.reduceLT, Nat.reduceLeDiff, Nat.reduceMul, reduceIte, reduceCtorEq, Int.reduceEq, Int.reduceLT, Int.reduceLE, Int.reduceNe]
theorem strings_HasPrefix_c (s p : ByteArray) : PCon Tryd.prog F.strings_HasPrefix [avB s, avB p] (.v (.bool ((bs p).isPrefixOf (bs s)))) := by
  refine T.strings_HasPrefix_con rfl rfl ?_
  simp only [T.strings_HasPrefix, WA, Nat.reduceEqDiff, Nat.reduceAdd, Nat.reduceLT, Nat.reduceLeDiff, Nat.reduceMul, reduceIte, reduceCtorEq, Int.reduceEq, Int.reduceLT, Int.reduceLE, Int.reduceNe]
  refine call_v (stringslite_HasPrefix_c s p) ?_
  simp only [WA, Nat.reduceEqDiff, Nat.reduceAdd, Nat.reduceLT, Nat.reduceLeDiff, Nat.reduceMul, reduceIte, reduceCtorEq, Int.reduceEq, Int.reduceLT, Int.reduceLE, Int.reduceNe]
def signB (o : Option ByteArray) : ByteArray := match o with
  | some y => y
  | none => ⟨#[]⟩
theorem impl_signAt_c (s : ByteArray) (k : Nat) (hk : k ≤ s.size) (hs : s.size ≤ 1048576) : PCon Tryd.prog F.impl_signAt [avB s, avI k] (avB (signB (signM ((bs s).drop k)))) := by
  have hl := bs_len s
  generalize hlk : (bs s).drop k = l
  have he : bs (s.extract k s.size) = l := by
    rw [bs_extract, hlk]
    refine List.take_of_length_le ?_
    rw [← hlk, List.length_drop]; omega
  refine T.impl_signAt_con rfl rfl ?_
  simp only [T.impl_signAt, WA, Nat.reduceEqDiff, Nat.reduceAdd, Nat.reduceLT, Nat.reduceLeDiff, Nat.reduceMul, reduceIte, reduceCtorEq, Int.reduceEq, Int.reduceLT, Int.reduceLE, Int.reduceNe]
  refine bind_post (fun _ => signM l = none) ?_ ?_
  · simp only [WA, Nat.reduceEqDiff, Nat.reduceAdd, Nat.reduceLT, Nat.reduceLeDiff, Nat.reduceMul, reduceIte, reduceCtorEq, Int.reduceEq, Int.reduceLT, Int.reduceLE, Int.reduceNe]
    refine call_p impl_signs_c (norefsM (f := avB) fun _ => rfl) ?_
    simp only [WA, Nat.reduceEqDiff, Nat.reduceAdd, Nat.reduceLT, Nat.reduceLeDiff, Nat.reduceMul, reduceIte, reduceCtorEq, Int.reduceEq, Int.reduceLT, Int.reduceLE, Int.reduceNe]
    refine loop_list signsM (fun i (_ : Unit) => [avI i]) (fun _ rest _ => signM l = rest.find? fun y => (bs y).isPrefixOf l) () rfl rfl (fun i y rest _ hi hy hm hel hd hg => ?_) (fun _ hd hg => ?_)
    · simp (disch := (first | rfl | exact rfl | (simp only [cells_v, List.length_cons, List.length_nil]; done))) only [hel, hd, List.length_map, Int.toNat_natCast, WA, Nat.reduceEqDiff, Nat.reduceAdd, Nat.reduceLT, Nat.reduceLeDiff, Nat.reduceMul, reduceIte, reduceCtorEq, Int.reduceEq, Int.reduceLT, Int.reduceLE, Int.reduceNe]
      repeat (refine And.intro (by omega) ?_)
      refine call_v (strings_HasPrefix_c _ y) ?_
      rw [he]
      simp only [WA, Nat.reduceEqDiff, Nat.reduceAdd, Nat.reduceLT, Nat.reduceLeDiff, Nat.reduceMul, reduceIte, reduceCtorEq, Int.reduceEq, Int.reduceLT, Int.reduceLE, Int.reduceNe]
      refine ite_intro (fun h => ?_) (fun h => ?_)
      · have hsm : signM l = some y := by rw [hg, List.find?_cons_of_pos (by simp [h])]
        simp only [hsm, signB, WA, Nat.reduceEqDiff, Nat.reduceAdd, Nat.reduceLT, Nat.reduceLeDiff, Nat.reduceMul, reduceIte, reduceCtorEq, Int.reduceEq, Int.reduceLT, Int.reduceLE, Int.reduceNe]
      · have h15 : signsM.length = 15 := rfl
        simp (disch := omega) only [wrapA1, WA, Nat.reduceEqDiff, Nat.reduceAdd, Nat.reduceLT, Nat.reduceLeDiff, Nat.reduceMul, reduceIte, reduceCtorEq, Int.reduceEq, Int.reduceLT, Int.reduceLE, Int.reduceNe]
        have hgr : signM l = rest.find? fun y => (bs y).isPrefixOf l := by rw [hg, List.find?_cons_of_neg (by simp [h])]
        simp [hi, hgr]
    · simp only [hd, List.length_map, WA, Nat.reduceEqDiff, Nat.reduceAdd, Nat.reduceLT, Nat.reduceLeDiff, Nat.reduceMul, reduceIte, reduceCtorEq, Int.reduceEq, Int.reduceLT, Int.reduceLE, Int.reduceNe]
      rw [hg]; rfl
  · intro vs hv _
    simp only [hv, signB, WA, Nat.reduceEqDiff, Nat.reduceAdd, Nat.reduceLT, Nat.reduceLeDiff, Nat.reduceMul, reduceIte, reduceCtorEq, Int.reduceEq, Int.reduceLT, Int.reduceLE, Int.reduceNe]
theorem atoi_c (s : ByteArray) (hs : s.size ≤ 1048576) (v : Int) (h : Lib.atoiAll s.data.toList = .ok v) : PCon Tryd.prog F.strconv_Atoi [avB s] (.tup [avI v, .v .nilIface]) := by
  refine ⟨Go.Ab.enters_of (by kernel_rfl), fun I L w vs hi hr => ?_⟩
  obtain ⟨x, rfl, hx⟩ := rl_1 hr
  rw [hx.v_inv]
  refine (atoi_calls s hs hi).mono ?_
  rintro e w' ⟨he, hb⟩
  unfold atoiEnd at he
  rw [h] at he
  refine ⟨_, I, L, he, ?_, Go.Ab.Good.of_below hi hb⟩
  exact .tup _ _ rfl fun i c x hc hx => by
    match i, hc, hx with
    | 0, hc, hx => cases hc; cases hx; exact .v _ rfl
    | 1, hc, hx => cases hc; cases hx; exact .v _ rfl
/-- an error: some number beside it -/
theorem atoi_err (s : ByteArray) (hs : s.size ≤ 1048576) (h : ∀ v, Lib.atoiAll s.data.toList ≠ .ok v) : PCon Tryd.prog F.strconv_Atoi [avB s] (.tup [.top, .ifc]) := by
  refine ⟨Go.Ab.enters_of (by kernel_rfl), fun I L w vs hi hr => ?_⟩
  obtain ⟨x, rfl, hx⟩ := rl_1 hr
  rw [hx.v_inv]
  refine (atoi_calls s hs hi).mono ?_
  rintro e w' ⟨he, hb⟩
  unfold atoiEnd at he
  have : ∃ n t v, e = .returned (.tuple #[.int .i64 n, .iface t v]) := by
    rcases hq : Lib.atoiAll s.data.toList with v | _ | _
    · exact (h v hq).elim
    · rw [hq] at he; exact he
    · rw [hq] at he; exact he
  obtain ⟨n, t, v, rfl⟩ := this
  refine ⟨_, I, L, rfl, ?_, Go.Ab.Good.of_below hi hb⟩
  exact .tup _ _ rfl fun i c x hc hx => by
    match i, hc, hx with
    | 0, hc, hx => cases hc; exact .top _
    | 1, hc, hx => cases hc; cases hx; exact .ifc _ _
theorem impl_lexNum_c (s : ByteArray) (k : Nat) (hk : k < s.size) (hs : s.size ≤ 1048576) (l : List Int) (hlk : l = (bs s).drop k) (ds : List Int) (hds : ds = l.takeWhile digB) (c : Int) (r : List Int) (hcr : l = c :: r) (hdc : digB c = true) :
    PCon Tryd.prog F.impl_lexNum [avB s, avI k] (if maxI < valD 0 ds ∨ (c = 48 ∧ 1 < ds.length) then .tup [zTok.av, avI 0, fAV (3, k)] else .tup [(⟨1, ⟨#[]⟩, valD 0 ds, k⟩ : VToken).av, avI (k + ds.length : Nat), fAV (0, 0)]) := by
  have hl := bs_len s
  have hall : ∀ c ∈ ds, digB c = true := fun c hc => by rw [hds] at hc; exact List.all_eq_true.1 List.all_takeWhile c hc
  have hle : k + ds.length ≤ s.size := by
    have := (List.takeWhile_sublist (l := l) digB).length_le
    rw [← hds] at this
    have h2 : l.length = s.size - k := by rw [hlk, List.length_drop, hl]
    omega
  have hne : ds ≠ [] := by rw [hds, hcr, List.takeWhile_cons, if_pos hdc]; simp
  have hrun := impl_run_c s F.impl_digit digB (fun c _ _ => impl_digit_c c) k (by omega) (by omega)
  rw [← hlk, ← hds] at hrun
  have hx : (bs s)[k]? = some c := by
    have : ((bs s).drop k)[0]? = some c := by rw [← hlk, hcr]; rfl
    simpa using this
  have hix := idxX hx
  have hext : bs (s.extract k (k + ds.length)) = ds := by
    rw [bs_extract, show k + ds.length - k = ds.length by omega, ← hlk, hds, take_digL]
  have hat := atoi_digits (s.extract k (k + ds.length)).data.toList (fun h => hne (by rw [← hext, ← bs_toNat, h]; rfl)) (fun c hc => hall _ (by rw [← hext, ← bs_toNat]; exact List.mem_map.2 ⟨c, hc, rfl⟩))
  rw [bs_toNat, hext] at hat
  have hes : (s.extract k (k + ds.length)).size ≤ 1048576 := by rw [← bs_len, hext]; omega
  have hsub : IntKind.i64.wrap (((k + ds.length : Nat) : Int) - (k : Int)) = (ds.length : Int) := by rw [wrapS (by omega) (by omega)]; congr 1; omega
  refine T.impl_lexNum_con rfl rfl ?_
  simp only [T.impl_lexNum, WA, Nat.reduceEqDiff, Nat.reduceAdd, Nat.reduceLT, Nat.reduceLeDiff, Nat.reduceMul, reduceIte, reduceCtorEq, Int.reduceEq, Int.reduceLT, Int.reduceLE, Int.reduceNe]
  refine call_v hrun ?_
  have hcast : ((k : Int) + (ds.length : Int)) = ((k + ds.length : Nat) : Int) := by omega
  simp only [Int.toNat_natCast, WA, Nat.reduceEqDiff, Nat.reduceAdd, Nat.reduceLT, Nat.reduceLeDiff, Nat.reduceMul, reduceIte, reduceCtorEq, Int.reduceEq, Int.reduceLT, Int.reduceLE, Int.reduceNe]
  repeat (refine And.intro (by omega) ?_)
  try simp only [Int.toNat_natCast, WA, Nat.reduceEqDiff, Nat.reduceAdd, Nat.reduceLT, Nat.reduceLeDiff, Nat.reduceMul, reduceIte, reduceCtorEq, Int.reduceEq, Int.reduceLT, Int.reduceLE, Int.reduceNe]
  by_cases hm : valD 0 ds ≤ maxI
  · rw [if_pos hm] at hat
    refine call_p (atoi_c _ hes _ hat) rfl ?_
    simp only [WA, Nat.reduceEqDiff, Nat.reduceAdd, Nat.reduceLT, Nat.reduceLeDiff, Nat.reduceMul, reduceIte, reduceCtorEq, Int.reduceEq, Int.reduceLT, Int.reduceLE, Int.reduceNe]
    refine bind_push ?_
    simp only [WA, Nat.reduceEqDiff, Nat.reduceAdd, Nat.reduceLT, Nat.reduceLeDiff, Nat.reduceMul, reduceIte, reduceCtorEq, Int.reduceEq, Int.reduceLT, Int.reduceLE, Int.reduceNe]
    refine bind_push ?_
    simp only [hsub, WA, Nat.reduceEqDiff, Nat.reduceAdd, Nat.reduceLT, Nat.reduceLeDiff, Nat.reduceMul, reduceIte, reduceCtorEq, Int.reduceEq, Int.reduceLT, Int.reduceLE, Int.reduceNe]
    refine ite_dec (fun h => ?_) (fun h => ?_)
    · simp only [hix, WA, Nat.reduceEqDiff, Nat.reduceAdd, Nat.reduceLT, Nat.reduceLeDiff, Nat.reduceMul, reduceIte, reduceCtorEq, Int.reduceEq, Int.reduceLT, Int.reduceLE, Int.reduceNe]
      refine ite_dec (fun h2 => ?_) (fun h2 => ?_)
      · rw [if_pos (.inr ⟨h2, by omega⟩)]
        simp only [zTok, tok_av, WA, Nat.reduceEqDiff, Nat.reduceAdd, Nat.reduceLT, Nat.reduceLeDiff, Nat.reduceMul, reduceIte, reduceCtorEq, Int.reduceEq, Int.reduceLT, Int.reduceLE, Int.reduceNe]
      · rw [if_neg (by omega)]
        simp only [tok_av, WA, Nat.reduceEqDiff, Nat.reduceAdd, Nat.reduceLT, Nat.reduceLeDiff, Nat.reduceMul, reduceIte, reduceCtorEq, Int.reduceEq, Int.reduceLT, Int.reduceLE, Int.reduceNe]
    · rw [if_neg (by omega)]
      simp only [tok_av, WA, Nat.reduceEqDiff, Nat.reduceAdd, Nat.reduceLT, Nat.reduceLeDiff, Nat.reduceMul, reduceIte, reduceCtorEq, Int.reduceEq, Int.reduceLT, Int.reduceLE, Int.reduceNe]
  · rw [if_neg hm] at hat
    rw [if_pos (.inl (by omega))]
    refine call_p (atoi_err _ hes (by rw [hat]; intro v h; cases h)) rfl ?_
    simp only [WA, Nat.reduceEqDiff, Nat.reduceAdd, Nat.reduceLT, Nat.reduceLeDiff, Nat.reduceMul, reduceIte, reduceCtorEq, Int.reduceEq, Int.reduceLT, Int.reduceLE, Int.reduceNe]
    refine bind_push ?_
    simp only [WA, Nat.reduceEqDiff, Nat.reduceAdd, Nat.reduceLT, Nat.reduceLeDiff, Nat.reduceMul, reduceIte, reduceCtorEq, Int.reduceEq, Int.reduceLT, Int.reduceLE, Int.reduceNe]
    refine bind_push ?_
    simp only [zTok, tok_av, WA, Nat.reduceEqDiff, Nat.reduceAdd, Nat.reduceLT, Nat.reduceLeDiff, Nat.reduceMul, reduceIte, reduceCtorEq, Int.reduceEq, Int.reduceLT, Int.reduceLE, Int.reduceNe]
def strRes (k : Nat) (o : Option (List Int × Nat)) : AV := match o with
  | some q => .tup [avB (ofL q.1), avI (k + 1 + q.2 : Nat), .v (.bool true)]
  | none => .tup [avB ⟨#[]⟩, avI 0, .v (.bool false)]
theorem impl_lexString_c (s : ByteArray) (k : Nat) (hk : k < s.size) (hs : s.size ≤ 1048576) (o : Option (List Int × Nat)) (ho : o = strM ((bs s).drop (k + 1))) :
    PCon Tryd.prog F.impl_lexString [avB s, avI k] (strRes k o) := by
  have hl := bs_len s
  have hw1 : IntKind.i64.wrap ((k : Int) + 1) = ((k + 1 : Nat) : Int) := wrapA1 (by omega)
  have hN : strM [] = none := by rw [strM.eq_def]
  generalize hres : strRes k o = res
  have bad : o = none → AV.tup [avB ⟨#[]⟩, avI 0, .v (.bool false)] = res := fun h => by rw [← hres, h]; rfl
  refine T.impl_lexString_con rfl rfl ?_
  simp only [T.impl_lexString, hw1, WA, Nat.reduceEqDiff, Nat.reduceAdd, Nat.reduceLT, Nat.reduceLeDiff, Nat.reduceMul, reduceIte, reduceCtorEq, Int.reduceEq, Int.reduceLT, Int.reduceLE, Int.reduceNe]
  refine bind_post (fun _ => o = none) ?_ ?_
  · simp only [WA, Nat.reduceEqDiff, Nat.reduceAdd, Nat.reduceLT, Nat.reduceLeDiff, Nat.reduceMul, reduceIte, reduceCtorEq, Int.reduceEq, Int.reduceLT, Int.reduceLE, Int.reduceNe]
    refine loop_intro (ι := Nat × List Int) (fun q => k + 1 ≤ q.1 ∧ q.1 ≤ s.size ∧ q.2.length ≤ q.1 ∧ o = preS q.2 (q.1 - (k + 1)) (strM ((bs s).drop q.1))) (fun q => [.sl (ysS (ofL q.2)), avI q.1]) (fun q => s.size - q.1) (k + 1, [])
      ⟨Nat.le_refl _, by simp only; omega, by simp, by simp only [Nat.sub_self, preS]; rw [ho]; cases strM ((bs s).drop (k + 1)) <;> simp⟩ (by rw [hw1]; rfl) ?_
    rintro ⟨i, acc⟩ ⟨hki, hi, hal, hI⟩
    simp only at hki hi hal hI
    simp only [WA, Nat.reduceEqDiff, Nat.reduceAdd, Nat.reduceLT, Nat.reduceLeDiff, Nat.reduceMul, reduceIte, reduceCtorEq, Int.reduceEq, Int.reduceLT, Int.reduceLE, Int.reduceNe]
    refine ite_dec (fun h => ?_) (fun h => ?_)
    · have hlt : i < (bs s).length := by omega
      have hx : (bs s)[i]? = some (bs s)[i] := List.getElem?_eq_getElem hlt
      obtain ⟨c0, c1⟩ := bs_range (List.getElem_mem hlt)
      have hdr := dropC hlt
      generalize hc : (bs s)[i] = c at hx hdr c0 c1
      rw [hdr] at hI
      have hix := idxX hx
      have hwi : IntKind.i64.wrap ((i : Int) + 1) = ((i + 1 : Nat) : Int) := wrapA1 (by omega)
      have put : ∀ d : Int, 0 ≤ d → d < 256 → ysS (ofL acc) ++ [AV.v (.int .u8 d)] = ysS (ofL (acc ++ [d])) := fun d h0 h1 => by rw [y1 _ _ h0 h1, ofL_app, ofL_one]
      have hsz : (ysS (ofL acc)).length = acc.length := by rw [← ofL_size acc]; simp [ysS]
      simp only [WA, Nat.reduceEqDiff, Nat.reduceAdd, Nat.reduceLT, Nat.reduceLeDiff, Nat.reduceMul, reduceIte, reduceCtorEq, Int.reduceEq, Int.reduceLT, Int.reduceLE, Int.reduceNe]
      refine bind_push ?_
      simp only [hix, WA, Nat.reduceEqDiff, Nat.reduceAdd, Nat.reduceLT, Nat.reduceLeDiff, Nat.reduceMul, reduceIte, reduceCtorEq, Int.reduceEq, Int.reduceLT, Int.reduceLE, Int.reduceNe]
      refine bind_push ?_
      simp only [WA, Nat.reduceEqDiff, Nat.reduceAdd, Nat.reduceLT, Nat.reduceLeDiff, Nat.reduceMul, reduceIte, reduceCtorEq, Int.reduceEq, Int.reduceLT, Int.reduceLE, Int.reduceNe]
      refine ite_dec (fun h1 => ?_) (fun h1 => ?_)
      · subst h1
        rw [strM_q] at hI
        simp only [hwi, WA, Nat.reduceEqDiff, Nat.reduceAdd, Nat.reduceLT, Nat.reduceLeDiff, Nat.reduceMul, reduceIte, reduceCtorEq, Int.reduceEq, Int.reduceLT, Int.reduceLE, Int.reduceNe]
        rw [← hres, hI]
        simp only [strRes, preS, Option.map_some, List.append_nil]
        rw [show k + 1 + (i - (k + 1) + 1) = i + 1 by omega]
      · simp only [WA, Nat.reduceEqDiff, Nat.reduceAdd, Nat.reduceLT, Nat.reduceLeDiff, Nat.reduceMul, reduceIte, reduceCtorEq, Int.reduceEq, Int.reduceLT, Int.reduceLE, Int.reduceNe]
        refine ite_dec (fun h2 => ?_) (fun h2 => ?_)
        · subst h2
          simp only [hwi, WA, Nat.reduceEqDiff, Nat.reduceAdd, Nat.reduceLT, Nat.reduceLeDiff, Nat.reduceMul, reduceIte, reduceCtorEq, Int.reduceEq, Int.reduceLT, Int.reduceLE, Int.reduceNe]
          refine ite_dec (fun h3 => ?_) (fun h3 => ?_)
          · rw [strM_bad (fun d' r' he => by
              have := congrArg List.length he
              simp at this; omega)] at hI
            simp only [preS, Option.map_none] at hI
            simp only [WA, Nat.reduceEqDiff, Nat.reduceAdd, Nat.reduceLT, Nat.reduceLeDiff, Nat.reduceMul, reduceIte, reduceCtorEq, Int.reduceEq, Int.reduceLT, Int.reduceLE, Int.reduceNe]
            exact bad hI
          · have hlt2 : i + 1 < (bs s).length := by omega
            have hx2 : (bs s)[i + 1]? = some (bs s)[i + 1] := List.getElem?_eq_getElem hlt2
            obtain ⟨d0, d1⟩ := bs_range (List.getElem_mem hlt2)
            have hdr2 := dropC hlt2
            generalize hc2 : (bs s)[i + 1] = d at hx2 hdr2 d0 d1
            rw [hdr2] at hI
            have hix2 := idxX hx2
            have hwi2 : IntKind.i64.wrap (((i + 1 : Nat) : Int) + 1) = ((i + 2 : Nat) : Int) := wrapA1 (by omega)
            simp only [hwi, hix2, WA, Nat.reduceEqDiff, Nat.reduceAdd, Nat.reduceLT, Nat.reduceLeDiff, Nat.reduceMul, reduceIte, reduceCtorEq, Int.reduceEq, Int.reduceLT, Int.reduceLE, Int.reduceNe]
            have good : ∀ e : Int, 0 ≤ e → e < 256 → (d = 110 ∧ e = 10 ∨ (d = 34 ∨ d = 92) ∧ e = d) → ∃ j : Nat × List Int, (k + 1 ≤ j.1 ∧ j.1 ≤ s.size ∧ j.2.length ≤ j.1 ∧ o = preS j.2 (j.1 - (k + 1)) (strM ((bs s).drop j.1))) ∧ s.size - j.1 < s.size - i ∧ [AV.sl (ysS (ofL (acc ++ [e]))), avI (i + 2 : Nat)] = [.sl (ysS (ofL j.2)), avI j.1] := by
              intro e e0 e1 he
              refine ⟨(i + 2, acc ++ [e]), ⟨by simp only; omega, by simp only; omega, by simp; omega, ?_⟩, by simp only; omega, rfl⟩
              rw [hI, strM_esc he]
              simp only [preS, Option.map_map, Function.comp_def, List.append_assoc, List.cons_append, List.nil_append]
              congr 1
              funext q
              congr 1
              omega
            refine ite_dec (fun h4 => ?_) (fun h4 => ?_)
            · subst h4
              simp only [hix2, hwi, hwi2, hsz, put, decide_true, List.length_cons, List.length_nil, WA, Nat.reduceEqDiff, Nat.reduceAdd, Nat.reduceLT, Nat.reduceLeDiff, Nat.reduceMul, reduceIte, reduceCtorEq, Int.reduceEq, Int.reduceLT, Int.reduceLE, Int.reduceNe]
              repeat (refine And.intro (by first | omega | rfl | (intro y hy; subst hy; rfl)) ?_)
              try rw [put 10 (by omega) (by omega)]
              exact good 10 (by omega) (by omega) (.inl ⟨rfl, rfl⟩)
            · simp only [hix2, hwi, WA, Nat.reduceEqDiff, Nat.reduceAdd, Nat.reduceLT, Nat.reduceLeDiff, Nat.reduceMul, reduceIte, reduceCtorEq, Int.reduceEq, Int.reduceLT, Int.reduceLE, Int.reduceNe]
              refine bind_push ?_
              simp only [hix2, hwi, WA, Nat.reduceEqDiff, Nat.reduceAdd, Nat.reduceLT, Nat.reduceLeDiff, Nat.reduceMul, reduceIte, reduceCtorEq, Int.reduceEq, Int.reduceLT, Int.reduceLE, Int.reduceNe]
              refine ite_dec (fun h5 => ?_) (fun h5 => ?_)
              · subst h5
                simp only [hix2, hwi, hwi2, hsz, decide_true, List.length_cons, List.length_nil, WA, Nat.reduceEqDiff, Nat.reduceAdd, Nat.reduceLT, Nat.reduceLeDiff, Nat.reduceMul, reduceIte, reduceCtorEq, Int.reduceEq, Int.reduceLT, Int.reduceLE, Int.reduceNe]
                repeat (refine And.intro (by first | omega | rfl | (intro y hy; subst hy; rfl)) ?_)
                try rw [put 34 (by omega) (by omega)]
                exact good 34 (by omega) (by omega) (.inr ⟨.inl rfl, rfl⟩)
              · simp only [hix2, hwi, WA, Nat.reduceEqDiff, Nat.reduceAdd, Nat.reduceLT, Nat.reduceLeDiff, Nat.reduceMul, reduceIte, reduceCtorEq, Int.reduceEq, Int.reduceLT, Int.reduceLE, Int.reduceNe]
                refine ite_dec (fun h6 => ?_) (fun h6 => ?_)
                · subst h6
                  simp only [hix2, hwi, hwi2, hsz, List.length_cons, List.length_nil, WA, Nat.reduceEqDiff, Nat.reduceAdd, Nat.reduceLT, Nat.reduceLeDiff, Nat.reduceMul, reduceIte, reduceCtorEq, Int.reduceEq, Int.reduceLT, Int.reduceLE, Int.reduceNe]
                  repeat (refine And.intro (by first | omega | rfl | (intro y hy; subst hy; rfl)) ?_)
                  try rw [put 92 (by omega) (by omega)]
                  exact good 92 (by omega) (by omega) (.inr ⟨.inr rfl, rfl⟩)
                · rw [strM_bad (fun d' r' he => by cases he; exact ⟨h4, h5, h6⟩)] at hI
                  simp only [preS, Option.map_none] at hI
                  simp only [WA, Nat.reduceEqDiff, Nat.reduceAdd, Nat.reduceLT, Nat.reduceLeDiff, Nat.reduceMul, reduceIte, reduceCtorEq, Int.reduceEq, Int.reduceLT, Int.reduceLE, Int.reduceNe]
                  exact bad hI
        · simp only [h2, decide_false, wrap8 c0 c1, WA, Nat.reduceEqDiff, Nat.reduceAdd, Nat.reduceLT, Nat.reduceLeDiff, Nat.reduceMul, reduceIte, reduceCtorEq, Int.reduceEq, Int.reduceLT, Int.reduceLE, Int.reduceNe]
          refine call_v (impl_within_c c 32 126) ?_
          simp only [WA, Nat.reduceEqDiff, Nat.reduceAdd, Nat.reduceLT, Nat.reduceLeDiff, Nat.reduceMul, reduceIte, reduceCtorEq, Int.reduceEq, Int.reduceLT, Int.reduceLE, Int.reduceNe]
          cases h7 : inB c 32 126 with
          | true =>
            rw [strM_plain h1 h2 h7] at hI
            simp only [hwi, hsz, List.length_cons, List.length_nil, Bool.not_true, WA, Nat.reduceEqDiff, Nat.reduceAdd, Nat.reduceLT, Nat.reduceLeDiff, Nat.reduceMul, reduceIte, reduceCtorEq, Int.reduceEq, Int.reduceLT, Int.reduceLE, Int.reduceNe]
            repeat (refine And.intro (by first | omega | rfl | (intro y hy; subst hy; rfl)) ?_)
            try rw [put c c0 c1]
            refine ⟨(i + 1, acc ++ [c]), ⟨by simp only; omega, by simp only; omega, by simp; omega, ?_⟩, by simp only; omega, rfl⟩
            rw [hI]
            simp only [preS, Option.map_map, Function.comp_def, List.append_assoc, List.cons_append, List.nil_append]
            congr 1
            funext q
            congr 1
            omega
          | false =>
            rw [strM_no h1 h2 h7] at hI
            simp only [preS, Option.map_none] at hI
            simp only [Bool.not_false, WA, Nat.reduceEqDiff, Nat.reduceAdd, Nat.reduceLT, Nat.reduceLeDiff, Nat.reduceMul, reduceIte, reduceCtorEq, Int.reduceEq, Int.reduceLT, Int.reduceLE, Int.reduceNe]
            exact bad hI
    · have he : i = (bs s).length := by omega
      subst he
      rw [dropE] at hI
      simp only [hN, preS, Option.map_none] at hI
      simp only [WA, Nat.reduceEqDiff, Nat.reduceAdd, Nat.reduceLT, Nat.reduceLeDiff, Nat.reduceMul, reduceIte, reduceCtorEq, Int.reduceEq, Int.reduceLT, Int.reduceLE, Int.reduceNe]
      exact hI
  · intro vs hv _
    simp only [WA, Nat.reduceEqDiff, Nat.reduceAdd, Nat.reduceLT, Nat.reduceLeDiff, Nat.reduceMul, reduceIte, reduceCtorEq, Int.reduceEq, Int.reduceLT, Int.reduceLE, Int.reduceNe]
    exact bad hv
theorem impl_lexWord_c (s : ByteArray) (k : Nat) (hk : k < s.size) (hs : s.size ≤ 1048576) (l : List Int) (hlk : l = (bs s).drop k) (n : Nat) (hn : n = (wordL (l.drop (wordFrom l))).length) :
    PCon Tryd.prog F.impl_lexWord [avB s, avI k] (if 12 < n then .tup [zTok.av, avI 0, fAV (2, k)] else .tup [(wordTok l k).av, avI (k + wordFrom l + n : Nat), fAV (0, 0)]) := by
  have hl := bs_len s
  have hlt : k < (bs s).length := by omega
  have hx : (bs s)[k]? = some (bs s)[k] := List.getElem?_eq_getElem hlt
  have hdr := dropC hlt
  generalize hc : (bs s)[k] = c at hx hdr
  have hh : l.head? = some c := by rw [hlk, hdr]; rfl
  have hhu : hdB upB l = upB c := by rw [hlk, hdr]; rfl
  have hix := idxX hx
  have hf : wordFrom l = if c = 39 then 1 else 0 := by unfold wordFrom; rw [hh]; simp
  have hw1 : IntKind.i64.wrap ((k : Int) + 1) = ((k + 1 : Nat) : Int) := wrapA1 (by omega)
  obtain ⟨c0, c1⟩ : 0 ≤ c ∧ c < 256 := by rw [← hc]; exact bs_range (List.getElem_mem hlt)
  have hdf : l.drop (wordFrom l) = (bs s).drop (k + wordFrom l) := by rw [hlk, List.drop_drop]
  rw [hdf] at hn
  have hnle := wordL_le ((bs s).drop (k + wordFrom l))
  rw [List.length_drop, hl] at hnle
  have hfle : k + wordFrom l ≤ s.size := by rw [hf]; split <;> omega
  have hrun := impl_run_c s F.impl_nameByte nameB (fun c _ _ => impl_nameByte_c c) (k + wordFrom l) hfle (by omega)
  change PCon _ _ _ (avI (((k + wordFrom l : Nat) : Int) + ((wordL ((bs s).drop (k + wordFrom l))).length : Nat))) at hrun
  rw [← hn] at hrun
  have hcast : (((k + wordFrom l : Nat) : Int) + (n : Int)) = ((k + wordFrom l + n : Nat) : Int) := by omega
  rw [hcast] at hrun
  have hsub : IntKind.i64.wrap (((k + wordFrom l + n : Nat) : Int) - ((k + wordFrom l : Nat) : Int)) = (n : Int) := by rw [wrapS (by omega) (by omega)]; congr 1; omega
  have hext : s.extract (k + wordFrom l) (k + wordFrom l + n) = ofL (wordL ((bs s).drop (k + wordFrom l))) := by
    rw [extract_ofL, show k + wordFrom l + n - (k + wordFrom l) = n by omega, hn, take_wordL]
  refine T.impl_lexWord_con rfl rfl ?_
  simp only [T.impl_lexWord, WA, Nat.reduceEqDiff, Nat.reduceAdd, Nat.reduceLT, Nat.reduceLeDiff, Nat.reduceMul, reduceIte, reduceCtorEq, Int.reduceEq, Int.reduceLT, Int.reduceLE, Int.reduceNe]
  refine bind_cut [avI (if c = 39 then 5 else if upB c = true then 4 else 3), avI (k + wordFrom l : Nat)] rfl ?_ ?_
  · simp only [hix, WA, Nat.reduceEqDiff, Nat.reduceAdd, Nat.reduceLT, Nat.reduceLeDiff, Nat.reduceMul, reduceIte, reduceCtorEq, Int.reduceEq, Int.reduceLT, Int.reduceLE, Int.reduceNe]
    refine ite_dec (fun h => ?_) (fun h => ?_)
    · rw [if_pos h] at hf
      rw [if_pos h]
      simp only [hw1, hf, WA, Nat.reduceEqDiff, Nat.reduceAdd, Nat.reduceLT, Nat.reduceLeDiff, Nat.reduceMul, reduceIte, reduceCtorEq, Int.reduceEq, Int.reduceLT, Int.reduceLE, Int.reduceNe]
    · rw [if_neg h] at hf
      rw [if_neg h]
      simp only [hix, WA, Nat.reduceEqDiff, Nat.reduceAdd, Nat.reduceLT, Nat.reduceLeDiff, Nat.reduceMul, reduceIte, reduceCtorEq, Int.reduceEq, Int.reduceLT, Int.reduceLE, Int.reduceNe]
      refine call_v (impl_great_c c) ?_
      simp only [WA, Nat.reduceEqDiff, Nat.reduceAdd, Nat.reduceLT, Nat.reduceLeDiff, Nat.reduceMul, reduceIte, reduceCtorEq, Int.reduceEq, Int.reduceLT, Int.reduceLE, Int.reduceNe]
      refine ite_intro (fun h1 => ?_) (fun h1 => ?_)
      · rw [if_pos (show upB c = true from h1)]
        simp only [hf, WA, Nat.reduceEqDiff, Nat.reduceAdd, Nat.reduceLT, Nat.reduceLeDiff, Nat.reduceMul, reduceIte, reduceCtorEq, Int.reduceEq, Int.reduceLT, Int.reduceLE, Int.reduceNe]
      · rw [if_neg (show ¬ upB c = true by simp [upB, h1])]
        simp only [hf, WA, Nat.reduceEqDiff, Nat.reduceAdd, Nat.reduceLT, Nat.reduceLeDiff, Nat.reduceMul, reduceIte, reduceCtorEq, Int.reduceEq, Int.reduceLT, Int.reduceLE, Int.reduceNe]
  simp only [WA, Nat.reduceEqDiff, Nat.reduceAdd, Nat.reduceLT, Nat.reduceLeDiff, Nat.reduceMul, reduceIte, reduceCtorEq, Int.reduceEq, Int.reduceLT, Int.reduceLE, Int.reduceNe]
  refine call_v hrun ?_
  simp only [hsub, WA, Nat.reduceEqDiff, Nat.reduceAdd, Nat.reduceLT, Nat.reduceLeDiff, Nat.reduceMul, reduceIte, reduceCtorEq, Int.reduceEq, Int.reduceLT, Int.reduceLE, Int.reduceNe]
  refine ite_dec (fun h12 => ?_) (fun h12 => ?_)
  · rw [if_pos (by omega)]
    simp only [zTok, tok_av, WA, Nat.reduceEqDiff, Nat.reduceAdd, Nat.reduceLT, Nat.reduceLeDiff, Nat.reduceMul, reduceIte, reduceCtorEq, Int.reduceEq, Int.reduceLT, Int.reduceLE, Int.reduceNe]
  · rw [if_neg (by omega)]
    simp only [Int.toNat_natCast, hext, WA, Nat.reduceEqDiff, Nat.reduceAdd, Nat.reduceLT, Nat.reduceLeDiff, Nat.reduceMul, reduceIte, reduceCtorEq, Int.reduceEq, Int.reduceLT, Int.reduceLE, Int.reduceNe]
    repeat (refine And.intro (by omega) ?_)
    try simp only [WA, Nat.reduceEqDiff, Nat.reduceAdd, Nat.reduceLT, Nat.reduceLeDiff, Nat.reduceMul, reduceIte, reduceCtorEq, Int.reduceEq, Int.reduceLT, Int.reduceLE, Int.reduceNe]
    refine bind_cut [avI (wordTok l k).Kind] rfl ?_ ?_
    · simp only [WA, Nat.reduceEqDiff, Nat.reduceAdd, Nat.reduceLT, Nat.reduceLeDiff, Nat.reduceMul, reduceIte, reduceCtorEq, Int.reduceEq, Int.reduceLT, Int.reduceLE, Int.reduceNe]
      refine bind_push ?_
      simp only [WA, Nat.reduceEqDiff, Nat.reduceAdd, Nat.reduceLT, Nat.reduceLeDiff, Nat.reduceMul, reduceIte, reduceCtorEq, Int.reduceEq, Int.reduceLT, Int.reduceLE, Int.reduceNe]
      by_cases h39 : c = 39
      · have ht : (wordTok l k).Kind = 5 := by unfold wordTok; rw [hh, h39, if_pos rfl, VToken.Kind_mk]
        rw [ht, if_pos h39]
        simp only [show decide ((5 : Int) = 3) = false from rfl, WA, Nat.reduceEqDiff, Nat.reduceAdd, Nat.reduceLT, Nat.reduceLeDiff, Nat.reduceMul, reduceIte, reduceCtorEq, Int.reduceEq, Int.reduceLT, Int.reduceLE, Int.reduceNe]
      · have hf1 : wordFrom l = 0 := by rw [hf, if_neg h39]
        have ht : (wordTok l k).Kind = if upB c = true then 4 else if isKeyM (ofL (wordL l)) = true then 6 else 3 := by
          unfold wordTok; rw [hh, if_neg (by simpa using h39), VToken.Kind_mk, hhu]
        have hlz : (bs s).drop k = l := hlk.symm
        rw [ht, if_neg h39, hf1, Nat.add_zero, hlz]
        by_cases hu : upB c = true
        · rw [if_pos hu, if_pos hu]
          simp only [show decide ((4 : Int) = 3) = false from rfl, WA, Nat.reduceEqDiff, Nat.reduceAdd, Nat.reduceLT, Nat.reduceLeDiff, Nat.reduceMul, reduceIte, reduceCtorEq, Int.reduceEq, Int.reduceLT, Int.reduceLE, Int.reduceNe]
        · rw [if_neg hu, if_neg hu]
          simp only [show decide ((3 : Int) = 3) = true from rfl, WA, Nat.reduceEqDiff, Nat.reduceAdd, Nat.reduceLT, Nat.reduceLeDiff, Nat.reduceMul, reduceIte, reduceCtorEq, Int.reduceEq, Int.reduceLT, Int.reduceLE, Int.reduceNe]
          refine call_v (impl_isKey_c _) ?_
          simp only [WA, Nat.reduceEqDiff, Nat.reduceAdd, Nat.reduceLT, Nat.reduceLeDiff, Nat.reduceMul, reduceIte, reduceCtorEq, Int.reduceEq, Int.reduceLT, Int.reduceLE, Int.reduceNe]
          refine ite_intro (fun h2 => ?_) (fun h2 => ?_)
          · rw [if_pos h2]; simp only [WA, Nat.reduceEqDiff, Nat.reduceAdd, Nat.reduceLT, Nat.reduceLeDiff, Nat.reduceMul, reduceIte, reduceCtorEq, Int.reduceEq, Int.reduceLT, Int.reduceLE, Int.reduceNe]
          · rw [if_neg (by simp [h2])]; simp only [WA, Nat.reduceEqDiff, Nat.reduceAdd, Nat.reduceLT, Nat.reduceLeDiff, Nat.reduceMul, reduceIte, reduceCtorEq, Int.reduceEq, Int.reduceLT, Int.reduceLE, Int.reduceNe]
    · have ht : wordTok l k = ⟨(wordTok l k).Kind, ofL (wordL ((bs s).drop (k + wordFrom l))), 0, k⟩ := by
        rw [← hdf]
        unfold wordTok wordFrom
        split
        · rfl
        · simp [VToken.Kind_mk]
      generalize (wordTok l k).Kind = kd at ht ⊢
      rw [ht]
      simp only [tok_av, WA, Nat.reduceEqDiff, Nat.reduceAdd, Nat.reduceLT, Nat.reduceLeDiff, Nat.reduceMul, reduceIte, reduceCtorEq, Int.reduceEq, Int.reduceLT, Int.reduceLE, Int.reduceNe]
def oneRes (k : Nat) (o : Int ⊕ (VToken × Nat)) : AV := match o with
  | .inl c => .tup [zTok.av, avI 0, fAV (c, k)]
  | .inr q => .tup [q.1.av, avI (k + q.2 : Nat), fAV (0, 0)]
theorem impl_lexOne_c (s : ByteArray) (k : Nat) (hk : k < s.size) (hs : s.size ≤ 1048576) (l : List Int) (hlk : l = (bs s).drop k) :
    PCon Tryd.prog F.impl_lexOne [avB s, avI k] (oneRes k (lexM l k)) := by
  have hl := bs_len s
  have hlt : k < (bs s).length := by omega
  have hx : (bs s)[k]? = some (bs s)[k] := List.getElem?_eq_getElem hlt
  obtain ⟨c0, c1⟩ := bs_range (List.getElem_mem hlt)
  have hdr := dropC hlt
  have htl : (bs s).drop (k + 1) = l.drop 1 := by rw [hlk, List.drop_drop]
  generalize hc : (bs s)[k] = c at hx hdr c0 c1
  rw [htl] at hdr
  generalize hr : l.drop 1 = r at hdr htl
  have hlc : l = c :: r := hlk.trans hdr
  have hh : l.head? = some c := by rw [hlc]; rfl
  have hix := idxX hx
  have hw1 : IntKind.i64.wrap ((k : Int) + 1) = ((k + 1 : Nat) : Int) := wrapA1 (by omega)
  refine T.impl_lexOne_con rfl rfl ?_
  simp only [T.impl_lexOne, WA, Nat.reduceEqDiff, Nat.reduceAdd, Nat.reduceLT, Nat.reduceLeDiff, Nat.reduceMul, reduceIte, reduceCtorEq, Int.reduceEq, Int.reduceLT, Int.reduceLE, Int.reduceNe]
  refine bind_post (fun vs => digB c = false ∧ (lowB c || upB c || (decide (c = 39) && hdB lowB r)) = false ∧ c ≠ 34) ?_ ?_
  · simp only [hix, WA, Nat.reduceEqDiff, Nat.reduceAdd, Nat.reduceLT, Nat.reduceLeDiff, Nat.reduceMul, reduceIte, reduceCtorEq, Int.reduceEq, Int.reduceLT, Int.reduceLE, Int.reduceNe]
    refine call_v (impl_digit_c c) ?_
    simp only [WA, Nat.reduceEqDiff, Nat.reduceAdd, Nat.reduceLT, Nat.reduceLeDiff, Nat.reduceMul, reduceIte, reduceCtorEq, Int.reduceEq, Int.reduceLT, Int.reduceLE, Int.reduceNe]
    refine ite_intro (fun h1 => ?_) (fun h1 => ?_)
    · have h1' : digB c = true := h1
      have hcon := impl_lexNum_c s k hk hs l hlk _ rfl c r hlc h1'
      simp only [WA, Nat.reduceEqDiff, Nat.reduceAdd, Nat.reduceLT, Nat.reduceLeDiff, Nat.reduceMul, reduceIte, reduceCtorEq, Int.reduceEq, Int.reduceLT, Int.reduceLE, Int.reduceNe]
      by_cases hb : maxI < valD 0 (l.takeWhile digB) ∨ (c = 48 ∧ 1 < (l.takeWhile digB).length)
      · rw [if_pos hb] at hcon
        have hlx : lexM l k = .inl 3 := by rw [hlc, lexM, if_pos h1', ← hlc, if_pos hb]
        refine call_p hcon (by simp [AV.noref, AV.norefs, VToken.noref]) ?_
        simp only [VToken.isAgg, VToken.width, VToken.storable, VToken.cells, VToken.eta, hlx, oneRes, WA, Nat.reduceEqDiff, Nat.reduceAdd, Nat.reduceLT, Nat.reduceLeDiff, Nat.reduceMul, reduceIte, reduceCtorEq, Int.reduceEq, Int.reduceLT, Int.reduceLE, Int.reduceNe]
      · rw [if_neg hb] at hcon
        have hlx : lexM l k = .inr (⟨1, ⟨#[]⟩, valD 0 (l.takeWhile digB), k⟩, (l.takeWhile digB).length) := by rw [hlc, lexM, if_pos h1', ← hlc, if_neg hb]
        refine call_p hcon (by simp [AV.noref, AV.norefs, VToken.noref]) ?_
        simp only [VToken.isAgg, VToken.width, VToken.storable, VToken.cells, VToken.eta, hlx, oneRes, WA, Nat.reduceEqDiff, Nat.reduceAdd, Nat.reduceLT, Nat.reduceLeDiff, Nat.reduceMul, reduceIte, reduceCtorEq, Int.reduceEq, Int.reduceLT, Int.reduceLE, Int.reduceNe]
    · have h1' : digB c = false := h1
      simp only [WA, Nat.reduceEqDiff, Nat.reduceAdd, Nat.reduceLT, Nat.reduceLeDiff, Nat.reduceMul, reduceIte, reduceCtorEq, Int.reduceEq, Int.reduceLT, Int.reduceLE, Int.reduceNe]
      refine bind_cut [.v (.bool (lowB c || upB c || (decide (c = 39) && hdB lowB r)))] rfl ?_ ?_
      · simp only [WA, Nat.reduceEqDiff, Nat.reduceAdd, Nat.reduceLT, Nat.reduceLeDiff, Nat.reduceMul, reduceIte, reduceCtorEq, Int.reduceEq, Int.reduceLT, Int.reduceLE, Int.reduceNe]
        refine call_v (impl_small_c c) ?_
        simp only [WA, Nat.reduceEqDiff, Nat.reduceAdd, Nat.reduceLT, Nat.reduceLeDiff, Nat.reduceMul, reduceIte, reduceCtorEq, Int.reduceEq, Int.reduceLT, Int.reduceLE, Int.reduceNe]
        refine ite_intro (fun h2 => ?_) (fun h2 => ?_)
        · have h2' : lowB c = true := h2
          simp only [h2, h2', Bool.true_or, WA, Nat.reduceEqDiff, Nat.reduceAdd, Nat.reduceLT, Nat.reduceLeDiff, Nat.reduceMul, reduceIte, reduceCtorEq, Int.reduceEq, Int.reduceLT, Int.reduceLE, Int.reduceNe]
        · have h2' : lowB c = false := h2
          simp only [WA, Nat.reduceEqDiff, Nat.reduceAdd, Nat.reduceLT, Nat.reduceLeDiff, Nat.reduceMul, reduceIte, reduceCtorEq, Int.reduceEq, Int.reduceLT, Int.reduceLE, Int.reduceNe]
          refine call_v (impl_great_c c) ?_
          simp only [WA, Nat.reduceEqDiff, Nat.reduceAdd, Nat.reduceLT, Nat.reduceLeDiff, Nat.reduceMul, reduceIte, reduceCtorEq, Int.reduceEq, Int.reduceLT, Int.reduceLE, Int.reduceNe]
          refine ite_intro (fun h3 => ?_) (fun h3 => ?_)
          · have h3' : upB c = true := h3
            simp only [h3, h3', Bool.or_true, Bool.true_or, WA, Nat.reduceEqDiff, Nat.reduceAdd, Nat.reduceLT, Nat.reduceLeDiff, Nat.reduceMul, reduceIte, reduceCtorEq, Int.reduceEq, Int.reduceLT, Int.reduceLE, Int.reduceNe]
          · have h3' : upB c = false := h3
            simp only [WA, Nat.reduceEqDiff, Nat.reduceAdd, Nat.reduceLT, Nat.reduceLeDiff, Nat.reduceMul, reduceIte, reduceCtorEq, Int.reduceEq, Int.reduceLT, Int.reduceLE, Int.reduceNe]
            refine ite_dec (fun h4 => ?_) (fun h4 => ?_)
            · simp only [hw1, WA, Nat.reduceEqDiff, Nat.reduceAdd, Nat.reduceLT, Nat.reduceLeDiff, Nat.reduceMul, reduceIte, reduceCtorEq, Int.reduceEq, Int.reduceLT, Int.reduceLE, Int.reduceNe]
              refine ite_dec (fun h5 => ?_) (fun h5 => ?_)
              · have hlt2 : k + 1 < (bs s).length := by omega
                have hx2 : (bs s)[k + 1]? = some (bs s)[k + 1] := List.getElem?_eq_getElem hlt2
                obtain ⟨d0, d1⟩ := bs_range (List.getElem_mem hlt2)
                have hdr2 := dropC hlt2
                generalize hc2 : (bs s)[k + 1] = d at hx2 hdr2 d0 d1
                have hix2 := idxX hx2
                have hrd : hdB lowB r = lowB d := by rw [← htl, hdr2]; rfl
                simp only [hw1, hix2, WA, Nat.reduceEqDiff, Nat.reduceAdd, Nat.reduceLT, Nat.reduceLeDiff, Nat.reduceMul, reduceIte, reduceCtorEq, Int.reduceEq, Int.reduceLT, Int.reduceLE, Int.reduceNe]
                refine call_v (impl_small_c d) ?_
                have hv : (lowB c || upB c || (decide (c = 39) && hdB lowB r)) = lowB d := by rw [h2', h3', hrd, decide_eq_true h4]; simp
                rw [hv]
                simp only [lowB, WA, Nat.reduceEqDiff, Nat.reduceAdd, Nat.reduceLT, Nat.reduceLeDiff, Nat.reduceMul, reduceIte, reduceCtorEq, Int.reduceEq, Int.reduceLT, Int.reduceLE, Int.reduceNe]
              · have hrn : r = [] := by
                  rw [← htl]; exact List.drop_eq_nil_of_le (by omega)
                simp only [h2', h3', hrn, hdB, Bool.and_false, Bool.or_self, WA, Nat.reduceEqDiff, Nat.reduceAdd, Nat.reduceLT, Nat.reduceLeDiff, Nat.reduceMul, reduceIte, reduceCtorEq, Int.reduceEq, Int.reduceLT, Int.reduceLE, Int.reduceNe]
            · simp only [h2', h3', h4, decide_false, Bool.false_and, Bool.or_self, WA, Nat.reduceEqDiff, Nat.reduceAdd, Nat.reduceLT, Nat.reduceLeDiff, Nat.reduceMul, reduceIte, reduceCtorEq, Int.reduceEq, Int.reduceLT, Int.reduceLE, Int.reduceNe]
      · simp only [WA, Nat.reduceEqDiff, Nat.reduceAdd, Nat.reduceLT, Nat.reduceLeDiff, Nat.reduceMul, reduceIte, reduceCtorEq, Int.reduceEq, Int.reduceLT, Int.reduceLE, Int.reduceNe]
        refine ite_intro (fun h2 => ?_) (fun h2 => ?_)
        · simp only [WA, Nat.reduceEqDiff, Nat.reduceAdd, Nat.reduceLT, Nat.reduceLeDiff, Nat.reduceMul, reduceIte, reduceCtorEq, Int.reduceEq, Int.reduceLT, Int.reduceLE, Int.reduceNe]
          have hcon := impl_lexWord_c s k hk hs l hlk _ rfl
          have hn39 : lowB c = true ∨ upB c = true → c ≠ 39 := by
            simp only [lowB, upB, inB, Bool.and_eq_true, decide_eq_true_eq]
            omega
          have hlx : oneRes k (lexM l k) = if 12 < (wordL (l.drop (wordFrom l))).length then .tup [zTok.av, avI 0, fAV (2, k)] else .tup [(wordTok l k).av, avI (k + wordFrom l + (wordL (l.drop (wordFrom l))).length : Nat), fAV (0, 0)] := by
            by_cases h3 : lowB c = true ∨ upB c = true
            · have h39 := hn39 h3
              have hf : wordFrom l = 0 := by unfold wordFrom; rw [hh, if_neg (by simpa using h39)]
              have ht : wordTok l k = ⟨if upB c = true then 4 else if isKeyM (ofL (wordL l)) = true then 6 else 3, ofL (wordL l), 0, k⟩ := by
                unfold wordTok; rw [hh, if_neg (by simpa using h39), show hdB upB l = upB c by rw [hlc]; rfl]
              rw [hf, List.drop_zero, ht, hlc, lexM, if_neg (by simp [h1']), if_pos h3]
              by_cases hb : 12 < (wordL (c :: r)).length
              · rw [if_pos hb, if_pos hb]; rfl
              · rw [if_neg hb, if_neg hb]; rfl
            · have h4 : c = 39 ∧ hdB lowB r = true := by
                simp only [not_or, Bool.not_eq_true] at h3
                simpa [h3.1, h3.2] using h2
              have hf : wordFrom l = 1 := by unfold wordFrom; rw [hh, h4.1, if_pos rfl]
              have ht : wordTok l k = ⟨5, ofL (wordL r), 0, k⟩ := by
                unfold wordTok; rw [hh, h4.1, if_pos rfl, hr]
              rw [hf, hr, ht, hlc, lexM, if_neg (by simp [h1']), if_neg h3, if_pos h4]
              by_cases hb : 12 < (wordL r).length
              · rw [if_pos hb, if_pos hb]; rfl
              · rw [if_neg hb, if_neg hb]
                simp only [oneRes]
                rw [show k + ((wordL r).length + 1) = k + 1 + (wordL r).length by omega]
          rw [hlx]
          by_cases hb : 12 < (wordL (l.drop (wordFrom l))).length
          · rw [if_pos hb] at hcon ⊢
            refine call_p hcon (by simp [AV.noref, AV.norefs, VToken.noref]) ?_
            simp only [VToken.isAgg, VToken.width, VToken.storable, VToken.cells, VToken.eta, WA, Nat.reduceEqDiff, Nat.reduceAdd, Nat.reduceLT, Nat.reduceLeDiff, Nat.reduceMul, reduceIte, reduceCtorEq, Int.reduceEq, Int.reduceLT, Int.reduceLE, Int.reduceNe]
          · rw [if_neg hb] at hcon ⊢
            refine call_p hcon (by simp [AV.noref, AV.norefs, VToken.noref]) ?_
            simp only [VToken.isAgg, VToken.width, VToken.storable, VToken.cells, VToken.eta, WA, Nat.reduceEqDiff, Nat.reduceAdd, Nat.reduceLT, Nat.reduceLeDiff, Nat.reduceMul, reduceIte, reduceCtorEq, Int.reduceEq, Int.reduceLT, Int.reduceLE, Int.reduceNe]
        · simp only [WA, Nat.reduceEqDiff, Nat.reduceAdd, Nat.reduceLT, Nat.reduceLeDiff, Nat.reduceMul, reduceIte, reduceCtorEq, Int.reduceEq, Int.reduceLT, Int.reduceLE, Int.reduceNe]
          refine ite_dec (fun h3 => ?_) (fun h3 => ?_)
          · have hst := impl_lexString_c s k hk hs (strM r) (by rw [htl])
            simp only [Bool.or_eq_false_iff] at h2
            simp only [WA, Nat.reduceEqDiff, Nat.reduceAdd, Nat.reduceLT, Nat.reduceLeDiff, Nat.reduceMul, reduceIte, reduceCtorEq, Int.reduceEq, Int.reduceLT, Int.reduceLE, Int.reduceNe]
            cases hq : strM r with
            | none =>
              have hlx : lexM l k = .inl 4 := by
                rw [hlc, lexM, if_neg (by simp [h1']), if_neg (by simp [h2.1.1, h2.1.2]), if_neg (by omega), if_pos h3, hq]
              rw [hq] at hst
              simp only [strRes] at hst
              refine call_p hst (by simp [AV.noref, AV.norefs]) ?_
              simp only [hlx, oneRes, zTok, tok_av, Bool.not_false, WA, Nat.reduceEqDiff, Nat.reduceAdd, Nat.reduceLT, Nat.reduceLeDiff, Nat.reduceMul, reduceIte, reduceCtorEq, Int.reduceEq, Int.reduceLT, Int.reduceLE, Int.reduceNe]
            | some q =>
              have hlx : lexM l k = .inr (⟨2, ofL q.1, 0, k⟩, q.2 + 1) := by
                rw [hlc, lexM, if_neg (by simp [h1']), if_neg (by simp [h2.1.1, h2.1.2]), if_neg (by omega), if_pos h3, hq]
              rw [hq] at hst
              simp only [strRes] at hst
              refine call_p hst (by simp [AV.noref, AV.norefs]) ?_
              simp only [hlx, oneRes, tok_av, Bool.not_true, WA, Nat.reduceEqDiff, Nat.reduceAdd, Nat.reduceLT, Nat.reduceLeDiff, Nat.reduceMul, reduceIte, reduceCtorEq, Int.reduceEq, Int.reduceLT, Int.reduceLE, Int.reduceNe]
              rw [show k + 1 + q.2 = k + (q.2 + 1) by omega]
          · simp only [WA, Nat.reduceEqDiff, Nat.reduceAdd, Nat.reduceLT, Nat.reduceLeDiff, Nat.reduceMul, reduceIte, reduceCtorEq, Int.reduceEq, Int.reduceLT, Int.reduceLE, Int.reduceNe]
            exact ⟨h1', h2, h3⟩
  · rintro vs ⟨h1, h2, h3⟩ hlen
    obtain rfl := List.eq_nil_of_length_eq_zero hlen
    simp only [Bool.or_eq_false_iff] at h2
    have hlx : lexM l k = signTok (signM l) k := by
      rw [hlc, lexM, if_neg (by simp [h1]), if_neg (by simp [h2.1.1, h2.1.2]), if_neg (by have := h2.2; simpa using this), if_neg h3]
    have hsg := impl_signAt_c s k (by omega) hs
    rw [← hlk] at hsg
    simp only [WA, Nat.reduceEqDiff, Nat.reduceAdd, Nat.reduceLT, Nat.reduceLeDiff, Nat.reduceMul, reduceIte, reduceCtorEq, Int.reduceEq, Int.reduceLT, Int.reduceLE, Int.reduceNe]
    refine call_v hsg ?_
    cases hq : signM l with
    | none =>
      rw [hq] at hlx
      simp only [signB, hlx, signTok, oneRes, zTok, tok_av, decide_true, WA, Nat.reduceEqDiff, Nat.reduceAdd, Nat.reduceLT, Nat.reduceLeDiff, Nat.reduceMul, reduceIte, reduceCtorEq, Int.reduceEq, Int.reduceLT, Int.reduceLE, Int.reduceNe]
    | some y =>
      rw [hq] at hlx
      obtain ⟨hm, _⟩ := signM_some hq
      have hys := sign_size hm
      have hne : y ≠ ⟨#[]⟩ := by rintro rfl; have : (⟨#[]⟩ : ByteArray).size = 0 := rfl; omega
      have hwy : IntKind.i64.wrap ((k : Int) + (y.size : Int)) = ((k + y.size : Nat) : Int) := wrapA (by omega)
      simp only [signB, hlx, signTok, oneRes, hne, hwy, tok_av, decide_false, WA, Nat.reduceEqDiff, Nat.reduceAdd, Nat.reduceLT, Nat.reduceLeDiff, Nat.reduceMul, reduceIte, reduceCtorEq, Int.reduceEq, Int.reduceLT, Int.reduceLE, Int.reduceNe]
theorem impl_lexAll_1_c (c : Int) : PCon Tryd.prog F.impl_lexAll_1 [.v (.int .u8 c)] (.v (.bool (!decide (c = 10)))) := by
  refine T.impl_lexAll_1_con rfl rfl ?_
  simp only [T.impl_lexAll_1, WA, Nat.reduceEqDiff, Nat.reduceAdd, Nat.reduceLT, Nat.reduceLeDiff, Nat.reduceMul, reduceIte, reduceCtorEq, Int.reduceEq, Int.reduceLT, Int.reduceLE, Int.reduceNe]
theorem impl_lexAll_c (s : ByteArray) (most : Nat) (hs : s.size ≤ 1048576) (hmo : most ≤ 1048576) : SCon Tryd.prog F.impl_lexAll G.impl_lexAll [avB s, avI most] [.sl ((allM most (bs s) 0 []).1.map VToken.av), fAV (allM most (bs s) 0 []).2] := by
  have hl := bs_len s
  generalize hq : allM most (bs s) 0 [] = q
  refine T.impl_lexAll_scon rfl rfl rfl ?_
  simp only [T.impl_lexAll, WA, Nat.reduceEqDiff, Nat.reduceAdd, Nat.reduceLT, Nat.reduceLeDiff, Nat.reduceMul, reduceIte, reduceCtorEq, Int.reduceEq, Int.reduceLT, Int.reduceLE, Int.reduceNe]
  refine bind_post (fun vs => ∃ acc : List VToken, vs = [.sl (acc.map VToken.av)] ∧ acc.length ≤ most ∧ q = (acc ++ [⟨8, ⟨#[]⟩, 0, (s.size : Nat)⟩], (0, 0))) ?_ ?_
  · simp only [WA, Nat.reduceEqDiff, Nat.reduceAdd, Nat.reduceLT, Nat.reduceLeDiff, Nat.reduceMul, reduceIte, reduceCtorEq, Int.reduceEq, Int.reduceLT, Int.reduceLE, Int.reduceNe]
    refine loop_intro (ι := Nat × List VToken) (fun z => z.1 ≤ s.size ∧ z.2.length ≤ most ∧ q = allM most ((bs s).drop z.1) z.1 z.2) (fun z => [.sl (z.2.map VToken.av), avI z.1]) (fun z => s.size - z.1) (0, [])
      ⟨by simp only; omega, by simp, by simp only [List.drop_zero]; exact hq.symm⟩ rfl ?_
    rintro ⟨k, acc⟩ ⟨hk, hal, hI⟩
    simp only at hk hal hI
    simp only [WA, Nat.reduceEqDiff, Nat.reduceAdd, Nat.reduceLT, Nat.reduceLeDiff, Nat.reduceMul, reduceIte, reduceCtorEq, Int.reduceEq, Int.reduceLT, Int.reduceLE, Int.reduceNe]
    refine ite_dec (fun h1 => ?_) (fun h1 => ?_)
    · have hlt : k < (bs s).length := by omega
      have hx : (bs s)[k]? = some (bs s)[k] := List.getElem?_eq_getElem hlt
      have hdr := dropC hlt
      generalize hc : (bs s)[k] = c at hx hdr
      have hix := idxX hx
      have hcon := impl_lexOne_c s k (by omega) hs _ rfl
      rw [hdr] at hI hcon
      simp only [WA, Nat.reduceEqDiff, Nat.reduceAdd, Nat.reduceLT, Nat.reduceLeDiff, Nat.reduceMul, reduceIte, reduceCtorEq, Int.reduceEq, Int.reduceLT, Int.reduceLE, Int.reduceNe]
      refine bind_post (fun vs => blankB c = false ∧ c ≠ 35) ?_ ?_
      · simp only [hix, WA, Nat.reduceEqDiff, Nat.reduceAdd, Nat.reduceLT, Nat.reduceLeDiff, Nat.reduceMul, reduceIte, reduceCtorEq, Int.reduceEq, Int.reduceLT, Int.reduceLE, Int.reduceNe]
        refine bind_cut [.v (.bool (blankB c))] rfl ?_ ?_
        · repeat' (first | (simp (disch := omega) only [hix, WA, Nat.reduceEqDiff, Nat.reduceAdd, Nat.reduceLT, Nat.reduceLeDiff, Nat.reduceMul, reduceIte, reduceCtorEq, Int.reduceEq, Int.reduceLT, Int.reduceLE, Int.reduceNe]) | (refine ite_dec (fun _ => ?_) (fun _ => ?_)) | (refine ite_ndec (fun _ => ?_) (fun _ => ?_)) | (refine ite_intro (fun _ => ?_) (fun _ => ?_)) | (refine bind_push ?_))
          all_goals simp_all [blankB]
        · simp only [WA, Nat.reduceEqDiff, Nat.reduceAdd, Nat.reduceLT, Nat.reduceLeDiff, Nat.reduceMul, reduceIte, reduceCtorEq, Int.reduceEq, Int.reduceLT, Int.reduceLE, Int.reduceNe]
          refine ite_intro (fun h2 => ?_) (fun h2 => ?_)
          · rw [allM_blank most h2] at hI
            simp (disch := omega) only [wrapA1, WA, Nat.reduceEqDiff, Nat.reduceAdd, Nat.reduceLT, Nat.reduceLeDiff, Nat.reduceMul, reduceIte, reduceCtorEq, Int.reduceEq, Int.reduceLT, Int.reduceLE, Int.reduceNe]
            exact ⟨(k + 1, acc), ⟨by simp only; omega, hal, hI⟩, by simp only; omega, rfl⟩
          · simp only [WA, Nat.reduceEqDiff, Nat.reduceAdd, Nat.reduceLT, Nat.reduceLeDiff, Nat.reduceMul, reduceIte, reduceCtorEq, Int.reduceEq, Int.reduceLT, Int.reduceLE, Int.reduceNe]
            refine ite_dec (fun h3 => ?_) (fun h3 => ?_)
            · subst h3
              have hrun := impl_run_c s F.impl_lexAll_1 (fun c => !decide (c = 10)) (fun c _ _ => impl_lexAll_1_c c) k hk (by omega)
              rw [hdr] at hrun
              have hle := (List.takeWhile_sublist (l := (35 : Int) :: (bs s).drop (k + 1)) (fun c => !decide (c = 10))).length_le
              have hln : ((35 : Int) :: (bs s).drop (k + 1)).length = s.size - k := by rw [← hdr, List.length_drop, hl]
              have hpos : 1 ≤ (((35 : Int) :: (bs s).drop (k + 1)).takeWhile fun c => !decide (c = 10)).length := by simp [List.takeWhile_cons]
              rw [allM_note most k acc _ rfl] at hI
              generalize hn : (((35 : Int) :: (bs s).drop (k + 1)).takeWhile fun c => !decide (c = 10)).length = n at hrun hI hle hpos
              simp only [WA, Nat.reduceEqDiff, Nat.reduceAdd, Nat.reduceLT, Nat.reduceLeDiff, Nat.reduceMul, reduceIte, reduceCtorEq, Int.reduceEq, Int.reduceLT, Int.reduceLE, Int.reduceNe]
              refine call_v hrun ?_
              simp only [WA, Nat.reduceEqDiff, Nat.reduceAdd, Nat.reduceLT, Nat.reduceLeDiff, Nat.reduceMul, reduceIte, reduceCtorEq, Int.reduceEq, Int.reduceLT, Int.reduceLE, Int.reduceNe]
              have hdd : ((35 : Int) :: (bs s).drop (k + 1)).drop n = (bs s).drop (k + n) := by rw [← hdr, List.drop_drop]
              rw [hdd] at hI
              exact ⟨(k + n, acc), ⟨by simp only; omega, hal, hI⟩, by simp only; omega, by simp⟩
            · simp only [WA, Nat.reduceEqDiff, Nat.reduceAdd, Nat.reduceLT, Nat.reduceLeDiff, Nat.reduceMul, reduceIte, reduceCtorEq, Int.reduceEq, Int.reduceLT, Int.reduceLE, Int.reduceNe]
              exact ⟨h2, h3⟩
      · rintro vs ⟨hb1, hb2⟩ hlen
        obtain rfl := List.eq_nil_of_length_eq_zero hlen
        rw [allM_tok most hb1 hb2] at hI
        simp only [WA, Nat.reduceEqDiff, Nat.reduceAdd, Nat.reduceLT, Nat.reduceLeDiff, Nat.reduceMul, reduceIte, reduceCtorEq, Int.reduceEq, Int.reduceLT, Int.reduceLE, Int.reduceNe]
        cases hlx : lexM (c :: (bs s).drop (k + 1)) k with
        | inl e =>
          rw [hlx] at hI hcon
          have he := lexM_code hlx
          simp only at hI
          refine call_p hcon (by simp [oneRes, AV.noref, AV.norefs, VToken.noref]) ?_
          simp only [oneRes, he, decide_false, Bool.not_false, VToken.isAgg, VToken.width, VToken.storable, VToken.cells, VToken.eta, List.length_map, WA, Nat.reduceEqDiff, Nat.reduceAdd, Nat.reduceLT, Nat.reduceLeDiff, Nat.reduceMul, reduceIte, reduceCtorEq, Int.reduceEq, Int.reduceLT, Int.reduceLE, Int.reduceNe]
          rw [hI]
          simp only [List.map_nil]
        | inr p =>
          obtain ⟨t, n⟩ := p
          rw [hlx] at hI hcon
          obtain ⟨hp1, hp2⟩ := lexM_pos hlx
          simp only at hI
          have hp3 : k + n ≤ s.size := by
            have := List.length_drop (i := k) (l := bs s)
            rw [hdr] at this
            rw [this] at hp2
            omega
          refine call_p hcon (by simp [oneRes, AV.noref, AV.norefs, VToken.noref]) ?_
          simp only [oneRes, show decide ((0 : Int) = 0) = true from rfl, Bool.not_true, VToken.isAgg, VToken.width, VToken.storable, VToken.cells, VToken.eta, List.length_map, WA, Nat.reduceEqDiff, Nat.reduceAdd, Nat.reduceLT, Nat.reduceLeDiff, Nat.reduceMul, reduceIte, reduceCtorEq, Int.reduceEq, Int.reduceLT, Int.reduceLE, Int.reduceNe]
          refine ite_dec (fun h12 => ?_) (fun h12 => ?_)
          · rw [if_pos (by omega)] at hI
            simp only [VToken.isAgg, VToken.width, VToken.storable, VToken.cells, VToken.eta, List.length_map, WA, Nat.reduceEqDiff, Nat.reduceAdd, Nat.reduceLT, Nat.reduceLeDiff, Nat.reduceMul, reduceIte, reduceCtorEq, Int.reduceEq, Int.reduceLT, Int.reduceLE, Int.reduceNe]
            rw [hI]
            simp only [List.map_nil]
          · rw [if_neg (by omega)] at hI
            simp only [VToken.isAgg, VToken.width, VToken.storable, VToken.cells, VToken.eta, List.length_map, List.length_cons, List.length_nil, WA, Nat.reduceEqDiff, Nat.reduceAdd, Nat.reduceLT, Nat.reduceLeDiff, Nat.reduceMul, reduceIte, reduceCtorEq, Int.reduceEq, Int.reduceLT, Int.reduceLE, Int.reduceNe]
            repeat (refine And.intro (by first | omega | rfl | (intro y hy; subst hy; first | rfl | exact VToken.width _)) ?_)
            have hdd : (c :: (bs s).drop (k + 1)).drop n = (bs s).drop (k + n) := by rw [← hdr, List.drop_drop]
            rw [hdd] at hI
            refine ⟨(k + n, acc ++ [t]), ⟨by simp only; omega, by simp; omega, hI⟩, by simp only; omega, ?_⟩
            simp only [List.map_append, List.map_cons, List.map_nil]
    · have he : k = (bs s).length := by omega
      subst he
      rw [dropE, allM_nil] at hI
      simp only [WA, Nat.reduceEqDiff, Nat.reduceAdd, Nat.reduceLT, Nat.reduceLeDiff, Nat.reduceMul, reduceIte, reduceCtorEq, Int.reduceEq, Int.reduceLT, Int.reduceLE, Int.reduceNe]
      refine ⟨acc, rfl, hal, ?_⟩
      rw [hI, hl]
  · rintro vs ⟨acc, rfl, hal, rfl⟩ _
    simp only [List.length_map, List.length_cons, List.length_nil, WA, Nat.reduceEqDiff, Nat.reduceAdd, Nat.reduceLT, Nat.reduceLeDiff, Nat.reduceMul, reduceIte, reduceCtorEq, Int.reduceEq, Int.reduceLT, Int.reduceLE, Int.reduceNe]
    repeat (refine And.intro (by first | omega | rfl | (intro y hy; subst hy; first | rfl | exact VToken.width _)) ?_)
    simp only [List.map_append, List.map_cons, List.map_nil, tok_av, WA, Nat.reduceEqDiff, Nat.reduceAdd, Nat.reduceLT, Nat.reduceLeDiff, Nat.reduceMul, reduceIte, reduceCtorEq, Int.reduceEq, Int.reduceLT, Int.reduceLE, Int.reduceNe]
theorem impl_Lex_c (s : ByteArray) (hs : s.size ≤ 1048576) : SCon Tryd.prog F.impl_Lex G.impl_Lex [avB s] [.sl ((lexAllM s).1.map VToken.av), fAV (lexAllM s).2] := by
  refine T.impl_Lex_scon rfl rfl rfl ?_
  simp only [T.impl_Lex, WA, Nat.reduceEqDiff, Nat.reduceAdd, Nat.reduceLT, Nat.reduceLeDiff, Nat.reduceMul, reduceIte, reduceCtorEq, Int.reduceEq, Int.reduceLT, Int.reduceLE, Int.reduceNe]
  refine ite_dec (fun h => ?_) (fun h => ?_)
  · have hm : lexAllM s = ([], (5, 0)) := by unfold lexAllM; rw [if_pos (by omega)]
    simp only [hm, List.map_nil, WA, Nat.reduceEqDiff, Nat.reduceAdd, Nat.reduceLT, Nat.reduceLeDiff, Nat.reduceMul, reduceIte, reduceCtorEq, Int.reduceEq, Int.reduceLT, Int.reduceLE, Int.reduceNe]
  · have hm : lexAllM s = allM 1200 (bs s) 0 [] := by unfold lexAllM; rw [if_neg (by omega)]
    rw [hm]
    simp only [WA, Nat.reduceEqDiff, Nat.reduceAdd, Nat.reduceLT, Nat.reduceLeDiff, Nat.reduceMul, reduceIte, reduceCtorEq, Int.reduceEq, Int.reduceLT, Int.reduceLE, Int.reduceNe]
    refine scall_v (impl_lexAll_c s 1200 hs (by omega)) rfl (by simp [AV.noref, AV.norefs, norefsM (f := VToken.av) VToken.noref]) ?_
    simp only [WA, Nat.reduceEqDiff, Nat.reduceAdd, Nat.reduceLT, Nat.reduceLeDiff, Nat.reduceMul, reduceIte, reduceCtorEq, Int.reduceEq, Int.reduceLT, Int.reduceLE, Int.reduceNe]
end Go.Proofs.Ab
