/-
  TEXTS OF CODE: the program's lines.
-/
import Derived.Test.YtkinchcjijhmgaaDoorWAsm
set_option linter.unusedVariables false
set_option linter.unusedSimpArgs false
set_option linter.defProp false
namespace Go.Ab
set_option maxRecDepth 100000
theorem spr (a : ByteArray) : (⟨#[32, 114]⟩ : ByteArray) ++ a = byteSp ++ (byteB 114 ++ a) := by rw [← appA]; congr 1
theorem spr_size : (⟨#[32, 114]⟩ : ByteArray).size = 2 := rfl
end Go.Ab
namespace Go.Proofs.Ab
open Go.Ab
set_option maxRecDepth 100000
set_option maxHeartbeats 4000000
theorem itoa_any (n : Int) (h0 : -9223372036854775808 ≤ n) (h1 : n ≤ 9223372036854775807) (O : List AObj) : Con Tryd.prog F.strconv_Itoa [avI n] O (avB (numB n)) O := (itoa_c n h0 h1).any rfl rfl O
theorem impl_instrLine_c (x : VInstr) (h : x.formOk) (hi : x.inM) (hb : x.wt ≤ 1048576) : PCon Tryd.prog F.impl_instrLine [x.av] (avB x.lineM) := by
  have hw := x.wt_eq
  obtain ⟨⟨a0, a1⟩, ⟨b0, b1⟩, ⟨c0, c1⟩, n0, n1⟩ := id hi
  have hfs : x.partsM.size ≤ 3 := form_size x.wordM
  have hws := x.word_size
  have hps := x.piece_size hi
  have hlt := parts_letters h
  have hl : x.lineM = x.piecesM (bs x.partsM) x.wordM := rfl
  refine con_of_wp A.impl_instrLine_ok rfl ?_
  simp only [A.impl_instrLine, VInstr.width, VInstr.isAgg, VInstr.storable, VInstr.cells, ↓OD, OA, Nat.reduceEqDiff, reduceCtorEq, Nat.reduceAdd, Nat.reduceLT, Nat.reduceLeDiff, reduceIte]
  refine callK_intro _ _ ((impl_formOf_c x h).any (by simp [AV.norefs, VInstr.noref]) rfl _) ?_
  generalize x.partsM = p at *
  generalize x.wordM = wd at *
  have hbl := bs_len p
  simp only [VInstr.width, VInstr.isAgg, VInstr.storable, VInstr.cells, ↓OD, OA, Nat.reduceEqDiff, reduceCtorEq, Nat.reduceAdd, Nat.reduceLT, Nat.reduceLeDiff, reduceIte]
  repeat (refine And.intro (by decide) ?_)
  try simp only [VInstr.width, VInstr.isAgg, VInstr.storable, VInstr.cells, ↓OD, OA, Nat.reduceEqDiff, reduceCtorEq, Nat.reduceAdd, Nat.reduceLT, Nat.reduceLeDiff, reduceIte]
  refine loopK_intro (ι := Nat × ByteArray) (fun q => x.lineM = x.piecesM ((bs p).drop q.1) q.2 ∧ q.2.size ≤ x.Text.size + 8 + q.1 * (2 * x.Text.size + 27) ∧ q.1 ≤ p.size)
    (fun q => envL [(1, .ptr 0 1 0 0), (4, avB q.2), (13, .own 2)])
    (fun q => [.live 41 6 [x.av], .live 62 2 [.agg [avB wd, avB p]], .gho (.it p q.1)]) (fun q => p.size - q.1) (0, wd)
    ⟨by simpa using hl, (show wd.size ≤ x.Text.size + 8 + 0 * _ by omega), Nat.zero_le _⟩ (.of_eq rfl rfl) ?_
  rintro ⟨i, acc⟩ ⟨hg1, hg2, hle⟩
  simp only at hg1 hg2 hle
  simp only [↓OD, OA, Nat.reduceEqDiff, reduceCtorEq, Nat.reduceAdd, Nat.reduceLT, Nat.reduceLeDiff, reduceIte]
  rcases Nat.lt_or_ge i p.size with hlt2 | hge
  · have hx : (bs p)[i]? = some (bs p)[i] := List.getElem?_eq_getElem (by omega)
    have hd : (bs p).drop i = (bs p)[i] :: (bs p).drop (i + 1) := dropC (by omega)
    generalize (bs p)[i] = k at *
    have hk5 := hlt k (List.mem_of_getElem? hx)
    have hkc : ((k.toNat : Nat) : Int) = k := by omega
    rw [hd, VInstr.piecesM] at hg1
    have hpk := hps k
    have hmul : i * (2 * x.Text.size + 27) ≤ 3 * (2 * x.Text.size + 27) := Nat.mul_le_mul_right _ (by omega)
    have fin : (acc ++ x.pieceM k).size ≤ x.Text.size + 8 + (i + 1) * (2 * x.Text.size + 27) := by
      rw [app_size, Nat.add_mul]; omega
    refine snext_more rfl hlt2 (decode_low hx (by omega)) ?_
    rw [hkc]
    simp only [↓OD, OA, Nat.reduceEqDiff, reduceCtorEq, Nat.reduceAdd, Nat.reduceLT, Nat.reduceLeDiff, reduceIte]
    rcases hk5 with rfl | rfl | rfl | rfl | rfl
    · have hk : x.pieceM 97 = byteSp ++ (byteB 114 ++ numB x.A) := rfl
      rw [hk] at hpk fin hg1
      simp only [app_size, byteSp_size, byteB_size] at hpk
      simp only [VInstr.width, VInstr.isAgg, VInstr.storable, VInstr.cells, Int.reduceEq, decide_true, ↓OD, OA, Nat.reduceEqDiff, reduceCtorEq, Nat.reduceAdd, Nat.reduceLT, Nat.reduceLeDiff, reduceIte]
      refine callK_intro _ _ (itoa_any x.A a0 a1 _) ?_
      simp only [spr, spr_size, app_size, byteSp_size, byteB_size, ↓OD, OA, Nat.reduceEqDiff, reduceCtorEq, Nat.reduceAdd, Nat.reduceLT, Nat.reduceLeDiff, reduceIte]
      refine ⟨by omega, by omega, ?_⟩
      exact roundQ_intro (i + 1, _) ⟨hg1, fin, hlt2⟩ (show p.size - (i + 1) < p.size - i by omega) (.of_eq rfl rfl)
    · have hk : x.pieceM 98 = byteSp ++ (byteB 114 ++ numB x.B) := rfl
      rw [hk] at hpk fin hg1
      simp only [app_size, byteSp_size, byteB_size] at hpk
      simp only [VInstr.width, VInstr.isAgg, VInstr.storable, VInstr.cells, Int.reduceEq, decide_true, ↓OD, OA, Nat.reduceEqDiff, reduceCtorEq, Nat.reduceAdd, Nat.reduceLT, Nat.reduceLeDiff, reduceIte]
      refine callK_intro _ _ (itoa_any x.B b0 b1 _) ?_
      simp only [spr, spr_size, app_size, byteSp_size, byteB_size, ↓OD, OA, Nat.reduceEqDiff, reduceCtorEq, Nat.reduceAdd, Nat.reduceLT, Nat.reduceLeDiff, reduceIte]
      refine ⟨by omega, by omega, ?_⟩
      exact roundQ_intro (i + 1, _) ⟨hg1, fin, hlt2⟩ (show p.size - (i + 1) < p.size - i by omega) (.of_eq rfl rfl)
    · have hk : x.pieceM 99 = byteSp ++ (byteB 114 ++ numB x.C) := rfl
      rw [hk] at hpk fin hg1
      simp only [app_size, byteSp_size, byteB_size] at hpk
      simp only [VInstr.width, VInstr.isAgg, VInstr.storable, VInstr.cells, Int.reduceEq, decide_true, ↓OD, OA, Nat.reduceEqDiff, reduceCtorEq, Nat.reduceAdd, Nat.reduceLT, Nat.reduceLeDiff, reduceIte]
      refine callK_intro _ _ (itoa_any x.C c0 c1 _) ?_
      simp only [spr, spr_size, app_size, byteSp_size, byteB_size, ↓OD, OA, Nat.reduceEqDiff, reduceCtorEq, Nat.reduceAdd, Nat.reduceLT, Nat.reduceLeDiff, reduceIte]
      refine ⟨by omega, by omega, ?_⟩
      exact roundQ_intro (i + 1, _) ⟨hg1, fin, hlt2⟩ (show p.size - (i + 1) < p.size - i by omega) (.of_eq rfl rfl)
    · have hk : x.pieceM 110 = byteSp ++ numB x.N := rfl
      rw [hk] at hpk fin hg1
      simp only [app_size, byteSp_size, byteB_size] at hpk
      simp only [VInstr.width, VInstr.isAgg, VInstr.storable, VInstr.cells, Int.reduceEq, decide_true, ↓OD, OA, Nat.reduceEqDiff, reduceCtorEq, Nat.reduceAdd, Nat.reduceLT, Nat.reduceLeDiff, reduceIte]
      refine callK_intro _ _ (itoa_any x.N n0 n1 _) ?_
      simp only [sp_eq, app_size, byteSp_size, byteB_size, ↓OD, OA, Nat.reduceEqDiff, reduceCtorEq, Nat.reduceAdd, Nat.reduceLT, Nat.reduceLeDiff, reduceIte]
      refine ⟨by omega, by omega, ?_⟩
      exact roundQ_intro (i + 1, _) ⟨hg1, fin, hlt2⟩ (show p.size - (i + 1) < p.size - i by omega) (.of_eq rfl rfl)
    · have hk : x.pieceM 116 = byteSp ++ quotedB x.Text := rfl
      rw [hk] at hpk fin hg1
      simp only [app_size, byteSp_size, byteB_size] at hpk
      simp only [VInstr.width, VInstr.isAgg, VInstr.storable, VInstr.cells, Int.reduceEq, decide_true, ↓OD, OA, Nat.reduceEqDiff, reduceCtorEq, Nat.reduceAdd, Nat.reduceLT, Nat.reduceLeDiff, reduceIte]
      refine callK_intro _ _ ((impl_quoted_c x.Text (by omega)).any rfl rfl _) ?_
      simp only [sp_eq, app_size, byteSp_size, byteB_size, ↓OD, OA, Nat.reduceEqDiff, reduceCtorEq, Nat.reduceAdd, Nat.reduceLT, Nat.reduceLeDiff, reduceIte]
      refine ⟨by omega, by omega, ?_⟩
      exact roundQ_intro (i + 1, _) ⟨hg1, fin, hlt2⟩ (show p.size - (i + 1) < p.size - i by omega) (.of_eq rfl rfl)
  · refine snext_end rfl (by omega) ?_
    rw [List.drop_of_length_le (by omega), VInstr.piecesM] at hg1
    simp only [↓OD, OA, Nat.reduceEqDiff, reduceCtorEq, Nat.reduceAdd, Nat.reduceLT, Nat.reduceLeDiff, reduceIte]
    rw [hg1]
    exact ret_plain (.inl rfl) rfl (by simp only [↓OD, OA, Nat.reduceEqDiff, reduceCtorEq, Nat.reduceAdd, Nat.reduceLT, Nat.reduceLeDiff, reduceIte])
end Go.Proofs.Ab
