/-
  TEXTS OF CODE: words, forms, lines (printed by wip/tool/mkasm.py).
-/
import Derived.Test.YtkinchcjijhmgaaDoorCCode
import Derived.Test.YtkinchcjijhmgaaDoorCSpell
set_option linter.unusedVariables false
set_option linter.unusedSimpArgs false
set_option linter.defProp false
namespace Go.Ab
set_option maxRecDepth 100000
set_option maxHeartbeats 4000000
def signL : List (ByteArray × ByteArray) := [(⟨#[43]⟩, ⟨#[97, 100, 100]⟩), (⟨#[45]⟩, ⟨#[115, 117, 98]⟩), (⟨#[42]⟩, ⟨#[109, 117, 108]⟩), (⟨#[61]⟩, ⟨#[101, 113]⟩), (⟨#[60]⟩, ⟨#[108, 116]⟩), (⟨#[94]⟩, ⟨#[99, 97, 116]⟩)]
/-- an operator's word -/
def opN (t : ByteArray) : ByteArray := if ⟨#[43]⟩ = t then ⟨#[97, 100, 100]⟩ else if ⟨#[45]⟩ = t then ⟨#[115, 117, 98]⟩ else if ⟨#[42]⟩ = t then ⟨#[109, 117, 108]⟩ else if ⟨#[61]⟩ = t then ⟨#[101, 113]⟩ else if ⟨#[60]⟩ = t then ⟨#[108, 116]⟩ else if ⟨#[94]⟩ = t then ⟨#[99, 97, 116]⟩ else t
def opFrom (t : ByteArray) : List (ByteArray × ByteArray) → ByteArray
  | [] => t
  | p :: r => if p.1 = t then p.2 else opFrom t r
def wordL : List ByteArray := [⟨#[]⟩, ⟨#[105, 110, 116]⟩, ⟨#[115, 116, 114]⟩, ⟨#[108, 97, 98]⟩, ⟨#[109, 111, 118, 101]⟩, ⟨#[108, 111, 97, 100]⟩, ⟨#[115, 116, 111, 114, 101]⟩, ⟨#[]⟩, ⟨#[110, 101, 119]⟩, ⟨#[112, 117, 116]⟩, ⟨#[103, 101, 116]⟩, ⟨#[122, 101, 114, 111]⟩, ⟨#[106, 117, 109, 112]⟩, ⟨#[103, 111]⟩, ⟨#[101, 120, 105, 116]⟩, ⟨#[102, 97, 105, 108]⟩]
def VInstr.wordM (x : VInstr) : ByteArray := if x.Op = 7 then opN x.Text else wordL.getD x.Op.toNat ⟨#[]⟩
/-- the operator that has a word -/
def findS (w : ByteArray) : List (ByteArray × ByteArray) → Option ByteArray
  | [] => none
  | (s, _) :: r => if opN s = w then some s else findS w r
def formO (w : ByteArray) : Int × ByteArray × ByteArray := match findS w signL with
  | some s => (7, s, ⟨#[97, 98, 99]⟩)
  | none => if w = ⟨#[115, 105, 122, 101]⟩ then (7, w, ⟨#[97, 98]⟩) else if w = ⟨#[114, 101, 97, 100]⟩ then (7, w, ⟨#[97]⟩) else if w = ⟨#[112, 114, 105, 110, 116]⟩ then (7, w, ⟨#[98]⟩) else if w = ⟨#[110, 101, 119]⟩ then (8, ⟨#[]⟩, ⟨#[97, 110]⟩) else if w = ⟨#[112, 117, 116]⟩ then (9, ⟨#[]⟩, ⟨#[97, 110, 98]⟩) else if w = ⟨#[103, 101, 116]⟩ then (10, ⟨#[]⟩, ⟨#[97, 98, 110]⟩) else if w = ⟨#[122, 101, 114, 111]⟩ then (11, ⟨#[]⟩, ⟨#[97, 110]⟩) else if w = ⟨#[106, 117, 109, 112]⟩ then (12, ⟨#[]⟩, ⟨#[110]⟩) else if w = ⟨#[103, 111]⟩ then (13, ⟨#[]⟩, ⟨#[97]⟩) else if w = ⟨#[101, 120, 105, 116]⟩ then (14, ⟨#[]⟩, ⟨#[97]⟩) else if w = ⟨#[102, 97, 105, 108]⟩ then (15, ⟨#[]⟩, ⟨#[110]⟩) else (0, ⟨#[]⟩, ⟨#[32]⟩)
/-- what a word stands for: Op, Text, parts -/
def formW (w : ByteArray) : Int × ByteArray × ByteArray := if w = ⟨#[105, 110, 116]⟩ then (1, ⟨#[]⟩, ⟨#[97, 110]⟩) else if w = ⟨#[115, 116, 114]⟩ then (2, ⟨#[]⟩, ⟨#[97, 116]⟩) else if w = ⟨#[108, 97, 98]⟩ then (3, ⟨#[]⟩, ⟨#[97, 110]⟩) else if w = ⟨#[109, 111, 118, 101]⟩ then (4, ⟨#[]⟩, ⟨#[97, 98]⟩) else if w = ⟨#[108, 111, 97, 100]⟩ then (5, ⟨#[]⟩, ⟨#[97, 110]⟩) else if w = ⟨#[115, 116, 111, 114, 101]⟩ then (6, ⟨#[]⟩, ⟨#[97, 110]⟩) else formO w
def VInstr.pieceM (x : VInstr) (c : Int) : ByteArray :=
  if c = 97 then byteSp ++ (byteB 114 ++ numB x.A) else if c = 98 then byteSp ++ (byteB 114 ++ numB x.B) else if c = 99 then byteSp ++ (byteB 114 ++ numB x.C) else if c = 110 then byteSp ++ numB x.N else if c = 116 then byteSp ++ quotedB x.Text else ⟨#[]⟩
def VInstr.piecesM (x : VInstr) : List Int → ByteArray → ByteArray
  | [], acc => acc
  | c :: r, acc => VInstr.piecesM x r (acc ++ x.pieceM c)
/-- an instruction's line -/
def VInstr.lineM (x : VInstr) : ByteArray := x.piecesM (bs (formW x.wordM).2.2) x.wordM
theorem numB_neg (u : Nat) (h : 1 ≤ u) : numB (-(u : Int)) = byteB 45 ++ figB u := by
  unfold numB figB Lib.itoa
  rw [if_pos (by omega)]
  have : (-(u : Int)).natAbs = u := by omega
  rw [this]
  exact bytes_ext (by rw [app_list]; rfl)
theorem numB_size21 (n : Int) (h0 : -9223372036854775808 ≤ n) (h1 : n ≤ 9223372036854775807) : (numB n).size ≤ 21 := by
  by_cases h : 0 ≤ n
  · have := numB_size n h h1; omega
  · obtain ⟨u, rfl⟩ : ∃ u : Nat, n = -(u : Int) := ⟨n.natAbs, by omega⟩
    rw [numB_neg u (by omega), app_size, byteB_size]
    have := figB_20 19 u (by omega)
    omega
/-- numbers that a word holds -/
def VInstr.inM (x : VInstr) : Prop := (-9223372036854775808 ≤ x.A ∧ x.A ≤ 9223372036854775807) ∧ (-9223372036854775808 ≤ x.B ∧ x.B ≤ 9223372036854775807) ∧ (-9223372036854775808 ≤ x.C ∧ x.C ≤ 9223372036854775807) ∧ (-9223372036854775808 ≤ x.N ∧ x.N ≤ 9223372036854775807)
theorem byteSp_size : byteSp.size = 1 := rfl
theorem VInstr.piece_size (x : VInstr) (hi : x.inM) (c : Int) : (x.pieceM c).size ≤ 24 + (2 * x.Text.size + 3) := by
  obtain ⟨⟨a0, a1⟩, ⟨b0, b1⟩, ⟨c0, c1⟩, n0, n1⟩ := hi
  have ha := numB_size21 x.A a0 a1
  have hb := numB_size21 x.B b0 b1
  have hc := numB_size21 x.C c0 c1
  have hn := numB_size21 x.N n0 n1
  have hq := quotedB_size x.Text
  unfold VInstr.pieceM
  repeat' split
  all_goals (try simp only [app_size, byteB_size, byteSp_size])
  all_goals first | omega | (show (0 : Nat) ≤ _; omega)
theorem sp_eq : (⟨#[32]⟩ : ByteArray) = byteSp := rfl
theorem r_eq : (⟨#[114]⟩ : ByteArray) = byteB 114 := rfl
theorem minus_eq : (⟨#[45]⟩ : ByteArray) = byteB 45 := rfl
theorem opN_size (t : ByteArray) : (opN t).size ≤ t.size + 3 := by
  unfold opN
  repeat' split
  all_goals first | (show (3 : Nat) ≤ _; omega) | (show (2 : Nat) ≤ _; omega) | omega
theorem wordL_size : ∀ k : Nat, (wordL.getD k ⟨#[]⟩).size ≤ 5 := by
  intro k
  rcases Nat.lt_or_ge k 16 with h | h
  · have : ∀ k : Fin 16, (wordL.getD k.val ⟨#[]⟩).size ≤ 5 := by decide
    exact this ⟨k, h⟩
  · have : wordL.getD k ⟨#[]⟩ = ⟨#[]⟩ := by simp only [List.getD]; rw [List.getElem?_eq_none (by simpa [wordL] using h)]; rfl
    rw [this]; show 0 ≤ 5; omega
theorem VInstr.word_size (x : VInstr) : x.wordM.size ≤ x.Text.size + 8 := by
  unfold VInstr.wordM
  split
  · have := opN_size x.Text; omega
  · have := wordL_size x.Op.toNat; omega
theorem ite3 {p : Prop} [Decidable p] {a b : Int × ByteArray × ByteArray} (ha : a.2.2.size ≤ 3) (hb : b.2.2.size ≤ 3) : (if p then a else b).2.2.size ≤ 3 := by
  split
  · exact ha
  · exact hb
theorem formO_size (w : ByteArray) : (formO w).2.2.size ≤ 3 := by
  unfold formO
  cases findS w signL with
  | some s => exact Nat.le_of_ble_eq_true rfl
  | none =>
    simp only
    repeat (refine ite3 (Nat.le_of_ble_eq_true rfl) ?_)
    exact Nat.le_of_ble_eq_true rfl
theorem form_size (w : ByteArray) : (formW w).2.2.size ≤ 3 := by
  unfold formW
  repeat (refine ite3 (Nat.le_of_ble_eq_true rfl) ?_)
  exact formO_size w
theorem pieces_size (x : VInstr) (hi : x.inM) : ∀ (l : List Int) (acc : ByteArray), (x.piecesM l acc).size ≤ acc.size + l.length * (2 * x.Text.size + 27)
  | [], acc => by simp [VInstr.piecesM]
  | c :: r, acc => by
    have h1 := pieces_size x hi r (acc ++ x.pieceM c)
    have h2 := x.piece_size hi c
    rw [app_size] at h1
    rw [VInstr.piecesM, List.length_cons, Nat.add_mul]
    omega
theorem VInstr.line_size (x : VInstr) (hi : x.inM) : x.lineM.size ≤ 7 * x.Text.size + 89 := by
  have h1 := pieces_size x hi (bs (formW x.wordM).2.2) x.wordM
  have h2 := x.word_size
  have h3 := form_size x.wordM
  have h4 := bs_len (formW x.wordM).2.2
  have h5 : (bs (formW x.wordM).2.2).length * (2 * x.Text.size + 27) ≤ 3 * (2 * x.Text.size + 27) := Nat.mul_le_mul_right _ (by omega)
  unfold VInstr.lineM
  omega
end Go.Ab
namespace Go.Proofs.Ab
open Go.Ab
set_option maxRecDepth 100000
set_option maxHeartbeats 4000000
theorem spec_l1Decimal_a (n : Int) (h0 : -9223372036854775808 ≤ n) (h1 : n ≤ 9223372036854775807) : PCon Tryd.prog F.spec_l1Decimal [avI n] (avB (numB n)) := by
  by_cases h : 0 ≤ n
  · exact spec_l1Decimal_c n h h1
  · obtain ⟨u, rfl⟩ : ∃ u : Nat, n = -((u + 1 : Nat) : Int) := ⟨(n.natAbs - 1), by omega⟩
    have e0 : IntKind.i64.wrap (-((u + 1 : Nat) : Int) + 1) = -(u : Int) := wrapI (by omega) (by omega) |>.trans (by omega)
    have e1 : IntKind.i64.wrap (- -(u : Int)) = (u : Int) := wrapI (by omega) (by omega) |>.trans (by omega)
    have e2 : IntKind.u64.wrap (u : Int) = u := by simp [IntKind.wrap, IntKind.signed, IntKind.bits]; omega
    have e3 : IntKind.u64.wrap ((u : Int) + 1) = ((u + 1 : Nat) : Int) := by simp [IntKind.wrap, IntKind.signed, IntKind.bits]; omega
    have d0 : decide (-((u + 1 : Nat) : Int) < 0) = true := decide_eq_true (by omega)
    have hs := figB_20 19 (u + 1) (by omega)
    rw [numB_neg _ (by omega)]
    refine T.spec_l1Decimal_con rfl rfl ?_
    simp only [T.spec_l1Decimal, d0, e0, e1, e2, e3, WA, Nat.reduceEqDiff, Nat.reduceAdd, Nat.reduceLT, Nat.reduceLeDiff, Nat.reduceMul, reduceIte, reduceCtorEq, Int.reduceEq, Int.reduceLT, Int.reduceLE, Int.reduceNe]
    refine call_v (spec_l1Figures_c (u + 1) (by omega)) ?_
    simp only [minus_eq, byteB_size, WA, Nat.reduceEqDiff, Nat.reduceAdd, Nat.reduceLT, Nat.reduceLeDiff, Nat.reduceMul, reduceIte, reduceCtorEq, Int.reduceEq, Int.reduceLT, Int.reduceLE, Int.reduceNe]
    omega
theorem spec_l16Reg_c (n : Int) (h0 : -9223372036854775808 ≤ n) (h1 : n ≤ 9223372036854775807) : PCon Tryd.prog F.spec_l16Reg [avI n] (avB (byteB 114 ++ numB n)) := by
  have hs := numB_size21 n h0 h1
  refine T.spec_l16Reg_con rfl rfl ?_
  simp only [T.spec_l16Reg, WA, Nat.reduceEqDiff, Nat.reduceAdd, Nat.reduceLT, Nat.reduceLeDiff, Nat.reduceMul, reduceIte, reduceCtorEq, Int.reduceEq, Int.reduceLT, Int.reduceLE, Int.reduceNe]
  refine call_v (spec_l1Decimal_a n h0 h1) ?_
  simp only [r_eq, byteB_size, WA, Nat.reduceEqDiff, Nat.reduceAdd, Nat.reduceLT, Nat.reduceLeDiff, Nat.reduceMul, reduceIte, reduceCtorEq, Int.reduceEq, Int.reduceLT, Int.reduceLE, Int.reduceNe]
  omega
theorem spec_l16Name_c (t : ByteArray) : PCon Tryd.prog F.spec_l16Name [avB t] (avB (opN t)) := by
  refine T.spec_l16Name_con rfl rfl ?_
  simp only [T.spec_l16Name, WA, Nat.reduceEqDiff, Nat.reduceAdd, Nat.reduceLT, Nat.reduceLeDiff, Nat.reduceMul, reduceIte, reduceCtorEq, Int.reduceEq, Int.reduceLT, Int.reduceLE, Int.reduceNe]
  rw [show [AV.v (Value.string ⟨#[43]⟩), AV.v (Value.string ⟨#[45]⟩), AV.v (Value.string ⟨#[42]⟩), AV.v (Value.string ⟨#[61]⟩), AV.v (Value.string ⟨#[60]⟩), AV.v (Value.string ⟨#[94]⟩)] = signL.map (fun p => avB p.1) from rfl, show [AV.v (Value.string ⟨#[97, 100, 100]⟩), AV.v (Value.string ⟨#[115, 117, 98]⟩), AV.v (Value.string ⟨#[109, 117, 108]⟩), AV.v (Value.string ⟨#[101, 113]⟩), AV.v (Value.string ⟨#[108, 116]⟩), AV.v (Value.string ⟨#[99, 97, 116]⟩)] = signL.map (fun p => avB p.2) from rfl]
  refine bind_push ?_
  simp only [WA, Nat.reduceEqDiff, Nat.reduceAdd, Nat.reduceLT, Nat.reduceLeDiff, Nat.reduceMul, reduceIte, reduceCtorEq, Int.reduceEq, Int.reduceLT, Int.reduceLE, Int.reduceNe]
  refine loop_list signL (fun i (_ : Unit) => [avI i]) (fun i rest _ => opN t = opFrom t rest) () rfl rfl (fun i k rest b hi hx hm hel hd hg => ?_) (fun b hd hg => ?_)
  · have hd : decide ((i : Int) < 6) = true := hd
    have hi : i < 6 := hi
    have hl : signL.length = 6 := rfl
    have g1 : (signL.map (fun p => avB p.1)).getD i .top = avB k.1 := by simp [List.getD, hx]
    have g2 : (signL.map (fun p => avB p.2)).getD i .top = avB k.2 := by simp [List.getD, hx]
    rw [opFrom] at hg
    simp only [hd, List.length_map, hl, WA, Nat.reduceEqDiff, Nat.reduceAdd, Nat.reduceLT, Nat.reduceLeDiff, Nat.reduceMul, reduceIte, reduceCtorEq, Int.reduceEq, Int.reduceLT, Int.reduceLE, Int.reduceNe]
    refine ⟨by omega, by omega, ?_⟩
    simp only [g1, g2, List.length_map, hl, Int.toNat_natCast, cells_v, List.getD_cons_zero, WA, Nat.reduceEqDiff, Nat.reduceAdd, Nat.reduceLT, Nat.reduceLeDiff, Nat.reduceMul, reduceIte, reduceCtorEq, Int.reduceEq, Int.reduceLT, Int.reduceLE, Int.reduceNe]
    try refine ⟨by omega, by decide, ?_⟩
    refine ite_dec (fun h => ?_) (fun h => ?_)
    · rw [if_pos h] at hg
      simp only [g1, g2, List.length_map, hl, Int.toNat_natCast, cells_v, List.getD_cons_zero, WA, Nat.reduceEqDiff, Nat.reduceAdd, Nat.reduceLT, Nat.reduceLeDiff, Nat.reduceMul, reduceIte, reduceCtorEq, Int.reduceEq, Int.reduceLT, Int.reduceLE, Int.reduceNe]
      rw [hg]
      exact ⟨by omega, hi, rfl⟩
    · rw [if_neg h] at hg
      simp (disch := omega) only [wrapA1, WA, Nat.reduceEqDiff, Nat.reduceAdd, Nat.reduceLT, Nat.reduceLeDiff, Nat.reduceMul, reduceIte, reduceCtorEq, Int.reduceEq, Int.reduceLT, Int.reduceLE, Int.reduceNe]
      exact ⟨hi, (), hg⟩
  · have hd : decide (((6 : Nat) : Int) < 6) = false := hd
    rw [opFrom] at hg
    have hl : signL.length = 6 := rfl
    simp only [hl, hd, hg, WA, Nat.reduceEqDiff, Nat.reduceAdd, Nat.reduceLT, Nat.reduceLeDiff, Nat.reduceMul, reduceIte, reduceCtorEq, Int.reduceEq, Int.reduceLT, Int.reduceLE, Int.reduceNe]
theorem spec_l16Word_c (x : VInstr) (h0 : 0 ≤ x.Op) (h1 : x.Op < 16) : PCon Tryd.prog F.spec_l16Word [x.av] (avB x.wordM) := by
  refine T.spec_l16Word_con rfl (by simp [AV.norefs, AV.noref, VInstr.noref]) ?_
  simp only [T.spec_l16Word, VInstr.cells, VInstr.isAgg, VInstr.storable, WA, Nat.reduceEqDiff, Nat.reduceAdd, Nat.reduceLT, Nat.reduceLeDiff, Nat.reduceMul, reduceIte, reduceCtorEq, Int.reduceEq, Int.reduceLT, Int.reduceLE, Int.reduceNe]
  refine ite_dec (fun h => ?_) (fun h => ?_)
  · simp only [VInstr.cells, WA, Nat.reduceEqDiff, Nat.reduceAdd, Nat.reduceLT, Nat.reduceLeDiff, Nat.reduceMul, reduceIte, reduceCtorEq, Int.reduceEq, Int.reduceLT, Int.reduceLE, Int.reduceNe]
    refine call_v (spec_l16Name_c x.Text) ?_
    simp only [VInstr.wordM, if_pos h, WA, Nat.reduceEqDiff, Nat.reduceAdd, Nat.reduceLT, Nat.reduceLeDiff, Nat.reduceMul, reduceIte, reduceCtorEq, Int.reduceEq, Int.reduceLT, Int.reduceLE, Int.reduceNe]
  · simp only [VInstr.cells, WA, Nat.reduceEqDiff, Nat.reduceAdd, Nat.reduceLT, Nat.reduceLeDiff, Nat.reduceMul, reduceIte, reduceCtorEq, Int.reduceEq, Int.reduceLT, Int.reduceLE, Int.reduceNe]
    rw [show [AV.v (Value.string ⟨#[]⟩), AV.v (Value.string ⟨#[105, 110, 116]⟩), AV.v (Value.string ⟨#[115, 116, 114]⟩), AV.v (Value.string ⟨#[108, 97, 98]⟩), AV.v (Value.string ⟨#[109, 111, 118, 101]⟩), AV.v (Value.string ⟨#[108, 111, 97, 100]⟩), AV.v (Value.string ⟨#[115, 116, 111, 114, 101]⟩), AV.v (Value.string ⟨#[]⟩), AV.v (Value.string ⟨#[110, 101, 119]⟩), AV.v (Value.string ⟨#[112, 117, 116]⟩), AV.v (Value.string ⟨#[103, 101, 116]⟩), AV.v (Value.string ⟨#[122, 101, 114, 111]⟩), AV.v (Value.string ⟨#[106, 117, 109, 112]⟩), AV.v (Value.string ⟨#[103, 111]⟩), AV.v (Value.string ⟨#[101, 120, 105, 116]⟩), AV.v (Value.string ⟨#[102, 97, 105, 108]⟩)] = wordL.map avB from rfl]
    have hl : wordL.length = 16 := rfl
    have hlt : x.Op.toNat < wordL.length := by rw [hl]; omega
    have g1 : (wordL.map avB).getD x.Op.toNat .top = avB (wordL.getD x.Op.toNat ⟨#[]⟩) := by
      simp only [List.getD, List.getElem?_map, List.getElem?_eq_getElem hlt, Option.map_some, Option.getD_some]
    simp only [g1, hl, List.length_map, cells_v, List.getD_cons_zero, VInstr.wordM, if_neg h, WA, Nat.reduceEqDiff, Nat.reduceAdd, Nat.reduceLT, Nat.reduceLeDiff, Nat.reduceMul, reduceIte, reduceCtorEq, Int.reduceEq, Int.reduceLT, Int.reduceLE, Int.reduceNe]
    exact ⟨by omega, by omega, by omega⟩
theorem findS_eq (w : ByteArray) : findS w signL = if ⟨#[97, 100, 100]⟩ = w then some ⟨#[43]⟩ else if ⟨#[115, 117, 98]⟩ = w then some ⟨#[45]⟩ else if ⟨#[109, 117, 108]⟩ = w then some ⟨#[42]⟩ else if ⟨#[101, 113]⟩ = w then some ⟨#[61]⟩ else if ⟨#[108, 116]⟩ = w then some ⟨#[60]⟩ else if ⟨#[99, 97, 116]⟩ = w then some ⟨#[94]⟩ else none := by rfl
theorem sign_some (w : ByteArray) : (findS w signL).isSome = (decide (w = ⟨#[97, 100, 100]⟩) || decide (w = ⟨#[115, 117, 98]⟩) || decide (w = ⟨#[109, 117, 108]⟩) || decide (w = ⟨#[101, 113]⟩) || decide (w = ⟨#[108, 116]⟩) || decide (w = ⟨#[99, 97, 116]⟩)) := by
  rw [findS_eq]
  simp only [eq_comm (b := w)]
  by_cases h0 : w = ⟨#[97, 100, 100]⟩
  · simp [h0]
  by_cases h1 : w = ⟨#[115, 117, 98]⟩
  · simp [h1]
  by_cases h2 : w = ⟨#[109, 117, 108]⟩
  · simp [h2]
  by_cases h3 : w = ⟨#[101, 113]⟩
  · simp [h3]
  by_cases h4 : w = ⟨#[108, 116]⟩
  · simp [h4]
  by_cases h5 : w = ⟨#[99, 97, 116]⟩
  · simp [h5]
  simp [h0, h1, h2, h3, h4, h5]
theorem spec_l16Form_c (w : ByteArray) : PCon Tryd.prog F.spec_l16Form [avB w] (.tup [avI (formW w).1, avB (formW w).2.1, avB (formW w).2.2]) := by
  have hv : formW w = formW w := rfl
  conv at hv => rhs; unfold formW
  refine T.spec_l16Form_con rfl rfl ?_
  simp only [T.spec_l16Form, WA, Nat.reduceEqDiff, Nat.reduceAdd, Nat.reduceLT, Nat.reduceLeDiff, Nat.reduceMul, reduceIte, reduceCtorEq, Int.reduceEq, Int.reduceLT, Int.reduceLE, Int.reduceNe]
  refine bind_push ?_
  simp only [WA, Nat.reduceEqDiff, Nat.reduceAdd, Nat.reduceLT, Nat.reduceLeDiff, Nat.reduceMul, reduceIte, reduceCtorEq, Int.reduceEq, Int.reduceLT, Int.reduceLE, Int.reduceNe]
  refine ite_dec (fun h => ?_) (fun h => ?_)
  · rw [if_pos h] at hv
    simp only [hv, WA, Nat.reduceEqDiff, Nat.reduceAdd, Nat.reduceLT, Nat.reduceLeDiff, Nat.reduceMul, reduceIte, reduceCtorEq, Int.reduceEq, Int.reduceLT, Int.reduceLE, Int.reduceNe]
  rw [if_neg h] at hv
  simp only [WA, Nat.reduceEqDiff, Nat.reduceAdd, Nat.reduceLT, Nat.reduceLeDiff, Nat.reduceMul, reduceIte, reduceCtorEq, Int.reduceEq, Int.reduceLT, Int.reduceLE, Int.reduceNe]
  refine ite_dec (fun h => ?_) (fun h => ?_)
  · rw [if_pos h] at hv
    simp only [hv, WA, Nat.reduceEqDiff, Nat.reduceAdd, Nat.reduceLT, Nat.reduceLeDiff, Nat.reduceMul, reduceIte, reduceCtorEq, Int.reduceEq, Int.reduceLT, Int.reduceLE, Int.reduceNe]
  rw [if_neg h] at hv
  simp only [WA, Nat.reduceEqDiff, Nat.reduceAdd, Nat.reduceLT, Nat.reduceLeDiff, Nat.reduceMul, reduceIte, reduceCtorEq, Int.reduceEq, Int.reduceLT, Int.reduceLE, Int.reduceNe]
  refine ite_dec (fun h => ?_) (fun h => ?_)
  · rw [if_pos h] at hv
    simp only [hv, WA, Nat.reduceEqDiff, Nat.reduceAdd, Nat.reduceLT, Nat.reduceLeDiff, Nat.reduceMul, reduceIte, reduceCtorEq, Int.reduceEq, Int.reduceLT, Int.reduceLE, Int.reduceNe]
  rw [if_neg h] at hv
  simp only [WA, Nat.reduceEqDiff, Nat.reduceAdd, Nat.reduceLT, Nat.reduceLeDiff, Nat.reduceMul, reduceIte, reduceCtorEq, Int.reduceEq, Int.reduceLT, Int.reduceLE, Int.reduceNe]
  refine ite_dec (fun h => ?_) (fun h => ?_)
  · rw [if_pos h] at hv
    simp only [hv, WA, Nat.reduceEqDiff, Nat.reduceAdd, Nat.reduceLT, Nat.reduceLeDiff, Nat.reduceMul, reduceIte, reduceCtorEq, Int.reduceEq, Int.reduceLT, Int.reduceLE, Int.reduceNe]
  rw [if_neg h] at hv
  simp only [WA, Nat.reduceEqDiff, Nat.reduceAdd, Nat.reduceLT, Nat.reduceLeDiff, Nat.reduceMul, reduceIte, reduceCtorEq, Int.reduceEq, Int.reduceLT, Int.reduceLE, Int.reduceNe]
  refine ite_dec (fun h => ?_) (fun h => ?_)
  · rw [if_pos h] at hv
    simp only [hv, WA, Nat.reduceEqDiff, Nat.reduceAdd, Nat.reduceLT, Nat.reduceLeDiff, Nat.reduceMul, reduceIte, reduceCtorEq, Int.reduceEq, Int.reduceLT, Int.reduceLE, Int.reduceNe]
  rw [if_neg h] at hv
  simp only [WA, Nat.reduceEqDiff, Nat.reduceAdd, Nat.reduceLT, Nat.reduceLeDiff, Nat.reduceMul, reduceIte, reduceCtorEq, Int.reduceEq, Int.reduceLT, Int.reduceLE, Int.reduceNe]
  refine ite_dec (fun h => ?_) (fun h => ?_)
  · rw [if_pos h] at hv
    simp only [hv, WA, Nat.reduceEqDiff, Nat.reduceAdd, Nat.reduceLT, Nat.reduceLeDiff, Nat.reduceMul, reduceIte, reduceCtorEq, Int.reduceEq, Int.reduceLT, Int.reduceLE, Int.reduceNe]
  rw [if_neg h] at hv
  simp only [WA, Nat.reduceEqDiff, Nat.reduceAdd, Nat.reduceLT, Nat.reduceLeDiff, Nat.reduceMul, reduceIte, reduceCtorEq, Int.reduceEq, Int.reduceLT, Int.reduceLE, Int.reduceNe]
  have hv2 : formO w = formO w := rfl
  conv at hv2 => rhs; unfold formO
  refine bind_cut [.v (.bool (findS w signL).isSome)] rfl ?_ ?_
  · rw [sign_some]
    simp only [WA, Nat.reduceEqDiff, Nat.reduceAdd, Nat.reduceLT, Nat.reduceLeDiff, Nat.reduceMul, reduceIte, reduceCtorEq, Int.reduceEq, Int.reduceLT, Int.reduceLE, Int.reduceNe]
    refine ite_dec (fun h => ?_) (fun h => ?_)
    · simp [h, WA, Nat.reduceEqDiff, Nat.reduceAdd, Nat.reduceLT, Nat.reduceLeDiff, Nat.reduceMul, reduceIte, reduceCtorEq, Int.reduceEq, Int.reduceLT, Int.reduceLE, Int.reduceNe]
    have h0 := decide_eq_false h
    simp only [WA, Nat.reduceEqDiff, Nat.reduceAdd, Nat.reduceLT, Nat.reduceLeDiff, Nat.reduceMul, reduceIte, reduceCtorEq, Int.reduceEq, Int.reduceLT, Int.reduceLE, Int.reduceNe]
    refine ite_dec (fun h => ?_) (fun h => ?_)
    · simp [h, WA, Nat.reduceEqDiff, Nat.reduceAdd, Nat.reduceLT, Nat.reduceLeDiff, Nat.reduceMul, reduceIte, reduceCtorEq, Int.reduceEq, Int.reduceLT, Int.reduceLE, Int.reduceNe]
    have h1 := decide_eq_false h
    simp only [WA, Nat.reduceEqDiff, Nat.reduceAdd, Nat.reduceLT, Nat.reduceLeDiff, Nat.reduceMul, reduceIte, reduceCtorEq, Int.reduceEq, Int.reduceLT, Int.reduceLE, Int.reduceNe]
    refine ite_dec (fun h => ?_) (fun h => ?_)
    · simp [h, WA, Nat.reduceEqDiff, Nat.reduceAdd, Nat.reduceLT, Nat.reduceLeDiff, Nat.reduceMul, reduceIte, reduceCtorEq, Int.reduceEq, Int.reduceLT, Int.reduceLE, Int.reduceNe]
    have h2 := decide_eq_false h
    simp only [WA, Nat.reduceEqDiff, Nat.reduceAdd, Nat.reduceLT, Nat.reduceLeDiff, Nat.reduceMul, reduceIte, reduceCtorEq, Int.reduceEq, Int.reduceLT, Int.reduceLE, Int.reduceNe]
    refine ite_dec (fun h => ?_) (fun h => ?_)
    · simp [h, WA, Nat.reduceEqDiff, Nat.reduceAdd, Nat.reduceLT, Nat.reduceLeDiff, Nat.reduceMul, reduceIte, reduceCtorEq, Int.reduceEq, Int.reduceLT, Int.reduceLE, Int.reduceNe]
    have h3 := decide_eq_false h
    simp only [WA, Nat.reduceEqDiff, Nat.reduceAdd, Nat.reduceLT, Nat.reduceLeDiff, Nat.reduceMul, reduceIte, reduceCtorEq, Int.reduceEq, Int.reduceLT, Int.reduceLE, Int.reduceNe]
    refine ite_dec (fun h => ?_) (fun h => ?_)
    · simp [h, WA, Nat.reduceEqDiff, Nat.reduceAdd, Nat.reduceLT, Nat.reduceLeDiff, Nat.reduceMul, reduceIte, reduceCtorEq, Int.reduceEq, Int.reduceLT, Int.reduceLE, Int.reduceNe]
    have h4 := decide_eq_false h
    simp only [WA, Nat.reduceEqDiff, Nat.reduceAdd, Nat.reduceLT, Nat.reduceLeDiff, Nat.reduceMul, reduceIte, reduceCtorEq, Int.reduceEq, Int.reduceLT, Int.reduceLE, Int.reduceNe]
    simp only [h0, h1, h2, h3, h4, Bool.false_or]
  · cases hs : findS w signL with
    | some q =>
      rw [hs] at hv2
      simp only [Option.isSome_some, hv, hv2, WA, Nat.reduceEqDiff, Nat.reduceAdd, Nat.reduceLT, Nat.reduceLeDiff, Nat.reduceMul, reduceIte, reduceCtorEq, Int.reduceEq, Int.reduceLT, Int.reduceLE, Int.reduceNe]
      rw [show [AV.v (Value.string ⟨#[43]⟩), AV.v (Value.string ⟨#[45]⟩), AV.v (Value.string ⟨#[42]⟩), AV.v (Value.string ⟨#[61]⟩), AV.v (Value.string ⟨#[60]⟩), AV.v (Value.string ⟨#[94]⟩)] = signL.map (fun p => avB p.1) from rfl]
      refine loop_list signL (fun i (_ : Unit) => [avI i]) (fun i rest _ => findS w rest = some q) () rfl hs (fun i k rest b hi hx hm hel hd hg => ?_) (fun b hd hg => ?_)
      · have hd : decide ((i : Int) < 6) = true := hd
        have hi : i < 6 := hi
        have hl : signL.length = 6 := rfl
        have g1 : (signL.map (fun p => avB p.1)).getD i .top = avB k.1 := by simp [List.getD, hx]
        rw [findS] at hg
        simp only [hd, List.length_map, hl, WA, Nat.reduceEqDiff, Nat.reduceAdd, Nat.reduceLT, Nat.reduceLeDiff, Nat.reduceMul, reduceIte, reduceCtorEq, Int.reduceEq, Int.reduceLT, Int.reduceLE, Int.reduceNe]
        refine ⟨by omega, by omega, ?_⟩
        simp only [g1, List.length_map, hl, Int.toNat_natCast, cells_v, List.getD_cons_zero, WA, Nat.reduceEqDiff, Nat.reduceAdd, Nat.reduceLT, Nat.reduceLeDiff, Nat.reduceMul, reduceIte, reduceCtorEq, Int.reduceEq, Int.reduceLT, Int.reduceLE, Int.reduceNe]
        try refine ⟨by omega, by decide, ?_⟩
        refine call_v (spec_l16Name_c k.1) ?_
        simp only [WA, Nat.reduceEqDiff, Nat.reduceAdd, Nat.reduceLT, Nat.reduceLeDiff, Nat.reduceMul, reduceIte, reduceCtorEq, Int.reduceEq, Int.reduceLT, Int.reduceLE, Int.reduceNe]
        refine ite_dec (fun h => ?_) (fun h => ?_)
        · rw [if_pos h] at hg
          cases hg
          simp only [g1, List.length_map, hl, Int.toNat_natCast, cells_v, List.getD_cons_zero, WA, Nat.reduceEqDiff, Nat.reduceAdd, Nat.reduceLT, Nat.reduceLeDiff, Nat.reduceMul, reduceIte, reduceCtorEq, Int.reduceEq, Int.reduceLT, Int.reduceLE, Int.reduceNe]
          exact ⟨by omega, hi⟩
        · rw [if_neg h] at hg
          simp (disch := omega) only [wrapA1, WA, Nat.reduceEqDiff, Nat.reduceAdd, Nat.reduceLT, Nat.reduceLeDiff, Nat.reduceMul, reduceIte, reduceCtorEq, Int.reduceEq, Int.reduceLT, Int.reduceLE, Int.reduceNe]
          first | exact ⟨hi, (), hg⟩ | exact hi
      · rw [findS] at hg; cases hg
    | none =>
      rw [hs] at hv2
      simp only [Option.isSome_none, hv, WA, Nat.reduceEqDiff, Nat.reduceAdd, Nat.reduceLT, Nat.reduceLeDiff, Nat.reduceMul, reduceIte, reduceCtorEq, Int.reduceEq, Int.reduceLT, Int.reduceLE, Int.reduceNe]
      refine ite_dec (fun h => ?_) (fun h => ?_)
      · rw [if_pos h] at hv2
        simp only [hv2, WA, Nat.reduceEqDiff, Nat.reduceAdd, Nat.reduceLT, Nat.reduceLeDiff, Nat.reduceMul, reduceIte, reduceCtorEq, Int.reduceEq, Int.reduceLT, Int.reduceLE, Int.reduceNe]
      rw [if_neg h] at hv2
      simp only [WA, Nat.reduceEqDiff, Nat.reduceAdd, Nat.reduceLT, Nat.reduceLeDiff, Nat.reduceMul, reduceIte, reduceCtorEq, Int.reduceEq, Int.reduceLT, Int.reduceLE, Int.reduceNe]
      refine ite_dec (fun h => ?_) (fun h => ?_)
      · rw [if_pos h] at hv2
        simp only [hv2, WA, Nat.reduceEqDiff, Nat.reduceAdd, Nat.reduceLT, Nat.reduceLeDiff, Nat.reduceMul, reduceIte, reduceCtorEq, Int.reduceEq, Int.reduceLT, Int.reduceLE, Int.reduceNe]
      rw [if_neg h] at hv2
      simp only [WA, Nat.reduceEqDiff, Nat.reduceAdd, Nat.reduceLT, Nat.reduceLeDiff, Nat.reduceMul, reduceIte, reduceCtorEq, Int.reduceEq, Int.reduceLT, Int.reduceLE, Int.reduceNe]
      refine ite_dec (fun h => ?_) (fun h => ?_)
      · rw [if_pos h] at hv2
        simp only [hv2, WA, Nat.reduceEqDiff, Nat.reduceAdd, Nat.reduceLT, Nat.reduceLeDiff, Nat.reduceMul, reduceIte, reduceCtorEq, Int.reduceEq, Int.reduceLT, Int.reduceLE, Int.reduceNe]
      rw [if_neg h] at hv2
      simp only [WA, Nat.reduceEqDiff, Nat.reduceAdd, Nat.reduceLT, Nat.reduceLeDiff, Nat.reduceMul, reduceIte, reduceCtorEq, Int.reduceEq, Int.reduceLT, Int.reduceLE, Int.reduceNe]
      refine ite_dec (fun h => ?_) (fun h => ?_)
      · rw [if_pos h] at hv2
        simp only [hv2, WA, Nat.reduceEqDiff, Nat.reduceAdd, Nat.reduceLT, Nat.reduceLeDiff, Nat.reduceMul, reduceIte, reduceCtorEq, Int.reduceEq, Int.reduceLT, Int.reduceLE, Int.reduceNe]
      rw [if_neg h] at hv2
      simp only [WA, Nat.reduceEqDiff, Nat.reduceAdd, Nat.reduceLT, Nat.reduceLeDiff, Nat.reduceMul, reduceIte, reduceCtorEq, Int.reduceEq, Int.reduceLT, Int.reduceLE, Int.reduceNe]
      refine ite_dec (fun h => ?_) (fun h => ?_)
      · rw [if_pos h] at hv2
        simp only [hv2, WA, Nat.reduceEqDiff, Nat.reduceAdd, Nat.reduceLT, Nat.reduceLeDiff, Nat.reduceMul, reduceIte, reduceCtorEq, Int.reduceEq, Int.reduceLT, Int.reduceLE, Int.reduceNe]
      rw [if_neg h] at hv2
      simp only [WA, Nat.reduceEqDiff, Nat.reduceAdd, Nat.reduceLT, Nat.reduceLeDiff, Nat.reduceMul, reduceIte, reduceCtorEq, Int.reduceEq, Int.reduceLT, Int.reduceLE, Int.reduceNe]
      refine ite_dec (fun h => ?_) (fun h => ?_)
      · rw [if_pos h] at hv2
        simp only [hv2, WA, Nat.reduceEqDiff, Nat.reduceAdd, Nat.reduceLT, Nat.reduceLeDiff, Nat.reduceMul, reduceIte, reduceCtorEq, Int.reduceEq, Int.reduceLT, Int.reduceLE, Int.reduceNe]
      rw [if_neg h] at hv2
      simp only [WA, Nat.reduceEqDiff, Nat.reduceAdd, Nat.reduceLT, Nat.reduceLeDiff, Nat.reduceMul, reduceIte, reduceCtorEq, Int.reduceEq, Int.reduceLT, Int.reduceLE, Int.reduceNe]
      refine ite_dec (fun h => ?_) (fun h => ?_)
      · rw [if_pos h] at hv2
        simp only [hv2, WA, Nat.reduceEqDiff, Nat.reduceAdd, Nat.reduceLT, Nat.reduceLeDiff, Nat.reduceMul, reduceIte, reduceCtorEq, Int.reduceEq, Int.reduceLT, Int.reduceLE, Int.reduceNe]
      rw [if_neg h] at hv2
      simp only [WA, Nat.reduceEqDiff, Nat.reduceAdd, Nat.reduceLT, Nat.reduceLeDiff, Nat.reduceMul, reduceIte, reduceCtorEq, Int.reduceEq, Int.reduceLT, Int.reduceLE, Int.reduceNe]
      refine ite_dec (fun h => ?_) (fun h => ?_)
      · rw [if_pos h] at hv2
        simp only [hv2, WA, Nat.reduceEqDiff, Nat.reduceAdd, Nat.reduceLT, Nat.reduceLeDiff, Nat.reduceMul, reduceIte, reduceCtorEq, Int.reduceEq, Int.reduceLT, Int.reduceLE, Int.reduceNe]
      rw [if_neg h] at hv2
      simp only [WA, Nat.reduceEqDiff, Nat.reduceAdd, Nat.reduceLT, Nat.reduceLeDiff, Nat.reduceMul, reduceIte, reduceCtorEq, Int.reduceEq, Int.reduceLT, Int.reduceLE, Int.reduceNe]
      refine ite_dec (fun h => ?_) (fun h => ?_)
      · rw [if_pos h] at hv2
        simp only [hv2, WA, Nat.reduceEqDiff, Nat.reduceAdd, Nat.reduceLT, Nat.reduceLeDiff, Nat.reduceMul, reduceIte, reduceCtorEq, Int.reduceEq, Int.reduceLT, Int.reduceLE, Int.reduceNe]
      rw [if_neg h] at hv2
      simp only [WA, Nat.reduceEqDiff, Nat.reduceAdd, Nat.reduceLT, Nat.reduceLeDiff, Nat.reduceMul, reduceIte, reduceCtorEq, Int.reduceEq, Int.reduceLT, Int.reduceLE, Int.reduceNe]
      refine ite_dec (fun h => ?_) (fun h => ?_)
      · rw [if_pos h] at hv2
        simp only [hv2, WA, Nat.reduceEqDiff, Nat.reduceAdd, Nat.reduceLT, Nat.reduceLeDiff, Nat.reduceMul, reduceIte, reduceCtorEq, Int.reduceEq, Int.reduceLT, Int.reduceLE, Int.reduceNe]
      rw [if_neg h] at hv2
      simp only [WA, Nat.reduceEqDiff, Nat.reduceAdd, Nat.reduceLT, Nat.reduceLeDiff, Nat.reduceMul, reduceIte, reduceCtorEq, Int.reduceEq, Int.reduceLT, Int.reduceLE, Int.reduceNe]
      refine ite_dec (fun h => ?_) (fun h => ?_)
      · rw [if_pos h] at hv2
        simp only [hv2, WA, Nat.reduceEqDiff, Nat.reduceAdd, Nat.reduceLT, Nat.reduceLeDiff, Nat.reduceMul, reduceIte, reduceCtorEq, Int.reduceEq, Int.reduceLT, Int.reduceLE, Int.reduceNe]
      rw [if_neg h] at hv2
      simp only [WA, Nat.reduceEqDiff, Nat.reduceAdd, Nat.reduceLT, Nat.reduceLeDiff, Nat.reduceMul, reduceIte, reduceCtorEq, Int.reduceEq, Int.reduceLT, Int.reduceLE, Int.reduceNe]
      simp only [hv2]
theorem spec_l16Line_c (x : VInstr) (h0 : 0 ≤ x.Op) (h1 : x.Op < 16) (hi : x.inM) (hb : x.wt ≤ 1048576) : PCon Tryd.prog F.spec_l16Line [x.av] (avB x.lineM) := by
  have hw := x.wt_eq
  obtain ⟨⟨a0, a1⟩, ⟨b0, b1⟩, ⟨c0, c1⟩, n0, n1⟩ := id hi
  refine T.spec_l16Line_con rfl (by simp [AV.norefs, AV.noref, VInstr.noref]) ?_
  simp only [T.spec_l16Line, VInstr.cells, VInstr.isAgg, VInstr.storable, VInstr.width, WA, Nat.reduceEqDiff, Nat.reduceAdd, Nat.reduceLT, Nat.reduceLeDiff, Nat.reduceMul, reduceIte, reduceCtorEq, Int.reduceEq, Int.reduceLT, Int.reduceLE, Int.reduceNe]
  refine call_v (spec_l16Word_c x h0 h1) ?_
  simp only [WA, Nat.reduceEqDiff, Nat.reduceAdd, Nat.reduceLT, Nat.reduceLeDiff, Nat.reduceMul, reduceIte, reduceCtorEq, Int.reduceEq, Int.reduceLT, Int.reduceLE, Int.reduceNe]
  have hfs := form_size x.wordM
  have hws := x.word_size
  have hps := x.piece_size hi
  have hl : x.lineM = x.piecesM (bs (formW x.wordM).2.2) x.wordM := rfl
  refine call_p (spec_l16Form_c x.wordM) (by simp [AV.noref, AV.norefs]) ?_
  simp only [VInstr.cells, WA, Nat.reduceEqDiff, Nat.reduceAdd, Nat.reduceLT, Nat.reduceLeDiff, Nat.reduceMul, reduceIte, reduceCtorEq, Int.reduceEq, Int.reduceLT, Int.reduceLE, Int.reduceNe]
  generalize (formW x.wordM).2.2 = p at *
  generalize x.wordM = wd at *
  refine bind_cut [avB x.lineM] rfl ?_ ?_
  · simp only [WA, Nat.reduceEqDiff, Nat.reduceAdd, Nat.reduceLT, Nat.reduceLeDiff, Nat.reduceMul, reduceIte, reduceCtorEq, Int.reduceEq, Int.reduceLT, Int.reduceLE, Int.reduceNe]
    refine loop_bytes p (fun i (acc : ByteArray) => [avB acc, avI i]) (fun i rest acc => x.lineM = x.piecesM rest acc ∧ acc.size ≤ x.Text.size + 8 + i * (2 * x.Text.size + 27)) wd rfl ⟨hl, by omega⟩ (fun i k rest acc hi' hx hm hix hd hc0 hc1 hw8 hg => ?_) (fun acc hd hg => ?_)
    · obtain ⟨hg1, hg2⟩ := hg
      have hpk := hps k
      have hk : x.pieceM k = if k = 97 then byteSp ++ (byteB 114 ++ numB x.A) else if k = 98 then byteSp ++ (byteB 114 ++ numB x.B) else if k = 99 then byteSp ++ (byteB 114 ++ numB x.C) else if k = 110 then byteSp ++ numB x.N else if k = 116 then byteSp ++ quotedB x.Text else ⟨#[]⟩ := rfl
      have hmul : i * (2 * x.Text.size + 27) ≤ 3 * (2 * x.Text.size + 27) := Nat.mul_le_mul_right _ (by omega)
      rw [VInstr.piecesM] at hg1
      have fin : (acc ++ x.pieceM k).size ≤ x.Text.size + 8 + (i + 1) * (2 * x.Text.size + 27) := by
        rw [app_size, Nat.add_mul]; omega
      simp only [hd, WA, Nat.reduceEqDiff, Nat.reduceAdd, Nat.reduceLT, Nat.reduceLeDiff, Nat.reduceMul, reduceIte, reduceCtorEq, Int.reduceEq, Int.reduceLT, Int.reduceLE, Int.reduceNe]
      refine bind_cut [avB (acc ++ x.pieceM k)] rfl ?_ ?_
      · simp only [hix, WA, Nat.reduceEqDiff, Nat.reduceAdd, Nat.reduceLT, Nat.reduceLeDiff, Nat.reduceMul, reduceIte, reduceCtorEq, Int.reduceEq, Int.reduceLT, Int.reduceLE, Int.reduceNe]
        refine ite_dec (fun h => ?_) (fun h => ?_)
        · rw [if_pos h] at hk
          rw [hk] at hpk ⊢
          simp only [app_size, byteSp_size] at hpk
          simp only [sp_eq, byteSp_size, WA, Nat.reduceEqDiff, Nat.reduceAdd, Nat.reduceLT, Nat.reduceLeDiff, Nat.reduceMul, reduceIte, reduceCtorEq, Int.reduceEq, Int.reduceLT, Int.reduceLE, Int.reduceNe]
          refine ⟨by omega, ?_⟩
          refine call_v (spec_l16Reg_c x.A a0 a1) ?_
          simp only [app_size, byteSp_size, appA, WA, Nat.reduceEqDiff, Nat.reduceAdd, Nat.reduceLT, Nat.reduceLeDiff, Nat.reduceMul, reduceIte, reduceCtorEq, Int.reduceEq, Int.reduceLT, Int.reduceLE, Int.reduceNe]
          omega
        rw [if_neg h] at hk
        simp only [WA, Nat.reduceEqDiff, Nat.reduceAdd, Nat.reduceLT, Nat.reduceLeDiff, Nat.reduceMul, reduceIte, reduceCtorEq, Int.reduceEq, Int.reduceLT, Int.reduceLE, Int.reduceNe]
        refine ite_dec (fun h => ?_) (fun h => ?_)
        · rw [if_pos h] at hk
          rw [hk] at hpk ⊢
          simp only [app_size, byteSp_size] at hpk
          simp only [sp_eq, byteSp_size, WA, Nat.reduceEqDiff, Nat.reduceAdd, Nat.reduceLT, Nat.reduceLeDiff, Nat.reduceMul, reduceIte, reduceCtorEq, Int.reduceEq, Int.reduceLT, Int.reduceLE, Int.reduceNe]
          refine ⟨by omega, ?_⟩
          refine call_v (spec_l16Reg_c x.B b0 b1) ?_
          simp only [app_size, byteSp_size, appA, WA, Nat.reduceEqDiff, Nat.reduceAdd, Nat.reduceLT, Nat.reduceLeDiff, Nat.reduceMul, reduceIte, reduceCtorEq, Int.reduceEq, Int.reduceLT, Int.reduceLE, Int.reduceNe]
          omega
        rw [if_neg h] at hk
        simp only [WA, Nat.reduceEqDiff, Nat.reduceAdd, Nat.reduceLT, Nat.reduceLeDiff, Nat.reduceMul, reduceIte, reduceCtorEq, Int.reduceEq, Int.reduceLT, Int.reduceLE, Int.reduceNe]
        refine ite_dec (fun h => ?_) (fun h => ?_)
        · rw [if_pos h] at hk
          rw [hk] at hpk ⊢
          simp only [app_size, byteSp_size] at hpk
          simp only [sp_eq, byteSp_size, WA, Nat.reduceEqDiff, Nat.reduceAdd, Nat.reduceLT, Nat.reduceLeDiff, Nat.reduceMul, reduceIte, reduceCtorEq, Int.reduceEq, Int.reduceLT, Int.reduceLE, Int.reduceNe]
          refine ⟨by omega, ?_⟩
          refine call_v (spec_l16Reg_c x.C c0 c1) ?_
          simp only [app_size, byteSp_size, appA, WA, Nat.reduceEqDiff, Nat.reduceAdd, Nat.reduceLT, Nat.reduceLeDiff, Nat.reduceMul, reduceIte, reduceCtorEq, Int.reduceEq, Int.reduceLT, Int.reduceLE, Int.reduceNe]
          omega
        rw [if_neg h] at hk
        simp only [WA, Nat.reduceEqDiff, Nat.reduceAdd, Nat.reduceLT, Nat.reduceLeDiff, Nat.reduceMul, reduceIte, reduceCtorEq, Int.reduceEq, Int.reduceLT, Int.reduceLE, Int.reduceNe]
        refine ite_dec (fun h => ?_) (fun h => ?_)
        · rw [if_pos h] at hk
          rw [hk] at hpk ⊢
          simp only [app_size, byteSp_size] at hpk
          simp only [sp_eq, byteSp_size, WA, Nat.reduceEqDiff, Nat.reduceAdd, Nat.reduceLT, Nat.reduceLeDiff, Nat.reduceMul, reduceIte, reduceCtorEq, Int.reduceEq, Int.reduceLT, Int.reduceLE, Int.reduceNe]
          refine ⟨by omega, ?_⟩
          refine call_v (spec_l1Decimal_a x.N n0 n1) ?_
          simp only [app_size, byteSp_size, appA, WA, Nat.reduceEqDiff, Nat.reduceAdd, Nat.reduceLT, Nat.reduceLeDiff, Nat.reduceMul, reduceIte, reduceCtorEq, Int.reduceEq, Int.reduceLT, Int.reduceLE, Int.reduceNe]
          omega
        rw [if_neg h] at hk
        simp only [WA, Nat.reduceEqDiff, Nat.reduceAdd, Nat.reduceLT, Nat.reduceLeDiff, Nat.reduceMul, reduceIte, reduceCtorEq, Int.reduceEq, Int.reduceLT, Int.reduceLE, Int.reduceNe]
        refine ite_dec (fun h => ?_) (fun h => ?_)
        · rw [if_pos h] at hk
          rw [hk] at hpk ⊢
          simp only [app_size, byteSp_size] at hpk
          simp only [sp_eq, byteSp_size, WA, Nat.reduceEqDiff, Nat.reduceAdd, Nat.reduceLT, Nat.reduceLeDiff, Nat.reduceMul, reduceIte, reduceCtorEq, Int.reduceEq, Int.reduceLT, Int.reduceLE, Int.reduceNe]
          refine ⟨by omega, ?_⟩
          refine call_v (spec_l1Quoted_c x.Text (by omega)) ?_
          simp only [app_size, byteSp_size, appA, WA, Nat.reduceEqDiff, Nat.reduceAdd, Nat.reduceLT, Nat.reduceLeDiff, Nat.reduceMul, reduceIte, reduceCtorEq, Int.reduceEq, Int.reduceLT, Int.reduceLE, Int.reduceNe]
          omega
        · rw [if_neg h] at hk
          simp only [hk, appE, WA, Nat.reduceEqDiff, Nat.reduceAdd, Nat.reduceLT, Nat.reduceLeDiff, Nat.reduceMul, reduceIte, reduceCtorEq, Int.reduceEq, Int.reduceLT, Int.reduceLE, Int.reduceNe]
      · simp (disch := omega) only [wrapA1, WA, Nat.reduceEqDiff, Nat.reduceAdd, Nat.reduceLT, Nat.reduceLeDiff, Nat.reduceMul, reduceIte, reduceCtorEq, Int.reduceEq, Int.reduceLT, Int.reduceLE, Int.reduceNe]
        exact ⟨hi', _, ⟨hg1, fin⟩, rfl⟩
    · rw [VInstr.piecesM] at hg
      simp only [hd, hg.1, WA, Nat.reduceEqDiff, Nat.reduceAdd, Nat.reduceLT, Nat.reduceLeDiff, Nat.reduceMul, reduceIte, reduceCtorEq, Int.reduceEq, Int.reduceLT, Int.reduceLE, Int.reduceNe]
  · simp only [WA, Nat.reduceEqDiff, Nat.reduceAdd, Nat.reduceLT, Nat.reduceLeDiff, Nat.reduceMul, reduceIte, reduceCtorEq, Int.reduceEq, Int.reduceLT, Int.reduceLE, Int.reduceNe]
end Go.Proofs.Ab
