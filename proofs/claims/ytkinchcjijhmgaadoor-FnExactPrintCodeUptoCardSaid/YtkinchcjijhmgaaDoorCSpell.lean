/-
  TOKENS SPELLED: numerals, quoted texts, tokens, lists of tokens.
-/
import Derived.Test.YtkinchcjijhmgaaDoorCDoor
import Derived.Test.YtkinchcjijhmgaaDoorCTok
set_option linter.unusedVariables false
set_option linter.unusedSimpArgs false
set_option linter.defProp false
namespace Go.Ab
set_option maxRecDepth 100000
set_option maxHeartbeats 4000000
/-- one byte -/
def byteB (c : Int) : ByteArray := ⟨#[UInt8.ofNat c.toNat]⟩
theorem ysS_app (a b : ByteArray) : ysS a ++ ysS b = ysS (a ++ b) := by
  simp only [ysS, app_list, List.map_append]
theorem ysS_byte (c : Int) (h0 : 0 ≤ c) (h1 : c < 256) : [AV.v (.int .u8 c)] = ysS (byteB c) := by
  have : (UInt8.ofNat c.toNat).toNat = c.toNat := by
    simp [UInt8.toNat_ofNat]; omega
  simp only [ysS, byteB, List.map_cons, List.map_nil, this, Int.toNat_of_nonneg h0]
theorem y1 (acc : ByteArray) (c : Int) (h0 : 0 ≤ c) (h1 : c < 256) : ysS acc ++ [AV.v (.int .u8 c)] = ysS (acc ++ byteB c) := by
  rw [ysS_byte c h0 h1, ysS_app]
theorem y2 (acc : ByteArray) (a c : Int) (h0 : 0 ≤ a) (h1 : a < 256) (h2 : 0 ≤ c) (h3 : c < 256) : ysS acc ++ [AV.v (.int .u8 a), AV.v (.int .u8 c)] = ysS (acc ++ (byteB a ++ byteB c)) := by
  have : [AV.v (.int .u8 a), AV.v (.int .u8 c)] = [AV.v (.int .u8 a)] ++ [AV.v (.int .u8 c)] := rfl
  rw [this, ysS_byte a h0 h1, ysS_byte c h2 h3, ysS_app, ysS_app]
theorem byteB_size (c : Int) : (byteB c).size = 1 := rfl
/-- what stands for a byte between quotes -/
def quo1 (c : Int) : ByteArray := if c = 10 then byteB 92 ++ byteB 110 else if c = 34 ∨ c = 92 then byteB 92 ++ byteB c else byteB c
def quoB : List Int → ByteArray
  | [] => ⟨#[]⟩
  | c :: r => quo1 c ++ quoB r
def quotedB (s : ByteArray) : ByteArray := byteB 34 ++ quoB (bs s) ++ byteB 34
theorem quo1_size (c : Int) : (quo1 c).size ≤ 2 := by
  unfold quo1
  split
  · simp [app_size, byteB_size]
  · split <;> simp [app_size, byteB_size]
theorem quoB_size : ∀ l : List Int, (quoB l).size ≤ 2 * l.length
  | [] => Nat.le_refl _
  | c :: r => by
    have := quo1_size c
    have := quoB_size r
    rw [quoB, app_size, List.length_cons]; omega
/-- a numeral -/
def figB (u : Nat) : ByteArray := ⟨(Lib.decDigits u).toArray⟩
theorem numB_nat (u : Nat) : numB u = figB u := by
  unfold numB figB Lib.itoa
  rw [if_neg (by omega)]
  simp
theorem figB_eq (u : Nat) : figB u = if u < 10 then byteB (48 + u) else figB (u / 10) ++ byteB (48 + (u % 10 : Nat)) := by
  have e : ∀ k : Nat, ((48 : Int) + (k : Int)).toNat = 48 + k := fun k => by omega
  unfold figB byteB
  rw [Lib.decDigits]
  split
  · rw [e]
  · rw [e]
    exact bytes_ext (by rw [app_list])
theorem figB_20 : ∀ (k u : Nat), u < 10 ^ (k + 1) → (figB u).size ≤ k + 1
  | 0, u, h => by rw [figB_eq, if_pos (by omega), byteB_size]; omega
  | k + 1, u, h => by
    rw [figB_eq]
    split
    · rw [byteB_size]; omega
    · have := figB_20 k (u / 10) (by rw [Nat.pow_succ] at h; omega)
      rw [app_size, byteB_size]; omega
theorem numB_size (n : Int) (h0 : 0 ≤ n) (h1 : n ≤ 9223372036854775807) : (numB n).size ≤ 20 := by
  obtain ⟨u, rfl⟩ : ∃ u : Nat, n = u := ⟨n.toNat, by omega⟩
  rw [numB_nat]
  exact figB_20 19 u (by omega)
theorem quotedB_size (s : ByteArray) : (quotedB s).size ≤ 2 * s.size + 2 := by
  have := quoB_size (bs s)
  rw [bs_len] at this
  unfold quotedB
  simp only [app_size, byteB_size]; omega
def byteSp : ByteArray := ⟨#[32]⟩
end Go.Ab
namespace Go.Proofs.Ab
open Go.Ab
set_option maxRecDepth 100000
set_option maxHeartbeats 4000000
theorem digit_wrap (u : Nat) (h : u < 10) : IntKind.u8.wrap (IntKind.u64.wrap (48 + (u : Int))) = 48 + (u : Int) := by
  simp [IntKind.wrap, IntKind.signed, IntKind.bits]; omega
theorem spec_l1Figures_c (u : Nat) (hu : u < 18446744073709551616) : PCon Tryd.prog F.spec_l1Figures [.v (.int .u64 u)] (avB (figB u)) := by
  have hv := figB_eq u
  refine T.spec_l1Figures_con rfl rfl ?_
  simp only [T.spec_l1Figures, WA, Nat.reduceEqDiff, Nat.reduceAdd, Nat.reduceLT, Nat.reduceLeDiff, Nat.reduceMul, reduceIte, reduceCtorEq, Int.reduceEq, Int.reduceLT, Int.reduceLE, Int.reduceNe]
  refine ite_dec (fun h => ?_) (fun h => ?_)
  · rw [if_pos (by omega)] at hv
    simp only [WA, Nat.reduceEqDiff, Nat.reduceAdd, Nat.reduceLT, Nat.reduceLeDiff, Nat.reduceMul, reduceIte, reduceCtorEq, Int.reduceEq, Int.reduceLT, Int.reduceLE, Int.reduceNe]
    rw [digit_wrap u (by omega), ysS_byte _ (by omega) (by omega)]
    simp only [hv, WA, Nat.reduceEqDiff, Nat.reduceAdd, Nat.reduceLT, Nat.reduceLeDiff, Nat.reduceMul, reduceIte, reduceCtorEq, Int.reduceEq, Int.reduceLT, Int.reduceLE, Int.reduceNe]
  · rw [if_neg (by omega)] at hv
    have e1 : IntKind.u64.wrap ((u : Int).tdiv 10) = ((u / 10 : Nat) : Int) := by
      have : (u : Int).tdiv 10 = ((u / 10 : Nat) : Int) := rfl
      rw [this]
      simp [IntKind.wrap, IntKind.signed, IntKind.bits]; omega
    have e2 : (u : Int).tmod 10 = ((u % 10 : Nat) : Int) := rfl
    simp only [e1, WA, Nat.reduceEqDiff, Nat.reduceAdd, Nat.reduceLT, Nat.reduceLeDiff, Nat.reduceMul, reduceIte, reduceCtorEq, Int.reduceEq, Int.reduceLT, Int.reduceLE, Int.reduceNe]
    refine call_v (spec_l1Figures_c (u / 10) (by omega)) ?_
    simp only [e2, WA, Nat.reduceEqDiff, Nat.reduceAdd, Nat.reduceLT, Nat.reduceLeDiff, Nat.reduceMul, reduceIte, reduceCtorEq, Int.reduceEq, Int.reduceLT, Int.reduceLE, Int.reduceNe]
    rw [digit_wrap (u % 10) (by omega), ysS_byte _ (by omega) (by omega)]
    have hs := figB_20 19 (u / 10) (by omega)
    simp only [byteB_size, WA, Nat.reduceEqDiff, Nat.reduceAdd, Nat.reduceLT, Nat.reduceLeDiff, Nat.reduceMul, reduceIte, reduceCtorEq, Int.reduceEq, Int.reduceLT, Int.reduceLE, Int.reduceNe]
    refine ⟨by omega, ?_⟩
    simp only [hv, WA, Nat.reduceEqDiff, Nat.reduceAdd, Nat.reduceLT, Nat.reduceLeDiff, Nat.reduceMul, reduceIte, reduceCtorEq, Int.reduceEq, Int.reduceLT, Int.reduceLE, Int.reduceNe]
termination_by u
decreasing_by omega
theorem spec_l1Decimal_c (n : Int) (h0 : 0 ≤ n) (h1 : n ≤ 9223372036854775807) : PCon Tryd.prog F.spec_l1Decimal [avI n] (avB (numB n)) := by
  obtain ⟨u, rfl⟩ : ∃ u : Nat, n = u := ⟨n.toNat, by omega⟩
  have e1 : IntKind.u64.wrap (u : Int) = u := by simp [IntKind.wrap, IntKind.signed, IntKind.bits]; omega
  rw [numB_nat]
  refine T.spec_l1Decimal_con rfl rfl ?_
  simp only [T.spec_l1Decimal, lt0, e1, WA, Nat.reduceEqDiff, Nat.reduceAdd, Nat.reduceLT, Nat.reduceLeDiff, Nat.reduceMul, reduceIte, reduceCtorEq, Int.reduceEq, Int.reduceLT, Int.reduceLE, Int.reduceNe]
  refine call_v (spec_l1Figures_c u (by omega)) ?_
  simp only [WA, Nat.reduceEqDiff, Nat.reduceAdd, Nat.reduceLT, Nat.reduceLeDiff, Nat.reduceMul, reduceIte, reduceCtorEq, Int.reduceEq, Int.reduceLT, Int.reduceLE, Int.reduceNe]
theorem quoted_T {L : AX → SS → List AV → Prop} (s : ByteArray) (hs : s.size ≤ 1048576) : wpT Tryd.prog L (fun a => a = avB (quotedB s)) T.impl_quoted [avB s] [] := by
  simp only [T.impl_quoted, WA, Nat.reduceEqDiff, Nat.reduceAdd, Nat.reduceLT, Nat.reduceLeDiff, Nat.reduceMul, reduceIte, reduceCtorEq, Int.reduceEq, Int.reduceLT, Int.reduceLE, Int.reduceNe]
  rw [ysS_byte 34 (by omega) (by omega)]
  have hq := quoB_size (bs s)
  rw [bs_len] at hq
  refine bind_cut [.sl (ysS (byteB 34 ++ quoB (bs s)))] rfl ?_ ?_
  · simp only [WA, Nat.reduceEqDiff, Nat.reduceAdd, Nat.reduceLT, Nat.reduceLeDiff, Nat.reduceMul, reduceIte, reduceCtorEq, Int.reduceEq, Int.reduceLT, Int.reduceLE, Int.reduceNe]
    refine loop_bytes s (fun i (acc : ByteArray) => [.sl (ysS acc), avI i]) (fun i rest acc => byteB 34 ++ quoB (bs s) = acc ++ quoB rest ∧ acc.size ≤ 2 * i + 1) (byteB 34) rfl ⟨rfl, Nat.le_refl _⟩ (fun i k rest acc hi hx hm hix hd hc0 hc1 hw8 hg => ?_) (fun acc hd hg => ?_)
    · obtain ⟨hg1, hg2⟩ := hg
      rw [quoB] at hg1
      have hq1 : quo1 k = if k = 10 then byteB 92 ++ byteB 110 else if k = 34 ∨ k = 92 then byteB 92 ++ byteB k else byteB k := rfl
      have fin : ∀ acc', acc' = acc ++ quo1 k → i < s.size ∧ ∃ b', (byteB 34 ++ quoB (bs s) = b' ++ quoB rest ∧ b'.size ≤ 2 * (i + 1) + 1) ∧ [AV.sl (ysS acc'), avI ((i + 1 : Nat) : Int)] = [.sl (ysS b'), avI ((i + 1 : Nat) : Int)] := by
        rintro acc' rfl
        refine ⟨hi, _, ⟨?_, ?_⟩, rfl⟩
        · rw [hg1, appA]
        · have := quo1_size k
          rw [app_size]; omega
      simp only [hd, WA, Nat.reduceEqDiff, Nat.reduceAdd, Nat.reduceLT, Nat.reduceLeDiff, Nat.reduceMul, reduceIte, reduceCtorEq, Int.reduceEq, Int.reduceLT, Int.reduceLE, Int.reduceNe]
      refine bind_push ?_
      simp only [hix, WA, Nat.reduceEqDiff, Nat.reduceAdd, Nat.reduceLT, Nat.reduceLeDiff, Nat.reduceMul, reduceIte, reduceCtorEq, Int.reduceEq, Int.reduceLT, Int.reduceLE, Int.reduceNe]
      refine ite_dec (fun h => ?_) (fun h => ?_)
      · rw [if_pos h] at hq1
        simp (disch := omega) only [ysS_len, WA, Nat.reduceEqDiff, Nat.reduceAdd, Nat.reduceLT, Nat.reduceLeDiff, Nat.reduceMul, reduceIte, reduceCtorEq, Int.reduceEq, Int.reduceLT, Int.reduceLE, Int.reduceNe]
        refine ⟨by simp [AV.cells], by omega, by omega, ?_⟩
        simp (disch := omega) only [wrapA1, WA, Nat.reduceEqDiff, Nat.reduceAdd, Nat.reduceLT, Nat.reduceLeDiff, Nat.reduceMul, reduceIte, reduceCtorEq, Int.reduceEq, Int.reduceLT, Int.reduceLE, Int.reduceNe]
        rw [y2 _ _ _ (by omega) (by omega) (by omega) (by omega)]
        exact fin _ (by rw [hq1])
      · rw [if_neg h] at hq1
        simp only [WA, Nat.reduceEqDiff, Nat.reduceAdd, Nat.reduceLT, Nat.reduceLeDiff, Nat.reduceMul, reduceIte, reduceCtorEq, Int.reduceEq, Int.reduceLT, Int.reduceLE, Int.reduceNe]
        refine bind_post (fun vs => vs = [.v (.bool (decide (k = 34 ∨ k = 92)))]) ?_ ?_
        · simp only [WA, Nat.reduceEqDiff, Nat.reduceAdd, Nat.reduceLT, Nat.reduceLeDiff, Nat.reduceMul, reduceIte, reduceCtorEq, Int.reduceEq, Int.reduceLT, Int.reduceLE, Int.reduceNe]
          refine ite_dec (fun h => ?_) (fun h => ?_) <;> simp [h, WA, Nat.reduceEqDiff, Nat.reduceAdd, Nat.reduceLT, Nat.reduceLeDiff, Nat.reduceMul, reduceIte, reduceCtorEq, Int.reduceEq, Int.reduceLT, Int.reduceLE, Int.reduceNe]
        · rintro vs rfl _
          simp only [WA, Nat.reduceEqDiff, Nat.reduceAdd, Nat.reduceLT, Nat.reduceLeDiff, Nat.reduceMul, reduceIte, reduceCtorEq, Int.reduceEq, Int.reduceLT, Int.reduceLE, Int.reduceNe]
          refine ite_dec (fun h => ?_) (fun h => ?_)
          · rw [if_pos h] at hq1
            simp only [hix, WA, Nat.reduceEqDiff, Nat.reduceAdd, Nat.reduceLT, Nat.reduceLeDiff, Nat.reduceMul, reduceIte, reduceCtorEq, Int.reduceEq, Int.reduceLT, Int.reduceLE, Int.reduceNe]
            simp (disch := omega) only [ysS_len, WA, Nat.reduceEqDiff, Nat.reduceAdd, Nat.reduceLT, Nat.reduceLeDiff, Nat.reduceMul, reduceIte, reduceCtorEq, Int.reduceEq, Int.reduceLT, Int.reduceLE, Int.reduceNe]
            refine ⟨by simp [AV.cells], by omega, by omega, ?_⟩
            simp (disch := omega) only [wrapA1, WA, Nat.reduceEqDiff, Nat.reduceAdd, Nat.reduceLT, Nat.reduceLeDiff, Nat.reduceMul, reduceIte, reduceCtorEq, Int.reduceEq, Int.reduceLT, Int.reduceLE, Int.reduceNe]
            rw [y2 _ _ _ (by omega) (by omega) (by omega) (by omega)]
            exact fin _ (by rw [hq1])
          · rw [if_neg h] at hq1
            simp only [hix, WA, Nat.reduceEqDiff, Nat.reduceAdd, Nat.reduceLT, Nat.reduceLeDiff, Nat.reduceMul, reduceIte, reduceCtorEq, Int.reduceEq, Int.reduceLT, Int.reduceLE, Int.reduceNe]
            simp (disch := omega) only [ysS_len, WA, Nat.reduceEqDiff, Nat.reduceAdd, Nat.reduceLT, Nat.reduceLeDiff, Nat.reduceMul, reduceIte, reduceCtorEq, Int.reduceEq, Int.reduceLT, Int.reduceLE, Int.reduceNe]
            refine ⟨by simp [AV.cells], by omega, by omega, ?_⟩
            simp (disch := omega) only [wrapA1, WA, Nat.reduceEqDiff, Nat.reduceAdd, Nat.reduceLT, Nat.reduceLeDiff, Nat.reduceMul, reduceIte, reduceCtorEq, Int.reduceEq, Int.reduceLT, Int.reduceLE, Int.reduceNe]
            rw [y1 _ _ (by omega) (by omega)]
            exact fin _ (by rw [hq1])
    · rw [quoB, appE] at hg
      simp only [hd, hg.1, WA, Nat.reduceEqDiff, Nat.reduceAdd, Nat.reduceLT, Nat.reduceLeDiff, Nat.reduceMul, reduceIte, reduceCtorEq, Int.reduceEq, Int.reduceLT, Int.reduceLE, Int.reduceNe]
  · have hz : (byteB 34 ++ quoB (bs s)).size ≤ 2 * s.size + 1 := by rw [app_size, byteB_size]; omega
    simp only [ysS_len, WA, Nat.reduceEqDiff, Nat.reduceAdd, Nat.reduceLT, Nat.reduceLeDiff, Nat.reduceMul, reduceIte, reduceCtorEq, Int.reduceEq, Int.reduceLT, Int.reduceLE, Int.reduceNe]
    refine ⟨by simp [AV.cells], by omega, by omega, ?_⟩
    rw [y1 _ _ (by omega) (by omega)]
    simp only [WA, Nat.reduceEqDiff, Nat.reduceAdd, Nat.reduceLT, Nat.reduceLeDiff, Nat.reduceMul, reduceIte, reduceCtorEq, Int.reduceEq, Int.reduceLT, Int.reduceLE, Int.reduceNe, quotedB]
theorem spec_l1Quoted_c (s : ByteArray) (hs : s.size ≤ 1048576) : PCon Tryd.prog F.spec_l1Quoted [avB s] (avB (quotedB s)) := T.spec_l1Quoted_con rfl rfl (quoted_T s hs)
theorem impl_quoted_c (s : ByteArray) (hs : s.size ≤ 1048576) : PCon Tryd.prog F.impl_quoted [avB s] (avB (quotedB s)) := T.impl_quoted_con rfl rfl (quoted_T s hs)
/- tokens -/
/- lists of tokens -/
end Go.Proofs.Ab
