/-
  TOKENS SPELLED: numerals, quoted texts, tokens, lists of tokens.
-/
import Derived.Test.YtlhnahogacofoaaDoorCDoor
import Derived.Test.YtlhnahogacofoaaDoorCTok
set_option linter.unusedVariables false
set_option linter.unusedSimpArgs false
set_option linter.defProp false
namespace Go.Ab
set_option maxRecDepth 100000
set_option maxHeartbeats 4000000
/-- one byte -/
def byteB (c : Int) : ByteArray := ⟨#[UInt8.ofNat c.toNat]⟩
theorem ysS_app (a b : ByteArray) : ysS a ++ ysS b = ysS (a ++ b) := by
  simp only [ysS, app_list, List.map_append]
theorem ysS_byte (c : Int) (h0 : 0 ≤ c) (h1 : c < 256) : [AV.v (.int .u8 c)] = ysS (byteB c) := by
  have : (UInt8.ofNat c.toNat).toNat = c.toNat := by
    simp [UInt8.toNat_ofNat]; omega
  simp only [ysS, byteB, List.map_cons, List.map_nil, this, Int.toNat_of_nonneg h0]
theorem y1 (acc : ByteArray) (c : Int) (h0 : 0 ≤ c) (h1 : c < 256) : ysS acc ++ [AV.v (.int .u8 c)] = ysS (acc ++ byteB c) := by
  rw [ysS_byte c h0 h1, ysS_app]
theorem y2 (acc : ByteArray) (a c : Int) (h0 : 0 ≤ a) (h1 : a < 256) (h2 : 0 ≤ c) (h3 : c < 256) : ysS acc ++ [AV.v (.int .u8 a), AV.v (.int .u8 c)] = ysS (acc ++ (byteB a ++ byteB c)) := by
  have : [AV.v (.int .u8 a), AV.v (.int .u8 c)] = [AV.v (.int .u8 a)] ++ [AV.v (.int .u8 c)] := rfl
  rw [this, ysS_byte a h0 h1, ysS_byte c h2 h3, ysS_app, ysS_app]
theorem byteB_size (c : Int) : (byteB c).size = 1 := rfl
/-- what stands for a byte between quotes -/
def quo1 (c : Int) : ByteArray := if c = 10 then byteB 92 ++ byteB 110 else if c = 34 ∨ c = 92 then byteB 92 ++ byteB c else byteB c
def quoB : List Int → ByteArray
  | [] => ⟨#[]⟩
  | c :: r => quo1 c ++ quoB r
def quotedB (s : ByteArray) : ByteArray := byteB 34 ++ quoB (bs s) ++ byteB 34
theorem quo1_size (c : Int) : (quo1 c).size ≤ 2 := by
  unfold quo1
  split
  · simp [app_size, byteB_size]
  · split <;> simp [app_size, byteB_size]
theorem quoB_size : ∀ l : List Int, (quoB l).size ≤ 2 * l.length
  | [] => Nat.le_refl _
  | c :: r => by
    have := quo1_size c
    have := quoB_size r
    rw [quoB, app_size, List.length_cons]; omega
/-- a numeral -/
def figB (u : Nat) : ByteArray := ⟨(Lib.decDigits u).toArray⟩
theorem numB_nat (u : Nat) : numB u = figB u := by
  unfold numB figB Lib.itoa
  rw [if_neg (by omega)]
  simp
theorem figB_eq (u : Nat) : figB u = if u < 10 then byteB (48 + u) else figB (u / 10) ++ byteB (48 + (u % 10 : Nat)) := by
  have e : ∀ k : Nat, ((48 : Int) + (k : Int)).toNat = 48 + k := fun k => by omega
  unfold figB byteB
  rw [Lib.decDigits]
  split
  · rw [e]
  · rw [e]
    exact bytes_ext (by rw [app_list])
theorem figB_20 : ∀ (k u : Nat), u < 10 ^ (k + 1) → (figB u).size ≤ k + 1
  | 0, u, h => by rw [figB_eq, if_pos (by omega), byteB_size]; omega
  | k + 1, u, h => by
    rw [figB_eq]
    split
    · rw [byteB_size]; omega
    · have := figB_20 k (u / 10) (by rw [Nat.pow_succ] at h; omega)
      rw [app_size, byteB_size]; omega
theorem sum_lin {α : Type} (f w : α → Nat) (K M : Nat) (l : List α) (h : ∀ x ∈ l, f x ≤ K * w x + M) : (l.map f).sum ≤ K * (l.map w).sum + M * l.length := by
  induction l with
  | nil => simp
  | cons x l ih =>
    have h1 := h x (by simp)
    have h2 := ih fun y hy => h y (by simp [hy])
    simp only [List.map_cons, List.sum_cons, List.length_cons, Nat.mul_add, Nat.mul_one]
    omega
theorem numB_size (n : Int) (h0 : 0 ≤ n) (h1 : n ≤ 9223372036854775807) : (numB n).size ≤ 20 := by
  obtain ⟨u, rfl⟩ : ∃ u : Nat, n = u := ⟨n.toNat, by omega⟩
  rw [numB_nat]
  exact figB_20 19 u (by omega)
theorem quotedB_size (s : ByteArray) : (quotedB s).size ≤ 2 * s.size + 2 := by
  have := quoB_size (bs s)
  rw [bs_len] at this
  unfold quotedB
  simp only [app_size, byteB_size]; omega
def byteSp : ByteArray := ⟨#[32]⟩
end Go.Ab
namespace Go.Proofs.Ab
open Go.Ab
set_option maxRecDepth 100000
set_option maxHeartbeats 4000000
theorem digit_wrap (u : Nat) (h : u < 10) : IntKind.u8.wrap (IntKind.u64.wrap (48 + (u : Int))) = 48 + (u : Int) := by
  simp [IntKind.wrap, IntKind.signed, IntKind.bits]; omega
theorem spec_l1Figures_c (u : Nat) (hu : u < 18446744073709551616) : PCon Tryd.prog F.spec_l1Figures [.v (.int .u64 u)] (avB (figB u)) := by
  have hv := figB_eq u
  refine T.spec_l1Figures_con rfl rfl ?_
  simp only [T.spec_l1Figures, WA, Nat.reduceEqDiff, Nat.reduceAdd, Nat.reduceLT, Nat.reduceLeDiff, Nat.reduceMul, reduceIte, reduceCtorEq, Int.reduceEq, Int.reduceLT, Int.reduceLE, Int.reduceNe]
  refine ite_dec (fun h => ?_) (fun h => ?_)
  · rw [if_pos (by omega)] at hv
    simp only [WA, Nat.reduceEqDiff, Nat.reduceAdd, Nat.reduceLT, Nat.reduceLeDiff, Nat.reduceMul, reduceIte, reduceCtorEq, Int.reduceEq, Int.reduceLT, Int.reduceLE, Int.reduceNe]
    rw [digit_wrap u (by omega), ysS_byte _ (by omega) (by omega)]
    simp only [hv, WA, Nat.reduceEqDiff, Nat.reduceAdd, Nat.reduceLT, Nat.reduceLeDiff, Nat.reduceMul, reduceIte, reduceCtorEq, Int.reduceEq, Int.reduceLT, Int.reduceLE, Int.reduceNe]
  · rw [if_neg (by omega)] at hv
    have e1 : IntKind.u64.wrap ((u : Int).tdiv 10) = ((u / 10 : Nat) : Int) := by
      have : (u : Int).tdiv 10 = ((u / 10 : Nat) : Int) := rfl
      rw [this]
      simp [IntKind.wrap, IntKind.signed, IntKind.bits]; omega
    have e2 : (u : Int).tmod 10 = ((u % 10 : Nat) : Int) := rfl
    simp only [e1, WA, Nat.reduceEqDiff, Nat.reduceAdd, Nat.reduceLT, Nat.reduceLeDiff, Nat.reduceMul, reduceIte, reduceCtorEq, Int.reduceEq, Int.reduceLT, Int.reduceLE, Int.reduceNe]
    refine call_v (spec_l1Figures_c (u / 10) (by omega)) ?_
    simp only [e2, WA, Nat.reduceEqDiff, Nat.reduceAdd, Nat.reduceLT, Nat.reduceLeDiff, Nat.reduceMul, reduceIte, reduceCtorEq, Int.reduceEq, Int.reduceLT, Int.reduceLE, Int.reduceNe]
    rw [digit_wrap (u % 10) (by omega), ysS_byte _ (by omega) (by omega)]
    have hs := figB_20 19 (u / 10) (by omega)
    simp only [byteB_size, WA, Nat.reduceEqDiff, Nat.reduceAdd, Nat.reduceLT, Nat.reduceLeDiff, Nat.reduceMul, reduceIte, reduceCtorEq, Int.reduceEq, Int.reduceLT, Int.reduceLE, Int.reduceNe]
    refine ⟨by omega, ?_⟩
    simp only [hv, WA, Nat.reduceEqDiff, Nat.reduceAdd, Nat.reduceLT, Nat.reduceLeDiff, Nat.reduceMul, reduceIte, reduceCtorEq, Int.reduceEq, Int.reduceLT, Int.reduceLE, Int.reduceNe]
termination_by u
decreasing_by omega
theorem quoted_T {L : AX → SS → List AV → Prop} (s : ByteArray) (hs : s.size ≤ 1048576) : wpT Tryd.prog L (fun a => a = avB (quotedB s)) T.impl_quoted [avB s] [] := by
  simp only [T.impl_quoted, WA, Nat.reduceEqDiff, Nat.reduceAdd, Nat.reduceLT, Nat.reduceLeDiff, Nat.reduceMul, reduceIte, reduceCtorEq, Int.reduceEq, Int.reduceLT, Int.reduceLE, Int.reduceNe]
  rw [ysS_byte 34 (by omega) (by omega)]
  have hq := quoB_size (bs s)
  rw [bs_len] at hq
  refine bind_cut [.sl (ysS (byteB 34 ++ quoB (bs s)))] rfl ?_ ?_
  · simp only [WA, Nat.reduceEqDiff, Nat.reduceAdd, Nat.reduceLT, Nat.reduceLeDiff, Nat.reduceMul, reduceIte, reduceCtorEq, Int.reduceEq, Int.reduceLT, Int.reduceLE, Int.reduceNe]
    refine loop_bytes s (fun i (acc : ByteArray) => [.sl (ysS acc), avI i]) (fun i rest acc => byteB 34 ++ quoB (bs s) = acc ++ quoB rest ∧ acc.size ≤ 2 * i + 1) (byteB 34) rfl ⟨rfl, Nat.le_refl _⟩ (fun i k rest acc hi hx hm hix hd hc0 hc1 hw8 hg => ?_) (fun acc hd hg => ?_)
    · obtain ⟨hg1, hg2⟩ := hg
      rw [quoB] at hg1
      have hq1 : quo1 k = if k = 10 then byteB 92 ++ byteB 110 else if k = 34 ∨ k = 92 then byteB 92 ++ byteB k else byteB k := rfl
      have fin : ∀ acc', acc' = acc ++ quo1 k → i < s.size ∧ ∃ b', (byteB 34 ++ quoB (bs s) = b' ++ quoB rest ∧ b'.size ≤ 2 * (i + 1) + 1) ∧ [AV.sl (ysS acc'), avI ((i + 1 : Nat) : Int)] = [.sl (ysS b'), avI ((i + 1 : Nat) : Int)] := by
        rintro acc' rfl
        refine ⟨hi, _, ⟨?_, ?_⟩, rfl⟩
        · rw [hg1, appA]
        · have := quo1_size k
          rw [app_size]; omega
      simp only [hd, WA, Nat.reduceEqDiff, Nat.reduceAdd, Nat.reduceLT, Nat.reduceLeDiff, Nat.reduceMul, reduceIte, reduceCtorEq, Int.reduceEq, Int.reduceLT, Int.reduceLE, Int.reduceNe]
      refine bind_push ?_
      simp only [hix, WA, Nat.reduceEqDiff, Nat.reduceAdd, Nat.reduceLT, Nat.reduceLeDiff, Nat.reduceMul, reduceIte, reduceCtorEq, Int.reduceEq, Int.reduceLT, Int.reduceLE, Int.reduceNe]
      refine ite_dec (fun h => ?_) (fun h => ?_)
      · rw [if_pos h] at hq1
        simp (disch := omega) only [ysS_len, WA, Nat.reduceEqDiff, Nat.reduceAdd, Nat.reduceLT, Nat.reduceLeDiff, Nat.reduceMul, reduceIte, reduceCtorEq, Int.reduceEq, Int.reduceLT, Int.reduceLE, Int.reduceNe]
        refine ⟨by simp [AV.cells], by omega, by omega, ?_⟩
        simp (disch := omega) only [wrapA1, WA, Nat.reduceEqDiff, Nat.reduceAdd, Nat.reduceLT, Nat.reduceLeDiff, Nat.reduceMul, reduceIte, reduceCtorEq, Int.reduceEq, Int.reduceLT, Int.reduceLE, Int.reduceNe]
        rw [y2 _ _ _ (by omega) (by omega) (by omega) (by omega)]
        exact fin _ (by rw [hq1])
      · rw [if_neg h] at hq1
        simp only [WA, Nat.reduceEqDiff, Nat.reduceAdd, Nat.reduceLT, Nat.reduceLeDiff, Nat.reduceMul, reduceIte, reduceCtorEq, Int.reduceEq, Int.reduceLT, Int.reduceLE, Int.reduceNe]
        refine bind_post (fun vs => vs = [.v (.bool (decide (k = 34 ∨ k = 92)))]) ?_ ?_
        · simp only [WA, Nat.reduceEqDiff, Nat.reduceAdd, Nat.reduceLT, Nat.reduceLeDiff, Nat.reduceMul, reduceIte, reduceCtorEq, Int.reduceEq, Int.reduceLT, Int.reduceLE, Int.reduceNe]
          refine ite_dec (fun h => ?_) (fun h => ?_) <;> simp [h, WA, Nat.reduceEqDiff, Nat.reduceAdd, Nat.reduceLT, Nat.reduceLeDiff, Nat.reduceMul, reduceIte, reduceCtorEq, Int.reduceEq, Int.reduceLT, Int.reduceLE, Int.reduceNe]
        · rintro vs rfl _
          simp only [WA, Nat.reduceEqDiff, Nat.reduceAdd, Nat.reduceLT, Nat.reduceLeDiff, Nat.reduceMul, reduceIte, reduceCtorEq, Int.reduceEq, Int.reduceLT, Int.reduceLE, Int.reduceNe]
          refine ite_dec (fun h => ?_) (fun h => ?_)
          · rw [if_pos h] at hq1
            simp only [hix, WA, Nat.reduceEqDiff, Nat.reduceAdd, Nat.reduceLT, Nat.reduceLeDiff, Nat.reduceMul, reduceIte, reduceCtorEq, Int.reduceEq, Int.reduceLT, Int.reduceLE, Int.reduceNe]
            simp (disch := omega) only [ysS_len, WA, Nat.reduceEqDiff, Nat.reduceAdd, Nat.reduceLT, Nat.reduceLeDiff, Nat.reduceMul, reduceIte, reduceCtorEq, Int.reduceEq, Int.reduceLT, Int.reduceLE, Int.reduceNe]
            refine ⟨by simp [AV.cells], by omega, by omega, ?_⟩
            simp (disch := omega) only [wrapA1, WA, Nat.reduceEqDiff, Nat.reduceAdd, Nat.reduceLT, Nat.reduceLeDiff, Nat.reduceMul, reduceIte, reduceCtorEq, Int.reduceEq, Int.reduceLT, Int.reduceLE, Int.reduceNe]
            rw [y2 _ _ _ (by omega) (by omega) (by omega) (by omega)]
            exact fin _ (by rw [hq1])
          · rw [if_neg h] at hq1
            simp only [hix, WA, Nat.reduceEqDiff, Nat.reduceAdd, Nat.reduceLT, Nat.reduceLeDiff, Nat.reduceMul, reduceIte, reduceCtorEq, Int.reduceEq, Int.reduceLT, Int.reduceLE, Int.reduceNe]
            simp (disch := omega) only [ysS_len, WA, Nat.reduceEqDiff, Nat.reduceAdd, Nat.reduceLT, Nat.reduceLeDiff, Nat.reduceMul, reduceIte, reduceCtorEq, Int.reduceEq, Int.reduceLT, Int.reduceLE, Int.reduceNe]
            refine ⟨by simp [AV.cells], by omega, by omega, ?_⟩
            simp (disch := omega) only [wrapA1, WA, Nat.reduceEqDiff, Nat.reduceAdd, Nat.reduceLT, Nat.reduceLeDiff, Nat.reduceMul, reduceIte, reduceCtorEq, Int.reduceEq, Int.reduceLT, Int.reduceLE, Int.reduceNe]
            rw [y1 _ _ (by omega) (by omega)]
            exact fin _ (by rw [hq1])
    · rw [quoB, appE] at hg
      simp only [hd, hg.1, WA, Nat.reduceEqDiff, Nat.reduceAdd, Nat.reduceLT, Nat.reduceLeDiff, Nat.reduceMul, reduceIte, reduceCtorEq, Int.reduceEq, Int.reduceLT, Int.reduceLE, Int.reduceNe]
  · have hz : (byteB 34 ++ quoB (bs s)).size ≤ 2 * s.size + 1 := by rw [app_size, byteB_size]; omega
    simp only [ysS_len, WA, Nat.reduceEqDiff, Nat.reduceAdd, Nat.reduceLT, Nat.reduceLeDiff, Nat.reduceMul, reduceIte, reduceCtorEq, Int.reduceEq, Int.reduceLT, Int.reduceLE, Int.reduceNe]
    refine ⟨by simp [AV.cells], by omega, by omega, ?_⟩
    rw [y1 _ _ (by omega) (by omega)]
    simp only [WA, Nat.reduceEqDiff, Nat.reduceAdd, Nat.reduceLT, Nat.reduceLeDiff, Nat.reduceMul, reduceIte, reduceCtorEq, Int.reduceEq, Int.reduceLT, Int.reduceLE, Int.reduceNe, quotedB]
theorem impl_quoted_c (s : ByteArray) (hs : s.size ≤ 1048576) : PCon Tryd.prog F.impl_quoted [avB s] (avB (quotedB s)) := T.impl_quoted_con rfl rfl (quoted_T s hs)
/- tokens -/
def tokB (t : VToken) : ByteArray := if tokenM t = true then (if t.Kind = 1 then numB t.Num else if t.Kind = 2 then quotedB t.Text else if t.Kind = 5 then byteB 39 ++ t.Text else t.Text) else ⟨#[]⟩
theorem tokenM_num {t : VToken} (h : tokenM t = true) : 0 ≤ t.Num := by
  unfold tokenM at h
  simp only [Bool.and_eq_true, decide_eq_true_eq] at h
  exact h.1.1.2
theorem b39 : (⟨#[39]⟩ : ByteArray) = byteB 39 := rfl
theorem impl_SpellToken_c (t : VToken) (hb : t.wt ≤ 1048576) (ho : t.ok) : PCon Tryd.prog F.impl_SpellToken [t.av] (avB (tokB t)) := by
  have hw := t.wt_eq
  have hi := (VToken.ok_iff t).1 ho
  have hi1 := hi.2.1.2
  refine T.impl_SpellToken_con rfl (by simp [AV.norefs, AV.noref, VToken.noref]) ?_
  simp only [T.impl_SpellToken, VToken.cells, VToken.isAgg, VToken.storable, WA, Nat.reduceEqDiff, Nat.reduceAdd, Nat.reduceLT, Nat.reduceLeDiff, Nat.reduceMul, reduceIte, reduceCtorEq, Int.reduceEq, Int.reduceLT, Int.reduceLE, Int.reduceNe]
  refine call_v (impl_TokenOk_c t hb) ?_
  simp only [WA, Nat.reduceEqDiff, Nat.reduceAdd, Nat.reduceLT, Nat.reduceLeDiff, Nat.reduceMul, reduceIte, reduceCtorEq, Int.reduceEq, Int.reduceLT, Int.reduceLE, Int.reduceNe]
  refine ite_intro (fun hq => ?_) (fun hq => ?_)
  · have hq : tokenM t = false := by simpa using hq
    simp only [tokB, hq, VToken.cells, WA, Nat.reduceEqDiff, Nat.reduceAdd, Nat.reduceLT, Nat.reduceLeDiff, Nat.reduceMul, reduceIte, reduceCtorEq, Int.reduceEq, Int.reduceLT, Int.reduceLE, Int.reduceNe]
    try rfl
  · have hq : tokenM t = true := by simpa using hq
    have hn := tokenM_num hq
    have hk : (byteB 39).size = 1 := rfl
    simp only [VToken.cells, WA, Nat.reduceEqDiff, Nat.reduceAdd, Nat.reduceLT, Nat.reduceLeDiff, Nat.reduceMul, reduceIte, reduceCtorEq, Int.reduceEq, Int.reduceLT, Int.reduceLE, Int.reduceNe]
    repeat' (first | (simp (disch := (first | omega | rfl | exact rfl | (simp only [cells_v, List.length_cons, List.length_nil]; done) | exact VToken.width _)) only [VToken.cells, VToken.isAgg, VToken.storable, VToken.eta, b39, hk, wrapS, wrapA, wrapA1, lt0, WA, Nat.reduceEqDiff, Nat.reduceAdd, Nat.reduceLT, Nat.reduceLeDiff, Nat.reduceMul, reduceIte, reduceCtorEq, Int.reduceEq, Int.reduceLT, Int.reduceLE, Int.reduceNe]) | (refine ite_dec (fun hq => ?_) (fun hq => ?_) <;> (try simp only [hq, decide_true, decide_false, Bool.not_true, Bool.not_false, Bool.not_eq_true', Bool.not_eq_false'])) | (refine ite_ndec (fun hq => ?_) (fun hq => ?_) <;> (try simp only [hq, decide_true, decide_false, Bool.not_true, Bool.not_false, Bool.not_eq_true', Bool.not_eq_false'])) | (refine ite_intro (fun hq => ?_) (fun hq => ?_) <;> (try simp only [hq, decide_true, decide_false, Bool.not_true, Bool.not_false, Bool.not_eq_true', Bool.not_eq_false'])) | (refine bind_push ?_) | (refine call_v (itoa_c _ (by omega) hi1) ?_) | (refine call_v (impl_quoted_c _ (by omega)) ?_))
    all_goals first | (refine ⟨by omega, ?_⟩; simp_all [tokB]; done) | (simp_all [tokB]; done) | (simp_all [tokB]; omega)
/- lists of tokens -/
def spellOk (t : VToken) : Bool := tokenM t && !decide (t.Kind = 8)
def spellM (l : List VToken) : ByteArray := if l.length ≤ 1200 ∧ l.all spellOk = true then joinB byteSp (l.map tokB) else ⟨#[]⟩
theorem tokB_size (t : VToken) (ho : t.ok) : (tokB t).size ≤ 2 * t.wt + 20 := by
  have hw := t.wt_eq
  have hi := (VToken.ok_iff t).1 ho
  unfold tokB
  split
  · rename_i h
    have hn := tokenM_num h
    split
    · have := numB_size t.Num hn hi.2.1.2; omega
    · split
      · have := quotedB_size t.Text; omega
      · split
        · rw [app_size, byteB_size]; omega
        · omega
  · exact Nat.zero_le _
theorem spell_sizes (l : List VToken) (ho : ∀ y ∈ l, y.ok) : ((l.map tokB).map ByteArray.size).sum ≤ 2 * (l.map VToken.wt).sum + 20 * l.length := by
  rw [List.map_map]
  exact sum_lin _ VToken.wt 2 20 l fun y hy => tokB_size y (ho y hy)
theorem impl_Spell_c (l : List VToken) (hb : l.length + (l.map VToken.wt).sum ≤ 1048576) (ho : ∀ y ∈ l, y.ok) : PCon Tryd.prog F.impl_Spell [.sl (l.map VToken.av)] (avB (spellM l)) := by
  have hL : AV.norefs (l.map VToken.av) = true := norefsM (f := VToken.av) VToken.noref
  refine T.impl_Spell_con rfl (by simp [AV.norefs, AV.noref, hL]) ?_
  simp only [T.impl_Spell, List.length_map, WA, Nat.reduceEqDiff, Nat.reduceAdd, Nat.reduceLT, Nat.reduceLeDiff, Nat.reduceMul, reduceIte, reduceCtorEq, Int.reduceEq, Int.reduceLT, Int.reduceLE, Int.reduceNe]
  refine ite_dec (fun hq => ?_) (fun hq => ?_)
  · have : spellM l = ⟨#[]⟩ := by unfold spellM; rw [if_neg (by omega)]
    simp only [this, WA, Nat.reduceEqDiff, Nat.reduceAdd, Nat.reduceLT, Nat.reduceLeDiff, Nat.reduceMul, reduceIte, reduceCtorEq, Int.reduceEq, Int.reduceLT, Int.reduceLE, Int.reduceNe]
  · have hl : l.length ≤ 1200 := by omega
    simp only [WA, Nat.reduceEqDiff, Nat.reduceAdd, Nat.reduceLT, Nat.reduceLeDiff, Nat.reduceMul, reduceIte, reduceCtorEq, Int.reduceEq, Int.reduceLT, Int.reduceLE, Int.reduceNe]
    refine bind_post (fun vs => l.all spellOk = true ∧ vs = [.sl ((l.map tokB).map avB)]) ?_ ?_
    · simp only [List.length_map, WA, Nat.reduceEqDiff, Nat.reduceAdd, Nat.reduceLT, Nat.reduceLeDiff, Nat.reduceMul, reduceIte, reduceCtorEq, Int.reduceEq, Int.reduceLT, Int.reduceLE, Int.reduceNe]
      refine loop_list l (fun i (_ : Unit) => [.sl (((l.take i).map tokB).map avB), avI i]) (fun i rest _ => i ≤ l.length ∧ l.all spellOk = rest.all spellOk) () rfl ⟨Nat.zero_le _, rfl⟩ (fun i k rest b hi hx hm hel hd hg => ?_) (fun b hd hg => ?_)
      · have hk1 : k.wt ≤ 1048576 := by have := le_sum VToken.wt hm; omega
        have hk2 := ho k hm
        have hsn : (((l.take i).map tokB).map avB) ++ [avB (tokB k)] = ((l.take (i + 1)).map tokB).map avB := by
          rw [List.take_add_one, hx]; simp
        simp only [hd, WA, Nat.reduceEqDiff, Nat.reduceAdd, Nat.reduceLT, Nat.reduceLeDiff, Nat.reduceMul, reduceIte, reduceCtorEq, Int.reduceEq, Int.reduceLT, Int.reduceLE, Int.reduceNe]
        repeat' (first | (simp (disch := (first | omega | rfl | exact rfl | (simp only [cells_v, List.length_cons, List.length_nil]; done) | exact VToken.width _)) only [hel, hd, VToken.cells, VToken.isAgg, VToken.storable, VToken.eta, hsn, wrapS, wrapA, wrapA1, lt0, WA, Nat.reduceEqDiff, Nat.reduceAdd, Nat.reduceLT, Nat.reduceLeDiff, Nat.reduceMul, reduceIte, reduceCtorEq, Int.reduceEq, Int.reduceLT, Int.reduceLE, Int.reduceNe]) | (simp (disch := (first | omega | rfl | exact rfl | (simp only [cells_v, List.length_cons, List.length_nil]; done) | exact VToken.width _)) only [hd, VToken.cells, VToken.isAgg, VToken.storable, VToken.eta, hsn, wrapS, wrapA, wrapA1, lt0, WA, Nat.reduceEqDiff, Nat.reduceAdd, Nat.reduceLT, Nat.reduceLeDiff, Nat.reduceMul, reduceIte, reduceCtorEq, Int.reduceEq, Int.reduceLT, Int.reduceLE, Int.reduceNe]) | (simp (disch := (first | omega | rfl | exact rfl | (simp only [cells_v, List.length_cons, List.length_nil]; done) | exact VToken.width _)) only [VToken.cells, VToken.isAgg, VToken.storable, VToken.eta, hsn, wrapS, wrapA, wrapA1, lt0, WA, Nat.reduceEqDiff, Nat.reduceAdd, Nat.reduceLT, Nat.reduceLeDiff, Nat.reduceMul, reduceIte, reduceCtorEq, Int.reduceEq, Int.reduceLT, Int.reduceLE, Int.reduceNe]) | (refine ite_dec (fun hq => ?_) (fun hq => ?_) <;> (try simp only [hq, decide_true, decide_false, Bool.not_true, Bool.not_false, Bool.not_eq_true', Bool.not_eq_false'])) | (refine ite_ndec (fun hq => ?_) (fun hq => ?_) <;> (try simp only [hq, decide_true, decide_false, Bool.not_true, Bool.not_false, Bool.not_eq_true', Bool.not_eq_false'])) | (refine ite_intro (fun hq => ?_) (fun hq => ?_) <;> (try simp only [hq, decide_true, decide_false, Bool.not_true, Bool.not_false, Bool.not_eq_true', Bool.not_eq_false'])) | (refine bind_push ?_) | (refine call_v (impl_TokenOk_c k hk1) ?_) | (refine call_v (impl_SpellToken_c k hk1 hk2) ?_) | (show (∀ y, _) ∧ _ ∧ _ ∧ _; refine ⟨by simp [AV.cells], by simp; omega, by simp; omega, ?_⟩))
        all_goals first
          | (have h0 : l.all spellOk = false := by rw [hg.2, List.all_cons]; simp_all [spellOk]
             have : spellM l = ⟨#[]⟩ := by unfold spellM; rw [h0, if_neg (by simp)]
             rw [this]; done)
          | (refine ⟨hi, (), by omega, ?_⟩; rw [hg.2, List.all_cons]; simp_all [spellOk])
      · simp only [List.take_length, hd, WA, Nat.reduceEqDiff, Nat.reduceAdd, Nat.reduceLT, Nat.reduceLeDiff, Nat.reduceMul, reduceIte, reduceCtorEq, Int.reduceEq, Int.reduceLT, Int.reduceLE, Int.reduceNe]
        exact by simpa using hg.2
    · rintro vs ⟨h1, rfl⟩ _
      simp only [WA, Nat.reduceEqDiff, Nat.reduceAdd, Nat.reduceLT, Nat.reduceLeDiff, Nat.reduceMul, reduceIte, reduceCtorEq, Int.reduceEq, Int.reduceLT, Int.reduceLE, Int.reduceNe]
      refine call_v (join_c (l.map tokB) byteSp (by simp; omega) ?_) ?_
      · have h2 := joinB_size byteSp (l.map tokB)
        have h3 := spell_sizes l ho
        have h4 : byteSp.size = 1 := rfl
        rw [List.length_map, h4] at h2; omega
      · have : spellM l = joinB byteSp (l.map tokB) := by unfold spellM; rw [if_pos ⟨hl, h1⟩]
        simp only [this, WA, Nat.reduceEqDiff, Nat.reduceAdd, Nat.reduceLT, Nat.reduceLeDiff, Nat.reduceMul, reduceIte, reduceCtorEq, Int.reduceEq, Int.reduceLT, Int.reduceLE, Int.reduceNe]
end Go.Proofs.Ab
