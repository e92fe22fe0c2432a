/-
  TREES THAT ARE DRAWN: patterns.
-/
import Derived.Test.YtimcinieaeaolaaGreatDoorCDraw
import Derived.Test.YtimcinieaeaolaaGreatDoorCProg
import Derived.Test.YtimcinieaeaolaaGreatDoorGM
import Derived.Test.YtimcinieaeaolaaGreatDoorAbM4
set_option linter.unusedVariables false
set_option linter.unusedSimpArgs false
set_option linter.defProp false
namespace Go.Ab
set_option maxRecDepth 100000
set_option maxHeartbeats 4000000
theorem Con.resD {P : Program} {f : FuncId} {as' : List AV} {O O' : List AObj} {a b : AV} (h : Con P f as' O a O') (hle : AV.leD a b) : Con P f as' O b O' := by
  refine ⟨h.1, fun I L w vs hi hr => (h.2 I L w vs hi hr).mono ?_⟩
  rintro e w' ⟨y, I', L', rfl, hy, hg⟩
  exact ⟨y, I', L', rfl, hle.sound hy, hg⟩
theorem SCon.resD {P : Program} {f : FuncId} {g : Sig} {ins l : List AV} {a b : AV} {e : Nat} (h1 : g.res = .d (.x 0)) (h2 : g.objs' = [.box e [.d (.x 1), .d (.x 2), .d (.x 3)]]) (h : SCon P f g ins (a :: l)) (hle : AV.leD a b) : SCon P f g ins (b :: l) := by
  unfold SCon at h ⊢
  rw [h1, h2] at h ⊢
  exact Con.resD h hle
/-- what a draw gives: a tree and the cursor behind -/
def dx {X : Type} (av : X → AV) (good : X → Prop) : AV → Prop := ex 4 fun outs => ∃ a x c, outs = a :: Cur.avs c ∧ AV.leD a (av x) ∧ good x ∧ Cur.ok c
def Drawn (P : Program) (f : FuncId) (g : Sig) (ins : List AV) {X : Type} (av : X → AV) (good : X → Prop) : Prop := ∃ x c, good x ∧ Cur.ok c ∧ SCon P f g ins (av x :: Cur.avs c)
theorem Drawn.intro {P : Program} {f : FuncId} {g : Sig} {ins : List AV} {X : Type} {av : X → AV} {good : X → Prop} {t : T} {e : Nat} (h1 : g.res = .d (.x 0)) (h2 : g.objs' = [.box e [.d (.x 1), .d (.x 2), .d (.x 3)]])
    (con : ∀ outs : List AV, outs.length = 4 → wpT P LF (fun a => a = packR outs) t ins [] → SCon P f g ins outs) (x0 : X) (g0 : good x0) (c0 : Cur) (hc0 : c0.ok) (hw : wpT P LF (dx av good) t ins []) : Drawn P f g ins av good := by
  have hne : ∃ outs : List AV, outs.length = 4 ∧ ∃ a x c, outs = a :: Cur.avs c ∧ AV.leD a (av x) ∧ good x ∧ Cur.ok c := ⟨_, rfl, av x0, x0, c0, rfl, .refl _, g0, hc0⟩
  obtain ⟨outs, hl, ⟨a, x, c, rfl, hle, hg, hc⟩, h⟩ := ex_intro hne hw
  exact ⟨x, c, hg, hc, SCon.resD h1 h2 (con _ hl h) hle⟩
theorem Drawn.use {P : Program} {f : FuncId} {g : Sig} {ins : List AV} {X : Type} {av : X → AV} {good : X → Prop} {K : AV → Prop} (h : Drawn P f g ins av good) (hm : g.m = 4) (hn : ∀ x, (av x).noref = true)
    (k : ∀ x c, good x → Cur.ok c → goT K (.tup [av x, .sl (bys c.l), avI c.i, avI c.h])) : scallP P f g ins K := by
  obtain ⟨x, c, hg, hc, hs⟩ := h
  exact scall_v hs hm.symm (by have := hn x; have := c.noref; simp only [AV.norefs, Cur.avs] at *; simp_all) (k x c hg hc)
theorem dx_ret {X : Type} {av : X → AV} {good : X → Prop} {a : AV} {c : Cur} (hc : c.ok) (x : X) (hle : AV.leD a (av x)) (hg : good x) : retT (dx av good) [a, .sl (bys c.l), avI c.i, avI c.h] := by
  unfold retT dx ex
  exact ⟨_, rfl, ⟨a, x, c, rfl, hle, hg, hc⟩, rfl⟩
/-- counting down, a tree at each round -/
theorem loop_down {P : Program} {R : AV → Prop} {t : T} {r : List AV} {S : List (List AV → Prop)} {X : Type} (av : X → AV) (good : X → Prop) {c0 : Cur} (hc0 : c0.ok) (n : Int) (hn : 0 ≤ n)
    (hr : ∀ (c : Cur) (xs : List X) (i : Int), c.ok → (∀ x ∈ xs, good x) → 0 ≤ i → (xs.length : Int) + i = n →
      wpT P LF R t (r ++ [.sl (bys c.l), avI c.i, avI c.h, .sl (xs.map av), avI i]) ((fun vs => 0 < i ∧ ∃ c' x, Cur.ok c' ∧ good x ∧ vs = [.sl (bys c'.l), avI c'.i, avI c'.h, .sl (xs.map av ++ [av x]), avI (i - 1)]) :: S)) :
    loopT P LF R [.sl (bys c0.l), avI c0.i, avI c0.h, .sl [], avI n] t r S := by
  refine loop_intro (ι := Cur × List X × Int) (fun q => q.1.ok ∧ (∀ x ∈ q.2.1, good x) ∧ 0 ≤ q.2.2 ∧ (q.2.1.length : Int) + q.2.2 = n) (fun q => [.sl (bys q.1.l), avI q.1.i, avI q.1.h, .sl (q.2.1.map av), avI q.2.2]) (fun q => q.2.2.toNat) (c0, [], n) ⟨hc0, by simp, hn, by simp⟩ rfl fun q hq => ?_
  obtain ⟨c, xs, i⟩ := q
  obtain ⟨h1, h2, h3, h4⟩ := hq
  refine wpT_mono (fun _ _ _ h => h) (fun _ h => h) t (.cons (fun vs hv => ?_) (.refl _)) (hr c xs i h1 h2 h3 h4)
  obtain ⟨hi, c', x, hc', hx, rfl⟩ := hv
  refine ⟨(c', xs ++ [x], i - 1), ⟨hc', fun y hy => ?_, by show 0 ≤ i - 1; omega, by simp only [List.length_append, List.length_cons, List.length_nil] at *; omega⟩, by show (i - 1).toNat < i.toNat; omega, by simp⟩
  rcases List.mem_append.1 hy with hy | hy
  · exact h2 y hy
  · rw [List.mem_singleton.1 hy]; exact hx
/-- counting up, a tree at each round -/
theorem loop_upD {P : Program} {R : AV → Prop} {t : T} {r : List AV} {S : List (List AV → Prop)} {X : Type} (av : X → AV) (good : X → Prop) {c0 : Cur} (hc0 : c0.ok) (n : Int) (hn : 0 ≤ n)
    (hr : ∀ (c : Cur) (xs : List X), c.ok → (∀ x ∈ xs, good x) → (xs.length : Int) ≤ n →
      wpT P LF R t (r ++ [.sl (bys c.l), avI c.i, avI c.h, .sl (xs.map av), avI (xs.length : Int)]) ((fun vs => (xs.length : Int) < n ∧ ∃ c' x, Cur.ok c' ∧ good x ∧ vs = [.sl (bys c'.l), avI c'.i, avI c'.h, .sl (xs.map av ++ [av x]), avI ((xs.length : Int) + 1)]) :: S)) :
    loopT P LF R [.sl (bys c0.l), avI c0.i, avI c0.h, .sl [], avI 0] t r S := by
  refine loop_intro (ι := Cur × List X) (fun q => q.1.ok ∧ (∀ x ∈ q.2, good x) ∧ (q.2.length : Int) ≤ n) (fun q => [.sl (bys q.1.l), avI q.1.i, avI q.1.h, .sl (q.2.map av), avI (q.2.length : Int)]) (fun q => n.toNat - q.2.length) (c0, []) ⟨hc0, by simp, by simpa using hn⟩ rfl fun q hq => ?_
  obtain ⟨c, xs⟩ := q
  obtain ⟨h1, h2, h4⟩ := hq
  refine wpT_mono (fun _ _ _ h => h) (fun _ h => h) t (.cons (fun vs hv => ?_) (.refl _)) (hr c xs h1 h2 h4)
  obtain ⟨hi, c', x, hc', hx, rfl⟩ := hv
  refine ⟨(c', xs ++ [x]), ⟨hc', fun y hy => ?_, by simp only [List.length_append, List.length_cons, List.length_nil]; omega⟩, by simp only [List.length_append, List.length_cons, List.length_nil]; omega, by simp⟩
  rcases List.mem_append.1 hy with hy | hy
  · exact h2 y hy
  · rw [List.mem_singleton.1 hy]; exact hx
/- the strings that are drawn -/
def nmL : List ByteArray := [⟨#[120]⟩, ⟨#[121]⟩, ⟨#[102]⟩, ⟨#[103]⟩, ⟨#[110]⟩, ⟨#[120, 115]⟩]
def upL : List ByteArray := [⟨#[78, 105, 108]⟩, ⟨#[67, 111, 110, 115]⟩, ⟨#[65]⟩, ⟨#[66]⟩, ⟨#[83, 111, 109, 101]⟩]
def goodLow (s : ByteArray) : Prop := lowM s = true ∧ s.size ≤ 4
def goodUp (s : ByteArray) : Prop := upM s = true ∧ s.size ≤ 4
theorem nmL_low : ∀ s ∈ nmL, goodLow s := by unfold goodLow nmL; decide +kernel
theorem upL_up : ∀ s ∈ upL, goodUp s := by unfold goodUp upL; decide +kernel
/- patterns -/
structure PG (B : Nat) (x : VPat) : Prop where
  okM : x.okM = true
  ok : x.ok
  wt : x.wt ≤ B
def PB : Nat → Nat
  | 0 => 4
  | n + 1 => 3 + 3 * PB n
theorem PB_ge (n : Nat) : 4 ≤ PB n := by induction n <;> simp only [PB] <;> omega
theorem sum_le_len {α : Type} (f : α → Nat) (b : Nat) : ∀ (l : List α), (∀ x ∈ l, f x ≤ b) → (l.map f).sum ≤ l.length * b
  | [], _ => by simp
  | x :: l, h => by
    have := sum_le_len f b l fun y hy => h y (by simp [hy])
    have := h x (by simp)
    simp only [List.map_cons, List.sum_cons, List.length_cons, Nat.add_mul, Nat.one_mul]
    omega
theorem PG.of {K M P : Int} {N : ByteArray} {kids : List VPat} {b B : Nat} (hh : (VPat.mk K N M P kids).headP = true) (hK : 0 ≤ K ∧ K ≤ 9) (hM : 0 ≤ M ∧ M ≤ 9) (hP : 0 ≤ P ∧ P ≤ 9) (hk : ∀ x ∈ kids, PG b x) (hs : N.size + (kids.length + kids.length * b) ≤ B) : PG B (.mk K N M P kids) := by
  refine ⟨?_, ?_, ?_⟩
  · rw [VPat.okM_eq, hh, Bool.true_and, List.all_eq_true]
    exact fun x hx => (hk x hx).okM
  · rw [VPat.ok_iff]
    simp only [VPat.Kind, VPat.Num, VPat.Pos, VPat.Kids, inR]
    exact ⟨⟨by omega, by omega⟩, ⟨by omega, by omega⟩, ⟨by omega, by omega⟩, fun x hx => (hk x hx).ok⟩
  · rw [VPat.wt_eq]
    simp only [VPat.Name, VPat.Kids]
    have := sum_le_len VPat.wt b kids fun x hx => (hk x hx).wt
    omega
theorem leP {K M P : Int} {N : ByteArray} : AV.leD (.agg [avI K, avB N, avI M, avI P, .nils]) (VPat.mk K N M P []).av := by
  refine .agg _ _ rfl fun i c d hc hd => ?_
  rcases i with _ | _ | _ | _ | _ | i <;> simp [VPat.av, VPat.cs, VPat.avs] at hc hd <;> subst hc <;> subst hd <;> first | exact .refl _ | exact .nil
theorem dxP_nil {c : Cur} (hc : c.ok) {K M P : Int} {N : ByteArray} {good : VPat → Prop} (hg : good (.mk K N M P [])) : retT (dx VPat.av good) [.agg [avI K, avB N, avI M, avI P, .nils], .sl (bys c.l), avI c.i, avI c.h] := dx_ret hc _ leP hg
theorem dxP_sl {c : Cur} (hc : c.ok) {K M P : Int} {N : ByteArray} (kids : List VPat) {good : VPat → Prop} (hg : good (.mk K N M P kids)) : retT (dx VPat.av good) [.agg [avI K, avB N, avI M, avI P, .sl (kids.map VPat.av)], .sl (bys c.l), avI c.i, avI c.h] :=
  dx_ret hc _ (by rw [← VPat.eta]; exact .refl _) hg
theorem pg0 {B : Nat} {K M P : Int} {N : ByteArray} (hB : 4 ≤ B) (hP : 0 ≤ P ∧ P ≤ 9) (h : ((K = 1 ∨ K = 5) ∧ N = emp ∧ M = 0) ∨ (K = 2 ∧ goodLow N ∧ M = 0) ∨ (K = 3 ∧ N = emp ∧ 0 ≤ M ∧ M ≤ 9) ∨ (K = 4 ∧ N = emp ∧ 0 ≤ M ∧ M ≤ 1) ∨ (K = 7 ∧ goodUp N ∧ M = 0)) : PG B (.mk K N M P []) := by
  rcases h with ⟨h | h, rfl, rfl⟩ | ⟨rfl, ⟨h, hs⟩, rfl⟩ | ⟨rfl, rfl, h1, h2⟩ | ⟨rfl, rfl, h1, h2⟩ | ⟨rfl, ⟨h, hs⟩, rfl⟩
  all_goals try subst h
  all_goals refine PG.of (b := 0) ?_ (by omega) (by omega) hP (by simp) (by first | (simp only [List.length_nil]; omega) | (show (0 : Nat) ≤ B; omega) | (simp [emp]; omega))
  all_goals simp [VPat.headP, VPat.Kind, VPat.Name, VPat.Num, VPat.Pos, VPat.Kids, hP.1, inB, *]
theorem pg6 {B b : Nat} {P : Int} {kids : List VPat} (hP : 0 ≤ P ∧ P ≤ 9) (hB : 3 + 3 * b ≤ B) (h2 : 2 ≤ kids.length) (h3 : kids.length ≤ 3) (hk : ∀ x ∈ kids, PG b x) : PG B (.mk 6 emp 0 P kids) := by
  refine PG.of ?_ (by omega) (by omega) hP hk ?_
  · simp [VPat.headP, VPat.Kind, VPat.Name, VPat.Num, VPat.Pos, VPat.Kids, hP.1, h2]
  · have : kids.length * b ≤ 3 * b := Nat.mul_le_mul_right _ h3
    have : emp.size = 0 := rfl
    omega
theorem pg7 {B b : Nat} {P : Int} {N : ByteArray} {x : VPat} (hP : 0 ≤ P ∧ P ≤ 9) (hN : goodUp N) (hb : 4 ≤ b) (hB : 3 + 3 * b ≤ B) (hx : PG b x) : PG B (.mk 7 N 0 P [x]) := by
  refine PG.of (b := b) ?_ (by omega) (by omega) hP (by simpa using hx) ?_
  · simp [VPat.headP, VPat.Kind, VPat.Name, VPat.Num, VPat.Pos, VPat.Kids, hP.1, hN.1]
  · have := hN.2
    simp only [List.length_cons, List.length_nil]; omega
end Go.Ab
namespace Go.Proofs.Ab
open Go.Ab
set_option maxRecDepth 100000
set_option maxHeartbeats 4000000
theorem dr_below {c : Cur} (hc : c.ok) (n : Int) (hn : 0 < n) {K : AV → Prop} (k : ∀ (m : Int) (c' : Cur), 0 ≤ m → m < n → c'.ok → goT K (.tup [avI m, .sl (bys c'.l), avI c'.i, avI c'.h])) : scallP Tryz.prog F.spec_l1Below G.spec_l1Below [.sl (bys c.l), avI c.i, avI c.h, avI n] K := by
  obtain ⟨h1, h2, h3⟩ := Cur.below_ok hc n
  exact scall_v (spec_l1Below_c hc n) rfl (by simp [Cur.avs, AV.norefs, AV.noref, bys_noref]) (k _ _ h2 (h3 hn) h1)
theorem dr_once {c : Cur} (hc : c.ok) (n : Int) {K : AV → Prop} (k : ∀ (b : Bool) (c' : Cur), c'.ok → goT K (.tup [.v (.bool b), .sl (bys c'.l), avI c'.i, avI c'.h])) : scallP Tryz.prog F.spec_l1Once G.spec_l1Once [.sl (bys c.l), avI c.i, avI c.h, avI n] K := by
  obtain ⟨h1, h2, h3⟩ := Cur.below_ok hc n
  exact scall_v (spec_l1Once_c hc n) rfl (by simp [Cur.avs, AV.norefs, AV.noref, bys_noref]) (k _ _ h1)
theorem dr_int {c : Cur} (hc : c.ok) (l : List Int) (hl : l ≠ []) (hlen : l.length ≤ 1048576) {K : AV → Prop} (k : ∀ (m : Int) (c' : Cur), m ∈ l → c'.ok → goT K (.tup [avI m, .sl (bys c'.l), avI c'.i, avI c'.h])) : scallP Tryz.prog F.spec_l1Int G.spec_l1Int [.sl (bys c.l), avI c.i, avI c.h, .sl (l.map avI)] K := by
  obtain ⟨h1, h2⟩ := Cur.pick_ok hc hl
  exact scall_v (spec_l1Int_c hc l hl hlen) rfl (by simp [Cur.avs, AV.norefs, AV.noref, bys_noref]) (k _ _ h2 h1)
theorem spec_l1Str_c {c : Cur} (hc : c.ok) (l : List ByteArray) (hl : l ≠ []) (hlen : l.length ≤ 1048576) : ∃ s c', s ∈ l ∧ Cur.ok c' ∧ SCon Tryz.prog F.spec_l1Str G.spec_l1Str (c.avs ++ [.sl (l.map avB)]) (avB s :: c'.avs) := by
  have hp := List.length_pos_iff.2 hl
  obtain ⟨h1, h2, h3⟩ := Cur.below_ok hc l.length
  have h3 := h3 (by omega)
  have hlt : (c.below l.length).1.toNat < l.length := by omega
  refine ⟨l.getD (c.below l.length).1.toNat ⟨#[]⟩, (c.below l.length).2, by simp only [List.getD, List.getElem?_eq_getElem hlt, Option.getD_some]; exact List.getElem_mem hlt, h1, ?_⟩
  refine T.spec_l1Str_scon rfl rfl (by simp [Cur.avs, AV.norefs, AV.noref, bys_noref, norefsM (f := avB) (l := l) fun _ => rfl]) ?_
  simp only [T.spec_l1Str, Cur.avs, List.length_map, WA, Nat.reduceEqDiff, Nat.reduceAdd, Nat.reduceLT, Nat.reduceLeDiff, Nat.reduceMul, reduceIte, reduceCtorEq, Int.reduceEq, Int.reduceLT, Int.reduceLE, Int.reduceNe]
  refine scall_v (spec_l1Below_c hc l.length) rfl (by simp [Cur.avs, AV.norefs, AV.noref, bys_noref]) ?_
  simp only [Cur.avs, WA, Nat.reduceEqDiff, Nat.reduceAdd, Nat.reduceLT, Nat.reduceLeDiff, Nat.reduceMul, reduceIte, reduceCtorEq, Int.reduceEq, Int.reduceLT, Int.reduceLE, Int.reduceNe]
  have he : (c.below l.length).1 = (((c.below l.length).1.toNat : Nat) : Int) := by omega
  rw [he]
  refine elemM avB hlt rfl ?_
  simp only [WA, Nat.reduceEqDiff, Nat.reduceAdd, Nat.reduceLT, Nat.reduceLeDiff, Nat.reduceMul, reduceIte, reduceCtorEq, Int.reduceEq, Int.reduceLT, Int.reduceLE, Int.reduceNe]
  simp only [Int.toNat_natCast, List.getD, List.getElem?_eq_getElem hlt, Option.getD_some]
theorem dr_str {c : Cur} (hc : c.ok) (l : List ByteArray) (hl : l ≠ []) (hlen : l.length ≤ 1048576) {K : AV → Prop} (k : ∀ (s : ByteArray) (c' : Cur), s ∈ l → c'.ok → goT K (.tup [avB s, .sl (bys c'.l), avI c'.i, avI c'.h])) : scallP Tryz.prog F.spec_l1Str G.spec_l1Str [.sl (bys c.l), avI c.i, avI c.h, .sl (l.map avB)] K := by
  obtain ⟨s, c', hs, hc', h⟩ := spec_l1Str_c hc l hl hlen
  exact scall_v h rfl (by simp [Cur.avs, AV.norefs, AV.noref, bys_noref]) (k _ _ hs hc')
theorem drawName_c {c : Cur} (hc : c.ok) : Drawn Tryz.prog F.spec_l2DrawName G.spec_l2DrawName [.sl (bys c.l), avI c.i, avI c.h] avB goodLow := by
  refine Drawn.intro rfl rfl (fun outs ho hw => T.spec_l2DrawName_scon rfl ho (by simp [AV.norefs, AV.noref, bys_noref]) hw) _ (nmL_low _ (List.mem_cons_self ..)) c hc ?_
  simp only [T.spec_l2DrawName, WA, Nat.reduceEqDiff, Nat.reduceAdd, Nat.reduceLT, Nat.reduceLeDiff, Nat.reduceMul, reduceIte, reduceCtorEq, Int.reduceEq, Int.reduceLT, Int.reduceLE, Int.reduceNe]
  refine dr_str hc nmL (by simp [nmL]) (by decide) fun s c' hs hc' => ?_
  simp only [WA, Nat.reduceEqDiff, Nat.reduceAdd, Nat.reduceLT, Nat.reduceLeDiff, Nat.reduceMul, reduceIte, reduceCtorEq, Int.reduceEq, Int.reduceLT, Int.reduceLE, Int.reduceNe]
  exact dx_ret hc' s (.refl _) (nmL_low s hs)
theorem drawUp_c {c : Cur} (hc : c.ok) : Drawn Tryz.prog F.spec_l2DrawUp G.spec_l2DrawUp [.sl (bys c.l), avI c.i, avI c.h] avB goodUp := by
  refine Drawn.intro rfl rfl (fun outs ho hw => T.spec_l2DrawUp_scon rfl ho (by simp [AV.norefs, AV.noref, bys_noref]) hw) _ (upL_up _ (List.mem_cons_self ..)) c hc ?_
  simp only [T.spec_l2DrawUp, WA, Nat.reduceEqDiff, Nat.reduceAdd, Nat.reduceLT, Nat.reduceLeDiff, Nat.reduceMul, reduceIte, reduceCtorEq, Int.reduceEq, Int.reduceLT, Int.reduceLE, Int.reduceNe]
  refine dr_str hc upL (by simp [upL]) (by decide) fun s c' hs hc' => ?_
  simp only [WA, Nat.reduceEqDiff, Nat.reduceAdd, Nat.reduceLT, Nat.reduceLeDiff, Nat.reduceMul, reduceIte, reduceCtorEq, Int.reduceEq, Int.reduceLT, Int.reduceLE, Int.reduceNe]
  exact dx_ret hc' s (.refl _) (upL_up s hs)
theorem dr_name {c : Cur} (hc : c.ok) {K : AV → Prop} (k : ∀ (s : ByteArray) (c' : Cur), goodLow s → c'.ok → goT K (.tup [avB s, .sl (bys c'.l), avI c'.i, avI c'.h])) : scallP Tryz.prog F.spec_l2DrawName G.spec_l2DrawName [.sl (bys c.l), avI c.i, avI c.h] K :=
  (drawName_c hc).use rfl (fun _ => rfl) k
theorem dr_up {c : Cur} (hc : c.ok) {K : AV → Prop} (k : ∀ (s : ByteArray) (c' : Cur), goodUp s → c'.ok → goT K (.tup [avB s, .sl (bys c'.l), avI c'.i, avI c'.h])) : scallP Tryz.prog F.spec_l2DrawUp G.spec_l2DrawUp [.sl (bys c.l), avI c.i, avI c.h] K :=
  (drawUp_c hc).use rfl (fun _ => rfl) k
abbrev DPat (d : Int) (B : Nat) (c : Cur) : Prop := Drawn Tryz.prog F.spec_l2DrawPat G.spec_l2DrawPat [.sl (bys c.l), avI c.i, avI c.h, avI d] VPat.av (PG B)
theorem dr_pat {d : Int} {B : Nat} (h : ∀ c : Cur, c.ok → DPat d B c) {c : Cur} (hc : c.ok) {K : AV → Prop} (k : ∀ (x : VPat) (c' : Cur), PG B x → c'.ok → goT K (.tup [x.av, .sl (bys c'.l), avI c'.i, avI c'.h])) : scallP Tryz.prog F.spec_l2DrawPat G.spec_l2DrawPat [.sl (bys c.l), avI c.i, avI c.h, avI d] K :=
  (h c hc).use rfl VPat.noref k
theorem drawPat_c (n : Nat) : ∀ (d : Int), 0 ≤ d → d ≤ n → n ≤ 100 → ∀ {c : Cur}, c.ok → DPat d (PB n) c := by
  induction n with
  | zero =>
    intro d hd0 hd _ c hc
    refine Drawn.intro rfl rfl (fun outs ho hw => T.spec_l2DrawPat_scon rfl ho (by simp [AV.norefs, AV.noref, bys_noref]) hw) (.mk 1 emp 0 0 []) (pg0 (Nat.le_refl _) (by omega) (.inl ⟨.inl rfl, rfl, rfl⟩)) c hc ?_
    simp only [T.spec_l2DrawPat, WA, Nat.reduceEqDiff, Nat.reduceAdd, Nat.reduceLT, Nat.reduceLeDiff, Nat.reduceMul, reduceIte, reduceCtorEq, Int.reduceEq, Int.reduceLT, Int.reduceLE, Int.reduceNe]
    repeat' (first | (simp (disch := (first | omega | rfl | exact rfl | (simp only [cells_v, List.length_cons, List.length_nil]; done) | exact VPat.width _)) only [hd, VPat.cells, VPat.isAgg, VPat.storable, VPat.eta, wrapI, wrapS, wrapA, wrapA1, lt0, WA, Nat.reduceEqDiff, Nat.reduceAdd, Nat.reduceLT, Nat.reduceLeDiff, Nat.reduceMul, reduceIte, reduceCtorEq, Int.reduceEq, Int.reduceLT, Int.reduceLE, Int.reduceNe]) | (simp (disch := (first | omega | rfl | exact rfl | (simp only [cells_v, List.length_cons, List.length_nil]; done) | exact VPat.width _)) only [VPat.cells, VPat.isAgg, VPat.storable, VPat.eta, wrapI, wrapS, wrapA, wrapA1, lt0, WA, Nat.reduceEqDiff, Nat.reduceAdd, Nat.reduceLT, Nat.reduceLeDiff, Nat.reduceMul, reduceIte, reduceCtorEq, Int.reduceEq, Int.reduceLT, Int.reduceLE, Int.reduceNe]) | (refine ite_dec (fun hq => ?_) (fun hq => ?_) <;> (try simp only [hq, decide_true, decide_false, Bool.not_true, Bool.not_false, Bool.not_eq_true', Bool.not_eq_false']) <;> (try (exfalso; omega))) | (refine ite_ndec (fun hq => ?_) (fun hq => ?_) <;> (try simp only [hq, decide_true, decide_false, Bool.not_true, Bool.not_false, Bool.not_eq_true', Bool.not_eq_false']) <;> (try (exfalso; omega))) | (refine ite_intro (fun hq => ?_) (fun hq => ?_) <;> (try simp only [hq, decide_true, decide_false, Bool.not_true, Bool.not_false, Bool.not_eq_true', Bool.not_eq_false']) <;> (try (exfalso; omega))) | (refine bind_push ?_) | (refine dr_below (by assumption) _ (by omega) fun m c' h0 h1 hc' => ?_) | (refine dr_name (by assumption) fun s c' hs hc' => ?_) | (refine dxP_nil (by assumption) ?_))
    all_goals first
      | exact pg0 (PB_ge _) (by omega) (.inl ⟨.inl rfl, rfl, rfl⟩)
      | exact pg0 (PB_ge _) (by omega) (.inl ⟨.inr rfl, rfl, rfl⟩)
      | exact pg0 (PB_ge _) (by omega) (.inr (.inl ⟨rfl, by assumption, rfl⟩))
      | exact pg0 (PB_ge _) (by omega) (.inr (.inr (.inl ⟨rfl, rfl, by omega, by omega⟩)))
      | exact pg0 (PB_ge _) (by omega) (.inr (.inr (.inr (.inl ⟨rfl, rfl, by omega, by omega⟩))))
      | exact pg0 (PB_ge _) (by omega) (.inr (.inr (.inr (.inr ⟨rfl, by assumption, rfl⟩))))
      | skip
  | succ n ih =>
    intro d hd0 hd hn c hc
    have ihp : 0 < d → ∀ c : Cur, c.ok → DPat (d - 1) (PB n) c := fun h0 c hc => ih (d - 1) (by omega) (by omega) (by omega) hc
    refine Drawn.intro rfl rfl (fun outs ho hw => T.spec_l2DrawPat_scon rfl ho (by simp [AV.norefs, AV.noref, bys_noref]) hw) (.mk 1 emp 0 0 []) (pg0 (PB_ge _) (by omega) (.inl ⟨.inl rfl, rfl, rfl⟩)) c hc ?_
    simp only [T.spec_l2DrawPat, WA, Nat.reduceEqDiff, Nat.reduceAdd, Nat.reduceLT, Nat.reduceLeDiff, Nat.reduceMul, reduceIte, reduceCtorEq, Int.reduceEq, Int.reduceLT, Int.reduceLE, Int.reduceNe]
    repeat' (first | (simp (disch := (first | omega | rfl | exact rfl | (simp only [cells_v, List.length_cons, List.length_nil]; done) | exact VPat.width _)) only [hel, hely, hd, hdy, VPat.cells, VPat.isAgg, VPat.storable, VPat.eta, wrapI, wrapS, wrapA, wrapA1, lt0, WA, Nat.reduceEqDiff, Nat.reduceAdd, Nat.reduceLT, Nat.reduceLeDiff, Nat.reduceMul, reduceIte, reduceCtorEq, Int.reduceEq, Int.reduceLT, Int.reduceLE, Int.reduceNe]) | (simp (disch := (first | omega | rfl | exact rfl | (simp only [cells_v, List.length_cons, List.length_nil]; done) | exact VPat.width _)) only [hel, hd, VPat.cells, VPat.isAgg, VPat.storable, VPat.eta, wrapI, wrapS, wrapA, wrapA1, lt0, WA, Nat.reduceEqDiff, Nat.reduceAdd, Nat.reduceLT, Nat.reduceLeDiff, Nat.reduceMul, reduceIte, reduceCtorEq, Int.reduceEq, Int.reduceLT, Int.reduceLE, Int.reduceNe]) | (simp (disch := (first | omega | rfl | exact rfl | (simp only [cells_v, List.length_cons, List.length_nil]; done) | exact VPat.width _)) only [hd, hdy, VPat.cells, VPat.isAgg, VPat.storable, VPat.eta, wrapI, wrapS, wrapA, wrapA1, lt0, WA, Nat.reduceEqDiff, Nat.reduceAdd, Nat.reduceLT, Nat.reduceLeDiff, Nat.reduceMul, reduceIte, reduceCtorEq, Int.reduceEq, Int.reduceLT, Int.reduceLE, Int.reduceNe]) | (simp (disch := (first | omega | rfl | exact rfl | (simp only [cells_v, List.length_cons, List.length_nil]; done) | exact VPat.width _)) only [hix, hd, VPat.cells, VPat.isAgg, VPat.storable, VPat.eta, wrapI, wrapS, wrapA, wrapA1, lt0, WA, Nat.reduceEqDiff, Nat.reduceAdd, Nat.reduceLT, Nat.reduceLeDiff, Nat.reduceMul, reduceIte, reduceCtorEq, Int.reduceEq, Int.reduceLT, Int.reduceLE, Int.reduceNe]) | (simp (disch := (first | omega | rfl | exact rfl | (simp only [cells_v, List.length_cons, List.length_nil]; done) | exact VPat.width _)) only [hd, VPat.cells, VPat.isAgg, VPat.storable, VPat.eta, wrapI, wrapS, wrapA, wrapA1, lt0, WA, Nat.reduceEqDiff, Nat.reduceAdd, Nat.reduceLT, Nat.reduceLeDiff, Nat.reduceMul, reduceIte, reduceCtorEq, Int.reduceEq, Int.reduceLT, Int.reduceLE, Int.reduceNe]) | (simp (disch := (first | omega | rfl | exact rfl | (simp only [cells_v, List.length_cons, List.length_nil]; done) | exact VPat.width _)) only [VPat.cells, VPat.isAgg, VPat.storable, VPat.eta, wrapI, wrapS, wrapA, wrapA1, lt0, WA, Nat.reduceEqDiff, Nat.reduceAdd, Nat.reduceLT, Nat.reduceLeDiff, Nat.reduceMul, reduceIte, reduceCtorEq, Int.reduceEq, Int.reduceLT, Int.reduceLE, Int.reduceNe]) | (refine ite_dec (fun hq => ?_) (fun hq => ?_) <;> (try simp only [hq, decide_true, decide_false, Bool.not_true, Bool.not_false, Bool.not_eq_true', Bool.not_eq_false']) <;> (try (exfalso; omega))) | (refine ite_ndec (fun hq => ?_) (fun hq => ?_) <;> (try simp only [hq, decide_true, decide_false, Bool.not_true, Bool.not_false, Bool.not_eq_true', Bool.not_eq_false']) <;> (try (exfalso; omega))) | (refine ite_intro (fun hq => ?_) (fun hq => ?_) <;> (try simp only [hq, decide_true, decide_false, Bool.not_true, Bool.not_false, Bool.not_eq_true', Bool.not_eq_false']) <;> (try (exfalso; omega))) | (refine bind_push ?_) | (refine dr_below (by assumption) _ (by omega) fun m c' h0 h1 hc' => ?_) | (refine dr_name (by assumption) fun s c' hs hc' => ?_) | (refine dr_up (by assumption) fun s c' hs hc' => ?_) | (refine dr_pat (ihp (by omega)) (by assumption) fun x c' hx hc' => ?_) | (refine dxP_nil (by assumption) ?_) | (refine dxP_sl (by assumption) [_] ?_) | (refine dxP_sl (by assumption) _ ?_) | (refine loop_down VPat.av (PG (PB n)) (by assumption) _ (by omega) fun c xs i hc hxs hi0 hin => ?_))
    all_goals first
      | exact pg0 (PB_ge _) (by omega) (.inl ⟨.inl rfl, rfl, rfl⟩)
      | exact pg0 (PB_ge _) (by omega) (.inl ⟨.inr rfl, rfl, rfl⟩)
      | exact pg0 (PB_ge _) (by omega) (.inr (.inl ⟨rfl, by assumption, rfl⟩))
      | exact pg0 (PB_ge _) (by omega) (.inr (.inr (.inl ⟨rfl, rfl, by omega, by omega⟩)))
      | exact pg0 (PB_ge _) (by omega) (.inr (.inr (.inr (.inl ⟨rfl, rfl, by omega, by omega⟩))))
      | exact pg0 (PB_ge _) (by omega) (.inr (.inr (.inr (.inr ⟨rfl, by assumption, rfl⟩))))
      | exact pg6 (b := PB n) (by omega) (by simp only [PB]; omega) (by omega) (by omega) (by assumption)
      | exact pg7 (b := PB n) (x := _) (by omega) (by assumption) (PB_ge n) (by simp only [PB]; omega) (by assumption)
      | exact ⟨fun y hy => by rw [hy]; exact VPat.width _, by omega, by omega, _, _, by assumption, by assumption, rfl⟩
      | skip
    all_goals trace_state
end Go.Proofs.Ab
