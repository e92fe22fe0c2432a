/-
  DRAWS: contracts whose result is not told ahead; loops of draws; small draws.
-/
import Derived.Test.YtaefihlbielllaaDoorCDraw
import Derived.Test.YtaefihlbielllaaDoorGM
import Derived.Test.YtaefihlbielllaaDoorAbM4
set_option linter.unusedVariables false
set_option linter.unusedSimpArgs false
set_option linter.defProp false
namespace Go.Ab
set_option maxRecDepth 100000
set_option maxHeartbeats 4000000
theorem Con.resD {P : Program} {f : FuncId} {as' : List AV} {O O' : List AObj} {a b : AV} (h : Con P f as' O a O') (hle : AV.leD a b) : Con P f as' O b O' := by
  refine ⟨h.1, fun I L w vs hi hr => (h.2 I L w vs hi hr).mono ?_⟩
  rintro e w' ⟨y, I', L', rfl, hy, hg⟩
  exact ⟨y, I', L', rfl, hle.sound hy, hg⟩
theorem SCon.resD {P : Program} {f : FuncId} {g : Sig} {ins l : List AV} {a b : AV} {e : Nat} (h1 : g.res = .d (.x 0)) (h2 : g.objs' = [.box e [.d (.x 1), .d (.x 2), .d (.x 3)]]) (h : SCon P f g ins (a :: l)) (hle : AV.leD a b) : SCon P f g ins (b :: l) := by
  unfold SCon at h ⊢
  rw [h1, h2] at h ⊢
  exact Con.resD h hle
/-- what a draw gives: a tree and the cursor behind -/
def dx {X : Type} (av : X → AV) (good : X → Prop) : AV → Prop := ex 4 fun outs => ∃ a x c, outs = a :: Cur.avs c ∧ AV.leD a (av x) ∧ good x ∧ Cur.ok c
def Drawn (P : Program) (f : FuncId) (g : Sig) (ins : List AV) {X : Type} (av : X → AV) (good : X → Prop) : Prop := ∃ x c, good x ∧ Cur.ok c ∧ SCon P f g ins (av x :: Cur.avs c)
theorem Drawn.intro {P : Program} {f : FuncId} {g : Sig} {ins : List AV} {X : Type} {av : X → AV} {good : X → Prop} {t : T} {e : Nat} (h1 : g.res = .d (.x 0)) (h2 : g.objs' = [.box e [.d (.x 1), .d (.x 2), .d (.x 3)]])
    (con : ∀ outs : List AV, outs.length = 4 → wpT P LF (fun a => a = packR outs) t ins [] → SCon P f g ins outs) (x0 : X) (g0 : good x0) (c0 : Cur) (hc0 : c0.ok) (hw : wpT P LF (dx av good) t ins []) : Drawn P f g ins av good := by
  have hne : ∃ outs : List AV, outs.length = 4 ∧ ∃ a x c, outs = a :: Cur.avs c ∧ AV.leD a (av x) ∧ good x ∧ Cur.ok c := ⟨_, rfl, av x0, x0, c0, rfl, .refl _, g0, hc0⟩
  obtain ⟨outs, hl, ⟨a, x, c, rfl, hle, hg, hc⟩, h⟩ := ex_intro hne hw
  exact ⟨x, c, hg, hc, SCon.resD h1 h2 (con _ hl h) hle⟩
theorem Drawn.use {P : Program} {f : FuncId} {g : Sig} {ins : List AV} {X : Type} {av : X → AV} {good : X → Prop} {K : AV → Prop} (h : Drawn P f g ins av good) (hm : g.m = 4) (hn : ∀ x, (av x).noref = true)
    (k : ∀ x c, good x → Cur.ok c → goT K (.tup [av x, .sl (bys c.l), avI c.i, avI c.h])) : scallP P f g ins K := by
  obtain ⟨x, c, hg, hc, hs⟩ := h
  exact scall_v hs hm.symm (by have := hn x; have := c.noref; simp only [AV.norefs, Cur.avs] at *; simp_all) (k x c hg hc)
theorem dx_ret {X : Type} {av : X → AV} {good : X → Prop} {a : AV} {c : Cur} (hc : c.ok) (x : X) (hle : AV.leD a (av x)) (hg : good x) : retT (dx av good) [a, .sl (bys c.l), avI c.i, avI c.h] := by
  unfold retT dx ex
  exact ⟨_, rfl, ⟨a, x, c, rfl, hle, hg, hc⟩, rfl⟩
/-- counting down, a tree at each round -/
theorem loop_down {P : Program} {R : AV → Prop} {t : T} {r : List AV} {S : List (List AV → Prop)} {X : Type} (av : X → AV) (good : X → Prop) {c0 : Cur} (hc0 : c0.ok) (n : Int) (hn : 0 ≤ n)
    (hr : ∀ (c : Cur) (xs : List X) (i : Int), c.ok → (∀ x ∈ xs, good x) → 0 ≤ i → (xs.length : Int) + i = n →
      wpT P LF R t (r ++ [.sl (bys c.l), avI c.i, avI c.h, .sl (xs.map av), avI i]) ((fun vs => 0 < i ∧ ∃ c' x, Cur.ok c' ∧ good x ∧ vs = [.sl (bys c'.l), avI c'.i, avI c'.h, .sl (xs.map av ++ [av x]), avI (i - 1)]) :: S)) :
    loopT P LF R [.sl (bys c0.l), avI c0.i, avI c0.h, .sl [], avI n] t r S := by
  refine loop_intro (ι := Cur × List X × Int) (fun q => q.1.ok ∧ (∀ x ∈ q.2.1, good x) ∧ 0 ≤ q.2.2 ∧ (q.2.1.length : Int) + q.2.2 = n) (fun q => [.sl (bys q.1.l), avI q.1.i, avI q.1.h, .sl (q.2.1.map av), avI q.2.2]) (fun q => q.2.2.toNat) (c0, [], n) ⟨hc0, by simp, hn, by simp⟩ rfl fun q hq => ?_
  obtain ⟨c, xs, i⟩ := q
  obtain ⟨h1, h2, h3, h4⟩ := hq
  refine wpT_mono (fun _ _ _ h => h) (fun _ h => h) t (.cons (fun vs hv => ?_) (.refl _)) (hr c xs i h1 h2 h3 h4)
  obtain ⟨hi, c', x, hc', hx, rfl⟩ := hv
  refine ⟨(c', xs ++ [x], i - 1), ⟨hc', fun y hy => ?_, by show 0 ≤ i - 1; omega, by simp only [List.length_append, List.length_cons, List.length_nil] at *; omega⟩, by show (i - 1).toNat < i.toNat; omega, by simp⟩
  rcases List.mem_append.1 hy with hy | hy
  · exact h2 y hy
  · rw [List.mem_singleton.1 hy]; exact hx
/-- counting up, a tree at each round -/
theorem loop_upD {P : Program} {R : AV → Prop} {t : T} {r : List AV} {S : List (List AV → Prop)} {X : Type} (av : X → AV) (good : X → Prop) {c0 : Cur} (hc0 : c0.ok) (n : Int) (hn : 0 ≤ n)
    (hr : ∀ (c : Cur) (xs : List X), c.ok → (∀ x ∈ xs, good x) → (xs.length : Int) ≤ n →
      wpT P LF R t (r ++ [.sl (bys c.l), avI c.i, avI c.h, .sl (xs.map av), avI (xs.length : Int)]) ((fun vs => (xs.length : Int) < n ∧ ∃ c' x, Cur.ok c' ∧ good x ∧ vs = [.sl (bys c'.l), avI c'.i, avI c'.h, .sl (xs.map av ++ [av x]), avI ((xs.length : Int) + 1)]) :: S)) :
    loopT P LF R [.sl (bys c0.l), avI c0.i, avI c0.h, .sl [], avI 0] t r S := by
  refine loop_intro (ι := Cur × List X) (fun q => q.1.ok ∧ (∀ x ∈ q.2, good x) ∧ (q.2.length : Int) ≤ n) (fun q => [.sl (bys q.1.l), avI q.1.i, avI q.1.h, .sl (q.2.map av), avI (q.2.length : Int)]) (fun q => n.toNat - q.2.length) (c0, []) ⟨hc0, by simp, by simpa using hn⟩ rfl fun q hq => ?_
  obtain ⟨c, xs⟩ := q
  obtain ⟨h1, h2, h4⟩ := hq
  refine wpT_mono (fun _ _ _ h => h) (fun _ h => h) t (.cons (fun vs hv => ?_) (.refl _)) (hr c xs h1 h2 h4)
  obtain ⟨hi, c', x, hc', hx, rfl⟩ := hv
  refine ⟨(c', xs ++ [x]), ⟨hc', fun y hy => ?_, by simp only [List.length_append, List.length_cons, List.length_nil]; omega⟩, by simp only [List.length_append, List.length_cons, List.length_nil]; omega, by simp⟩
  rcases List.mem_append.1 hy with hy | hy
  · exact h2 y hy
  · rw [List.mem_singleton.1 hy]; exact hx
end Go.Ab
namespace Go.Proofs.Ab
open Go.Ab
set_option maxRecDepth 100000
set_option maxHeartbeats 4000000
theorem dr_below {c : Cur} (hc : c.ok) (n : Int) (hn : 0 < n) {K : AV → Prop} (k : ∀ (m : Int) (c' : Cur), 0 ≤ m → m < n → c'.ok → goT K (.tup [avI m, .sl (bys c'.l), avI c'.i, avI c'.h])) : scallP Tryd.prog F.spec_l1Below G.spec_l1Below [.sl (bys c.l), avI c.i, avI c.h, avI n] K := by
  obtain ⟨h1, h2, h3⟩ := Cur.below_ok hc n
  exact scall_v (spec_l1Below_c hc n) rfl (by simp [Cur.avs, AV.norefs, AV.noref, bys_noref]) (k _ _ h2 (h3 hn) h1)
theorem dr_once {c : Cur} (hc : c.ok) (n : Int) {K : AV → Prop} (k : ∀ (b : Bool) (c' : Cur), c'.ok → goT K (.tup [.v (.bool b), .sl (bys c'.l), avI c'.i, avI c'.h])) : scallP Tryd.prog F.spec_l1Once G.spec_l1Once [.sl (bys c.l), avI c.i, avI c.h, avI n] K := by
  obtain ⟨h1, h2, h3⟩ := Cur.below_ok hc n
  exact scall_v (spec_l1Once_c hc n) rfl (by simp [Cur.avs, AV.norefs, AV.noref, bys_noref]) (k _ _ h1)
theorem dr_int {c : Cur} (hc : c.ok) (l : List Int) (hl : l ≠ []) (hlen : l.length ≤ 1048576) {K : AV → Prop} (k : ∀ (m : Int) (c' : Cur), m ∈ l → c'.ok → goT K (.tup [avI m, .sl (bys c'.l), avI c'.i, avI c'.h])) : scallP Tryd.prog F.spec_l1Int G.spec_l1Int [.sl (bys c.l), avI c.i, avI c.h, .sl (l.map avI)] K := by
  obtain ⟨h1, h2⟩ := Cur.pick_ok hc hl
  exact scall_v (spec_l1Int_c hc l hl hlen) rfl (by simp [Cur.avs, AV.norefs, AV.noref, bys_noref]) (k _ _ h2 h1)
theorem spec_l1Str_c {c : Cur} (hc : c.ok) (l : List ByteArray) (hl : l ≠ []) (hlen : l.length ≤ 1048576) : ∃ s c', s ∈ l ∧ Cur.ok c' ∧ SCon Tryd.prog F.spec_l1Str G.spec_l1Str (c.avs ++ [.sl (l.map avB)]) (avB s :: c'.avs) := by
  have hp := List.length_pos_iff.2 hl
  obtain ⟨h1, h2, h3⟩ := Cur.below_ok hc l.length
  have h3 := h3 (by omega)
  have hlt : (c.below l.length).1.toNat < l.length := by omega
  refine ⟨l.getD (c.below l.length).1.toNat ⟨#[]⟩, (c.below l.length).2, by simp only [List.getD, List.getElem?_eq_getElem hlt, Option.getD_some]; exact List.getElem_mem hlt, h1, ?_⟩
  refine T.spec_l1Str_scon rfl rfl (by simp [Cur.avs, AV.norefs, AV.noref, bys_noref, norefsM (f := avB) (l := l) fun _ => rfl]) ?_
  simp only [T.spec_l1Str, Cur.avs, List.length_map, WA, Nat.reduceEqDiff, Nat.reduceAdd, Nat.reduceLT, Nat.reduceLeDiff, Nat.reduceMul, reduceIte, reduceCtorEq, Int.reduceEq, Int.reduceLT, Int.reduceLE, Int.reduceNe]
  refine scall_v (spec_l1Below_c hc l.length) rfl (by simp [Cur.avs, AV.norefs, AV.noref, bys_noref]) ?_
  simp only [Cur.avs, WA, Nat.reduceEqDiff, Nat.reduceAdd, Nat.reduceLT, Nat.reduceLeDiff, Nat.reduceMul, reduceIte, reduceCtorEq, Int.reduceEq, Int.reduceLT, Int.reduceLE, Int.reduceNe]
  have he : (c.below l.length).1 = (((c.below l.length).1.toNat : Nat) : Int) := by omega
  rw [he]
  refine elemM avB hlt rfl ?_
  simp only [WA, Nat.reduceEqDiff, Nat.reduceAdd, Nat.reduceLT, Nat.reduceLeDiff, Nat.reduceMul, reduceIte, reduceCtorEq, Int.reduceEq, Int.reduceLT, Int.reduceLE, Int.reduceNe]
  simp only [Int.toNat_natCast, List.getD, List.getElem?_eq_getElem hlt, Option.getD_some]
theorem dr_str {c : Cur} (hc : c.ok) (l : List ByteArray) (hl : l ≠ []) (hlen : l.length ≤ 1048576) {K : AV → Prop} (k : ∀ (s : ByteArray) (c' : Cur), s ∈ l → c'.ok → goT K (.tup [avB s, .sl (bys c'.l), avI c'.i, avI c'.h])) : scallP Tryd.prog F.spec_l1Str G.spec_l1Str [.sl (bys c.l), avI c.i, avI c.h, .sl (l.map avB)] K := by
  obtain ⟨s, c', hs, hc', h⟩ := spec_l1Str_c hc l hl hlen
  exact scall_v h rfl (by simp [Cur.avs, AV.norefs, AV.noref, bys_noref]) (k _ _ hs hc')
end Go.Proofs.Ab
