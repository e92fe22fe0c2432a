/-
  A small abstract logic over the model: values of memory that nobody writes any more read as trees (AV.sl), what a call owns reads as rows and boxes (AV.row, AV.ptr).
  Base: abstract values, what they say of a concrete value, the invariant on memory, how it is handed on.
-/
import Derived.Tactics
import Derived.Below
import Derived.Laws.AppendOwn
import Derived.Laws.OwnMore
import Derived.Laws.MakeOwn
import Derived.Laws.Tables
import Derived.Laws.Cells
set_option linter.unusedVariables false
set_option linter.unusedSimpArgs false
set_option linter.defProp false
namespace Go.Ab

/-- Memory that is not written any more. -/
abbrev Imm := Nat → Nat → Option Value

inductive AV where
  | top
  | v (x : Value)
  | nils
  | sl (xs : List AV)
  | iptr (x : AV) (f : Nat)
  | row (n len : Nat)
  | ptr (n len i f : Nat)
  | fn (f : FuncId) (caps : List AV)
  | agg (cs : List AV)
  | tup (vs : List AV)

instance : Inhabited AV := ⟨.top⟩

def AV.cells : AV → List AV
  | .agg cs => cs
  | x => [x]

def AV.isAgg : AV → Bool
  | .agg _ => true
  | _ => false

def AV.isCell : AV → Bool
  | .agg _ | .tup _ | .top => false
  | _ => true

inductive AObj where
  | dead
  /-- a slice that is still nil: no memory yet -/
  | nil (e s : Nat)
  | live (e s : Nat) (xs : List AV)

instance : Inhabited AObj := ⟨.dead⟩

structure Loc where
  blk : Nat
  cap : Nat

/-- What an abstract value says of a concrete one. -/
inductive R (I : Imm) (L : Nat → Loc) (O : List AObj) : AV → Value → Prop
  | top (x : Value) : R I L O .top x
  | v (x : Value) : x.oneCell' = true → R I L O (.v x) x
  | nils : R I L O .nils (.slice none 0 0)
  | sl0 (a : Option Addr) (cap : Nat) : R I L O (.sl []) (.slice a 0 cap)
  | sl (xs : List AV) (blk off cap s : Nat) (vals : Nat → Nat → Value) : xs.length ≤ cap → xs ≠ [] →
      (∀ (i : Nat) (x : AV), xs[i]? = some x → x.cells.length = s) →
      (∀ (i : Nat) (x : AV) (j : Nat) (c : AV), xs[i]? = some x → x.cells[j]? = some c → I blk (off + i * s + j) = some (vals i j) ∧ (vals i j).oneCell' = true) →
      (∀ (i : Nat) (x : AV) (j : Nat) (c : AV), xs[i]? = some x → x.cells[j]? = some c → R I L O c (vals i j)) →
      R I L O (.sl xs) (.slice (some ⟨blk, off, none⟩) xs.length cap)
  | iptr (x : AV) (f blk base : Nat) (vals : Nat → Value) :
      (∀ (j : Nat) (c : AV), x.cells[j]? = some c → I blk (base + j) = some (vals j) ∧ (vals j).oneCell' = true) →
      (∀ (j : Nat) (c : AV), x.cells[j]? = some c → R I L O c (vals j)) →
      R I L O (.iptr x f) (.pointer (some ⟨blk, base + f, none⟩))
  | rowLive (n len e s : Nat) (xs : List AV) : O[n]? = some (.live e s xs) → xs.length = len →
      R I L O (.row n len) (.slice (some ⟨(L n).blk, 0, none⟩) len (L n).cap)
  | rowNil (n e s : Nat) : O[n]? = some (.nil e s) → R I L O (.row n 0) (.slice none 0 0)
  | rowDead (n len : Nat) (x : Value) : n < O.length → (∀ e s, O[n]? ≠ some (.nil e s)) → (∀ e s xs, O[n]? = some (.live e s xs) → len < xs.length) → x.oneCell' = true →
      R I L O (.row n len) x
  | ptrLive (n len i f e s : Nat) (xs : List AV) : O[n]? = some (.live e s xs) → xs.length = len →
      R I L O (.ptr n len i f) (.pointer (some ⟨(L n).blk, i * s + f, none⟩))
  | ptrDead (n len i f : Nat) (x : Value) : n < O.length → (∀ e s, O[n]? ≠ some (.nil e s)) → (∀ e s xs, O[n]? = some (.live e s xs) → len < xs.length) → x.oneCell' = true →
      R I L O (.ptr n len i f) x
  | fn (f : FuncId) (caps : List AV) (vs : Array Value) : caps.length = vs.size →
      (∀ (i : Nat) (c : AV) (x : Value), caps[i]? = some c → vs[i]? = some x → R I L O c x) → R I L O (.fn f caps) (.func (.func f) #[] vs)
  | agg (cs : List AV) (vs : Array Value) : cs.length = vs.size →
      (∀ (i : Nat) (c : AV) (x : Value), cs[i]? = some c → vs[i]? = some x → R I L O c x) → R I L O (.agg cs) (.agg vs)
  | tup (cs : List AV) (vs : Array Value) : cs.length = vs.size →
      (∀ (i : Nat) (c : AV) (x : Value), cs[i]? = some c → vs[i]? = some x → R I L O c x) → R I L O (.tup cs) (.tuple vs)

/-- How what is known is handed on. -/
structure Ext (I : Imm) (L : Nat → Loc) (O : List AObj) (I' : Imm) (L' : Nat → Loc) (O' : List AObj) : Prop where
  imm : ∀ b o x, I b o = some x → I' b o = some x
  len : O.length ≤ O'.length
  obj : ∀ n, n < O.length → ∀ e s xs, O'[n]? = some (.live e s xs) → (∃ ys, O[n]? = some (.live e s ys) ∧ ys.length ≤ xs.length ∧ (ys.length = xs.length → L' n = L n)) ∨ (O[n]? = some (.nil e s) ∧ xs ≠ [])
  nil : ∀ n, n < O.length → ∀ e s, O'[n]? = some (.nil e s) → O[n]? = some (.nil e s)

theorem Ext.refl (I : Imm) (L : Nat → Loc) (O : List AObj) : Ext I L O I L O :=
  ⟨fun _ _ _ h => h, Nat.le_refl _, fun _ _ _ _ xs h => .inl ⟨xs, h, Nat.le_refl _, fun _ => rfl⟩, fun _ _ _ _ h => h⟩

theorem Ext.trans {I I' I'' : Imm} {L L' L'' : Nat → Loc} {O O' O'' : List AObj} (h : Ext I L O I' L' O') (k : Ext I' L' O' I'' L'' O'') : Ext I L O I'' L'' O'' := by
  refine ⟨fun b o x hx => k.imm _ _ _ (h.imm _ _ _ hx), Nat.le_trans h.len k.len, fun n hn e s xs hx => ?_, fun n hn e s hx => h.nil n hn e s (k.nil n (Nat.lt_of_lt_of_le hn h.len) e s hx)⟩
  rcases k.obj n (Nat.lt_of_lt_of_le hn h.len) e s xs hx with ⟨ys, hy, hle, hL⟩ | ⟨hy, hne⟩
  · rcases h.obj n hn e s ys hy with ⟨zs, hz, hle', hL'⟩ | ⟨hz, hne⟩
    · exact .inl ⟨zs, hz, Nat.le_trans hle' hle, fun he => (hL (by omega)).trans (hL' (by omega))⟩
    · refine .inr ⟨hz, fun h0 => hne ?_⟩
      subst h0; exact List.eq_nil_of_length_eq_zero (by simpa using hle)
  · exact .inr ⟨h.nil n hn e s hy, hne⟩

/-- the object's length has not changed, or what is said of it does not hold any more -/
theorem Ext.stale {I I' : Imm} {L L' : Nat → Loc} {O O' : List AObj} (h : Ext I L O I' L' O') {n len : Nat} (hn : n < O.length) (hnn : ∀ e s, O[n]? ≠ some (.nil e s)) (hs : ∀ e s xs, O[n]? = some (.live e s xs) → len < xs.length) :
    n < O'.length ∧ (∀ e s, O'[n]? ≠ some (.nil e s)) ∧ ∀ e s xs, O'[n]? = some (.live e s xs) → len < xs.length := by
  refine ⟨Nat.lt_of_lt_of_le hn h.len, fun e s he => hnn e s (h.nil n hn e s he), fun e s xs hx => ?_⟩
  rcases h.obj n hn e s xs hx with ⟨ys, hy, hle, _⟩ | ⟨hy, _⟩
  · exact Nat.lt_of_lt_of_le (hs e s ys hy) hle
  · exact (hnn e s hy).elim

theorem Ext.live {I I' : Imm} {L L' : Nat → Loc} {O O' : List AObj} (h : Ext I L O I' L' O') {n len e s : Nat} {xs : List AV} (hn : O[n]? = some (.live e s xs)) (hl : xs.length = len) :
    (∃ ys, O'[n]? = some (.live e s ys) ∧ ys.length = len ∧ L' n = L n) ∨ (n < O'.length ∧ (∀ e s, O'[n]? ≠ some (.nil e s)) ∧ ∀ e s xs, O'[n]? = some (.live e s xs) → len < xs.length) := by
  have hlt : n < O.length := (List.getElem?_eq_some_iff.1 hn).1
  have hnil : ∀ e s, O'[n]? ≠ some (.nil e s) := fun e s he => by have := h.nil n hlt e s he; rw [hn] at this; cases this
  by_cases hd : ∃ e' s' xs', O'[n]? = some (.live e' s' xs')
  · obtain ⟨e', s', xs', hx⟩ := hd
    rcases h.obj n hlt e' s' xs' hx with ⟨ys, hy, hle, hL⟩ | ⟨hy, _⟩
    · rw [hn] at hy; cases hy
      by_cases he : xs.length = xs'.length
      · exact .inl ⟨xs', hx, by omega, hL he⟩
      · exact .inr ⟨Nat.lt_of_lt_of_le hlt h.len, hnil, fun e'' s'' xs'' hx' => by rw [hx] at hx'; cases hx'; omega⟩
    · rw [hn] at hy; cases hy
  · exact .inr ⟨Nat.lt_of_lt_of_le hlt h.len, hnil, fun e'' s'' xs'' hx' => (hd ⟨_, _, _, hx'⟩).elim⟩

theorem R.mono {I I' : Imm} {L L' : Nat → Loc} {O O' : List AObj} (h : Ext I L O I' L' O') {a : AV} {x : Value} (hr : R I L O a x) : R I' L' O' a x := by
  induction hr with
  | top x => exact .top x
  | v x hx => exact .v x hx
  | nils => exact .nils
  | sl0 a cap => exact .sl0 a cap
  | sl xs blk off cap s vals h1 h2 h3 h4 _ ih => exact .sl xs blk off cap s vals h1 h2 h3 (fun i x j c hi hj => ⟨h.imm _ _ _ (h4 i x j c hi hj).1, (h4 i x j c hi hj).2⟩) ih
  | iptr x f blk base vals h1 _ ih => exact .iptr x f blk base vals (fun j c hj => ⟨h.imm _ _ _ (h1 j c hj).1, (h1 j c hj).2⟩) ih
  | rowLive n len e s xs hn hl =>
    rcases h.live hn hl with ⟨ys, h1, h2, h3⟩ | ⟨h1, h2, h3⟩
    · rw [← h3]; exact .rowLive n len e s ys h1 h2
    · exact .rowDead n len _ h1 h2 h3 rfl
  | rowNil n e s hn =>
    have hlt : n < O.length := (List.getElem?_eq_some_iff.1 hn).1
    by_cases hd : ∃ e' s', O'[n]? = some (.nil e' s')
    · obtain ⟨e', s', hx⟩ := hd
      exact .rowNil n e' s' hx
    · refine .rowDead n 0 _ (Nat.lt_of_lt_of_le hlt h.len) (fun e' s' he => hd ⟨e', s', he⟩) (fun e' s' xs hx => ?_) rfl
      rcases h.obj n hlt e' s' xs hx with ⟨ys, hy, _⟩ | ⟨_, hne⟩
      · rw [hn] at hy; cases hy
      · exact List.length_pos_iff.2 hne
  | rowDead n len x hn hnn hs hx =>
    obtain ⟨h1, h2, h3⟩ := h.stale hn hnn hs
    exact .rowDead n len x h1 h2 h3 hx
  | ptrLive n len i f e s xs hn hl =>
    rcases h.live hn hl with ⟨ys, h1, h2, h3⟩ | ⟨h1, h2, h3⟩
    · rw [← h3]; exact .ptrLive n len i f e s ys h1 h2
    · exact .ptrDead n len i f _ h1 h2 h3 rfl
  | ptrDead n len i f x hn hnn hs hx =>
    obtain ⟨h1, h2, h3⟩ := h.stale hn hnn hs
    exact .ptrDead n len i f x h1 h2 h3 hx
  | fn f caps vs h1 _ ih => exact .fn f caps vs h1 ih
  | agg cs vs h1 _ ih => exact .agg cs vs h1 ih
  | tup cs vs h1 _ ih => exact .tup cs vs h1 ih

/-- An object in memory. -/
def ObjOk (I : Imm) (L : Nat → Loc) (O : List AObj) (w : World) (l : Loc) (e s : Nat) (xs : List AV) : Prop :=
  ∃ c : Array Value, w.heap[l.blk]? = some (.cells c e (0, 0)) ∧ c.size = l.cap * s ∧ xs.length ≤ l.cap ∧ l.cap ≤ maxLen ∧ 0 < s ∧
    ∀ (i : Nat) x, xs[i]? = some x → x.cells.length = s ∧ ∀ (j : Nat) a, x.cells[j]? = some a → ∃ y, c[i * s + j]? = some y ∧ y.oneCell' = true ∧ R I L O a y

structure Inv (I : Imm) (L : Nat → Loc) (O : List AObj) (w : World) : Prop where
  imm : ∀ b o x, I b o = some x → w.cell? ⟨b, o, none⟩ = some x
  obj : ∀ (n : Nat) e s xs, O[n]? = some (.live e s xs) → ObjOk I L O w (L n) e s xs
  sep : ∀ (n m : Nat) e s xs e' s' ys, O[n]? = some (.live e s xs) → O[m]? = some (.live e' s' ys) → (L n).blk = (L m).blk → n = m
  immSep : ∀ (n : Nat) e s xs o, O[n]? = some (.live e s xs) → I (L n).blk o = none

/-- The blocks that are owned. -/
def LB (L : Nat → Loc) (O : List AObj) (b : Nat) : Prop := ∃ (n : Nat) (e s : Nat) (xs : List AV), O[n]? = some (.live e s xs) ∧ (L n).blk = b

structure Frm (own : Nat → Prop) (w w' : World) : Prop where
  os : w'.os = w.os
  tape : w'.tape = w.tape
  output : w'.output = w.output
  size : w.heap.size ≤ w'.heap.size
  block : ∀ b, b < w.heap.size → ¬ own b → w'.heap[b]? = w.heap[b]?

theorem Frm.refl (own : Nat → Prop) (w : World) : Frm own w w := ⟨rfl, rfl, rfl, Nat.le_refl _, fun _ _ _ => rfl⟩

theorem Frm.trans {own own' : Nat → Prop} {w w' w'' : World} (h : Frm own w w') (k : Frm own' w' w'') (ho : ∀ b, own' b → own b ∨ w.heap.size ≤ b) : Frm own w w'' :=
  ⟨k.os.trans h.os, k.tape.trans h.tape, k.output.trans h.output, Nat.le_trans h.size k.size, fun b hb hn =>
    (k.block b (Nat.lt_of_lt_of_le hb h.size) (fun hc => by rcases ho b hc with h1 | h1 <;> first | exact hn h1 | omega)).trans (h.block b hb hn)⟩

theorem Frm.below {w w' : World} (h : Frm (fun _ => False) w w') : RowKit.Below w.heap.size w w' :=
  ⟨h.os, h.tape, h.output, h.size, fun k hk => h.block k hk (fun x => x)⟩

def RL (I : Imm) (L : Nat → Loc) (O : List AObj) (as : List AV) (vs : Array Value) : Prop :=
  as.length = vs.size ∧ ∀ (i : Nat) a x, as[i]? = some a → vs[i]? = some x → R I L O a x

/-- How memory and what is known of it may go on. -/
structure Good (I : Imm) (L : Nat → Loc) (O : List AObj) (w : World) (I' : Imm) (L' : Nat → Loc) (O' : List AObj) (w' : World) : Prop where
  inv : Inv I' L' O' w'
  ext : Ext I L O I' L' O'
  frm : Frm (LB L O) w w'
  lb : ∀ b, LB L' O' b → LB L O b ∨ w.heap.size ≤ b
  immNew : ∀ b o x, I' b o = some x → I b o = some x ∨ LB L O b ∨ w.heap.size ≤ b

/-- A function with a body. -/
def Enters (P : Program) (f : FuncId) : Prop := ∃ fn, P.funcs[f]? = some fn ∧ fn.body.isSome = true ∧ (fn.name == "runtime.NumGoroutine") = false

/-- THE CONTRACT OF A CALL: args and objects before; result and objects behind it. -/
def Con (P : Program) (f : FuncId) (args : List AV) (O : List AObj) (res : AV) (O' : List AObj) : Prop :=
  Enters P f ∧ ∀ I L w vs, Inv I L O w → RL I L O args vs → Calls P f vs w fun e w' => ∃ y I' L', e = .returned y ∧ R I' L' O' res y ∧ Good I L O w I' L' O' w'

/-- A contract of a call that touches nothing that was there. -/
def PCon (P : Program) (f : FuncId) (args : List AV) (res : AV) : Prop := Con P f args [] res []

end Go.Ab
