/- Part of a proof: the functions that the law reaches, walked by the abstract logic of the texts Ab. -/
import GoSem.Dispatch
import Derived.Tactics
import Derived.Below
import Derived.Laws.AppendOwn
import Derived.Laws.OwnMore
import Derived.Laws.MakeOwn
import Derived.Laws.Tables
import Derived.Laws.Cells
import Derived.Laws.IdiomStrings
import Derived.MapKept
import Derived.LaidEql
set_option linter.unusedVariables false
set_option linter.unusedSimpArgs false
set_option linter.defProp false
/-
  CELLS OF A PACKAGE's TABLES that are known to hold what they hold: block, place, value. Here: the powers of ten of strconv.
-/
namespace Go.Ab
def fixedCells : List (Nat × Nat × Value) := [(0, 0, .int .u64 1), (0, 1, .int .u64 10), (0, 2, .int .u64 100), (0, 3, .int .u64 1000), (0, 4, .int .u64 10000), (0, 5, .int .u64 100000), (0, 6, .int .u64 1000000), (0, 7, .int .u64 10000000), (0, 8, .int .u64 100000000), (0, 9, .int .u64 1000000000), (0, 10, .int .u64 10000000000), (0, 11, .int .u64 100000000000), (0, 12, .int .u64 1000000000000), (0, 13, .int .u64 10000000000000), (0, 14, .int .u64 100000000000000), (0, 15, .int .u64 1000000000000000), (0, 16, .int .u64 10000000000000000), (0, 17, .int .u64 100000000000000000), (0, 18, .int .u64 1000000000000000000), (0, 19, .int .u64 10000000000000000000)]
/-- how great their blocks are -/
def fixedBlks : List (Nat × Nat) := [(0, 20)]
/-- what is known of their first cells -/
def fixOk (_ : Nat) (_ : Value) : Bool := true
/-- the table's number -/
def tabNo : Nat := 0
end Go.Ab
/-
  A small abstract logic over the model: values of memory that nobody writes any more read as trees (AV.sl), what a call owns reads as rows and boxes (AV.row, AV.ptr).
  Base: abstract values, what they say of a concrete value, the invariant on memory, how it is handed on.
-/
namespace Go.Ab
/-- Memory that is not written any more. -/
abbrev Imm := Nat → Nat → Option Value
inductive AV where
  | top
  | v (x : Value)
  | nils
  | sl (xs : List AV)
  | iptr (x : AV) (f : Nat)
  | row (n len : Nat)
  | ptr (n len i f : Nat)
  | fn (f : FuncId) (caps : List AV)
  | agg (cs : List AV)
  | tup (vs : List AV)
  /-- a tree of one's own: object n -/
  | own (n : Nat)
  /-- some value of an interface's type that is not nil -/
  | ifc
instance : Inhabited AV := ⟨.top⟩
def AV.cells : AV → List AV
  | .agg cs => cs
  | x => [x]
def AV.isAgg : AV → Bool
  | .agg _ => true
  | _ => false
def AV.isCell : AV → Bool
  | .agg _ | .tup _ | .top => false
  | _ => true
/-- what is in the heap and is not cells: a map, an iterator over a string -/
inductive Gho where
  | mp (es : List (AV × AV))
  | it (s : ByteArray) (pos : Nat)
def Gho.isMp : Gho → Bool
  | .mp _ => true
  | .it _ _ => false
/-- the value that refers to it -/
def Gho.val (g : Gho) (b : Nat) : Value := if g.isMp = true then .map (some b) else .pointer (some ⟨b, 0, none⟩)
theorem Gho.val_one (g : Gho) (b : Nat) : (g.val b).oneCell' = true := by cases g <;> rfl
inductive AObj where
  | dead
  /-- a slice that is still nil: no memory yet -/
  | nil (e s : Nat)
  | live (e s : Nat) (xs : List AV)
  /-- a tree of one's own that reads as a: the value and the memory by which it does (nobody else's) are the run's (Loc) -/
  | own (a : AV)
  | gho (g : Gho)
instance : Inhabited AObj := ⟨.dead⟩
structure Loc where
  blk : Nat
  cap : Nat
  val : Value
  mem : Imm
/-- a place of a row or a box -/
abbrev Loc.at (b c : Nat) : Loc := ⟨b, c, .slice none 0 0, fun _ _ => none⟩
@[simp] theorem Loc.at_blk (b c : Nat) : (Loc.at b c).blk = b := rfl
@[simp] theorem Loc.at_cap (b c : Nat) : (Loc.at b c).cap = c := rfl
/-- What an abstract value says of a concrete one. -/
inductive R (I : Imm) (L : Nat → Loc) (O : List AObj) : AV → Value → Prop
  | top (x : Value) : R I L O .top x
  | v (x : Value) : x.oneCell' = true → R I L O (.v x) x
  | nils : R I L O .nils (.slice none 0 0)
  | sl0 (a : Option Addr) (cap : Nat) : R I L O (.sl []) (.slice a 0 cap)
  | sl (xs : List AV) (blk off cap s : Nat) (vals : Nat → Nat → Value) : xs.length ≤ cap → xs ≠ [] →
      (∀ (i : Nat) (x : AV), xs[i]? = some x → x.cells.length = s) →
      (∀ (i : Nat) (x : AV) (j : Nat) (c : AV), xs[i]? = some x → x.cells[j]? = some c → I blk (off + i * s + j) = some (vals i j) ∧ (vals i j).oneCell' = true) →
      (∀ (i : Nat) (x : AV) (j : Nat) (c : AV), xs[i]? = some x → x.cells[j]? = some c → R I L O c (vals i j)) →
      R I L O (.sl xs) (.slice (some ⟨blk, off, none⟩) xs.length cap)
  | iptr (x : AV) (f blk base : Nat) (vals : Nat → Value) :
      (∀ (j : Nat) (c : AV), x.cells[j]? = some c → I blk (base + j) = some (vals j) ∧ (vals j).oneCell' = true) →
      (∀ (j : Nat) (c : AV), x.cells[j]? = some c → R I L O c (vals j)) →
      R I L O (.iptr x f) (.pointer (some ⟨blk, base + f, none⟩))
  | rowLive (n len e s : Nat) (xs : List AV) : O[n]? = some (.live e s xs) → xs.length = len →
      R I L O (.row n len) (.slice (some ⟨(L n).blk, 0, none⟩) len (L n).cap)
  | rowNil (n e s : Nat) : O[n]? = some (.nil e s) → R I L O (.row n 0) (.slice none 0 0)
  | rowDead (n len : Nat) (x : Value) : n < O.length → (∀ e s, O[n]? ≠ some (.nil e s)) → (∀ e s xs, O[n]? = some (.live e s xs) → len < xs.length) → x.oneCell' = true →
      R I L O (.row n len) x
  | ptrLive (n len i f e s : Nat) (xs : List AV) : O[n]? = some (.live e s xs) → xs.length = len →
      R I L O (.ptr n len i f) (.pointer (some ⟨(L n).blk, i * s + f, none⟩))
  | ptrDead (n len i f : Nat) (x : Value) : n < O.length → (∀ e s, O[n]? ≠ some (.nil e s)) → (∀ e s xs, O[n]? = some (.live e s xs) → len < xs.length) → x.oneCell' = true →
      R I L O (.ptr n len i f) x
  | fn (f : FuncId) (caps : List AV) (vs : Array Value) : caps.length = vs.size →
      (∀ (i : Nat) (c : AV) (x : Value), caps[i]? = some c → vs[i]? = some x → R I L O c x) → R I L O (.fn f caps) (.func (.func f) #[] vs)
  | agg (cs : List AV) (vs : Array Value) : cs.length = vs.size →
      (∀ (i : Nat) (c : AV) (x : Value), cs[i]? = some c → vs[i]? = some x → R I L O c x) → R I L O (.agg cs) (.agg vs)
  | tup (cs : List AV) (vs : Array Value) : cs.length = vs.size →
      (∀ (i : Nat) (c : AV) (x : Value), cs[i]? = some c → vs[i]? = some x → R I L O c x) → R I L O (.tup cs) (.tuple vs)
  | ownLive (n : Nat) (a : AV) : O[n]? = some (.own a) → (L n).val.oneCell' = true → R I L O (.own n) (L n).val
  | ownGho (n : Nat) (g : Gho) : O[n]? = some (.gho g) → R I L O (.own n) (g.val (L n).blk)
  | ownDead (n : Nat) (x : Value) : n < O.length → (∀ a, O[n]? ≠ some (.own a)) → (∀ g, O[n]? ≠ some (.gho g)) → x.oneCell' = true → R I L O (.own n) x
  | ifc (t : TypeId) (x : Value) : R I L O .ifc (.iface t x)
/-- How what is known is handed on. -/
structure Ext (I : Imm) (L : Nat → Loc) (O : List AObj) (I' : Imm) (L' : Nat → Loc) (O' : List AObj) : Prop where
  imm : ∀ b o x, I b o = some x → I' b o = some x
  len : O.length ≤ O'.length
  obj : ∀ n, n < O.length → ∀ e s xs, O'[n]? = some (.live e s xs) → (∃ ys, O[n]? = some (.live e s ys) ∧ ys.length ≤ xs.length ∧ (ys.length = xs.length → L' n = L n)) ∨ (O[n]? = some (.nil e s) ∧ xs ≠ [])
  nil : ∀ n, n < O.length → ∀ e s, O'[n]? = some (.nil e s) → O[n]? = some (.nil e s)
  own : ∀ n, n < O.length → ∀ a, O'[n]? = some (.own a) → (∃ b, O[n]? = some (.own b)) ∧ (L' n).val = (L n).val
  gho : ∀ n, n < O.length → ∀ g, O'[n]? = some (.gho g) → (∃ h, O[n]? = some (.gho h) ∧ h.isMp = g.isMp) ∧ (L' n).blk = (L n).blk
theorem Ext.refl (I : Imm) (L : Nat → Loc) (O : List AObj) : Ext I L O I L O :=
  ⟨fun _ _ _ h => h, Nat.le_refl _, fun _ _ _ _ xs h => .inl ⟨xs, h, Nat.le_refl _, fun _ => rfl⟩, fun _ _ _ _ h => h, fun _ _ a h => ⟨⟨a, h⟩, rfl⟩, fun _ _ g h => ⟨⟨g, h, rfl⟩, rfl⟩⟩
theorem Ext.trans {I I' I'' : Imm} {L L' L'' : Nat → Loc} {O O' O'' : List AObj} (h : Ext I L O I' L' O') (k : Ext I' L' O' I'' L'' O'') : Ext I L O I'' L'' O'' := by
  refine ⟨fun b o x hx => k.imm _ _ _ (h.imm _ _ _ hx), Nat.le_trans h.len k.len, fun n hn e s xs hx => ?_, fun n hn e s hx => h.nil n hn e s (k.nil n (Nat.lt_of_lt_of_le hn h.len) e s hx), fun n hn a hx => ?_, fun n hn g hx => ?_⟩
  rotate_left
  · obtain ⟨⟨b, hb⟩, h1⟩ := k.own n (Nat.lt_of_lt_of_le hn h.len) a hx
    obtain ⟨hc, h2⟩ := h.own n hn b hb
    exact ⟨hc, h1.trans h2⟩
  · obtain ⟨⟨b, hb, hk⟩, h1⟩ := k.gho n (Nat.lt_of_lt_of_le hn h.len) g hx
    obtain ⟨⟨c, hc, hm⟩, h2⟩ := h.gho n hn b hb
    exact ⟨⟨c, hc, hm.trans hk⟩, h1.trans h2⟩
  rcases k.obj n (Nat.lt_of_lt_of_le hn h.len) e s xs hx with ⟨ys, hy, hle, hL⟩ | ⟨hy, hne⟩
  · rcases h.obj n hn e s ys hy with ⟨zs, hz, hle', hL'⟩ | ⟨hz, hne⟩
    · exact .inl ⟨zs, hz, Nat.le_trans hle' hle, fun he => (hL (by omega)).trans (hL' (by omega))⟩
    · refine .inr ⟨hz, fun h0 => hne ?_⟩
      subst h0; exact List.eq_nil_of_length_eq_zero (by simpa using hle)
  · exact .inr ⟨h.nil n hn e s hy, hne⟩
/-- the object's length has not changed, or what is said of it does not hold any more -/
theorem Ext.stale {I I' : Imm} {L L' : Nat → Loc} {O O' : List AObj} (h : Ext I L O I' L' O') {n len : Nat} (hn : n < O.length) (hnn : ∀ e s, O[n]? ≠ some (.nil e s)) (hs : ∀ e s xs, O[n]? = some (.live e s xs) → len < xs.length) :
    n < O'.length ∧ (∀ e s, O'[n]? ≠ some (.nil e s)) ∧ ∀ e s xs, O'[n]? = some (.live e s xs) → len < xs.length := by
  refine ⟨Nat.lt_of_lt_of_le hn h.len, fun e s he => hnn e s (h.nil n hn e s he), fun e s xs hx => ?_⟩
  rcases h.obj n hn e s xs hx with ⟨ys, hy, hle, _⟩ | ⟨hy, _⟩
  · exact Nat.lt_of_lt_of_le (hs e s ys hy) hle
  · exact (hnn e s hy).elim
theorem Ext.live {I I' : Imm} {L L' : Nat → Loc} {O O' : List AObj} (h : Ext I L O I' L' O') {n len e s : Nat} {xs : List AV} (hn : O[n]? = some (.live e s xs)) (hl : xs.length = len) :
    (∃ ys, O'[n]? = some (.live e s ys) ∧ ys.length = len ∧ L' n = L n) ∨ (n < O'.length ∧ (∀ e s, O'[n]? ≠ some (.nil e s)) ∧ ∀ e s xs, O'[n]? = some (.live e s xs) → len < xs.length) := by
  have hlt : n < O.length := (List.getElem?_eq_some_iff.1 hn).1
  have hnil : ∀ e s, O'[n]? ≠ some (.nil e s) := fun e s he => by have := h.nil n hlt e s he; rw [hn] at this; cases this
  by_cases hd : ∃ e' s' xs', O'[n]? = some (.live e' s' xs')
  · obtain ⟨e', s', xs', hx⟩ := hd
    rcases h.obj n hlt e' s' xs' hx with ⟨ys, hy, hle, hL⟩ | ⟨hy, _⟩
    · rw [hn] at hy; cases hy
      by_cases he : xs.length = xs'.length
      · exact .inl ⟨xs', hx, by omega, hL he⟩
      · exact .inr ⟨Nat.lt_of_lt_of_le hlt h.len, hnil, fun e'' s'' xs'' hx' => by rw [hx] at hx'; cases hx'; omega⟩
    · rw [hn] at hy; cases hy
  · exact .inr ⟨Nat.lt_of_lt_of_le hlt h.len, hnil, fun e'' s'' xs'' hx' => (hd ⟨_, _, _, hx'⟩).elim⟩
theorem R.mono {I I' : Imm} {L L' : Nat → Loc} {O O' : List AObj} (h : Ext I L O I' L' O') {a : AV} {x : Value} (hr : R I L O a x) : R I' L' O' a x := by
  induction hr with
  | top x => exact .top x
  | v x hx => exact .v x hx
  | nils => exact .nils
  | ifc t x => exact .ifc t x
  | sl0 a cap => exact .sl0 a cap
  | sl xs blk off cap s vals h1 h2 h3 h4 _ ih => exact .sl xs blk off cap s vals h1 h2 h3 (fun i x j c hi hj => ⟨h.imm _ _ _ (h4 i x j c hi hj).1, (h4 i x j c hi hj).2⟩) ih
  | iptr x f blk base vals h1 _ ih => exact .iptr x f blk base vals (fun j c hj => ⟨h.imm _ _ _ (h1 j c hj).1, (h1 j c hj).2⟩) ih
  | rowLive n len e s xs hn hl =>
    rcases h.live hn hl with ⟨ys, h1, h2, h3⟩ | ⟨h1, h2, h3⟩
    · rw [← h3]; exact .rowLive n len e s ys h1 h2
    · exact .rowDead n len _ h1 h2 h3 rfl
  | rowNil n e s hn =>
    have hlt : n < O.length := (List.getElem?_eq_some_iff.1 hn).1
    by_cases hd : ∃ e' s', O'[n]? = some (.nil e' s')
    · obtain ⟨e', s', hx⟩ := hd
      exact .rowNil n e' s' hx
    · refine .rowDead n 0 _ (Nat.lt_of_lt_of_le hlt h.len) (fun e' s' he => hd ⟨e', s', he⟩) (fun e' s' xs hx => ?_) rfl
      rcases h.obj n hlt e' s' xs hx with ⟨ys, hy, _⟩ | ⟨_, hne⟩
      · rw [hn] at hy; cases hy
      · exact List.length_pos_iff.2 hne
  | rowDead n len x hn hnn hs hx =>
    obtain ⟨h1, h2, h3⟩ := h.stale hn hnn hs
    exact .rowDead n len x h1 h2 h3 hx
  | ptrLive n len i f e s xs hn hl =>
    rcases h.live hn hl with ⟨ys, h1, h2, h3⟩ | ⟨h1, h2, h3⟩
    · rw [← h3]; exact .ptrLive n len i f e s ys h1 h2
    · exact .ptrDead n len i f _ h1 h2 h3 rfl
  | ptrDead n len i f x hn hnn hs hx =>
    obtain ⟨h1, h2, h3⟩ := h.stale hn hnn hs
    exact .ptrDead n len i f x h1 h2 h3 hx
  | fn f caps vs h1 _ ih => exact .fn f caps vs h1 ih
  | agg cs vs h1 _ ih => exact .agg cs vs h1 ih
  | tup cs vs h1 _ ih => exact .tup cs vs h1 ih
  | ownLive n a hn h1 =>
    have hlt : n < O.length := (List.getElem?_eq_some_iff.1 hn).1
    by_cases hd : ∃ b, O'[n]? = some (.own b)
    · obtain ⟨b, hb⟩ := hd
      rw [← (h.own n hlt b hb).2] at h1 ⊢; exact .ownLive n b hb h1
    · refine .ownDead n _ (Nat.lt_of_lt_of_le hlt h.len) (fun b hb => hd ⟨b, hb⟩) (fun g hg => ?_) h1
      obtain ⟨⟨c, hc, _⟩, _⟩ := h.gho n hlt g hg
      rw [hn] at hc; cases hc
  | ownGho n g hn =>
    have hlt : n < O.length := (List.getElem?_eq_some_iff.1 hn).1
    by_cases hd : ∃ b, O'[n]? = some (.gho b)
    · obtain ⟨b, hb⟩ := hd
      obtain ⟨⟨c, hc, hk⟩, h2⟩ := h.gho n hlt b hb
      rw [hn] at hc; cases hc
      have : g.val (L n).blk = b.val (L' n).blk := by unfold Gho.val; rw [hk, h2]
      rw [this]; exact .ownGho n b hb
    · refine .ownDead n _ (Nat.lt_of_lt_of_le hlt h.len) (fun b hb => ?_) (fun b hb => hd ⟨b, hb⟩) (g.val_one _)
      obtain ⟨⟨c, hc⟩, _⟩ := h.own n hlt b hb
      rw [hn] at hc; cases hc
  | ownDead n x hn hno hng h1 =>
    refine .ownDead n x (Nat.lt_of_lt_of_le hn h.len) (fun b hb => ?_) (fun g hg => ?_) h1
    · obtain ⟨⟨c, hc⟩, _⟩ := h.own n hn b hb
      exact hno c hc
    · obtain ⟨⟨c, hc, _⟩, _⟩ := h.gho n hn g hg
      exact hng c hc
/-- the run-time's mark behind a row of bytes that was made of a string (no cell of it bears it) -/
def Mk (m : Nat × Nat) (n s : Nat) : Prop := m = (0, 0) ∨ (m = (n, n + 1) ∧ s = 1)
/-- An object in memory. -/
def ObjOk (I : Imm) (L : Nat → Loc) (O : List AObj) (w : World) (l : Loc) (e s : Nat) (xs : List AV) : Prop :=
  ∃ c : Array Value, (∃ m, w.heap[l.blk]? = some (.cells c e m) ∧ Mk m c.size s) ∧ c.size = l.cap * s ∧ xs.length ≤ l.cap ∧ l.cap ≤ maxLen ∧ 0 < s ∧
    ∀ (i : Nat) x, xs[i]? = some x → x.cells.length = s ∧ ∀ (j : Nat) a, x.cells[j]? = some a → ∃ y, c[i * s + j]? = some y ∧ y.oneCell' = true ∧ R I L O a y
/-- how many cells a block has -/
def blkSize (w : World) (b : Nat) : Option Nat :=
  match w.heap[b]? with
  | some (.cells c _ _) => some c.size
  | _ => none
theorem cell_block {w : World} {b o : Nat} {x : Value} (h : w.cell? ⟨b, o, none⟩ = some x) : b < w.heap.size := by
  unfold World.cell? at h
  split at h
  · rename_i c e f hh; exact (Array.getElem?_eq_some_iff.1 hh).1
  · cases h
/-- A TREE THAT OWNS ALL ITS MEMORY: S, its blocks, each wholly its own and named once. -/
inductive OT (w : World) : AV → Value → (Nat → Prop) → Prop
  | v (x : Value) : x.oneCell' = true → OT w (.v x) x fun _ => False
  | nils : OT w .nils (.slice none 0 0) fun _ => False
  | sl0 (a : Option Addr) (cap : Nat) : OT w (.sl []) (.slice a 0 cap) fun _ => False
  | sl (xs : List AV) (blk cap s e : Nat) (c : Array Value) (vals : Nat → Nat → Value) (S : Nat → Nat → Nat → Prop) (m : Nat × Nat) :
      w.heap[blk]? = some (.cells c e m) → Mk m c.size s → c.size = cap * s → xs.length ≤ cap → cap ≤ maxLen → 0 < s → xs ≠ [] →
      (∀ (i : Nat) (x : AV), xs[i]? = some x → x.cells.length = s) →
      (∀ (i : Nat) (x : AV) (j : Nat) (a : AV), xs[i]? = some x → x.cells[j]? = some a → c[i * s + j]? = some (vals i j) ∧ (vals i j).oneCell' = true) →
      (∀ (i : Nat) (x : AV) (j : Nat) (a : AV), xs[i]? = some x → x.cells[j]? = some a → OT w a (vals i j) (S i j)) →
      (∀ i j b, S i j b → ∃ x a, xs[i]? = some x ∧ x.cells[j]? = some a) → (∀ i j, ¬ S i j blk) → (∀ i j i' j' b, S i j b → S i' j' b → i = i' ∧ j = j') →
      OT w (.sl xs) (.slice (some ⟨blk, 0, none⟩) xs.length cap) fun b => b = blk ∨ ∃ i j, S i j b
/-- its blocks are there, and not empty -/
theorem OT.block {w : World} {a : AV} {x : Value} {S : Nat → Prop} (h : OT w a x S) : ∀ b, S b → b < w.heap.size ∧ ∃ v, w.cell? ⟨b, 0, none⟩ = some v := by
  induction h with
  | v => intro b h; exact h.elim
  | nils => intro b h; exact h.elim
  | sl0 => intro b h; exact h.elim
  | sl xs blk cap s e c vals S m h1 hmk h2 h3 h4 h5 h6 h7 h8 h9 h10 h11 h12 ih =>
    rintro b (rfl | ⟨i, j, hs⟩)
    · refine ⟨(Array.getElem?_eq_some_iff.1 h1).1, ?_⟩
      have hp : 0 < c.size := by
        rw [h2]; exact Nat.mul_pos (by have := List.length_pos_iff.2 h6; omega) h5
      exact ⟨c[0], by unfold World.cell?; simp [h1, hp]⟩
    · obtain ⟨x, a, hx, ha⟩ := h10 i j b hs
      exact ih i x j a hx ha b hs
/-- only its blocks matter -/
theorem OT.congr {w w' : World} {a : AV} {x : Value} {S : Nat → Prop} (h : OT w a x S) : (∀ b, S b → w'.heap[b]? = w.heap[b]?) → OT w' a x S := by
  induction h with
  | v x h => intro _; exact .v x h
  | nils => intro _; exact .nils
  | sl0 a cap => intro _; exact .sl0 a cap
  | sl xs blk cap s e c vals S m h1 hmk h2 h3 h4 h5 h6 h7 h8 h9 h10 h11 h12 ih =>
    intro hw
    exact .sl xs blk cap s e c vals S m ((hw blk (.inl rfl)).trans h1) hmk h2 h3 h4 h5 h6 h7 h8 (fun i x j a hx ha => ih i x j a hx ha fun b hb => hw b (.inr ⟨i, j, hb⟩)) h10 h11 h12
/-- it reads so by its own blocks alone -/
theorem OT.read {w : World} {a : AV} {x : Value} {S : Nat → Prop} (h : OT w a x S) : ∀ (I : Imm) (L : Nat → Loc) (O : List AObj), (∀ b o v, S b → w.cell? ⟨b, o, none⟩ = some v → I b o = some v) → R I L O a x := by
  induction h with
  | v x h => intro I L O _; exact .v x h
  | nils => intro I L O _; exact .nils
  | sl0 a cap => intro I L O _; exact .sl0 a cap
  | sl xs blk cap s e c vals S m h1 hmk h2 h3 h4 h5 h6 h7 h8 h9 h10 h11 h12 ih =>
    intro I L O hI
    refine .sl xs blk 0 cap s vals h3 h6 h7 (fun i x j a hx ha => ⟨hI blk _ _ (.inl rfl) ?_, (h8 i x j a hx ha).2⟩) fun i x j a hx ha => ih i x j a hx ha I L O fun b o v hb hv => hI b o v (.inr ⟨i, j, hb⟩) hv
    unfold World.cell?
    simp [h1, (h8 i x j a hx ha).1]
/-- TREES OF ONE's OWN: their memory holds, and is nobody else's. -/
structure Own (I : Imm) (L : Nat → Loc) (O : List AObj) (w : World) : Prop where
  tree : ∀ (n : Nat) (a : AV), O[n]? = some (.own a) → ∀ L' O', R (L n).mem L' O' a (L n).val
  cell : ∀ (n : Nat) (a : AV), O[n]? = some (.own a) → ∀ b o v, (L n).mem b o = some v → w.cell? ⟨b, o, none⟩ = some v
  imm : ∀ (n : Nat) (a : AV), O[n]? = some (.own a) → ∀ b o v, (L n).mem b o = some v → ∀ o', I b o' = none
  live : ∀ (n : Nat) (a : AV), O[n]? = some (.own a) → ∀ b o v, (L n).mem b o = some v → ∀ (m e s : Nat) (xs : List AV), O[m]? = some (.live e s xs) → (L m).blk ≠ b
  sep : ∀ (n m : Nat) (a c : AV), O[n]? = some (.own a) → O[m]? = some (.own c) → ∀ b o o' v v', (L n).mem b o = some v → (L m).mem b o' = some v' → n = m
  deep : ∀ (n : Nat) (a : AV), O[n]? = some (.own a) → ∃ S : Nat → Prop, OT w a (L n).val S ∧ ∀ b, S b ↔ ∃ o v, (L n).mem b o = some v
/-- blocks of rows and boxes -/
def LV (L : Nat → Loc) (O : List AObj) (b : Nat) : Prop := ∃ (n : Nat) (e s : Nat) (xs : List AV), O[n]? = some (.live e s xs) ∧ (L n).blk = b
/-- blocks of trees of one's own -/
def OB (L : Nat → Loc) (O : List AObj) (b : Nat) : Prop := ∃ (n : Nat) (a : AV) (o : Nat) (v : Value), O[n]? = some (.own a) ∧ (L n).mem b o = some v
theorem Own.no {I : Imm} {L : Nat → Loc} {O : List AObj} {w : World} (h : ∀ (n : Nat) (a : AV), O[n]? ≠ some (.own a)) : Own I L O w :=
  ⟨fun n a hn => (h n a hn).elim, fun n a hn => (h n a hn).elim, fun n a hn => (h n a hn).elim, fun n a hn => (h n a hn).elim, fun n _ a _ hn => (h n a hn).elim, fun n a hn => (h n a hn).elim⟩
theorem Own.stepK {I I' : Imm} {L L' : Nat → Loc} {O O' : List AObj} {w w' : World} (h : Own I L O w)
    (hO : ∀ (n : Nat) (a : AV), O'[n]? = some (.own a) → O[n]? = some (.own a) ∧ L' n = L n)
    (hI : ∀ b o v, I' b o = some v → (∃ o v, I b o = some v) ∨ LV L O b ∨ w.heap.size ≤ b ∨ ∃ (n : Nat) (a : AV) (o : Nat) (v : Value), O[n]? = some (.own a) ∧ (L n).mem b o = some v ∧ ∀ c, O'[n]? ≠ some (.own c))
    (hL : ∀ (m e s : Nat) (xs : List AV), O'[m]? = some (.live e s xs) → LV L O (L' m).blk ∨ w.heap.size ≤ (L' m).blk)
    (hw : ∀ b, b < w.heap.size → ¬ LV L O b → w'.heap[b]? = w.heap[b]?) : Own I' L' O' w' := by
  have key : ∀ (n : Nat) (a : AV), O'[n]? = some (.own a) → ∀ b o v, (L' n).mem b o = some v → (L n).mem b o = some v ∧ b < w.heap.size ∧ ¬ LV L O b := fun n a hn b o v hv => by
    obtain ⟨h1, h2⟩ := hO n a hn
    rw [h2] at hv
    exact ⟨hv, cell_block (h.cell n a h1 b o v hv), fun ⟨m, e, s, xs, hm, hb⟩ => h.live n a h1 b o v hv m e s xs hm hb⟩
  refine ⟨fun n a hn => ?_, fun n a hn b o v hv => ?_, fun n a hn b o v hv o' => ?_, fun n a hn b o v hv m e s xs hm hb => ?_, fun n m a c hn hm b o o' v v' hv hv' => ?_, fun n a hn => ?_⟩
  · obtain ⟨h1, h2⟩ := hO n a hn
    rw [h2]; exact h.tree n a h1
  · obtain ⟨h0, h1, h2⟩ := key n a hn b o v hv
    have := h.cell n a (hO n a hn).1 b o v h0
    rw [← this]
    exact World.cell?_of_block (a := ⟨b, o, none⟩) (hw b h1 h2)
  · obtain ⟨h0, h1, h2⟩ := key n a hn b o v hv
    cases hq : I' b o' with
    | none => rfl
    | some u =>
      rcases hI b o' u hq with ⟨o2, v2, h3⟩ | h3 | h3 | ⟨m, c, o2, v2, h3, h4, h5⟩
      · rw [h.imm n a (hO n a hn).1 b o v h0 o2] at h3; cases h3
      · exact (h2 h3).elim
      · omega
      · have := h.sep n m a c (hO n a hn).1 h3 b o o2 v v2 h0 h4
        subst this
        exact (h5 a hn).elim
  · obtain ⟨h0, h1, h2⟩ := key n a hn b o v hv
    rcases hL m e s xs hm with h3 | h3
    · rw [hb] at h3; exact h2 h3
    · omega
  · exact h.sep n m a c (hO n a hn).1 (hO m c hm).1 b o o' v v' (key n a hn b o v hv).1 (key m c hm b o' v' hv').1
  · obtain ⟨S, h1, h2⟩ := h.deep n a (hO n a hn).1
    rw [(hO n a hn).2]
    refine ⟨S, h1.congr fun b hb => ?_, h2⟩
    obtain ⟨o, v, hv⟩ := (h2 b).1 hb
    obtain ⟨_, h3, h4⟩ := key n a hn b o v (by rw [(hO n a hn).2]; exact hv)
    exact hw b h3 h4
theorem Own.step {I I' : Imm} {L L' : Nat → Loc} {O O' : List AObj} {w w' : World} (h : Own I L O w)
    (hO : ∀ (n : Nat) (a : AV), O'[n]? = some (.own a) → O[n]? = some (.own a) ∧ L' n = L n)
    (hI : ∀ b o v, I' b o = some v → (∃ o v, I b o = some v) ∨ LV L O b ∨ w.heap.size ≤ b)
    (hL : ∀ (m e s : Nat) (xs : List AV), O'[m]? = some (.live e s xs) → LV L O (L' m).blk ∨ w.heap.size ≤ (L' m).blk)
    (hw : ∀ b, b < w.heap.size → ¬ LV L O b → w'.heap[b]? = w.heap[b]?) : Own I' L' O' w' :=
  h.stepK hO (fun b o v hv => by
    rcases hI b o v hv with h1 | h1 | h1
    · exact .inl h1
    · exact .inr (.inl h1)
    · exact .inr (.inr (.inl h1))) hL hw
/-- nothing but the knowledge turns -/
theorem Own.same {I I' : Imm} {L L' : Nat → Loc} {O O' : List AObj} {w w' : World} (h : Own I L O w)
    (hO : ∀ (n : Nat) (a : AV), O'[n]? = some (.own a) → O[n]? = some (.own a) ∧ L' n = L n)
    (hI : ∀ b o v, I' b o = some v → (∃ o v, I b o = some v) ∨ LV L O b ∨ w.heap.size ≤ b)
    (hL : ∀ (m e s : Nat) (xs : List AV), O'[m]? = some (.live e s xs) → LV L O (L' m).blk ∨ w.heap.size ≤ (L' m).blk) (hw : w' = w) : Own I' L' O' w' :=
  h.step hO hI hL fun _ _ _ => by rw [hw]
theorem Own.keep {I : Imm} {L : Nat → Loc} {O : List AObj} {w w' : World} (h : Own I L O w) (hw : ∀ b, b < w.heap.size → ¬ LV L O b → w'.heap[b]? = w.heap[b]?) : Own I L O w' :=
  h.step (fun _ _ h => ⟨h, rfl⟩) (fun _ o v hv => .inl ⟨o, v, hv⟩) (fun m e s xs h => .inl ⟨m, e, s, xs, h, rfl⟩) hw
/-- MAPS AND ITERATORS of one's own -/
def GhoOk (I : Imm) (L : Nat → Loc) (O : List AObj) (w : World) (l : Loc) : Gho → Prop
  | .mp es => ∃ (en : Array MapEntry) (clock : Nat), w.heap[l.blk]? = some (.map en clock) ∧ en.size = es.length ∧ ∀ (i : Nat) k v, es[i]? = some (k, v) → ∃ e, en[i]? = some e ∧ R I L O k e.key ∧ R I L O v e.val
  | .it s pos => w.heap[l.blk]? = some (.stringIter s pos)
/-- no cells there -/
def NoCells (w : World) (b : Nat) : Prop := b < w.heap.size ∧ ∀ c e z, w.heap[b]? ≠ some (.cells c e z)
theorem GhoOk.no {I : Imm} {L : Nat → Loc} {O : List AObj} {w : World} {l : Loc} {g : Gho} (h : GhoOk I L O w l g) : NoCells w l.blk := by
  cases g with
  | mp es =>
    obtain ⟨en, c, h1, _⟩ := h
    exact ⟨(Array.getElem?_eq_some_iff.1 h1).1, fun c e z hc => by rw [h1] at hc; cases hc⟩
  | it s p => exact ⟨(Array.getElem?_eq_some_iff.1 h).1, fun c e z hc => by rw [show w.heap[l.blk]? = _ from h] at hc; cases hc⟩
theorem NoCells.cell {w : World} {b o : Nat} (h : NoCells w b) : w.cell? ⟨b, o, none⟩ = none := by
  unfold World.cell?
  split
  · rename_i c e f hh; exact (h.2 _ _ _ hh).elim
  · rfl
structure Gh (I : Imm) (L : Nat → Loc) (O : List AObj) (w : World) : Prop where
  ok : ∀ (n : Nat) (g : Gho), O[n]? = some (.gho g) → GhoOk I L O w (L n) g
  sep : ∀ (n m : Nat) (g h : Gho), O[n]? = some (.gho g) → O[m]? = some (.gho h) → (L n).blk = (L m).blk → n = m
/-- blocks of maps and iterators -/
def GB (L : Nat → Loc) (O : List AObj) (b : Nat) : Prop := ∃ (n : Nat) (g : Gho), O[n]? = some (.gho g) ∧ (L n).blk = b
theorem Gh.no {I : Imm} {L : Nat → Loc} {O : List AObj} {w : World} (h : ∀ (n : Nat) (g : Gho), O[n]? ≠ some (.gho g)) : Gh I L O w :=
  ⟨fun n a hn => (h n a hn).elim, fun n _ a _ hn => (h n a hn).elim⟩
theorem GhoOk.mono {I I' : Imm} {L L' : Nat → Loc} {O O' : List AObj} {w w' : World} {l l' : Loc} {g : Gho} (h : GhoOk I L O w l g) (hl : l'.blk = l.blk) (hR : ∀ a x, R I L O a x → R I' L' O' a x) (hw : w'.heap[l.blk]? = w.heap[l.blk]?) : GhoOk I' L' O' w' l' g := by
  cases g with
  | mp es =>
    obtain ⟨en, c, h1, h2, h3⟩ := h
    refine ⟨en, c, by rw [hl, hw]; exact h1, h2, fun i k v hi => ?_⟩
    obtain ⟨e, h4, h5, h6⟩ := h3 i k v hi
    exact ⟨e, h4, hR _ _ h5, hR _ _ h6⟩
  | it s p =>
    have h0 : w.heap[l.blk]? = some (.stringIter s p) := h
    show w'.heap[l'.blk]? = some (.stringIter s p)
    rw [hl, hw]; exact h0
theorem Gh.step {I I' : Imm} {L L' : Nat → Loc} {O O' : List AObj} {w w' : World} (h : Gh I L O w)
    (hO : ∀ (n : Nat) (g : Gho), O'[n]? = some (.gho g) → O[n]? = some (.gho g) ∧ (L' n).blk = (L n).blk)
    (hR : ∀ a x, R I L O a x → R I' L' O' a x)
    (hw : ∀ b, NoCells w b → w'.heap[b]? = w.heap[b]?) : Gh I' L' O' w' := by
  refine ⟨fun n g hn => ?_, fun n m g k hn hm hb => ?_⟩
  · obtain ⟨h1, h2⟩ := hO n g hn
    exact (h.ok n g h1).mono h2 hR (hw _ (h.ok n g h1).no)
  · obtain ⟨h1, h2⟩ := hO n g hn
    obtain ⟨h3, h4⟩ := hO m k hm
    exact h.sep n m g k h1 h3 (by rw [← h2, ← h4]; exact hb)
structure Inv (I : Imm) (L : Nat → Loc) (O : List AObj) (w : World) : Prop where
  imm : ∀ b o x, I b o = some x → w.cell? ⟨b, o, none⟩ = some x
  obj : ∀ (n : Nat) e s xs, O[n]? = some (.live e s xs) → ObjOk I L O w (L n) e s xs
  sep : ∀ (n m : Nat) e s xs e' s' ys, O[n]? = some (.live e s xs) → O[m]? = some (.live e' s' ys) → (L n).blk = (L m).blk → n = m
  immSep : ∀ (n : Nat) e s xs o, O[n]? = some (.live e s xs) → I (L n).blk o = none
  fix : ∀ p ∈ fixedCells, I p.1 p.2.1 = some p.2.2
  blk : ∀ q ∈ fixedBlks, blkSize w q.1 = some q.2 ∧ ∃ v, I q.1 0 = some v ∧ fixOk q.1 v = true
  ow : Own I L O w
  gh : Gh I L O w
/-- The blocks that are owned. -/
def LB (L : Nat → Loc) (O : List AObj) (b : Nat) : Prop := LV L O b ∨ OB L O b ∨ GB L O b
theorem LB_nil {L : Nat → Loc} {b : Nat} : ¬ LB L [] b := by
  rintro (⟨n, e, s, xs, h, _⟩ | ⟨n, a, o, v, h, _⟩ | ⟨n, g, h, _⟩) <;> simp at h
structure Frm (own : Nat → Prop) (w w' : World) : Prop where
  os : w'.os = w.os
  tape : w'.tape = w.tape
  output : w'.output = w.output
  size : w.heap.size ≤ w'.heap.size
  block : ∀ b, b < w.heap.size → ¬ own b → w'.heap[b]? = w.heap[b]?
theorem Frm.refl (own : Nat → Prop) (w : World) : Frm own w w := ⟨rfl, rfl, rfl, Nat.le_refl _, fun _ _ _ => rfl⟩
theorem Frm.trans {own own' : Nat → Prop} {w w' w'' : World} (h : Frm own w w') (k : Frm own' w' w'') (ho : ∀ b, own' b → own b ∨ w.heap.size ≤ b) : Frm own w w'' :=
  ⟨k.os.trans h.os, k.tape.trans h.tape, k.output.trans h.output, Nat.le_trans h.size k.size, fun b hb hn =>
    (k.block b (Nat.lt_of_lt_of_le hb h.size) (fun hc => by rcases ho b hc with h1 | h1 <;> first | exact hn h1 | omega)).trans (h.block b hb hn)⟩
theorem blkSize_lt {w : World} {b n : Nat} (h : blkSize w b = some n) : b < w.heap.size := by
  unfold blkSize at h
  split at h
  · rename_i hq; exact (Array.getElem?_eq_some_iff.1 hq).1
  · cases h
theorem blkSize_eq {w w' : World} {b : Nat} (h : w'.heap[b]? = w.heap[b]?) : blkSize w' b = blkSize w b := by
  unfold blkSize; rw [h]
/-- where blocks that are not owned stay -/
theorem Inv.blk_frm {I I' : Imm} {L : Nat → Loc} {O : List AObj} {w w' : World} (hi : Inv I L O w) (hw : ∀ b, b < w.heap.size → ¬ LB L O b → w'.heap[b]? = w.heap[b]?) (hI : ∀ b o x, I b o = some x → I' b o = some x) :
    ∀ q ∈ fixedBlks, blkSize w' q.1 = some q.2 ∧ ∃ v, I' q.1 0 = some v ∧ fixOk q.1 v = true := by
  intro q hq
  obtain ⟨h1, v, h2, h3⟩ := hi.blk q hq
  refine ⟨?_, v, hI _ _ _ h2, h3⟩
  rw [blkSize_eq (hw q.1 (blkSize_lt h1) ?_)]
  · exact h1
  · rintro (⟨n, e, s, xs, hn, hb⟩ | ⟨n, a, o, u, hn, hb⟩ | ⟨n, g, hn, hb⟩)
    rotate_right
    · have h4 := (hi.gh.ok n g hn).no.cell (o := 0)
      rw [hb, hi.imm _ _ _ h2] at h4
      cases h4
    · have := hi.immSep n e s xs 0 hn
      rw [hb, h2] at this
      cases this
    · have := hi.ow.imm n a hn q.1 o u hb 0
      rw [h2] at this
      cases this
/-- more is known of the same memory -/
theorem Inv.blk_imm {I I' : Imm} {L : Nat → Loc} {O : List AObj} {w : World} (hi : Inv I L O w) (hI : ∀ b o x, I b o = some x → I' b o = some x) :
    ∀ q ∈ fixedBlks, blkSize w q.1 = some q.2 ∧ ∃ v, I' q.1 0 = some v ∧ fixOk q.1 v = true := hi.blk_frm (fun _ _ _ => rfl) hI
theorem Frm.below {w w' : World} (h : Frm (fun _ => False) w w') : RowKit.Below w.heap.size w w' :=
  ⟨h.os, h.tape, h.output, h.size, fun k hk => h.block k hk (fun x => x)⟩
def RL (I : Imm) (L : Nat → Loc) (O : List AObj) (as : List AV) (vs : Array Value) : Prop :=
  as.length = vs.size ∧ ∀ (i : Nat) a x, as[i]? = some a → vs[i]? = some x → R I L O a x
/-- How memory and what is known of it may go on. -/
structure Good (I : Imm) (L : Nat → Loc) (O : List AObj) (w : World) (I' : Imm) (L' : Nat → Loc) (O' : List AObj) (w' : World) : Prop where
  inv : Inv I' L' O' w'
  ext : Ext I L O I' L' O'
  frm : Frm (LB L O) w w'
  lb : ∀ b, LB L' O' b → LB L O b ∨ w.heap.size ≤ b
  immNew : ∀ b o x, I' b o = some x → I b o = some x ∨ LB L O b ∨ w.heap.size ≤ b
/-- A function with a body. -/
def Enters (P : Program) (f : FuncId) : Prop := ∃ fn, P.funcs[f]? = some fn ∧ fn.body.isSome = true ∧ (fn.name == "runtime.NumGoroutine") = false
/-- THE CONTRACT OF A CALL: args and objects before; result and objects behind it. -/
def Con (P : Program) (f : FuncId) (args : List AV) (O : List AObj) (res : AV) (O' : List AObj) : Prop :=
  Enters P f ∧ ∀ I L w vs, Inv I L O w → RL I L O args vs → Calls P f vs w fun e w' => ∃ y I' L', e = .returned y ∧ R I' L' O' res y ∧ Good I L O w I' L' O' w'
/-- A contract of a call that touches nothing that was there. -/
def PCon (P : Program) (f : FuncId) (args : List AV) (res : AV) : Prop := Con P f args [] res []
end Go.Ab
/-
  ROWS THAT BEAR THE RUN-TIME's MARK behind their last cell are written like any others.
-/
namespace Go.Ab
theorem Mk.free {m : Nat × Nat} {n s j : Nat} (h : Mk m n s) (hj : j < n) : (decide (m.1 ≤ j) && decide (j < m.2)) = false := by
  rcases h with rfl | ⟨rfl, _⟩ <;> simp <;> omega
theorem Mk.size {m : Nat × Nat} {n s k : Nat} (h : Mk m n s) (he : k = n) : Mk m k s := he ▸ h
theorem run_storeCells_m {P : Program} (g o s : Nat) (t : TypeId) (m : Nat × Nat) : ∀ (vs : List Value) (i : Nat) (cur : Array Value) (w : World), w.heap[g]? = some (.cells cur t m) → Mk m cur.size s → o + i + vs.length ≤ cur.size → (∀ v ∈ vs, v.oneCell' = true) →
    (storeCells ⟨g, o, none⟩ vs i).run P w = .ok () (w.setRow g (cur.toList.take (o + i) ++ vs ++ cur.toList.drop (o + i + vs.length)).toArray)
  | [], i, cur, w, hg, _, _, _ => by
    simp only [storeCells, List.append_nil, List.length_nil, Nat.add_zero, List.take_append_drop, Array.toArray_toList]
    rw [setRow_self w g cur t m hg]
    rfl
  | v :: rest, i, cur, w, hg, hm, hl, h1 => by
    have hl' : o + i + (rest.length + 1) ≤ cur.size := by simpa using hl
    have hi : o + i < cur.size := by omega
    have hadd : (⟨g, o, none⟩ : Addr).add i = ⟨g, o + i, none⟩ := by unfold Addr.add; split <;> simp_all
    have hfro : w.frozen? ⟨g, o + i, none⟩ = false := by
      obtain ⟨lo, up⟩ := m
      have := hm.free hi
      simpa [World.frozen?, hg] using this
    have hst : (store ((⟨g, o, none⟩ : Addr).add i) v).run P w = .ok () (w.setRow g (cur.setIfInBounds (o + i) v)) := by
      rw [hadd, run_store P w _ v _ (h1 v (by simp)), show w.cell? ⟨g, o + i, none⟩ = some cur[o + i] by simp [World.cell?, hg, hi]]
      simp [hfro, setCell_eq_setRow w g (o + i) cur t m v hg]
    have ih := run_storeCells_m (P := P) g o s t m rest (i + 1) (cur.setIfInBounds (o + i) v) (w.setRow g (cur.setIfInBounds (o + i) v)) (setRow_heap w g cur _ t _ hg) (hm.size (by simp)) (by simp; omega) (fun x hx => h1 x (by simp [hx]))
    simp only [storeCells, Sem.run_bind, hst, Result.andThen_ok, ih, setRow_setRow]
    congr 3
    have hcut : ∀ (c : List Value), o + i + (rest.length + 1) ≤ c.length → (c.set (o + i) v).take (o + (i + 1)) ++ rest ++ (c.set (o + i) v).drop (o + (i + 1) + rest.length) = c.take (o + i) ++ v :: rest ++ c.drop (o + i + (rest.length + 1)) := by
      intro c hc
      have e1 : (c.set (o + i) v).take (o + (i + 1)) = c.take (o + i) ++ [v] := by
        apply List.ext_getElem?
        intro k
        by_cases hk : k < o + i
        · rw [List.getElem?_take, if_pos (by omega), List.getElem?_set_ne (by omega), List.getElem?_append_left (by simp; omega), List.getElem?_take, if_pos hk]
        · by_cases hk2 : k = o + i
          · subst hk2
            rw [List.getElem?_take, if_pos (by omega), List.getElem?_set_self (by omega), List.getElem?_append_right (by simp; omega), List.length_take]
            simp [Nat.min_eq_left (show o + i ≤ c.length by omega)]
          · rw [List.getElem?_take, if_neg (by omega), List.getElem?_eq_none (by simp; omega)]
      have e2 : (c.set (o + i) v).drop (o + (i + 1) + rest.length) = c.drop (o + i + (rest.length + 1)) := by
        apply List.ext_getElem?
        intro k
        rw [List.getElem?_drop, List.getElem?_drop, List.getElem?_set_ne (by omega)]
        congr 1; omega
      rw [e1, e2]; simp
    have := hcut cur.toList (by simpa using hl')
    simpa [Array.toList_setIfInBounds] using this
theorem run_append_room_m {P : Program} (w : World) (t ty e : TypeId) (i : TypeInfo) (ht : P.underlying t = some (.slice e)) (hi : P.info? e = some i) {m0 : Nat × Nat} {s : Nat}
    (g sLen sCap : Nat) (cur : Array Value) (hg : w.heap[g]? = some (.cells cur e m0)) (hmk : Mk m0 cur.size s)
    (a : Addr) (m c : Nat) (news : List Value) (hl : news.length = m * i.size) (hnews : ∀ j u, news[j]? = some u → w.cell? (a.add j) = some u) (h1 : ∀ u ∈ news, u.oneCell' = true)
    (hroom : sLen + m ≤ sCap) (hfit : sLen * i.size + news.length ≤ cur.size) :
    (Builtin.append_ #[t, t] ty #[.slice (some ⟨g, 0, none⟩) sLen sCap, .slice (some a) m c]).run P w =
      .ok (.slice (some ⟨g, 0, none⟩) (sLen + m) sCap) (w.setRow g (cur.toList.take (sLen * i.size) ++ news ++ cur.toList.drop (sLen * i.size + news.length)).toArray) := by
  have hf := run_firstCells_some (P := P) w i.size m a m c news hl hnews
  have hst := run_storeCells_m (P := P) g (sLen * i.size) s e m0 news 0 cur w hg hmk (by simpa using hfit) h1
  simp only [Nat.add_zero] at hst
  simp [Builtin.append_, run_underlying ht, sizeOf, typeInfo, hi, Builtin.lenOf, hroom, hf, Addr.add_lit, hst]
end Go.Ab
/-
  NAMES: renaming of objects; what a symbolic walk knows of slots; signatures of calls.
-/
namespace Go.Ab
mutual
def AV.ren (s : Nat → Nat) : AV → AV
  | .top => .top
  | .v x => .v x
  | .nils => .nils
  | .ifc => .ifc
  | .sl xs => .sl (AV.rens s xs)
  | .iptr x f => .iptr (x.ren s) f
  | .row n l => .row (s n) l
  | .ptr n l i f => .ptr (s n) l i f
  | .fn f cs => .fn f (AV.rens s cs)
  | .agg cs => .agg (AV.rens s cs)
  | .tup cs => .tup (AV.rens s cs)
  | .own n => .own (s n)
def AV.rens (s : Nat → Nat) : List AV → List AV
  | [] => []
  | x :: xs => x.ren s :: AV.rens s xs
end
def Gho.ren (s : Nat → Nat) : Gho → Gho
  | .mp es => .mp (es.map fun p => (p.1.ren s, p.2.ren s))
  | .it a b => .it a b
theorem Gho.ren_mp (s : Nat → Nat) (g : Gho) : (g.ren s).isMp = g.isMp := by cases g <;> rfl
def AObj.ren (s : Nat → Nat) : AObj → AObj
  | .gho g => .gho (g.ren s)
  | .dead => .dead
  | .nil e s => .nil e s
  | .live e k xs => .live e k (xs.map (AV.ren s))
  | .own a => .own a
/-- plain values, by names -/
inductive D where
  | x (i : Nat)
  | c (a : AV)
  | cell (i j : Nat)
  | ext (i j : Nat)
  | sl (l : D)
  | agg (l : List D)
  | fn (f : FuncId) (l : List D)
  | ip (d : D) (f : Nat)
instance : Inhabited D := ⟨.x 0⟩
/-- what a slot holds: a plain value, or a reference to what is owned -/
inductive SV where
  | d (x : D)
  | row (n : Nat) (l : D)
  | ptr (n f : Nat)
  | rp (n : Nat) (l i : D) (f : Nat)
  | ip (x : D) (f : Nat)
  | agg (cs : List SV)
  | tup (cs : List SV)
  | top
instance : Inhabited SV := ⟨.top⟩
inductive SO where
  | dead
  | box (e : Nat) (cs : List SV)
  | row (nl : Bool) (e s : Nat) (l : D)
instance : Inhabited SO := ⟨.dead⟩
/-- what a call asks and gives where it reaches what is owned: names from 0 on, ahead (n) and behind (m); keep: objects whose length stays -/
structure Sig where
  n : Nat
  args : List SV
  objs : List SO
  m : Nat
  res : SV
  objs' : List SO
  keep : List Nat
end Go.Ab
/-
  Abstract operations: what they ask and give; how an operation of the model is made into one.
-/
namespace Go.Ab
inductive Opd where
  | t (n : Nat)
  | c (a : AV)
abbrev Env := Nat → AV
def Env.set (e : Env) (t : Nat) (a : AV) : Env := fun k => if k = t then a else e k
def Opd.ev (e : Env) : Opd → AV
  | .t n => e n
  | .c a => a
/-- n: none: one cell; some m: m cells as an aggregate. -/
def loadC (n : Option Nat) (x : AV) (f : Nat) : AV :=
  match n with
  | none => x.cells.getD f .top
  | some m => if f = 0 ∧ x.isAgg = true ∧ x.cells.length = m then x else .agg ((x.cells.drop f).take m)
/-- the cells from f on become y's. -/
def upd (x : AV) (f : Nat) (y : AV) : AV :=
  if f = 0 ∧ y.cells.length = x.cells.length then y else .agg (x.cells.take f ++ y.cells ++ x.cells.drop (f + y.cells.length))
def AV.storable (x : AV) : Bool := x.cells.all AV.isCell
/-- operations on values alone, some of them read from what is owned -/
inductive PU where
  | b2s
  | isNilS (neg : Bool)
  | isNilP (neg : Bool)
  | isNilI (neg : Bool)
  | min
  | max
  | capN
/-- bytes -/
def u8s : List AV → Option (List UInt8)
  | [] => some []
  | .v (.int .u8 n) :: r => (u8s r).map (UInt8.ofNat n.toNat :: ·)
  | _ => none
def puF (o : PU) (xs : List AV) : Option AV :=
  match o, xs with
  | .b2s, [.sl ys] => (u8s ys).map fun l => .v (.string ⟨l.toArray⟩)
  | .b2s, [.nils] => some (.v (.string ⟨#[]⟩))
  | .capN, [.nils] => some (.v (.int .i64 0))
  | .isNilS neg, [.nils] => some (.v (.bool (neg != true)))
  | .isNilS neg, [.sl (_ :: _)] => some (.v (.bool (neg != false)))
  | .isNilP neg, [.v (.pointer none)] => some (.v (.bool (neg != true)))
  | .isNilP neg, [.iptr _ _] => some (.v (.bool (neg != false)))
  | .isNilI neg, [.v .nilIface] => some (.v (.bool (neg != true)))
  | .isNilI neg, [.ifc] => some (.v (.bool (neg != false)))
  | .min, [.v (.int k a), .v (.int k' b)] => if k = k' then some (.v (.int k (if b < a then b else a))) else none
  | .max, [.v (.int k a), .v (.int k' b)] => if k = k' then some (.v (.int k (if a < b then b else a))) else none
  | _, _ => none
def puK (o : PU) (xs : List AV) (K : AV → Prop) : Prop :=
  match puF o xs with
  | some v => K v
  | none => False
/-- keys, compared -/
def keyB : Value → Value → Bool
  | .int j a, .int k b => decide (j = k) && decide (a = b)
  | .string a, .string b => decide (a = b)
  | .bool a, .bool b => decide (a = b)
  | _, _ => false
/-- where a key stands, and what it has -/
def mfind (k : Value) : List (AV × AV) → Nat → Option (Nat × AV)
  | [], _ => none
  | (.v k', v) :: es, i => if keyB k k' = true then some (i, v) else mfind k es (i + 1)
  | _ :: es, i => mfind k es (i + 1)
/-- kinds of keys -/
inductive KD where
  | int (k : IntKind)
  | str
  | bool
def KD.ok : KD → Value → Bool
  | .int k, .int j _ => decide (j = k)
  | .str, .string _ => true
  | .bool, .bool _ => true
  | _, _ => false
def KD.all (d : KD) (es : List (AV × AV)) : Bool := es.all fun p => match p.1 with
  | .v k => d.ok k
  | _ => false
def KD.of : TypeDesc → Option KD
  | .int k => some (.int k)
  | .string => some .str
  | .bool => some .bool
  | _ => none
def mset (k : Value) (v : AV) (es : List (AV × AV)) : List (AV × AV) := match mfind k es 0 with
  | none => es ++ [(.v k, v)]
  | some (i, _) => es.set i (.v k, v)
/-- a box that a key may name -/
def keyBox (O : List AObj) (i : Nat) : Bool := match O[i]? with
  | some (.live _ s [_]) => s != 1
  | _ => false
def keyPtrs (O : List AObj) (es : List (AV × AV)) : Bool := es.all fun p => match p.1 with
  | .ptr i 1 0 0 => keyBox O i
  | _ => false
def pfind (j : Nat) : List (AV × AV) → Nat → Option (Nat × AV)
  | [], _ => none
  | (.ptr k _ _ _, v) :: es, i => if j = k then some (i, v) else pfind j es (i + 1)
  | _ :: es, i => pfind j es (i + 1)
def pset (j : Nat) (v : AV) (es : List (AV × AV)) : List (AV × AV) := match pfind j es 0 with
  | none => es ++ [(.ptr j 1 0 0, v)]
  | some (i, _) => es.set i (.ptr j 1 0 0, v)
inductive AOp where
  /-- maps -/
  | mkmap
  | mget (ok : Bool) (d : KD) (z : AV) (m k : Opd)
  | mset (d : KD) (m k v : Opd)
  /-- maps whose keys are pointers -/
  | pget (ok : Bool) (z : AV) (m k : Opd)
  | pset (m k v : Opd)
  /-- iterators over strings -/
  | strit (x : Opd)
  | snext (x : Opd)
  /-- a string's bytes, a row of one's own -/
  | s2b (e : Nat) (x : Opd)
  /-- bytes of one's own, turned into bytes -/
  | markS (e : Nat) (x : Opd)
  /-- a pointer to a box of one's own, held against nil or another one -/
  | pnil (neg : Bool) (x : Opd)
  | peq (neg : Bool) (x y : Opd)
  /-- what is not covered: not to be reached -/
  | stuck
  /-- a slice of these, which nobody writes -/
  | buildF (e s len : Nat) (z : AV) (parts : List (Nat × Opd))
  | pu (o : PU) (args : List Opd)
  /-- a string's bytes are appended -/
  | appS (e s bytes : Nat) (x y : Opd)
  | mov (x : Opd)
  | pick (c a b : Opd)
  | alloc (e s : Nat) (z : AV)
  | box (e s : Nat) (x : Opd)
  | build (z : List AV) (parts : List (Nat × Nat × Opd))
  | buildSlice (e s len : Nat) (z : AV) (parts : List (Nat × Opd))
  | load (n : Option Nat) (x : Opd)
  | store (m : Nat) (x y : Opd)
  | bin (op : BinOp) (x y : Opd)
  /-- two bools: the same; neg: not the same -/
  | beq (neg : Bool) (x y : Opd)
  | un (op : UnOp) (x : Opd)
  | convInt (k : IntKind) (x : Opd)
  | faddr (off : Nat) (x : Opd)
  | fld (off : Nat) (n : Option Nat) (x : Opd)
  | iaddr (s : Nat) (x i : Opd)
  /-- a member of an array of m members, by its address -/
  | aaddr (m s : Nat) (x i : Opd)
  | idxS (x i : Opd)
  | sliceS (x : Opd) (lo hi : Option Opd)
  | sliceL (s : Nat) (x : Opd) (lo hi : Option Opd)
  | mk (e s bytes : Nat) (z : AV) (len cap : Opd)
  | lenS (x : Opd)
  | lenL (x : Opd)
  | app (e s bytes : Nat) (x y : Opd)
  | ext (x : Opd) (i : Nat)
  | nilc (x : Opd)
  | mkfn (f : FuncId) (caps : List Opd)
  | call (f : FuncId) (args : List Opd)
  | callv (x : Opd) (args : List Opd)
  | pcall (f : FuncId) (args : List Opd)
  | pcallv (x : Opd) (args : List Opd)
  | qcall (f : FuncId) (args : List Opd)
  | qcallv (x : Opd) (args : List Opd)
  /-- a call that touches nothing and gives plain values alone; rows may be handed -/
  | rcall (f : FuncId) (args : List Opd)
  /-- a call that makes one object -/
  | fcall (nl : Bool) (e s : Nat) (f : FuncId) (args : List Opd)
  /-- what is made gets a name that is kept for it -/
  | allocAt (k e s : Nat) (z : AV)
  | boxAt (k e s : Nat) (x : Opd)
  /-- zeros that nobody writes; zeros under a name that is kept for them -/
  | mkF (e s bytes : Nat) (z : AV) (len cap : Opd)
  | mkAt (k e s bytes : Nat) (z : AV) (len cap : Opd)
  | buildAt (k e s len : Nat) (z : AV) (parts : List (Nat × Opd))
  /-- zeros are appended to nothing -/
  | appZ (e s bytes : Nat) (z : AV) (x n : Opd)
  /-- a slice of one's own, cut to nothing -/
  | cut (s : Nat) (x : Opd) (lo hi : Option Opd)
  /-- a call that reaches what is owned -/
  | scall (gs : List Sig) (f : FuncId) (args : List Opd)
  | scall1 (gs : List Sig) (f : FuncId) (args : List Opd)
  /-- calls to which what is owned is lent (rd: the objects that are looked at): one that gives something new, one that gives a plain value -/
  | lcall (rd : List Nat) (f : FuncId) (args : List Opd)
  | kcall (rd : List Nat) (f : FuncId) (args : List Opd)
/-- an operator on two ints of one kind. -/
def ibin (op : BinOp) (k : IntKind) (a b : Int) : Option Value :=
  match op with
  | .add => some (.int k (k.wrap (a + b)))
  | .sub => some (.int k (k.wrap (a - b)))
  | .mul => some (.int k (k.wrap (a * b)))
  | .quo => if b ≠ 0 then some (.int k (k.wrap (a.tdiv b))) else none
  | .rem => if b ≠ 0 then some (.int k (a.tmod b)) else none
  | .and => some (.int k (k.wrap (BitVec.ofInt k.bits a &&& BitVec.ofInt k.bits b).toNat))
  | .or => some (.int k (k.wrap (BitVec.ofInt k.bits a ||| BitVec.ofInt k.bits b).toNat))
  | .xor => some (.int k (k.wrap (BitVec.ofInt k.bits a ^^^ BitVec.ofInt k.bits b).toNat))
  | .eql => some (.bool (a == b))
  | .neq => some (.bool (a != b))
  | .lss => some (.bool (a < b))
  | .leq => some (.bool (a ≤ b))
  | .gtr => some (.bool (a > b))
  | .geq => some (.bool (a ≥ b))
  | _ => none
def shbin (op : BinOp) (k : IntKind) (a b : Int) : Option Value :=
  match op with
  | .shl => if 0 ≤ b then some (.int k (k.wrap (a * 2 ^ (min b.toNat k.bits)))) else none
  | .shr => if 0 ≤ b then some (.int k (a.fdiv (2 ^ (min b.toNat k.bits)))) else none
  | _ => none
/-- an operator on two strings. -/
def stbin (op : BinOp) (a b : ByteArray) : Option Value :=
  match op with
  | .add => if ((a.size + b.size : Nat) : Int) ≤ IntKind.i64.max then some (.string (a ++ b)) else none
  | .eql => some (.bool (a.toList == b.toList))
  | .neq => some (.bool !(a.toList == b.toList))
  | .lss => some (.bool (Op.bytesLess a.toList b.toList))
  | .leq => some (.bool (Op.bytesLess a.toList b.toList || a.toList == b.toList))
  | .gtr => some (.bool !(Op.bytesLess a.toList b.toList || a.toList == b.toList))
  | .geq => some (.bool !(Op.bytesLess a.toList b.toList))
  | _ => none
def BinOp.isShift : BinOp → Bool
  | .shl | .shr => true
  | _ => false
/-- an operator on two values of one cell. -/
def sbin (op : BinOp) (x y : Value) : Option Value :=
  match x, y with
  | .int k a, .int k' b => if BinOp.isShift op = true then shbin op k a b else if k = k' then ibin op k a b else none
  | .string a, .string b => stbin op a b
  | _, _ => none
def sun (op : UnOp) (x : Value) : Option Value :=
  match op, x with
  | .neg, .int k n => some (.int k (k.wrap (0 - n)))
  | .not, .bool b => some (.bool !b)
  | _, _ => none
def buildK (e : Env) (z : List AV) : List (Nat × Nat × Opd) → (AV → Prop) → Prop
  | [], K => K (.agg z)
  | (off, size, x) :: r, K => (x.ev e).cells.length = size ∧ ((x.ev e).isCell || (x.ev e).isAgg) = true ∧ off + size ≤ z.length ∧
      buildK e (z.take off ++ (x.ev e).cells ++ z.drop (off + size)) r K
def rowK (e : Env) (s : Nat) (xs : List AV) : List (Nat × Opd) → (List AV → Prop) → Prop
  | [], K => K xs
  | (i, x) :: r, K => (x.ev e).cells.length = s ∧ (x.ev e).storable = true ∧ i < xs.length ∧ rowK e s (xs.set i (x.ev e)) r K
def boundK (d : Int) (e : Env) : Option Opd → (Int → Prop) → Prop
  | none, K => K d
  | some x, K => match x.ev e with | .v (.int _ i) => K i | _ => False
/-- What is appended. -/
def srcK (O : List AObj) (y : AV) (K : List AV → Prop) : Prop :=
  match y with
  | .nils => K []
  | .sl ys => K ys
  | .row n len => match O[n]? with
    | some (.live _ _ xs) => xs.length = len ∧ K xs
    | some (.nil _ _) => len = 0 ∧ K []
    | _ => False
  | _ => False
mutual
/-- no reference to what is owned -/
def AV.noref : AV → Bool
  | .top | .v _ | .nils | .ifc => true
  | .sl xs => AV.norefs xs
  | .iptr x _ => x.noref
  | .row _ _ | .ptr _ _ _ _ => false
  | .fn _ cs => AV.norefs cs
  | .agg cs => AV.norefs cs
  | .tup vs => AV.norefs vs
  | .own _ => false
def AV.norefs : List AV → Bool
  | [] => true
  | x :: xs => x.noref && AV.norefs xs
end
/-- a row as what it reads -/
def frz (O : List AObj) (a : AV) : AV :=
  match a with
  | .row n len => match O[n]? with
    | some (.live _ _ xs) => if xs.length = len then .sl xs else a
    | some (.nil _ _) => if len = 0 then .sl [] else a
    | _ => a
  | .own n => match O[n]? with
    | some (.own b) => b
    | _ => a
  | a => a
def AV.flat : AV → Bool
  | .v _ => true
  | .tup vs => vs.all fun x => match x with | .v _ => true | _ => false
  | _ => false
def killRow (O : List AObj) (a : AV) : List AObj :=
  match a with
  | .row n _ => O.set n .dead
  | .own n => O.set n .dead
  | _ => O
/-- the objects behind a call that touches nothing: what was handed as a row and may be part of the result is not owned any more -/
def aft (O : List AObj) (args : List AV) (res : AV) : List AObj := if res.flat = true then O else args.foldl killRow O
/-- To what it is appended. -/
def appK (O : List AObj) (x : AV) (t s bytes : Nat) (ys : List AV) (K : AV → List AObj → Prop) : Prop :=
  match x with
  | .nils => ys.length * bytes ≤ 140737488355328 ∧ ys.length ≤ maxLen ∧ (ys = [] → K .nils O) ∧ (ys ≠ [] → K (.row O.length ys.length) (O ++ [.live t s ys]))
  | .row n len => match O[n]? with
    | some (.live t' s' xs) => t' = t ∧ s' = s ∧ xs.length = len ∧ (len + ys.length) * bytes ≤ 140737488355328 ∧ len + ys.length ≤ maxLen ∧
        K (.row n (len + ys.length)) (O.set n (.live t s (xs ++ ys)))
    | some (.nil t' s') => t' = t ∧ s' = s ∧ len = 0 ∧ ys.length * bytes ≤ 140737488355328 ∧ ys.length ≤ maxLen ∧
        (ys = [] → K (.row n 0) O) ∧ (ys ≠ [] → K (.row n ys.length) (O.set n (.live t s ys)))
    | _ => False
  | _ => False
/-- a constant without references -/
def Opd.okc : Opd → Bool
  | .t _ => true
  | .c a => a.noref
def refs : AV → List Nat
  | .row n _ => [n]
  | .ptr n _ _ _ => [n]
  | .own n => [n]
  | _ => []
/-- a value that names no object but number 0 -/
def AV.one : AV → Bool
  | .row n _ => n == 0
  | .ptr n _ _ _ => n == 0
  | .own n => n == 0
  | x => x.noref
def AObj.norefs : AObj → Bool
  | .live _ _ xs => AV.norefs xs
  | .gho (.mp es) => es.all fun p => p.1.noref && p.2.noref
  | _ => true
def wpOp (P : Program) (o : AOp) (e : Env) (O : List AObj) (K : AV → List AObj → Prop) : Prop :=
  match o with
  | .stuck => False
  | .buildF _ s len z parts => rowK e s (List.replicate len z) parts fun xs => AV.norefs xs = true ∧ K (.sl xs) O
  | .pu o args => AV.norefs (args.map fun x => frz O (x.ev e)) = true ∧ puK o (args.map fun x => frz O (x.ev e)) fun v => K v O
  | .appS t s bytes x y => match y.ev e with
    | .v (.string b) => s = 1 ∧ appK O (x.ev e) t s bytes (b.data.toList.map fun c => .v (.int .u8 c.toNat)) K
    | _ => False
  | .mov x => K (x.ev e) O
  | .pick c a b => match c.ev e with
    | .v (.bool t) => K (if t then a.ev e else b.ev e) O
    | _ => False
  | .alloc t s z => K (.ptr O.length 1 0 0) (O ++ [.live t s [z]])
  | .box t s x => (x.ev e).cells.length = s ∧ (x.ev e).storable = true ∧ K (.ptr O.length 1 0 0) (O ++ [.live t s [x.ev e]])
  | .build z parts => buildK e z parts fun a => K a O
  | .buildSlice t s len z parts => rowK e s (List.replicate len z) parts fun xs => K (.row O.length len) (O ++ [.live t s xs])
  | .allocAt k t s z => z.noref = true ∧ O[k]? = some (.nil t s) ∧ K (.ptr k 1 0 0) (O.set k (.live t s [z]))
  | .boxAt k t s x => x.okc = true ∧ O[k]? = some (.nil t s) ∧ (x.ev e).cells.length = s ∧ (x.ev e).storable = true ∧ K (.ptr k 1 0 0) (O.set k (.live t s [x.ev e]))
  | .buildAt k t s len z parts => z.noref = true ∧ parts.all (fun p => p.2.okc) = true ∧ rowK e s (List.replicate len z) parts fun xs => O[k]? = some (.nil t s) ∧ xs ≠ [] ∧ K (.row k len) (O.set k (.live t s xs))
  | .load n x => match x.ev e with
    | .iptr y f => f + n.getD 1 ≤ y.cells.length ∧ K (loadC n y f) O
    | .ptr k len i f => match O[k]? with
      | some (.live _ _ xs) => xs.length = len ∧ i < len ∧ f + n.getD 1 ≤ (xs.getD i .top).cells.length ∧ K (loadC n (xs.getD i .top) f) O
      | _ => False
    | _ => False
  | .store m x y => match x.ev e with
    | .ptr k len i f => match O[k]? with
      | some (.live t s xs) => xs.length = len ∧ i < len ∧ (y.ev e).cells.length = m ∧ (y.ev e).storable = true ∧ f + m ≤ (xs.getD i .top).cells.length ∧
          K .top (O.set k (.live t s (xs.set i (upd (xs.getD i .top) f (y.ev e)))))
      | _ => False
    | _ => False
  | .bin op x y => match x.ev e, y.ev e with
    | .v a, .v b => match sbin op a b with
      | some z => K (.v z) O
      | none => False
    | _, _ => False
  | .beq neg x y => match x.ev e, y.ev e with
    | .v (.bool a), .v (.bool b) => K (.v (.bool (neg != (a == b)))) O
    | _, _ => False
  | .un op x => match x.ev e with
    | .v a => match sun op a with
      | some z => K (.v z) O
      | none => False
    | _ => False
  | .convInt k x => match x.ev e with
    | .v (.int _ n) => K (.v (.int k (k.wrap n))) O
    | _ => False
  | .faddr off x => match x.ev e with
    | .iptr y f => K (.iptr y (f + off)) O
    | .ptr n len i f => match O[n]? with
      | some (.live _ _ xs) => xs.length = len ∧ K (.ptr n len i (f + off)) O
      | _ => False
    | _ => False
  | .fld off n x => (x.ev e).isAgg = true ∧ off + n.getD 1 ≤ (x.ev e).cells.length ∧ K (loadC n (x.ev e) off) O
  | .iaddr s x i => match x.ev e, i.ev e with
    | .sl xs, .v (.int _ i) => 0 ≤ i ∧ i < xs.length ∧ (xs.getD i.toNat .top).cells.length = s ∧ K (.iptr (xs.getD i.toNat .top) 0) O
    | .row n len, .v (.int _ i) => match O[n]? with
      | some (.live _ s' xs) => s' = s ∧ xs.length = len ∧ 0 ≤ i ∧ i < len ∧ K (.ptr n len i.toNat 0) O
      | _ => False
    | _, _ => False
  | .aaddr m s x i => match x.ev e, i.ev e with
    | .iptr y f, .v (.int _ i) => 0 ≤ i ∧ i < m ∧ K (.iptr y (f + i.toNat * s)) O
    | .ptr n len j f, .v (.int _ i) => match O[n]? with
      | some (.live _ _ xs) => xs.length = len ∧ 0 ≤ i ∧ i < m ∧ K (.ptr n len j (f + i.toNat * s)) O
      | _ => False
    | _, _ => False
  | .idxS x i => match x.ev e, i.ev e with
    | .v (.string s), .v (.int _ i) => 0 ≤ i ∧ i < s.size ∧ K (.v (.int .u8 (s.data.toList.getD i.toNat 0).toNat)) O
    | _, _ => False
  | .sliceS x lo hi => match x.ev e with
    | .v (.string s) => boundK 0 e lo fun l => boundK s.size e hi fun h => 0 ≤ l ∧ l ≤ h ∧ h ≤ s.size ∧ K (.v (.string (s.extract l.toNat h.toNat))) O
    | _ => False
  | .sliceL s x lo hi => match x.ev e with
    | .sl xs => boundK 0 e lo fun l => boundK xs.length e hi fun h => 0 ≤ l ∧ l ≤ h ∧ h ≤ xs.length ∧ (∀ y ∈ xs, y.cells.length = s) ∧ K (.sl ((xs.take h.toNat).drop l.toNat)) O
    | _ => False
  | .appZ t s bytes z x n => match x.ev e, n.ev e with
    | .nils, .v (.int .i64 k) => 0 < k ∧ bytes * k ≤ 2 ^ 48 ∧ k ≤ maxLen ∧ K (.row O.length k.toNat) (O ++ [.live t s (List.replicate k.toNat z)])
    | _, _ => False
  | .cut s x lo hi => match x.ev e with
    | .nils => boundK 0 e lo fun l => boundK 0 e hi fun h => l = 0 ∧ h = 0 ∧ K .nils O
    | .row n len => match O[n]? with
      | some (.live t s' xs) => xs.length = len ∧ s' = s ∧ boundK 0 e lo fun l => boundK len e hi fun h => l = 0 ∧ h = 0 ∧ K (.row O.length 0) (O.set n .dead ++ [.live t s []])
      | _ => False
    | _ => False
  | .mk t s bytes z len cap => match len.ev e, cap.ev e with
    | .v (.int .i64 n), .v (.int .i64 c) => 0 ≤ n ∧ n ≤ c ∧ bytes * c ≤ 2 ^ 48 ∧ c ≤ maxLen ∧ K (.row O.length n.toNat) (O ++ [.live t s (List.replicate n.toNat z)])
    | _, _ => False
  | .mkF _ _ bytes z len cap => match len.ev e, cap.ev e with
    | .v (.int .i64 n), .v (.int .i64 c) => 0 ≤ n ∧ n ≤ c ∧ bytes * c ≤ 2 ^ 48 ∧ c ≤ maxLen ∧ z.noref = true ∧ K (.sl (List.replicate n.toNat z)) O
    | _, _ => False
  | .mkAt k t s bytes z len cap => match len.ev e, cap.ev e with
    | .v (.int .i64 n), .v (.int .i64 c) => 0 < n ∧ n ≤ c ∧ bytes * c ≤ 2 ^ 48 ∧ c ≤ maxLen ∧ z.noref = true ∧ O[k]? = some (.nil t s) ∧ K (.row k n.toNat) (O.set k (.live t s (List.replicate n.toNat z)))
    | _, _ => False
  | .lenS x => match x.ev e with
    | .v (.string s) => K (.v (.int .i64 s.size)) O
    | _ => False
  | .lenL x => match x.ev e with
    | .nils => K (.v (.int .i64 0)) O
    | .sl xs => K (.v (.int .i64 xs.length)) O
    | .row n len => match O[n]? with
      | some (.live _ _ xs) => xs.length = len ∧ K (.v (.int .i64 len)) O
      | some (.nil _ _) => len = 0 ∧ K (.v (.int .i64 0)) O
      | _ => False
    | _ => False
  | .app t s bytes x y => srcK O (y.ev e) fun ys => (∀ y ∈ ys, y.cells.length = s) ∧ appK O (x.ev e) t s bytes ys K
  | .ext x i => match x.ev e with
    | .tup vs => i < vs.length ∧ K (vs.getD i .top) O
    | _ => False
  | .nilc x => match x.ev e with
    | .iptr y f => K (.iptr y f) O
    | .fn f caps => K (.fn f caps) O
    | .ptr n len i f => match O[n]? with
      | some (.live _ _ xs) => xs.length = len ∧ K (.ptr n len i f) O
      | _ => False
    | _ => False
  | .mkfn f caps => K (.fn f (caps.map (Opd.ev e))) O
  | .call f args => ∃ res O', Con P f (args.map (Opd.ev e)) O res O' ∧ K res O'
  | .callv x args => match x.ev e with
    | .fn f caps => ∃ res O', Con P f (args.map (Opd.ev e) ++ caps) O res O' ∧ K res O'
    | _ => False
  | .pcall f args => ∃ res, AV.norefs (args.map fun x => frz O (x.ev e)) = true ∧ PCon P f (args.map fun x => frz O (x.ev e)) res ∧ K res (aft O (args.map (Opd.ev e)) res)
  | .pcallv x args => match x.ev e with
    | .fn f caps => ∃ res, AV.norefs ((args.map fun x => frz O (x.ev e)) ++ caps) = true ∧ PCon P f ((args.map fun x => frz O (x.ev e)) ++ caps) res ∧ K res (aft O (args.map (Opd.ev e)) res)
    | _ => False
  | .qcall f args => ∃ res, AV.norefs (args.map (Opd.ev e)) = true ∧ PCon P f (args.map (Opd.ev e)) res ∧ K res O
  | .rcall f args => ∃ res, res.flat = true ∧ AV.norefs (args.map fun x => frz O (x.ev e)) = true ∧ PCon P f (args.map fun x => frz O (x.ev e)) res ∧ K res O
  | .fcall _ _ _ f args => ∃ res ob, AV.norefs (args.map (Opd.ev e)) = true ∧ Con P f (args.map (Opd.ev e)) [] res [ob] ∧ K (res.ren fun n => O.length + n) (O ++ [ob.ren fun n => O.length + n])
  | .scall _ f args => ∃ res O', Con P f (args.map (Opd.ev e)) O res O' ∧ K res O'
  | .scall1 _ f args => ∃ n a0 ob res ob', args.map (Opd.ev e) = a0.map (AV.ren fun _ => n) ∧ a0.all AV.one = true ∧ (args.flatMap fun x => refs (x.ev e)) = [n] ∧ O[n]? = some ob ∧ ob.norefs = true ∧ res.noref = true ∧ ob'.norefs = true ∧ Con P f a0 [ob] res [ob'] ∧ K res (O.set n ob')
  | .mkmap => K (.own O.length) (O ++ [.gho (.mp [])])
  | .mget ok d z m k => match m.ev e, k.ev e with
    | .own n, .v kv => match O[n]? with
      | some (.gho (.mp es)) => d.ok kv = true ∧ d.all es = true ∧ K (match mfind kv es 0 with
        | none => if ok then .tup [z, .v (.bool false)] else z
        | some (_, v) => if ok then .tup [v, .v (.bool true)] else v) O
      | _ => False
    | _, _ => False
  | .mset d m k v => match m.ev e, k.ev e with
    | .own n, .v kv => match O[n]? with
      | some (.gho (.mp es)) => d.ok kv = true ∧ d.all es = true ∧ K (.tup []) (O.set n (.gho (.mp (Go.Ab.mset kv (v.ev e) es))))
      | _ => False
    | _, _ => False
  | .pget ok z m k => match m.ev e, k.ev e with
    | .own n, .ptr j 1 0 0 => match O[n]? with
      | some (.gho (.mp es)) => keyBox O j = true ∧ keyPtrs O es = true ∧ K (match pfind j es 0 with
        | none => if ok then .tup [z, .v (.bool false)] else z
        | some (_, v) => if ok then .tup [v, .v (.bool true)] else v) O
      | _ => False
    | _, _ => False
  | .pset m k v => match m.ev e, k.ev e with
    | .own n, .ptr j 1 0 0 => match O[n]? with
      | some (.gho (.mp es)) => keyBox O j = true ∧ keyPtrs O es = true ∧ K (.tup []) (O.set n (.gho (.mp (Go.Ab.pset j (v.ev e) es))))
      | _ => False
    | _, _ => False
  | .strit x => match x.ev e with
    | .v (.string s) => K (.own O.length) (O ++ [.gho (.it s 0)])
    | _ => False
  | .snext x => match x.ev e with
    | .own n => match O[n]? with
      | some (.gho (.it s pos)) => (pos < s.size → K (.tup [.v (.bool true), .v (.int .i64 pos), .v (.int .i32 (Utf8.decode s pos).1)]) (O.set n (.gho (.it s (pos + (Utf8.decode s pos).2))))) ∧ (¬ pos < s.size → K (.tup [.v (.bool false)]) O)
      | _ => False
    | _ => False
  | .s2b t x => match x.ev e with
    | .v (.string s) => s.size ≤ maxLen ∧ K (.row O.length s.size) (O ++ [.live t 1 (s.data.toList.map fun c => .v (.int .u8 c.toNat))])
    | _ => False
  | .markS t x => match x.ev e with
    | .row n len => match O[n]? with
      | some (.live t' s xs) => t' = t ∧ s = 1 ∧ xs.length = len ∧ K (.row n len) O
      | _ => False
    | _ => False
  | .pnil neg x => match x.ev e with
    | .v (.pointer none) => K (.v (.bool (neg != true))) O
    | .ptr n len _ _ => match O[n]? with
      | some (.live _ _ xs) => xs.length = len ∧ K (.v (.bool (neg != false))) O
      | _ => False
    | _ => False
  | .peq neg x y => match x.ev e, y.ev e with
    | .ptr n 1 0 0, .ptr m 1 0 0 => keyBox O n = true ∧ keyBox O m = true ∧ K (.v (.bool (neg != decide (n = m)))) O
    | _, _ => False
  | .lcall rd f args => ∃ res ob, (∀ O' : List AObj, O'.length = O.length → (∀ n ∈ rd, O'[n]? = O[n]?) → Con P f (args.map (Opd.ev e)) O' res (O' ++ [ob])) ∧ K res (O ++ [ob])
  | .kcall rd f args => ∃ res, (∀ O' : List AObj, (∀ n ∈ rd, O'[n]? = O[n]?) → Con P f (args.map (Opd.ev e)) O' res O') ∧ K res O
  | .qcallv x args => match x.ev e with
    | .fn f caps => ∃ res, AV.norefs (args.map (Opd.ev e) ++ caps) = true ∧ PCon P f (args.map (Opd.ev e) ++ caps) res ∧ K res O
    | _ => False
/- FROM THE MODEL's OPERATIONS -/
def absC : Value → Option AV
  | .bool b => some (.v (.bool b))
  | .int k n => some (.v (.int k n))
  | .string s => some (.v (.string s))
  | .pointer none => some (.v (.pointer none))
  | .map none => some (.v (.map none))
  | .nilFunc => some (.v .nilFunc)
  | .nilIface => some (.v .nilIface)
  | .slice none 0 0 => some .nils
  | _ => none
def absV : Value → Option AV
  | .agg cs => (cs.toList.mapM absC).map .agg
  | .func (.func f) first captured => if first.size = 0 ∧ captured.size = 0 then some (.fn f []) else none
  | x => absC x
def cOpd : Operand → Option Opd
  | .tmp t => some (.t t)
  | .const v => (absV v).map .c
  | .func f => some (.c (.fn f []))
  | .global _ => none
def cOpds (l : Array Operand) : Option (List Opd) := l.toList.mapM cOpd
/-- size of a type, bytes, zero value -/
def cElem (P : Program) (t : TypeId) : Option (Nat × Nat × AV) := do
  let i ← P.info? t
  let z ← i.zero
  let a ← absV z
  if a.cells.length = i.size ∧ 0 < i.size ∧ z.cells.size = i.size ∧ a.storable = true then some (i.size, i.bytes, a) else none
def aggT (d : TypeDesc) : Bool :=
  match d with
  | .struct _ | .array _ _ => true
  | _ => false
/-- none: one cell; some n: an aggregate -/
def cWidth (P : Program) (t : TypeId) : Option (Option Nat) := do
  let d ← P.underlying t
  let i ← P.info? t
  if aggT d = true then (if 0 < i.size then some (some i.size) else none) else some none
def cSlice (P : Program) (t : TypeId) : Option TypeId :=
  match P.underlying t with
  | some (.slice e) => some e
  | _ => none
def isNeq : BinOp → Bool
  | .neq => true
  | _ => false
/-- an equality of two bools -/
def isBoolEq (P : Program) (op : BinOp) (t : TypeId) : Bool :=
  match op, P.underlying t with
  | .eql, some .bool => true
  | .neq, some .bool => true
  | _, _ => false
/-- a slice or a pointer held against nil -/
def isEqOp (op : BinOp) : Bool :=
  match op with
  | .eql | .neq => true
  | _ => false
def isSl (P : Program) (t : TypeId) : Bool :=
  match P.underlying t with
  | some (.slice _) => true
  | _ => false
def isPtr (P : Program) (t : TypeId) : Bool :=
  match P.underlying t with
  | some (.pointer _) => true
  | _ => false
/-- a pointer to something that has cells -/
def isBox (P : Program) (t : TypeId) : Bool :=
  match P.underlying t with
  | some (.pointer el) => match P.info? el with
    | some i => decide (0 < i.size)
    | none => false
  | _ => false
def isPtrEq (P : Program) (op : BinOp) (t : TypeId) : Bool := isEqOp op && isBox P t
def isIfc (P : Program) (t : TypeId) : Bool :=
  match P.underlying t with
  | some (.interface _) => true
  | _ => false
def isU8 (P : Program) (t : TypeId) : Bool :=
  match P.underlying t with
  | some (.int .u8) => true
  | _ => false
def isInt (P : Program) (t : TypeId) : Bool :=
  match P.underlying t with
  | some (.int _) => true
  | _ => false
def cOp1 (P : Program) (type : TypeId) (o : Op) : Option AOp :=
  match o with
  | .move x | .assign x => do some (.mov (← cOpd x))
  | .pick c a b => do some (.pick (← cOpd c) (← cOpd a) (← cOpd b))
  | .alloc t => do let (s, _, z) ← cElem P t; some (.alloc t s z)
  | .box t x => do let i ← P.info? t; if 0 < i.size then some (.box t i.size (← cOpd x)) else none
  | .build t parts =>
    match P.underlying t with
    | some (.struct fs) => do
      let (_, _, z) ← cElem P t
      let _ ← fs.toList.mapM (fun f => (P.info? f.type).map fun i => (f.offset, i.size))
      let ps ← parts.toList.mapM fun (i, x) => do let f ← fs[i]?; let n ← P.info? f.type; some (f.offset, n.size, ← cOpd x)
      some (.build z.cells ps)
    | some (.array _ el) => if parts.isEmpty then do
        let (_, _, z) ← cElem P t
        let _ ← P.info? el
        some (.build z.cells [])
      else none
    | _ => none
  | .buildSlice t len parts => do
    let e ← cSlice P t
    let (s, _, z) ← cElem P e
    let ps ← parts.toList.mapM fun (i, x) => do some (i, ← cOpd x)
    if len * s ≤ 2 ^ 24 then some (.buildSlice e s len z ps) else none
  | .load t x => do some (.load (← cWidth P t) (← cOpd x))
  | .store t x y => do some (.store (← P.info? t).size (← cOpd x) (← cOpd y))
  | .nilCheck x => do some (.nilc (← cOpd x))
  | .binOp op t x y _ => if isBoolEq P op t = true then do some (.beq (isNeq op) (← cOpd x) (← cOpd y)) else if isPtrEq P op t = true then do some (.peq (isNeq op) (← cOpd x) (← cOpd y)) else do some (.bin op (← cOpd x) (← cOpd y))
  | .unOp op _ x => do some (.un op (← cOpd x))
  | .convert src dst x => match P.underlying src, P.underlying dst with
    | some (.int _), some (.int k) => do some (.convInt k (← cOpd x))
    | some .string, some (.slice e) => if isU8 P e = true then do some (.s2b e (← cOpd x)) else none
    | some (.slice _), some (.slice e) => if isU8 P e = true ∧ src = dst then do some (.markS e (← cOpd x)) else none
    | _, _ => none
  | .fieldAddr t x f => match P.underlying t with
    | some (.struct fs) => do
      let g ← fs[f]?
      if 0 < (← P.info? g.type).size then some (.faddr g.offset (← cOpd x)) else none
    | _ => none
  | .field t x f => match P.underlying t with
    | some (.struct fs) => do
      let g ← fs[f]?
      some (.fld g.offset (← cWidth P g.type) (← cOpd x))
    | _ => none
  | .indexAddr t x i => match P.underlying t with
    | some (.array m el) => do some (.aaddr m (← P.info? el).size (← cOpd x) (← cOpd i))
    | _ => do
      let e ← cSlice P t
      some (.iaddr (← P.info? e).size (← cOpd x) (← cOpd i))
  | .index t x i => match P.underlying t with
    | some .string => do some (.idxS (← cOpd x) (← cOpd i))
    | _ => none
  | .slice t x lo hi mx =>
    if mx.isSome then none else
    match P.underlying t with
    | some .string => do some (.sliceS (← cOpd x) (← lo.mapM cOpd) (← hi.mapM cOpd))
    | some (.slice e) => do some (.sliceL (← P.info? e).size (← cOpd x) (← lo.mapM cOpd) (← hi.mapM cOpd))
    | _ => none
  | .makeSlice t l c => do
    let e ← cSlice P t
    let (s, b, z) ← cElem P e
    some (.mk e s b z (← cOpd l) (← cOpd c))
  | .extract x i => do some (.ext (← cOpd x) i)
  | .makeMap _ none => some .mkmap
  | .lookup t m k ok => match P.underlying t with
    | some (.map kt et) => if isBox P kt = true then do
        let (_, _, z) ← cElem P et
        some (.pget ok z (← cOpd m) (← cOpd k))
      else do
        let d ← KD.of (← P.underlying kt)
        let (_, _, z) ← cElem P et
        some (.mget ok d z (← cOpd m) (← cOpd k))
    | _ => none
  | .mapUpdate t m k v => match P.underlying t with
    | some (.map kt _) => if isBox P kt = true then do some (.pset (← cOpd m) (← cOpd k) (← cOpd v)) else do
      let d ← KD.of (← P.underlying kt)
      some (.mset d (← cOpd m) (← cOpd k) (← cOpd v))
    | _ => none
  | .insert t m k v => match P.underlying t with
    | some (.map kt _) => if isBox P kt = true then do some (.pset (← cOpd m) (← cOpd k) (← cOpd v)) else do
      let d ← KD.of (← P.underlying kt)
      some (.mset d (← cOpd m) (← cOpd k) (← cOpd v))
    | _ => none
  | .range t x => match P.underlying t with
    | some .string => do some (.strit (← cOpd x))
    | _ => none
  | .next x true => do some (.snext (← cOpd x))
  | .makeFunc (.func f) first caps => if first.isEmpty then do some (.mkfn f (← cOpds caps)) else none
  | _ => none
def AOp.isCall : AOp → Bool
  | .call _ _ | .callv _ _ | .pcall _ _ | .pcallv _ _ | .qcall _ _ | .qcallv _ _ | .rcall _ _ | .fcall _ _ _ _ _ | .scall _ _ _ | .scall1 _ _ _ | .lcall _ _ _ | .kcall _ _ _ => true
  | _ => false
def cCall (P : Program) (c : Call) : Option AOp :=
  match c.callee with
  | .value f => match cOpd f, cOpds c.args with
    | some (.c (.fn f [])), some args => some (.call f args)
    | some x, some args => some (.callv x args)
    | _, _ => none
  | .builtin .len => match c.argTypes.toList, c.args.toList with
    | [t], [x] => match P.underlying t with
      | some .string => (cOpd x).map .lenS
      | some (.slice _) => (cOpd x).map .lenL
      | _ => none
    | _, _ => none
  | .builtin .append => match c.argTypes.toList, c.args.toList with
    | [t, u], [x, y] => if t = u then do
        let e ← cSlice P t
        let (s, b, _) ← cElem P e
        some (.app e s b (← cOpd x) (← cOpd y)) else none
    | _, _ => none
  | _ => none
def cOp0 (P : Program) (type : TypeId) (o : Op) : Option AOp :=
  match o with
  | .call c => cCall P c
  | o => (cOp1 P type o).bind fun a => if a.isCall = true then none else some a
def isStr (P : Program) (t : TypeId) : Bool :=
  match P.underlying t with
  | some .string => true
  | _ => false
/-- the rarer operations -/
def cOpX (P : Program) (o : Op) : Option AOp :=
  match o with
  | .binOp op t x (.const (.slice none 0 0)) _ => if isEqOp op = true ∧ isSl P t = true then do some (.pu (.isNilS (isNeq op)) [← cOpd x]) else none
  | .binOp op t x (.const (.pointer none)) _ => if isEqOp op = true ∧ isPtr P t = true then do some (.pu (.isNilP (isNeq op)) [← cOpd x]) else none
  | .binOp op t x (.const .nilIface) _ => if isEqOp op = true ∧ isIfc P t = true then do some (.pu (.isNilI (isNeq op)) [← cOpd x]) else none
  | .convert s d x => do
    let e ← cSlice P s
    if isU8 P e = true ∧ isStr P d = true then some (.pu .b2s [← cOpd x]) else none
  | .call c =>
    match c.callee, c.argTypes.toList, c.args.toList with
    | .builtin .append, [t, u], [x, y] => if isStr P u = true then do
        let e ← cSlice P t
        let (s, b, _) ← cElem P e
        if isU8 P e = true then some (.appS e s b (← cOpd x) (← cOpd y)) else none
      else if isInt P u = true then do
        let e ← cSlice P t
        let (s, b, z) ← cElem P e
        some (.appZ e s b z (← cOpd x) (← cOpd y))
      else none
    | .builtin .cap, [t], [x] => if isSl P t = true then do some (.pu .capN [← cOpd x]) else none
    | .builtin .min, [_, _], [x, y] => do some (.pu .min [← cOpd x, ← cOpd y])
    | .builtin .max, [_, _], [x, y] => do some (.pu .max [← cOpd x, ← cOpd y])
    | _, _, _ => none
  | _ => none
/-- each operation has an abstract one: at worst one that is not to be reached -/
def cOpS (P : Program) (type : TypeId) (o : Op) : AOp :=
  match cOpX P o with
  | some a => a
  | none => (cOp0 P type o).getD .stuck
def cOp (P : Program) (type : TypeId) (o : Op) : Option AOp := some (cOpS P type o)
end Go.Ab
/-
  What the operations do: operands, cells, loads.
-/
namespace Go.Ab
theorem add_lit (b o j : Nat) : (⟨b, o, none⟩ : Addr).add j = ⟨b, o + j, none⟩ := by
  unfold Addr.add; split <;> simp_all
section
variable {I : Imm} {L : Nat → Loc} {O : List AObj}
theorem absC_sound {v : Value} {a : AV} (h : absC v = some a) : R I L O a v := by
  unfold absC at h
  split at h <;> cases h <;> first | exact .v _ rfl | exact .nils
theorem mapM_some {α β : Type} {f : α → Option β} : ∀ {l : List α} {r : List β}, l.mapM f = some r → r.length = l.length ∧ ∀ (i : Nat) (x : α) (y : β), l[i]? = some x → r[i]? = some y → f x = some y
  | [], r, h => by simp at h; subst h; simp
  | a :: l, r, h => by
    simp only [List.mapM_cons, Option.bind_eq_bind, Option.bind_eq_some_iff, Option.pure_def, Option.some.injEq] at h
    obtain ⟨b, hb, bs, hbs, rfl⟩ := h
    obtain ⟨h1, h2⟩ := mapM_some hbs
    refine ⟨by simp [h1], fun i x y hx hy => ?_⟩
    cases i with
    | zero => simp at hx hy; subst hx; subst hy; exact hb
    | succ i => simp at hx hy; exact h2 i x y hx hy
theorem absV_sound {v : Value} {a : AV} (h : absV v = some a) : R I L O a v := by
  unfold absV at h
  split at h
  · rename_i cs
    simp only [Option.map_eq_some_iff] at h
    obtain ⟨as, has, rfl⟩ := h
    obtain ⟨h1, h2⟩ := mapM_some has
    refine .agg _ _ (by simpa using h1) fun i c x hc hx => absC_sound (h2 i x c (by simpa using hx) hc)
  · rename_i f first captured
    split at h
    · rename_i hh
      cases h
      obtain rfl : first = #[] := Array.eq_empty_of_size_eq_zero hh.1
      exact .fn _ _ _ (by simp [hh.2]) (by simp)
    · cases h
  · exact absC_sound h
theorem cOpd_sound {x : Operand} {ax : Opd} (h : cOpd x = some ax) {e : Env} {a : Act} (he : ∀ t, R I L O (e t) (a.tmps.getD t undef)) : R I L O (ax.ev e) (a.eval x) := by
  unfold cOpd at h
  split at h
  · cases h; exact he _
  · simp only [Option.map_eq_some_iff] at h
    obtain ⟨c, hc, rfl⟩ := h
    exact absV_sound hc
  · cases h; exact .fn _ _ _ rfl (by simp)
  · cases h
/-- what is a value of one cell, or an aggregate: its cells. -/
theorem R.isCell {a : AV} {x : Value} (h : R I L O a x) (hc : a.isCell = true) : x.oneCell' = true := by
  cases h <;> first | rfl | (simp [AV.isCell] at hc; done) | assumption | exact Gho.val_one _ _
theorem Value.cells_one {x : Value} (h : x.oneCell' = true) : x.cells = #[x] := by
  cases x <;> first | rfl | (simp [Value.oneCell'] at h; done)
theorem AV.cells_cell {a : AV} (h : a.isCell = true) : a.cells = [a] := by
  cases a <;> first | rfl | (simp [AV.isCell] at h; done)
theorem AV.agg_of {a : AV} (h : a.isAgg = true) : a = .agg a.cells := by
  cases a <;> first | rfl | (simp [AV.isAgg] at h; done)
theorem R.cells {a : AV} {x : Value} (h : R I L O a x) (hc : (a.isCell || a.isAgg) = true) :
    a.cells.length = x.cells.size ∧ ∀ (j : Nat) c, a.cells[j]? = some c → ∃ y, x.cells[j]? = some y ∧ R I L O c y := by
  by_cases h1 : a.isCell = true
  · have h2 := h.isCell h1
    rw [AV.cells_cell h1, Value.cells_one h2]
    refine ⟨rfl, fun j c hj => ?_⟩
    cases j with
    | zero => simp at hj; subst hj; exact ⟨x, rfl, h⟩
    | succ j => simp at hj
  · have h3 : a.isAgg = true := by simpa [h1] using hc
    rw [AV.agg_of h3] at h
    cases h with
    | agg _ vs hl hr =>
      refine ⟨hl, fun j c hj => ?_⟩
      have hlt : j < vs.size := by rw [← hl]; exact (List.getElem?_eq_some_iff.1 hj).1
      have hy : vs[j]? = some vs[j] := by simp [hlt]
      exact ⟨vs[j], hy, hr j c _ hj hy⟩
theorem storable_cases {a : AV} (h : a.storable = true) : (a.isCell || a.isAgg) = true := by
  cases a <;> first | rfl | (simp [AV.storable, AV.cells, AV.isCell] at h; done)
theorem R.cellsOne {a : AV} {x : Value} (h : R I L O a x) (hc : a.storable = true) :
    a.cells.length = x.cells.size ∧ ∀ (j : Nat) c, a.cells[j]? = some c → ∃ y, x.cells[j]? = some y ∧ y.oneCell' = true ∧ R I L O c y := by
  obtain ⟨h1, h2⟩ := h.cells (storable_cases hc)
  refine ⟨h1, fun j c hj => ?_⟩
  obtain ⟨y, hy, hr⟩ := h2 j c hj
  exact ⟨y, hy, hr.isCell (List.all_eq_true.1 hc c (List.mem_of_getElem? hj)), hr⟩
theorem R.allOne {a : AV} {x : Value} (h : R I L O a x) (hc : a.storable = true) : ∀ v ∈ x.cells.toList, v.oneCell' = true := by
  obtain ⟨h1, h2⟩ := h.cellsOne hc
  intro v hv
  obtain ⟨j, hj⟩ := List.getElem?_of_mem hv
  have hj' : x.cells[j]? = some v := by simpa using hj
  have hlt : j < a.cells.length := by rw [h1]; exact (Array.getElem?_eq_some_iff.1 hj').1
  obtain ⟨y, hy, ho, _⟩ := h2 j a.cells[j] (by simp [hlt])
  rw [hj'] at hy; cases hy; exact ho
end
theorem R.row_live {I : Imm} {L : Nat → Loc} {O : List AObj} {n len e s : Nat} {xs : List AV} {x : Value} (h : R I L O (.row n len) x) (hn : O[n]? = some (.live e s xs)) (hl : xs.length = len) :
    x = .slice (some ⟨(L n).blk, 0, none⟩) len (L n).cap := by
  cases h with
  | rowLive => rfl
  | rowNil _ _ _ hn' => rw [hn] at hn'; cases hn'
  | rowDead _ _ _ _ _ hd => have := hd _ _ _ hn; omega
theorem R.row_nil {I : Imm} {L : Nat → Loc} {O : List AObj} {n len e s : Nat} {x : Value} (h : R I L O (.row n len) x) (hn : O[n]? = some (.nil e s)) : x = .slice none 0 0 ∧ len = 0 := by
  cases h with
  | rowLive _ _ _ _ _ hn' => rw [hn] at hn'; cases hn'
  | rowNil => exact ⟨rfl, rfl⟩
  | rowDead _ _ _ _ hd => exact (hd _ _ hn).elim
theorem R.ptr_live {I : Imm} {L : Nat → Loc} {O : List AObj} {n len i f e s : Nat} {xs : List AV} {x : Value} (h : R I L O (.ptr n len i f) x) (hn : O[n]? = some (.live e s xs)) (hl : xs.length = len) :
    x = .pointer (some ⟨(L n).blk, i * s + f, none⟩) := by
  cases h with
  | ptrLive _ _ _ _ _ _ _ hn' => rw [hn] at hn'; cases hn'; rfl
  | ptrDead _ _ _ _ _ _ _ hd => have := hd _ _ _ hn; omega
/- LOADS -/
theorem run_isAgg {P : Program} {t : TypeId} {d : TypeDesc} (hd : P.underlying t = some d) (w : World) :
    (isAgg t).run P w = .ok (aggT d) w := by
  cases d <;> simp [isAgg, run_underlying hd, aggT]
/-- what a load gives -/
def loadV (n : Option Nat) (vals : Nat → Value) : Value :=
  match n with
  | none => vals 0
  | some m => .agg ((List.range m).map vals).toArray
theorem run_loadAt {P : Program} {t : TypeId} {n : Option Nat} (hn : cWidth P t = some n) (b o : Nat) (vals : Nat → Value) (w : World)
    (hc : ∀ j, j < n.getD 1 → w.cell? ⟨b, o + j, none⟩ = some (vals j)) :
    (Instr.loadAt t (.pointer (some ⟨b, o, none⟩))).run P w = .ok (loadV n vals) w := by
  unfold cWidth at hn
  simp only [Option.bind_eq_bind, Option.bind_eq_some_iff] at hn
  obtain ⟨d, hd, i, hi, hn⟩ := hn
  cases n with
  | none =>
    have hf : aggT d = false := by
      by_cases h : aggT d = true
      · rw [if_pos h] at hn; split at hn <;> simp at hn
      · simpa using h
    have h0 := hc 0 (by simp)
    simp only [Nat.add_zero] at h0
    simp [Instr.loadAt, Instr.sureAddr, loadVar, run_isAgg hd, hf, run_load, h0, loadV]
  | some m =>
    have hf : aggT d = true ∧ i.size = m := by
      by_cases h : aggT d = true
      · rw [if_pos h] at hn; split at hn <;> simp at hn; exact ⟨h, hn⟩
      · rw [if_neg h] at hn; simp at hn
    have hl := run_loadCells (P := P) w ⟨b, o, none⟩ m vals (fun j hj => by rw [add_lit]; exact hc j (by simpa using hj))
    simp [Instr.loadAt, Instr.sureAddr, loadVar, run_isAgg hd, hf.1, sizeOf, typeInfo, hi, hf.2, hl, loadV]
theorem loadC_sound {I : Imm} {L : Nat → Loc} {O : List AObj} {x : AV} {n : Option Nat} {f : Nat} {vals : Nat → Value} (hf : f + n.getD 1 ≤ x.cells.length)
    (hr : ∀ (j : Nat) c, x.cells[f + j]? = some c → j < n.getD 1 → R I L O c (vals j)) :
    R I L O (loadC n x f) (loadV n vals) := by
  cases n with
  | none =>
    simp only [Option.getD_none] at hf
    have h1 : x.cells[f]? = some x.cells[f] := by simp [show f < x.cells.length by omega]
    have := hr 0 _ (by rw [Nat.add_zero]; exact h1) (by simp)
    simpa [loadC, List.getD, h1, loadV] using this
  | some m =>
    simp only [Option.getD_some] at hf hr
    simp only [loadC, loadV]
    split
    · rename_i hh
      obtain ⟨rfl, ha, hl⟩ := hh
      rw [AV.agg_of ha]
      refine .agg _ _ (by simp [hl]) fun i c v hc hv => ?_
      have hlt : i < m := by rw [← hl]; exact (List.getElem?_eq_some_iff.1 hc).1
      simp [hlt] at hv
      subst hv
      exact hr i c (by simpa using hc) hlt
    · refine .agg _ _ (by simp; omega) fun i c v hc hv => ?_
      have hlt : i < m := by
        have := (List.getElem?_eq_some_iff.1 hc).1
        simp at this; omega
      simp [hlt] at hv
      subst hv
      rw [List.getElem?_take, if_pos hlt, List.getElem?_drop] at hc
      exact hr i c hc hlt
end Go.Ab
/-
  How memory is handed on: an object that is new, or written, or moved.
-/
namespace Go.Ab
theorem cell_cells {w : World} {b o : Nat} {c : Array Value} {e : TypeId} {f : Nat × Nat} (h : w.heap[b]? = some (.cells c e f)) : w.cell? ⟨b, o, none⟩ = c[o]? := by
  simp [World.cell?, h]
theorem ObjOk.congr {I I' : Imm} {L L' : Nat → Loc} {O O' : List AObj} {w w' : World} {l : Loc} {e s : Nat} {xs : List AV} (h : ObjOk I L O w l e s xs)
    (hb : w'.heap[l.blk]? = w.heap[l.blk]?) (hr : ∀ a x, R I L O a x → R I' L' O' a x) : ObjOk I' L' O' w' l e s xs := by
  obtain ⟨c, h1, h2, h3, h4, h5, h6⟩ := h
  refine ⟨c, by rw [hb]; exact h1, h2, h3, h4, h5, fun i x hx => ⟨(h6 i x hx).1, fun j a ha => ?_⟩⟩
  obtain ⟨y, hy, ho, hr'⟩ := (h6 i x hx).2 j a ha
  exact ⟨y, hy, ho, hr _ _ hr'⟩
theorem Good.refl {I : Imm} {L : Nat → Loc} {O : List AObj} {w : World} (h : Inv I L O w) : Good I L O w I L O w :=
  ⟨h, .refl _ _ _, .refl _ _, fun _ h => .inl h, fun _ _ _ h => .inl h⟩
theorem Good.trans {I I' I'' : Imm} {L L' L'' : Nat → Loc} {O O' O'' : List AObj} {w w' w'' : World} (h : Good I L O w I' L' O' w') (k : Good I' L' O' w' I'' L'' O'' w'') : Good I L O w I'' L'' O'' w'' :=
  ⟨k.inv, h.ext.trans k.ext, h.frm.trans k.frm h.lb, fun b hb => by
    rcases k.lb b hb with h1 | h1
    · exact h.lb b h1
    · exact .inr (Nat.le_trans h.frm.size h1), fun b o x hx => by
    rcases k.immNew b o x hx with h1 | h1 | h1
    · exact h.immNew b o x h1
    · exact .inr (h.lb b h1)
    · exact .inr (.inr (Nat.le_trans h.frm.size h1))⟩
/-- a draw changes nothing. -/
theorem Good.drawn {I : Imm} {L : Nat → Loc} {O : List AObj} {w : World} (h : Inv I L O w) (k : Nat) : Good I L O w I L O { w with drawn := k } :=
  ⟨⟨h.imm, h.obj, h.sep, h.immSep, h.fix, h.blk, h.ow.keep fun _ _ _ => rfl, h.gh.step (fun _ _ h => ⟨h, rfl⟩) (fun _ _ h => h) fun _ _ => rfl⟩, .refl _ _ _, ⟨rfl, rfl, rfl, Nat.le_refl _, fun _ _ _ => rfl⟩, fun _ h => .inl h, fun _ _ _ h => .inl h⟩
theorem Inv.put {I : Imm} {L : Nat → Loc} {O O' : List AObj} {w w' : World} {n : Nat} {l : Loc} {e s : Nat} {xs : List AV} (h : Inv I L O w)
    (hO : ∀ k : Nat, O'[k]? = if k = n then some (.live e s xs) else O[k]?) (hlen : O.length ≤ O'.length)
    (hw : ∀ b, b < w.heap.size → b ≠ l.blk → w'.heap[b]? = w.heap[b]?)
    (hos : w'.os = w.os) (htape : w'.tape = w.tape) (hout : w'.output = w.output) (hsize : w.heap.size ≤ w'.heap.size)
    (hl : w.heap.size ≤ l.blk ∨ ∃ e s xs, O[n]? = some (.live e s xs) ∧ (L n).blk = l.blk)
    (hok : ObjOk I L O w' l e s xs)
    (hold : n < O.length → (∃ ys, O[n]? = some (.live e s ys) ∧ ys.length ≤ xs.length ∧ (ys.length = xs.length → l = L n)) ∨ (O[n]? = some (.nil e s) ∧ xs ≠ [])) :
    Good I L O w I (fun k => if k = n then l else L k) O' w' := by
  have hext : Ext I L O I (fun k => if k = n then l else L k) O' := by
    refine ⟨fun _ _ _ h => h, hlen, fun k hk e' s' xs' hx => ?_, fun k hk e' s' hx => ?_, fun k hk a hx => ?_, fun k hk a hx => ?_⟩
    rotate_left 2
    · rw [hO] at hx
      by_cases hkn : k = n
      · rw [if_pos hkn] at hx; cases hx
      · rw [if_neg hkn] at hx
        exact ⟨⟨a, hx⟩, by simp only [if_neg hkn]⟩
    · rw [hO] at hx
      by_cases hkn : k = n
      · rw [if_pos hkn] at hx; cases hx
      · rw [if_neg hkn] at hx
        exact ⟨⟨a, hx, rfl⟩, by simp only [if_neg hkn]⟩
    · rw [hO] at hx
      by_cases hkn : k = n
      · subst hkn
        rw [if_pos rfl] at hx
        cases hx
        rcases hold hk with ⟨ys, h1, h2, h3⟩ | h1
        · exact .inl ⟨ys, h1, h2, fun he => by simp [h3 he]⟩
        · exact .inr h1
      · rw [if_neg hkn] at hx
        exact .inl ⟨xs', hx, Nat.le_refl _, fun _ => by simp [hkn]⟩
    · rw [hO] at hx
      by_cases hkn : k = n
      · rw [if_pos hkn] at hx; cases hx
      · rwa [if_neg hkn] at hx
  have hlt : ∀ {b o x}, I b o = some x → b < w.heap.size ∧ b ≠ l.blk := by
    intro b o x hx
    have hb := cell_block (h.imm b o x hx)
    refine ⟨hb, fun he => ?_⟩
    rcases hl with h1 | ⟨e', s', xs', h1, h2⟩
    · omega
    · have := h.immSep n e' s' xs' o h1
      rw [h2, ← he, hx] at this; cases this
  have hblk : ∀ {k : Nat} {e' s' xs'}, O[k]? = some (.live e' s' xs') → (L k).blk < w.heap.size := by
    intro k e' s' xs' hk
    obtain ⟨c, ⟨m0z, hc, hm0z⟩, _⟩ := h.obj k e' s' xs' hk
    exact (Array.getElem?_eq_some_iff.1 hc).1
  have hne : ∀ {k : Nat} {e' s' xs'}, O[k]? = some (.live e' s' xs') → k ≠ n → (L k).blk ≠ l.blk := by
    intro k e' s' xs' hk hkn he
    rcases hl with h1 | ⟨e'', s'', xs'', h1, h2⟩
    · have := hblk hk; omega
    · exact hkn (h.sep k n _ _ _ _ _ _ hk h1 (he.trans h2.symm))
  have hbk : ∀ b, b < w.heap.size → ¬ LB L O b → w'.heap[b]? = w.heap[b]? := fun b hb hn => by
    refine hw b hb fun he => ?_
    rcases hl with h1 | ⟨e', s', xs', h1, h2⟩
    · omega
    · exact hn (.inl ⟨n, e', s', xs', h1, h2.trans he.symm⟩)
  have how : Own I (fun k => if k = n then l else L k) O' w' := by
    refine h.ow.step (fun k a hk => ?_) (fun b o v hv => .inl ⟨o, v, hv⟩) (fun k e' s' xs' hk => ?_) fun b hb hn => ?_
    · rw [hO] at hk
      by_cases hkn : k = n
      · rw [if_pos hkn] at hk; cases hk
      · rw [if_neg hkn] at hk; exact ⟨hk, if_neg hkn⟩
    · by_cases hkn : k = n
      · subst hkn
        simp only [if_true]
        rcases hl with h1 | ⟨e', s', xs', h1, h2⟩
        · exact .inr h1
        · exact .inl ⟨k, e', s', xs', h1, h2⟩
      · rw [hO, if_neg hkn] at hk
        simp only [if_neg hkn]
        exact .inl ⟨k, e', s', xs', hk, rfl⟩
    · refine hw b hb fun he => ?_
      rcases hl with h1 | ⟨e', s', xs', h1, h2⟩
      · omega
      · exact hn ⟨n, e', s', xs', h1, h2.trans he.symm⟩
  have hgh : Gh I (fun k => if k = n then l else L k) O' w' := by
    refine h.gh.step (fun k g hk => ?_) (fun a x hr => hr.mono hext) fun b hb => ?_
    · rw [hO] at hk
      by_cases hkn : k = n
      · rw [if_pos hkn] at hk; cases hk
      · rw [if_neg hkn] at hk; exact ⟨hk, by simp only [if_neg hkn]⟩
    · refine hw b hb.1 fun he => ?_
      rcases hl with h1 | ⟨e', s', xs', h1, h2⟩
      · have := hb.1; omega
      · obtain ⟨c, ⟨m0z, hc, hm0z⟩, _⟩ := h.obj n e' s' xs' h1
        rw [h2, ← he] at hc
        exact hb.2 _ _ _ hc
  refine ⟨⟨?_, ?_, ?_, ?_, h.fix, h.blk_frm hbk (fun _ _ _ h => h), how, hgh⟩, hext, ⟨hos, htape, hout, hsize, ?_⟩, ?_, fun _ _ _ h => .inl h⟩
  · intro b o x hx
    obtain ⟨h1, h2⟩ := hlt hx
    rw [← h.imm b o x hx]
    exact World.cell?_of_block (a := ⟨b, o, none⟩) (hw b h1 h2)
  · intro k e' s' xs' hk
    rw [hO] at hk
    by_cases hkn : k = n
    · subst hkn
      rw [if_pos rfl] at hk
      cases hk
      simp only [if_true]
      exact hok.congr rfl fun a x => R.mono hext
    · rw [if_neg hkn] at hk
      simp only [if_neg hkn]
      exact (h.obj k e' s' xs' hk).congr (hw _ (hblk hk) (hne hk hkn)) fun a x => R.mono hext
  · intro k m e1 s1 xs1 e2 s2 xs2 hk hm hb
    rw [hO] at hk hm
    by_cases hkn : k = n <;> by_cases hmn : m = n
    · omega
    · subst hkn
      simp only [if_true, if_neg hmn] at hb hm
      exact (hne hm hmn hb.symm).elim
    · subst hmn
      simp only [if_true, if_neg hkn] at hb hk
      exact (hne hk hkn hb).elim
    · simp only [if_neg hkn, if_neg hmn] at hb hk hm
      exact h.sep k m _ _ _ _ _ _ hk hm hb
  · intro k e1 s1 xs1 o hk
    rw [hO] at hk
    by_cases hkn : k = n
    · subst hkn
      simp only [if_true]
      cases hx : I l.blk o with
      | none => rfl
      | some x => exact ((hlt hx).2 rfl).elim
    · simp only [if_neg hkn] at hk ⊢
      exact h.immSep k _ _ _ o hk
  · intro b hb hn
    refine hw b hb fun he => ?_
    rcases hl with h1 | ⟨e', s', xs', h1, h2⟩
    · omega
    · exact hn (.inl ⟨n, e', s', xs', h1, h2.trans he.symm⟩)
  · rintro b (⟨k, e', s', xs', hk, hb⟩ | ⟨k, a, o, v, hk, hb⟩ | ⟨k, g, hk, hb⟩)
    rotate_right
    · rw [hO] at hk
      by_cases hkn : k = n
      · rw [if_pos hkn] at hk; cases hk
      · rw [if_neg hkn] at hk
        simp only [if_neg hkn] at hb
        exact .inl (.inr (.inr ⟨k, g, hk, hb⟩))
    rotate_left
    · rw [hO] at hk
      by_cases hkn : k = n
      · rw [if_pos hkn] at hk; cases hk
      · rw [if_neg hkn] at hk
        simp only [if_neg hkn] at hb
        exact .inl (.inr (.inl ⟨k, a, o, v, hk, hb⟩))
    rw [hO] at hk
    by_cases hkn : k = n
    · subst hkn
      simp only [if_true] at hb
      subst hb
      rcases hl with h1 | ⟨e', s', xs', h1, h2⟩
      · exact .inr h1
      · exact .inl (.inl ⟨k, e', s', xs', h1, h2⟩)
    · simp only [if_neg hkn] at hk hb
      exact .inl (.inl ⟨k, e', s', xs', hk, hb⟩)
/-- A new object. -/
theorem Inv.newM {I : Imm} {L : Nat → Loc} {O : List AObj} {w : World} (h : Inv I L O w) {e s : Nat} {xs : List AV} (c : Array Value) (cap : Nat) {m : Nat × Nat} (hmk : Mk m c.size s)
    (hc : c.size = cap * s) (hx : xs.length ≤ cap) (hm : cap ≤ maxLen) (hs : 0 < s)
    (hr : ∀ (i : Nat) x, xs[i]? = some x → x.cells.length = s ∧ ∀ (j : Nat) a, x.cells[j]? = some a → ∃ y, c[i * s + j]? = some y ∧ y.oneCell' = true ∧ R I L O a y) :
    Good I L O w I (fun k => if k = O.length then Loc.at w.heap.size (cap) else L k) (O ++ [.live e s xs]) (w.alloc (.cells c e m)) := by
  refine h.put (n := O.length) (l := Loc.at w.heap.size (cap)) (e := e) (s := s) (xs := xs) (w' := w.alloc (.cells c e m)) ?_ (by simp) ?_ rfl rfl rfl (by simp) (.inl (Nat.le_refl _)) ?_ (by omega)
  · intro k
    by_cases hk : k = O.length
    · subst hk; simp
    · rw [if_neg hk, List.getElem?_append]
      split
      · rfl
      · rw [List.getElem?_eq_none (by simp; omega), List.getElem?_eq_none (by omega)]
  · intro b hb _
    exact heap_alloc_old w _ b hb
  · exact ⟨c, ⟨_, heap_alloc_new w _, hmk⟩, hc, hx, hm, hs, hr⟩
theorem Inv.new {I : Imm} {L : Nat → Loc} {O : List AObj} {w : World} (h : Inv I L O w) {e s : Nat} {xs : List AV} (c : Array Value) (cap : Nat)
    (hc : c.size = cap * s) (hx : xs.length ≤ cap) (hm : cap ≤ maxLen) (hs : 0 < s)
    (hr : ∀ (i : Nat) x, xs[i]? = some x → x.cells.length = s ∧ ∀ (j : Nat) a, x.cells[j]? = some a → ∃ y, c[i * s + j]? = some y ∧ y.oneCell' = true ∧ R I L O a y) :
    Good I L O w I (fun k => if k = O.length then Loc.at w.heap.size (cap) else L k) (O ++ [.live e s xs]) (w.alloc (.cells c e)) := h.newM c cap (.inl rfl) hc hx hm hs hr
end Go.Ab
/-
  THE OPERATIONS THAT ONLY COMPUTE.
-/
namespace Go.Ab
/-- An operation's run: a value or nothing, what is known behind it, and the rest of the abstract walk. -/
def Ran (P : Program) (I : Imm) (L : Nat → Loc) (O : List AObj) (w : World) (s : Sem Next) (K : AV → List AObj → Prop) : Prop :=
  ∃ x O' y I' L' w', K x O' ∧ Good I L O w I' L' O' w' ∧ R I' L' O' x y ∧ (s.run P w = .ok (.value y) w' ∨ (s.run P w = .ok .skip w' ∧ y = undef))
section
variable {P : Program} {I : Imm} {L : Nat → Loc} {O : List AObj} {w : World} {K : AV → List AObj → Prop}
theorem Ran.same (h : Inv I L O w) {s : Sem Next} {x : AV} {y : Value} (hk : K x O) (hr : R I L O x y) (hs : s.run P w = .ok (.value y) w) : Ran P I L O w s K :=
  ⟨x, O, y, I, L, w, hk, .refl h, hr, .inl hs⟩
theorem R.bool {x : Value} {b : Bool} (h : R I L O (.v (.bool b)) x) : x = .bool b := by cases h; rfl
theorem R.exact {x y : Value} (h : R I L O (.v y) x) : x = y := by cases h; rfl
theorem sbin_run {op : BinOp} {x y z : Value} (h : sbin op x y = some z) (t : TypeId) (a b : Operand) (w : World) :
    (do eqGuard op t a b x y; binOp op t x y : Sem Value).run P w = .ok z w ∧ z.oneCell' = true := by
  unfold sbin at h
  split at h
  · rename_i k a' k' b'
    split at h
    · cases op <;> simp [BinOp.isShift] at * <;> simp only [shbin] at h <;> split at h <;> simp at h <;> rename_i hh <;> subst h <;>
        simp [eqGuard, binOp, Op.shift, Int.not_lt.2 hh, Value.oneCell']
    · split at h
      · rename_i hk
        subst hk
        cases op <;> simp [BinOp.isShift] at * <;> simp only [ibin] at h
        case quo => split at h <;> simp at h; rename_i hh; subst h; simp [eqGuard, binOp, Op.intDiv, hh, Value.oneCell']
        case rem => split at h <;> simp at h; rename_i hh; subst h; simp [eqGuard, binOp, Op.intDiv, hh, Value.oneCell']
        all_goals (simp at h)
        all_goals (subst h; simp [eqGuard, binOp, Op.intArith, Op.intBits, Op.intCmp, Value.oneCell'])
      · cases h
  · rename_i a' b'
    cases op <;> simp only [stbin] at h
    case add =>
      split at h <;> simp at h
      rename_i hh
      subst h
      have h2 : ¬ ((a'.size : Int) + (b'.size : Int) > IntKind.i64.max) := by have := hh; push_cast at this; omega
      simp [eqGuard, binOp, Op.stringOp, Value.oneCell']
      have h3 : IntKind.i64.max = 9223372036854775807 := by decide
      omega
    all_goals first
      | (simp at h; done)
      | (simp only [Option.some.injEq] at h; subst h; simp [eqGuard, binOp, Op.stringOp, Value.oneCell'])
  · cases h
theorem sun_run {op : UnOp} {x z : Value} (h : sun op x = some z) (w : World) : (Op.unary op x).run P w = .ok z w ∧ z.oneCell' = true := by
  unfold sun at h
  split at h <;> cases h <;> simp [Op.unary, Op.intArith, Value.oneCell']
end
end Go.Ab
/-
  Filling a row of cells; the operations that build.
-/
namespace Go.Ab
theorem foldl_set_size (vs : List (Value × Nat)) (off : Nat) (cells : Array Value) :
    (vs.foldl (fun cs (p : Value × Nat) => cs.setIfInBounds (off + p.2) p.1) cells).size = cells.size := by
  induction vs generalizing cells with
  | nil => rfl
  | cons a l ih => simp [ih]
theorem foldl_set_get (vs : List Value) (off : Nat) : ∀ (k : Nat) (cells : Array Value), off + k + vs.length ≤ cells.size → ∀ j : Nat,
    ((vs.zipIdx k).foldl (fun cs (p : Value × Nat) => cs.setIfInBounds (off + p.2) p.1) cells)[j]? = if off + k ≤ j ∧ j < off + k + vs.length then vs[j - (off + k)]? else cells[j]? := by
  induction vs with
  | nil =>
    intro k cells h j
    rw [if_neg (by simp only [List.length_nil]; omega)]; rfl
  | cons a l ih =>
    intro k cells h j
    simp only [List.zipIdx_cons, List.foldl_cons, List.length_cons] at h ⊢
    rw [ih (k + 1) _ (by simp; omega)]
    by_cases h1 : off + (k + 1) ≤ j ∧ j < off + (k + 1) + l.length
    · rw [if_pos h1, if_pos (by omega)]
      rw [show j - (off + k) = (j - (off + (k + 1))) + 1 by omega, List.getElem?_cons_succ]
    · rw [if_neg h1, Array.getElem?_setIfInBounds]
      by_cases h2 : off + k = j
      · subst h2
        rw [if_pos rfl, if_pos (by omega), if_pos (by omega)]
        simp
      · rw [if_neg h2, if_neg (by omega)]
/-- one part laid into cells -/
def lay (off : Nat) (vs : List Value) (cells : Array Value) : Array Value := (vs.zipIdx.foldl (fun cs (p : Value × Nat) => cs.setIfInBounds (off + p.2) p.1) cells)
theorem lay_size (off : Nat) (vs : List Value) (cells : Array Value) : (lay off vs cells).size = cells.size := foldl_set_size _ _ _
theorem lay_get {off : Nat} {vs : List Value} {cells : Array Value} (h : off + vs.length ≤ cells.size) (j : Nat) :
    (lay off vs cells)[j]? = if off ≤ j ∧ j < off + vs.length then vs[j - off]? else cells[j]? := by
  have := foldl_set_get vs off 0 cells (by omega) j
  simpa [lay] using this
theorem fill_cons {place : Nat → Option (Nat × Nat)} {cells : Array Value} {i off size : Nat} {v : Value} {rest : List (Nat × Value)} (hp : place i = some (off, size)) (hs : v.cells.size = size) (hf : off + size ≤ cells.size) :
    Instr.fill place cells ((i, v) :: rest) = Instr.fill place (lay off v.cells.toList cells) rest := by
  rw [Instr.fill, hp]
  simp only [hs, ne_eq, not_true_eq_false, decide_false, Bool.false_or, decide_eq_true_eq]
  rw [if_neg (by omega)]
  congr 1
  rw [lay, ← Array.foldl_toList, Array.toList_zipIdx]
section
variable {P : Program} {I : Imm} {L : Nat → Loc} {O : List AObj} {w : World}
/-- cells that read as abstract cells -/
def RCs (I : Imm) (L : Nat → Loc) (O : List AObj) (cs : List AV) (vs : Array Value) : Prop :=
  cs.length = vs.size ∧ ∀ (j : Nat) c y, cs[j]? = some c → vs[j]? = some y → R I L O c y
theorem RCs.lay {cs : List AV} {vs : Array Value} (h : RCs I L O cs vs) {x : AV} {y : Value} (hr : R I L O x y) (hx : (x.isCell || x.isAgg) = true) {off : Nat} (hf : off + x.cells.length ≤ cs.length) :
    RCs I L O (cs.take off ++ x.cells ++ cs.drop (off + x.cells.length)) (lay off y.cells.toList vs) ∧ y.cells.size = x.cells.length := by
  obtain ⟨h1, h2⟩ := hr.cells hx
  have hlen : y.cells.toList.length = x.cells.length := by simp [h1]
  refine ⟨⟨by rw [lay_size]; simp [← h.1]; omega, fun j c z hc hz => ?_⟩, h1.symm⟩
  rw [lay_get (by rw [hlen, ← h.1]; exact hf), hlen] at hz
  by_cases hj : off ≤ j ∧ j < off + x.cells.length
  · rw [if_pos hj] at hz
    have hc' : x.cells[j - off]? = some c := by
      rw [List.append_assoc, List.getElem?_append_right (by simp; omega), List.getElem?_append_left (by simp; omega)] at hc
      rwa [List.length_take, Nat.min_eq_left (by omega)] at hc
    obtain ⟨y', hy', hr'⟩ := h2 _ c hc'
    rw [Array.getElem?_toList, hy'] at hz
    cases hz; exact hr'
  · rw [if_neg hj] at hz
    have hc' : cs[j]? = some c := by
      by_cases hlt : j < off
      · rwa [List.append_assoc, List.getElem?_append_left (by simp; omega), List.getElem?_take, if_pos hlt] at hc
      · rw [List.getElem?_append_right (by simp; omega), List.getElem?_drop] at hc
        rw [← hc]; congr 1; simp; omega
    exact h.2 j c z hc' hz
end
end Go.Ab
/-
  EACH OPERATION DOES WHAT ITS ABSTRACT ONE SAYS.
-/
namespace Go.Ab
section
variable {P : Program} {I : Imm} {L : Nat → Loc} {O : List AObj} {w : World} {K : AV → List AObj → Prop} {e : Env} {a : Act}
theorem cOpds_sound {xs : List Operand} {as : List Opd} (h : xs.mapM cOpd = some as) (he : ∀ t, R I L O (e t) (a.tmps.getD t undef)) :
    RL I L O (as.map (Opd.ev e)) (xs.map a.eval).toArray := by
  obtain ⟨h1, h2⟩ := mapM_some h
  refine ⟨by simp [h1], fun i c x hc hx => ?_⟩
  simp only [List.getElem?_map, Option.map_eq_some_iff] at hc
  obtain ⟨o, ho, rfl⟩ := hc
  simp only [List.getElem?_toArray, List.getElem?_map, Option.map_eq_some_iff] at hx
  obtain ⟨q, hq, rfl⟩ := hx
  exact cOpd_sound (h2 i q o hq ho) he
theorem cElem_inv {t s b : Nat} {z : AV} (h : cElem P t = some (s, b, z)) :
    ∃ i z0, P.info? t = some i ∧ i.zero = some z0 ∧ absV z0 = some z ∧ i.size = s ∧ i.bytes = b ∧ z.cells.length = s ∧ 0 < s ∧ z0.cells.size = s ∧ z.storable = true := by
  unfold cElem at h
  simp only [Option.bind_eq_bind, Option.bind_eq_some_iff] at h
  obtain ⟨i, hi, z0, hz, a, ha, h⟩ := h
  split at h <;> simp at h
  rename_i hh
  obtain ⟨rfl, rfl, rfl⟩ := h
  exact ⟨i, z0, hi, hz, ha, rfl, rfl, hh.1, hh.2.1, hh.2.2.1, hh.2.2.2⟩
/-- one new box -/
theorem Inv.box (hi : Inv I L O w) {x : AV} {y : Value} (t : Nat) {s : Nat} (hr : R I L O x y) (hs : x.storable = true) (hl : x.cells.length = s) (h0 : 0 < s) :
    Good I L O w I (fun k => if k = O.length then Loc.at w.heap.size (1) else L k) (O ++ [.live t s [x]]) (w.alloc (.cells y.cells t)) ∧
    R I (fun k => if k = O.length then Loc.at w.heap.size (1) else L k) (O ++ [.live t s [x]]) (.ptr O.length 1 0 0) (.pointer (some ⟨w.heap.size, 0, none⟩)) := by
  obtain ⟨h1, h2⟩ := hr.cellsOne hs
  refine ⟨hi.new y.cells 1 (by omega) (by simp) (by simp [maxLen]) h0 fun i z hz => ?_, ?_⟩
  · cases i with
    | zero =>
      simp at hz; subst hz
      exact ⟨hl, fun j c hj => by simpa using h2 j c hj⟩
    | succ i => simp at hz
  · have := R.ptrLive (I := I) (L := fun k => if k = O.length then Loc.at w.heap.size (1) else L k) (O := O ++ [.live t s [x]]) O.length 1 0 0 t s [x] (by simp) rfl
    simpa using this
theorem buildK_sound {fs : Array Field} (he : ∀ t, R I L O (e t) (a.tmps.getD t undef)) {M : AV → Prop} :
    ∀ (parts : List (Nat × Operand)) (ps : List (Nat × Nat × Opd)) (z : List AV) (vs : Array Value), RCs I L O z vs →
    (parts.mapM fun (p : Nat × Operand) => do let f ← fs[p.1]?; let n ← P.info? f.type; some (f.offset, n.size, ← cOpd p.2)) = some ps →
    buildK e z ps M → ∃ zs vs', M (.agg zs) ∧ RCs I L O zs vs' ∧
      ∀ pl : Nat → Option (Nat × Nat), (∀ i f n, fs[i]? = some f → P.info? f.type = some n → pl i = some (f.offset, n.size)) →
        Instr.fill pl vs (parts.map fun (p : Nat × Operand) => (p.1, a.eval p.2)) = some vs'
  | [], ps, z, vs, hz, hp, hk => by
    simp at hp; subst hp
    exact ⟨z, vs, hk, hz, fun pl _ => rfl⟩
  | (i, x) :: parts, ps, z, vs, hz, hp, hk => by
    simp only [List.mapM_cons, Option.bind_eq_bind, Option.pure_def, Option.bind_eq_some_iff, Option.some.injEq] at hp
    obtain ⟨q, ⟨f, hf, n, hn, ax, hx, rfl⟩, qs, hqs, rfl⟩ := hp
    obtain ⟨h1, h2, h3, h4⟩ := hk
    have hr := cOpd_sound hx he
    obtain ⟨hz', hsz⟩ := hz.lay hr h2 (off := f.offset) (by omega)
    rw [h1] at hz'
    obtain ⟨zs, vs', m1, m2, m3⟩ := buildK_sound he parts qs _ _ hz' hqs h4
    refine ⟨zs, vs', m1, m2, fun pl hpl => ?_⟩
    rw [List.map_cons, fill_cons (hpl i f n hf hn) (hsz.trans h1) (by rw [← hz.1]; omega)]
    exact m3 pl hpl
end
end Go.Ab
/-
  ROWS: made, literal, written.
-/
namespace Go.Ab
/-- cells that hold a row of elements -/
def RRow (I : Imm) (L : Nat → Loc) (O : List AObj) (s : Nat) (xs : List AV) (c : Array Value) : Prop :=
  ∀ (i : Nat) x, xs[i]? = some x → x.cells.length = s ∧ ∀ (j : Nat) a, x.cells[j]? = some a → ∃ y, c[i * s + j]? = some y ∧ y.oneCell' = true ∧ R I L O a y
theorem idx_lt {i j s n : Nat} (hi : i < n) (hj : j < s) : i * s + j < n * s := by
  calc i * s + j < i * s + s := by omega
    _ = (i + 1) * s := by rw [Nat.add_mul, Nat.one_mul]
    _ ≤ n * s := Nat.mul_le_mul_right s hi
theorem idx_ne {i i' j s : Nat} (hj : j < s) (h : i ≠ i') : ¬ (i' * s ≤ i * s + j ∧ i * s + j < i' * s + s) := by
  intro ⟨h1, h2⟩
  rcases Nat.lt_or_gt_of_ne h with h3 | h3
  · have := Nat.mul_le_mul_right s (show i + 1 ≤ i' from h3)
    rw [Nat.add_mul] at this; omega
  · have := Nat.mul_le_mul_right s (show i' + 1 ≤ i from h3)
    rw [Nat.add_mul] at this; omega
section
variable {P : Program} {I : Imm} {L : Nat → Loc} {O : List AObj} {w : World} {K : AV → List AObj → Prop} {e : Env} {a : Act}
theorem RRow.made {z : AV} {z0 : Value} {s n cap : Nat} (hz : R I L O z z0) (hs : z.storable = true) (hl : z.cells.length = s) (h0 : 0 < s) (hn : n ≤ cap) :
    RRow I L O s (List.replicate n z) ((Array.range (cap * s)).map (z0.cells[· % z0.cells.size]!)) := by
  obtain ⟨h1, h2⟩ := hz.cellsOne hs
  intro i x hx
  rw [List.getElem?_replicate] at hx
  split at hx <;> simp at hx
  rename_i hi
  subst hx
  refine ⟨hl, fun j c hj => ?_⟩
  obtain ⟨y, hy, ho, hr⟩ := h2 j c hj
  have hjs : j < s := by rw [← hl]; exact (List.getElem?_eq_some_iff.1 hj).1
  have hlt : i * s + j < cap * s := idx_lt (by omega) hjs
  have hmod : (i * s + j) % z0.cells.size = j := by
    rw [← h1, hl, Nat.add_comm, Nat.add_mul_mod_self_right, Nat.mod_eq_of_lt hjs]
  refine ⟨y, ?_, ho, hr⟩
  rw [Array.getElem?_map, Array.getElem?_range]
  simp only [hlt, if_true, Option.map_some, hmod]
  obtain ⟨hlt', he⟩ := Array.getElem?_eq_some_iff.1 hy
  rw [← he, getElem!_pos z0.cells j hlt']
theorem RRow.lay {xs : List AV} {c : Array Value} {s : Nat} (h : RRow I L O s xs c) (hc : xs.length * s ≤ c.size) {x : AV} {y : Value} (hr : R I L O x y) (hs : x.storable = true) (hl : x.cells.length = s) {i : Nat} (hi : i < xs.length) :
    RRow I L O s (xs.set i x) (lay (i * s) y.cells.toList c) ∧ y.cells.size = s := by
  obtain ⟨h1, h2⟩ := hr.cellsOne hs
  have hlen : y.cells.toList.length = s := by simp; omega
  have hfit : i * s + s ≤ c.size := by
    have := Nat.mul_le_mul_right s (show i + 1 ≤ xs.length from hi)
    rw [Nat.add_mul] at this; omega
  refine ⟨fun k z hz => ?_, by omega⟩
  rw [List.getElem?_set] at hz
  by_cases hk : i = k
  · subst hk
    rw [if_pos rfl, if_pos hi] at hz
    cases hz
    refine ⟨hl, fun j d hj => ?_⟩
    obtain ⟨v, hv, ho, hrv⟩ := h2 j d hj
    have hjs : j < s := by rw [← hl]; exact (List.getElem?_eq_some_iff.1 hj).1
    refine ⟨v, ?_, ho, hrv⟩
    rw [lay_get (by omega), if_pos (by omega)]
    simpa using hv
  · rw [if_neg hk] at hz
    obtain ⟨h3, h4⟩ := h k z hz
    refine ⟨h3, fun j d hj => ?_⟩
    obtain ⟨v, hv, ho, hrv⟩ := h4 j d hj
    have hjs : j < s := by rw [← h3]; exact (List.getElem?_eq_some_iff.1 hj).1
    refine ⟨v, ?_, ho, hrv⟩
    rw [lay_get (by omega), hlen, if_neg (idx_ne hjs (fun h => hk h.symm))]
    exact hv
theorem rowK_sound (he : ∀ t, R I L O (e t) (a.tmps.getD t undef)) {s : Nat} {M : List AV → Prop} :
    ∀ (parts : List (Nat × Operand)) (ps : List (Nat × Opd)) (xs : List AV) (c : Array Value), RRow I L O s xs c → c.size = xs.length * s →
    (parts.mapM fun (p : Nat × Operand) => do some (p.1, ← cOpd p.2)) = some ps →
    rowK e s xs ps M → ∃ xs' c', M xs' ∧ RRow I L O s xs' c' ∧ xs'.length = xs.length ∧ c'.size = c.size ∧
        Instr.fill (fun i => some (i * s, s)) c (parts.map fun (p : Nat × Operand) => (p.1, a.eval p.2)) = some c'
  | [], ps, xs, c, hx, hc, hp, hk => by
    simp at hp; subst hp
    exact ⟨xs, c, hk, hx, rfl, rfl, rfl⟩
  | (i, x) :: parts, ps, xs, c, hx, hc, hp, hk => by
    simp only [List.mapM_cons, Option.bind_eq_bind, Option.pure_def, Option.bind_eq_some_iff, Option.some.injEq] at hp
    obtain ⟨q, ⟨ax, hax, rfl⟩, qs, hqs, rfl⟩ := hp
    obtain ⟨h1, h2, h3, h4⟩ := hk
    have hr := cOpd_sound hax he
    obtain ⟨hx', hsz⟩ := hx.lay (by omega) hr h2 h1 h3
    have hfit : i * s + s ≤ c.size := by
      have := Nat.mul_le_mul_right s (show i + 1 ≤ xs.length from h3)
      rw [Nat.add_mul] at this; omega
    obtain ⟨xs', c', m1, m2, m3, m4, m5⟩ := rowK_sound he parts qs _ _ hx' (by rw [lay_size]; simpa using hc) hqs h4
    refine ⟨xs', c', m1, m2, by simpa using m3, by rw [m4, lay_size], ?_⟩
    rw [List.map_cons, fill_cons rfl hsz hfit]
    exact m5
end
end Go.Ab
/-
  APPEND.
-/
namespace Go.Ab
section
variable {P : Program} {I : Imm} {L : Nat → Loc} {O : List AObj} {w : World} {K : AV → List AObj → Prop} {e : Env} {a : Act}
/-- where a source's cells lie -/
theorem src_inv {y : AV} {v : Value} (hi : Inv I L O w) (hr : R I L O y v) {M : List AV → Prop} (h : srcK O y M) :
    ∃ ys ya c, M ys ∧ v = .slice ya ys.length c ∧ ∀ s, (∀ x ∈ ys, x.cells.length = s) → ys ≠ [] → ∃ b o, ya = some ⟨b, o, none⟩ ∧
      ∀ (i : Nat) x, ys[i]? = some x → ∀ (j : Nat) d, x.cells[j]? = some d → ∃ u, w.cell? ⟨b, o + (i * s + j), none⟩ = some u ∧ u.oneCell' = true ∧ R I L O d u := by
  unfold srcK at h
  split at h
  · cases hr; exact ⟨[], none, 0, h, rfl, fun s _ h => (h rfl).elim⟩
  · rename_i ys
    cases hr with
    | sl0 ya cap => exact ⟨[], ya, cap, h, rfl, fun s _ h => (h rfl).elim⟩
    | sl _ blk off cap s vals h1 h2 h3 h4 h5 =>
      refine ⟨ys, _, cap, h, rfl, fun s' hs' hne => ⟨blk, off, rfl, fun i x hx j d hj => ?_⟩⟩
      have hss : s = s' := by rw [← h3 i x hx, hs' x (List.mem_of_getElem? hx)]
      subst hss
      obtain ⟨h6, h7⟩ := h4 i x j d hx hj
      exact ⟨vals i j, by rw [← Nat.add_assoc]; exact hi.imm _ _ _ h6, h7, h5 i x j d hx hj⟩
  · rename_i n len
    split at h
    · rename_i t s0 xs hn
      obtain ⟨rfl, h⟩ := h
      have hv := hr.row_live hn rfl
      subst hv
      · refine ⟨xs, _, _, h, rfl, fun s hs hne => ⟨_, 0, rfl, fun i x hx j d hj => ?_⟩⟩
        obtain ⟨c, ⟨m0z, h1, hm0z⟩, h2, h3, h4, h5, h6⟩ := hi.obj n t s0 xs hn
        obtain ⟨h7, h8⟩ := h6 i x hx
        have hss : s0 = s := by rw [← h7, hs x (List.mem_of_getElem? hx)]
        subst hss
        obtain ⟨u, hu, ho, hru⟩ := h8 j d hj
        exact ⟨u, by rw [Nat.zero_add, cell_cells h1]; exact hu, ho, hru⟩
    · rename_i t s0 hn
      obtain ⟨rfl, h⟩ := h
      obtain ⟨rfl, _⟩ := hr.row_nil hn
      exact ⟨[], none, 0, h, rfl, fun s _ h => (h rfl).elim⟩
    · exact h.elim
  · exact h.elim
/-- the cells of the source, as a list -/
def newsOf (w : World) (b o n : Nat) : List Value := (List.range n).map fun k => (w.cell? ⟨b, o + k, none⟩).getD undef
theorem split_idx {k n s : Nat} (h : k < n * s) : k / s < n ∧ k % s < s ∧ k / s * s + k % s = k := by
  have hs : 0 < s := by rcases Nat.eq_zero_or_pos s with rfl | h0; simp at h; exact h0
  exact ⟨(Nat.div_lt_iff_lt_mul hs).2 h, Nat.mod_lt _ hs, by rw [Nat.mul_comm]; exact Nat.div_add_mod k s⟩
theorem newsOf_spec {ys : List AV} {s b o : Nat} (hs : ∀ x ∈ ys, x.cells.length = s)
    (h : ∀ (i : Nat) x, ys[i]? = some x → ∀ (j : Nat) d, x.cells[j]? = some d → ∃ u, w.cell? ⟨b, o + (i * s + j), none⟩ = some u ∧ u.oneCell' = true ∧ R I L O d u) :
    (newsOf w b o (ys.length * s)).length = ys.length * s ∧
    (∀ (j : Nat) u, (newsOf w b o (ys.length * s))[j]? = some u → w.cell? ((⟨b, o, none⟩ : Addr).add j) = some u) ∧
    (∀ u ∈ newsOf w b o (ys.length * s), u.oneCell' = true) ∧
    RRow I L O s ys (newsOf w b o (ys.length * s)).toArray := by
  have hget : ∀ k, k < ys.length * s → ∃ u, w.cell? ⟨b, o + k, none⟩ = some u ∧ u.oneCell' = true ∧ (newsOf w b o (ys.length * s))[k]? = some u := by
    intro k hk
    obtain ⟨h1, h2, h3⟩ := split_idx hk
    have hx : ys[k / s]? = some ys[k / s] := by simp [h1]
    have hl := hs _ (List.mem_of_getElem? hx)
    obtain ⟨u, hu, ho, _⟩ := h _ _ hx (k % s) (ys[k / s].cells[k % s]'(by omega)) (by simp [hl, h2])
    rw [h3] at hu
    refine ⟨u, hu, ho, ?_⟩
    simp [newsOf, hk, hu]
  refine ⟨by simp [newsOf], fun j u hu => ?_, fun u hu => ?_, fun i x hx => ⟨hs x (List.mem_of_getElem? hx), fun j d hj => ?_⟩⟩
  · have hj : j < ys.length * s := by have := (List.getElem?_eq_some_iff.1 hu).1; simpa [newsOf] using this
    obtain ⟨u', h1, h2, h3⟩ := hget j hj
    rw [h3] at hu; cases hu
    rw [add_lit]; exact h1
  · obtain ⟨j, hj⟩ := List.getElem?_of_mem hu
    have hjl : j < ys.length * s := by have := (List.getElem?_eq_some_iff.1 hj).1; simpa [newsOf] using this
    obtain ⟨u', h1, h2, h3⟩ := hget j hjl
    rw [h3] at hj; cases hj; exact h2
  · obtain ⟨u, hu, ho, hr⟩ := h i x hx j d hj
    have hlt : i * s + j < ys.length * s := idx_lt (List.getElem?_eq_some_iff.1 hx).1 (by rw [← hs x (List.mem_of_getElem? hx)]; exact (List.getElem?_eq_some_iff.1 hj).1)
    refine ⟨u, ?_, ho, hr⟩
    simp [newsOf, hlt, hu]
theorem RRow.append {s : Nat} {xs ys : List AV} {c d : Array Value} (hx : RRow I L O s xs c) (hy : RRow I L O s ys d) (r : List Value) (olds : List Value)
    (ho : olds.length = xs.length * s) (hoc : ∀ (k : Nat), k < xs.length * s → olds[k]? = c[k]?) :
    RRow I L O s (xs ++ ys) (olds ++ d.toList ++ r).toArray := by
  intro i x hi
  by_cases h : i < xs.length
  · rw [List.getElem?_append_left h] at hi
    obtain ⟨h1, h2⟩ := hx i x hi
    refine ⟨h1, fun j u hj => ?_⟩
    obtain ⟨y, hy', ho', hr⟩ := h2 j u hj
    have hjs : j < s := by rw [← h1]; exact (List.getElem?_eq_some_iff.1 hj).1
    have hlt : i * s + j < xs.length * s := idx_lt h hjs
    refine ⟨y, ?_, ho', hr⟩
    simp only [List.getElem?_toArray]
    rw [List.append_assoc, List.getElem?_append_left (by omega), hoc _ hlt, hy']
  · rw [List.getElem?_append_right (by omega)] at hi
    obtain ⟨h1, h2⟩ := hy _ x hi
    refine ⟨h1, fun j u hj => ?_⟩
    obtain ⟨y, hy', ho', hr⟩ := h2 j u hj
    have he : i * s + j = xs.length * s + ((i - xs.length) * s + j) := by
      rw [← Nat.add_assoc, ← Nat.add_mul]; congr 2; omega
    have hlt : (i - xs.length) * s + j < d.toList.length := by
      have := (Array.getElem?_eq_some_iff.1 hy').1; simpa using this
    refine ⟨y, ?_, ho', hr⟩
    simp only [List.getElem?_toArray]
    rw [List.append_assoc, he, List.getElem?_append_right (by omega), ho, Nat.add_sub_cancel_left, List.getElem?_append_left hlt, Array.getElem?_toList, hy']
end
end Go.Ab
/-
  APPEND's RUN, STORES.
-/
namespace Go.Ab
section
variable {P : Program} {I : Imm} {L : Nat → Loc} {O : List AObj} {w : World} {K : AV → List AObj → Prop} {e : Env} {a : Act}
theorem append_zero {t ty el : TypeId} {i : TypeInfo} (ht : P.underlying t = some (.slice el)) (hi : P.info? el = some i) (b y : Option Addr) (n cap c : Nat) (hn : n ≤ cap) (w : World) :
    (Builtin.append_ #[t, t] ty #[.slice b n cap, .slice y 0 c]).run P w = .ok (.slice b n cap) w := by
  have hf : (Builtin.firstCells i.size 0 (.slice y 0 c)).run P w = .ok #[] w := by
    cases y with
    | none => simp [Builtin.firstCells]
    | some y => have := run_firstCells_some (P := P) w i.size 0 y 0 c [] (by simp) (by simp); simpa using this
  cases b <;> simp [Builtin.append_, run_underlying ht, sizeOf, typeInfo, hi, Builtin.lenOf, hn, hf, storeCells]
theorem set_get {n : Nat} (hn : n < O.length) (o : AObj) (k : Nat) : (O.set n o)[k]? = if k = n then some o else O[k]? := by
  rw [List.getElem?_set]
  by_cases hk : n = k
  · subst hk; simp [hn]
  · rw [if_neg hk, if_neg (fun h => hk h.symm)]
theorem RRow.of_append {s : Nat} {xs : List AV} {r : List Value} {d z : Array Value} (h : RRow I L O s xs (r ++ d.toList ++ z.toList).toArray) : RRow I L O s xs (r.toArray ++ d ++ z) := by
  intro i x hx
  obtain ⟨q1, q2⟩ := h i x hx
  refine ⟨q1, fun j d' hj => ?_⟩
  obtain ⟨u, hu, ho, hr⟩ := q2 j d' hj
  exact ⟨u, by rw [← hu]; congr 1; apply Array.ext'; simp, ho, hr⟩
theorem app_nil {t ty el : Nat} {i : TypeInfo} {z0 : Value} (ht : P.underlying t = some (.slice el)) (hi : P.info? el = some i) (hz : i.zero = some z0) (h0 : 0 < i.size) (hzs : z0.cells.size = i.size)
    (hinv : Inv I L O w) {ys : List AV} {b o c : Nat} (hs : ∀ x ∈ ys, x.cells.length = i.size) (hne : ys ≠ [])
    (hc : ∀ (k : Nat) x, ys[k]? = some x → ∀ (j : Nat) d, x.cells[j]? = some d → ∃ u, w.cell? ⟨b, o + (k * i.size + j), none⟩ = some u ∧ u.oneCell' = true ∧ R I L O d u)
    (h48 : ys.length * i.bytes ≤ 140737488355328) (hmx : ys.length ≤ maxLen) :
    ∃ y' I' L' w', Good I L O w I' L' (O ++ [.live el i.size ys]) w' ∧ R I' L' (O ++ [.live el i.size ys]) (.row O.length ys.length) y' ∧
      (Builtin.append_ #[t, t] ty #[.slice none 0 0, .slice (some ⟨b, o, none⟩) ys.length c]).run P w = .ok y' w' := by
  obtain ⟨h1, h2, h3, h4⟩ := newsOf_spec hs hc
  have hpos : 0 < ys.length := List.length_pos_iff.2 hne
  have hm : ys.length ≤ 9223372036854775807 := by simpa [maxLen] using hmx
  have hrun := run_append_nil (P := P) w t ty el i z0 ht hi hz ⟨b, o, none⟩ ys.length c (newsOf w b o (ys.length * i.size)) h1 h2 hpos (by omega) (by omega)
  have hge := grownCap_ge w ys.length 0 el
  have hle := grownCap_le_maxLen w ys.length 0 el hmx
  generalize grownCap w ys.length 0 el = cap at *
  have hgood := (Good.drawn hinv (w.drawn + 1))
  have hrow := RRow.append (I := I) (L := L) (O := O) (s := i.size) (xs := []) (ys := ys) (c := #[]) (d := (newsOf w b o (ys.length * i.size)).toArray) (fun i x hx => by simp at hx) h4 (Builtin.zeroCells z0.cells (cap - ys.length)).toList [] (by simp) (by simp)
  have hnew := hgood.inv.new (e := el) (s := i.size) (xs := ys) ((newsOf w b o (ys.length * i.size)).toArray ++ Builtin.zeroCells z0.cells (cap - ys.length)) cap
    (by rw [Array.size_append, size_zeroCells, hzs]; simp only [List.size_toArray, h1]; rw [← Nat.add_mul]; congr 1; omega) hge hle h0 (by
      have : RRow I L O i.size ys ((newsOf w b o (ys.length * i.size)).toArray ++ Builtin.zeroCells z0.cells (cap - ys.length)) := by simpa using RRow.of_append hrow
      exact this)
  refine ⟨_, _, _, _, hgood.trans hnew, ?_, hrun⟩
  have := R.rowLive (I := I) (L := fun k => if k = O.length then Loc.at w.heap.size (cap) else L k) (O := O ++ [.live el i.size ys]) O.length ys.length el i.size ys (by simp) rfl
  simpa using this
theorem app_first {t ty el : Nat} {i : TypeInfo} {z0 : Value} (ht : P.underlying t = some (.slice el)) (hi : P.info? el = some i) (hz : i.zero = some z0) (h0 : 0 < i.size) (hzs : z0.cells.size = i.size)
    (hinv : Inv I L O w) {n : Nat} (hn : O[n]? = some (.nil el i.size)) {ys : List AV} {b o c : Nat} (hs : ∀ x ∈ ys, x.cells.length = i.size) (hne : ys ≠ [])
    (hc : ∀ (k : Nat) x, ys[k]? = some x → ∀ (j : Nat) d, x.cells[j]? = some d → ∃ u, w.cell? ⟨b, o + (k * i.size + j), none⟩ = some u ∧ u.oneCell' = true ∧ R I L O d u)
    (h48 : ys.length * i.bytes ≤ 140737488355328) (hmx : ys.length ≤ maxLen) :
    ∃ y' I' L' w', Good I L O w I' L' (O.set n (.live el i.size ys)) w' ∧ R I' L' (O.set n (.live el i.size ys)) (.row n ys.length) y' ∧
      (Builtin.append_ #[t, t] ty #[.slice none 0 0, .slice (some ⟨b, o, none⟩) ys.length c]).run P w = .ok y' w' := by
  have hnlt : n < O.length := (List.getElem?_eq_some_iff.1 hn).1
  obtain ⟨h1, h2, h3, h4⟩ := newsOf_spec hs hc
  have hpos : 0 < ys.length := List.length_pos_iff.2 hne
  have hm : ys.length ≤ 9223372036854775807 := by simpa [maxLen] using hmx
  have hrun := run_append_nil (P := P) w t ty el i z0 ht hi hz ⟨b, o, none⟩ ys.length c (newsOf w b o (ys.length * i.size)) h1 h2 hpos (by omega) (by omega)
  have hge := grownCap_ge w ys.length 0 el
  have hle := grownCap_le_maxLen w ys.length 0 el hmx
  generalize grownCap w ys.length 0 el = cap at *
  have hgood := (Good.drawn hinv (w.drawn + 1))
  have hrow := RRow.append (I := I) (L := L) (O := O) (s := i.size) (xs := []) (ys := ys) (c := #[]) (d := (newsOf w b o (ys.length * i.size)).toArray) (fun i x hx => by simp at hx) h4 (Builtin.zeroCells z0.cells (cap - ys.length)).toList [] (by simp) (by simp)
  have hnew := hgood.inv.put (n := n) (l := Loc.at w.heap.size (cap)) (e := el) (s := i.size) (xs := ys) (O' := O.set n (.live el i.size ys))
    (w' := w.drew.alloc (.cells ((newsOf w b o (ys.length * i.size)).toArray ++ Builtin.zeroCells z0.cells (cap - ys.length)) el))
    (set_get hnlt _) (by simp) (fun b' hb' _ => heap_alloc_old w.drew _ b' hb') rfl rfl rfl (by rw [World.size_alloc]; exact Nat.le_succ _) (.inl (Nat.le_refl _))
    ⟨_, ⟨_, heap_alloc_new w.drew _, .inl rfl⟩, by rw [Array.size_append, size_zeroCells, hzs]; simp only [List.size_toArray, h1]; rw [← Nat.add_mul]; congr 1; omega, hge, hle, h0, by
      have : RRow I L O i.size ys ((newsOf w b o (ys.length * i.size)).toArray ++ Builtin.zeroCells z0.cells (cap - ys.length)) := by simpa using RRow.of_append hrow
      exact this⟩
    (fun _ => .inr ⟨hn, hne⟩)
  refine ⟨_, _, _, _, hgood.trans hnew, ?_, hrun⟩
  have := R.rowLive (I := I) (L := fun k => if k = n then Loc.at w.heap.size (cap) else L k) (O := O.set n (.live el i.size ys)) n ys.length el i.size ys (by simp [hnlt]) rfl
  simpa using this
theorem app_room {t ty el : Nat} {i : TypeInfo} (ht : P.underlying t = some (.slice el)) (hi : P.info? el = some i)
    (hinv : Inv I L O w) {n : Nat} {xs ys : List AV} {b o c : Nat} (hn : O[n]? = some (.live el i.size xs)) (hs : ∀ x ∈ ys, x.cells.length = i.size)
    (hc : ∀ (k : Nat) x, ys[k]? = some x → ∀ (j : Nat) d, x.cells[j]? = some d → ∃ u, w.cell? ⟨b, o + (k * i.size + j), none⟩ = some u ∧ u.oneCell' = true ∧ R I L O d u)
    (hroom : xs.length + ys.length ≤ (L n).cap) :
    ∃ y' I' L' w', Good I L O w I' L' (O.set n (.live el i.size (xs ++ ys))) w' ∧ R I' L' (O.set n (.live el i.size (xs ++ ys))) (.row n (xs.length + ys.length)) y' ∧
      (Builtin.append_ #[t, t] ty #[.slice (some ⟨(L n).blk, 0, none⟩) xs.length (L n).cap, .slice (some ⟨b, o, none⟩) ys.length c]).run P w = .ok y' w' := by
  obtain ⟨h1, h2, h3, h4⟩ := newsOf_spec hs hc
  obtain ⟨cur, ⟨m0z, g1, hm0z⟩, g2, g3, g4, g5, g6⟩ := hinv.obj n _ _ xs hn
  have hnlt : n < O.length := (List.getElem?_eq_some_iff.1 hn).1
  have hmul : xs.length * i.size + ys.length * i.size ≤ (L n).cap * i.size := by rw [← Nat.add_mul]; exact Nat.mul_le_mul_right _ hroom
  have hfit : xs.length * i.size + (newsOf w b o (ys.length * i.size)).length ≤ cur.size := by
    rw [h1, g2]; exact hmul
  have hrun := run_append_room_m (P := P) w t ty el i ht hi (L n).blk xs.length (L n).cap cur g1 hm0z ⟨b, o, none⟩ ys.length c (newsOf w b o (ys.length * i.size)) h1 h2 h3 hroom hfit
  have hrow := RRow.append (I := I) (L := L) (O := O) (s := i.size) (xs := xs) (ys := ys) (c := cur) (d := (newsOf w b o (ys.length * i.size)).toArray) g6 h4 (cur.toList.drop (xs.length * i.size + (newsOf w b o (ys.length * i.size)).length)) (cur.toList.take (xs.length * i.size))
    (by simp only [List.length_take, Array.length_toList]; omega) (fun k hk => by rw [List.getElem?_take, if_pos hk, Array.getElem?_toList])
  have hgood := hinv.put (n := n) (l := L n) (e := el) (s := i.size) (xs := xs ++ ys) (O' := O.set n (.live el i.size (xs ++ ys))) (w' := w.setRow (L n).blk (cur.toList.take (xs.length * i.size) ++ newsOf w b o (ys.length * i.size) ++ cur.toList.drop (xs.length * i.size + (newsOf w b o (ys.length * i.size)).length)).toArray)
    (set_get hnlt _) (by simp) (fun b' _ hb' => setRow_other w _ _ _ hb') rfl rfl rfl (by simp) (.inr ⟨_, _, _, hn, rfl⟩)
    ⟨_, ⟨_, setRow_heap w _ cur _ _ _ g1, hm0z.size (by simp only [List.size_toArray, List.length_append, List.length_take, List.length_drop, Array.length_toList]; omega)⟩, by simp only [List.size_toArray, List.length_append, List.length_take, List.length_drop, Array.length_toList]; omega, by simpa using hroom, g4, g5, hrow⟩
    (fun _ => .inl ⟨xs, hn, by simp, fun _ => rfl⟩)
  refine ⟨_, _, _, _, hgood, ?_, hrun⟩
  have := R.rowLive (I := I) (L := fun k => if k = n then L n else L k) (O := O.set n (.live el i.size (xs ++ ys))) n (xs.length + ys.length) el i.size (xs ++ ys) (by simp [hnlt]) (by simp)
  simpa using this
theorem app_grow {t ty el : Nat} {i : TypeInfo} {z0 : Value} (ht : P.underlying t = some (.slice el)) (hi : P.info? el = some i) (hz : i.zero = some z0) (hzs : z0.cells.size = i.size)
    (hinv : Inv I L O w) {n : Nat} {xs ys : List AV} {b o c : Nat} (hn : O[n]? = some (.live el i.size xs)) (hs : ∀ x ∈ ys, x.cells.length = i.size) (hne : ys ≠ [])
    (hc : ∀ (k : Nat) x, ys[k]? = some x → ∀ (j : Nat) d, x.cells[j]? = some d → ∃ u, w.cell? ⟨b, o + (k * i.size + j), none⟩ = some u ∧ u.oneCell' = true ∧ R I L O d u)
    (h48 : (xs.length + ys.length) * i.bytes ≤ 140737488355328) (hmx : xs.length + ys.length ≤ maxLen) (hroom : (L n).cap < xs.length + ys.length) :
    ∃ y' I' L' w', Good I L O w I' L' (O.set n (.live el i.size (xs ++ ys))) w' ∧ R I' L' (O.set n (.live el i.size (xs ++ ys))) (.row n (xs.length + ys.length)) y' ∧
      (Builtin.append_ #[t, t] ty #[.slice (some ⟨(L n).blk, 0, none⟩) xs.length (L n).cap, .slice (some ⟨b, o, none⟩) ys.length c]).run P w = .ok y' w' := by
  obtain ⟨h1, h2, h3, h4⟩ := newsOf_spec hs hc
  obtain ⟨cur, ⟨m0z, g1, hm0z⟩, g2, g3, g4, g5, g6⟩ := hinv.obj n _ _ xs hn
  have hnlt : n < O.length := (List.getElem?_eq_some_iff.1 hn).1
  have hm : xs.length + ys.length ≤ 9223372036854775807 := by simpa [maxLen] using hmx
  have hpos : 0 < ys.length := List.length_pos_iff.2 hne
  have holds : (cur.toList.take (xs.length * i.size)).length = xs.length * i.size := by
    simp only [List.length_take, Array.length_toList, g2]
    exact Nat.min_eq_left (Nat.mul_le_mul_right _ g3)
  have hrun := run_append_grow (P := P) w t ty el i z0 ht hi hz ⟨(L n).blk, 0, none⟩ xs.length (L n).cap (cur.toList.take (xs.length * i.size)) holds (fun j v hv => by
      rw [add_lit, Nat.zero_add, cell_cells g1]
      rw [List.getElem?_take] at hv
      split at hv
      · simpa using hv
      · cases hv) ⟨b, o, none⟩ ys.length c (newsOf w b o (ys.length * i.size)) h1 h2 (by omega) (by omega) (growslice_fits (by omega) h48)
  have hge := grownCap_ge w (xs.length + ys.length) (L n).cap el
  have hle := grownCap_le_maxLen w (xs.length + ys.length) (L n).cap el hmx
  generalize grownCap w (xs.length + ys.length) (L n).cap el = cap at *
  have hrow := RRow.append (I := I) (L := L) (O := O) (s := i.size) (xs := xs) (ys := ys) (c := cur) (d := (newsOf w b o (ys.length * i.size)).toArray) g6 h4 (Builtin.zeroCells z0.cells (cap - (xs.length + ys.length))).toList (cur.toList.take (xs.length * i.size))
    holds (fun k hk => by rw [List.getElem?_take, if_pos hk, Array.getElem?_toList])
  have hgood0 := (Good.drawn hinv (w.drawn + 1))
  have hgood := hgood0.inv.put (n := n) (l := Loc.at w.heap.size (cap)) (e := el) (s := i.size) (xs := xs ++ ys) (O' := O.set n (.live el i.size (xs ++ ys)))
    (w' := w.drew.alloc (.cells ((cur.toList.take (xs.length * i.size)).toArray ++ (newsOf w b o (ys.length * i.size)).toArray ++ Builtin.zeroCells z0.cells (cap - (xs.length + ys.length))) el))
    (set_get hnlt _) (by simp) (fun b' hb' _ => heap_alloc_old w.drew _ b' hb') rfl rfl rfl (by rw [World.size_alloc]; exact Nat.le_succ _) (.inl (Nat.le_refl _))
    ⟨_, ⟨_, heap_alloc_new w.drew _, .inl rfl⟩, by
        simp only [Array.size_append, size_zeroCells, hzs, List.size_toArray, holds, h1]
        rw [← Nat.add_mul, ← Nat.add_mul]; congr 1; omega, by simpa using hge, hle, g5, RRow.of_append hrow⟩
    (fun _ => .inl ⟨xs, hn, by simp, fun he => by simp at he; exact (hne he).elim⟩)
  refine ⟨_, _, _, _, hgood0.trans hgood, ?_, hrun⟩
  have := R.rowLive (I := I) (L := fun k => if k = n then Loc.at w.heap.size (cap) else L k) (O := O.set n (.live el i.size (xs ++ ys))) n (xs.length + ys.length) el i.size (xs ++ ys) (by simp [hnlt]) (by simp)
  simpa using this
theorem app_ran {t ty el s by_ : Nat} {z : AV} (ht : P.underlying t = some (.slice el)) (hel : cElem P el = some (s, by_, z)) {x y : AV} {vx vy : Value}
    (hinv : Inv I L O w) (hx : R I L O x vx) (hy : R I L O y vy)
    (hk0 : srcK O y fun ys => (∀ y ∈ ys, y.cells.length = s) ∧ appK O x el s by_ ys K) :
    ∃ x' O' y' I' L' w', K x' O' ∧ Good I L O w I' L' O' w' ∧ R I' L' O' x' y' ∧ (Builtin.append_ #[t, t] ty #[vx, vy]).run P w = .ok y' w' := by
  obtain ⟨i, z0, hi, hz, hz0, hsz, hby, hzl, h0, hzs, hst⟩ := cElem_inv hel
  obtain ⟨ys, ya, c, ⟨hs, hk⟩, rfl, hsrc⟩ := src_inv hinv hy hk0
  clear hk0
  subst hsz; subst hby
  cases x
  case nils =>
    obtain ⟨h48, hmx, hk0, hk1⟩ := hk
    cases hx
    by_cases hne : ys = []
    · subst hne
      exact ⟨_, O, _, I, L, w, hk0 rfl, .refl hinv, .nils, append_zero ht hi none ya 0 0 c (Nat.le_refl _) w⟩
    · obtain ⟨b, o, rfl, hc⟩ := hsrc i.size hs hne
      obtain ⟨y', I', L', w', q1, q2, q3⟩ := app_nil ht hi hz h0 hzs hinv hs hne hc h48 hmx (c := c)
      exact ⟨_, _, y', I', L', w', hk1 hne, q1, q2, q3⟩
  case row n len =>
    cases hn : O[n]? with
    | none => simp only [appK, hn] at hk
    | some ob =>
      cases ob with
      | dead => simp only [appK, hn] at hk
      | own a => simp only [appK, hn] at hk
      | gho g => simp only [appK, hn] at hk
      | nil t' s' =>
        simp only [appK, hn] at hk
        obtain ⟨rfl, rfl, rfl, h48, hmx, hk0, hk1⟩ := hk
        obtain ⟨rfl, _⟩ := hx.row_nil hn
        by_cases hne : ys = []
        · subst hne
          exact ⟨_, O, _, I, L, w, hk0 rfl, .refl hinv, .rowNil n _ _ hn, append_zero ht hi none ya 0 0 c (Nat.le_refl _) w⟩
        · obtain ⟨b, o, rfl, hc⟩ := hsrc i.size hs hne
          obtain ⟨y', I', L', w', q1, q2, q3⟩ := app_first ht hi hz h0 hzs hinv hn hs hne hc h48 hmx (c := c)
          exact ⟨_, _, y', I', L', w', hk1 hne, q1, q2, q3⟩
      | live t' s' xs =>
        simp only [appK, hn] at hk
        obtain ⟨rfl, rfl, hlen, h48, hmx, hk⟩ := hk
        have hv := hx.row_live hn hlen
        subst hv
        subst hlen
        have hnlt : n < O.length := (List.getElem?_eq_some_iff.1 hn).1
        by_cases hne : ys = []
        · subst hne
          obtain ⟨cur, ⟨m0z, g1, hm0z⟩, g2, g3, g4, g5, g6⟩ := hinv.obj n _ _ xs hn
          have hO : O.set n (.live t' i.size (xs ++ [])) = O := by
            rw [List.append_nil]; apply List.ext_getElem?; intro k; rw [set_get hnlt]; split
            · rename_i hk'; rw [hk', hn]
            · rfl
          rw [hO] at hk
          exact ⟨_, O, _, I, L, w, hk, .refl hinv, hx, append_zero ht hi _ ya xs.length _ c g3 w⟩
        · obtain ⟨b, o, rfl, hc⟩ := hsrc i.size hs hne
          by_cases hroom : xs.length + ys.length ≤ (L n).cap
          · obtain ⟨y', I', L', w', q1, q2, q3⟩ := app_room ht hi hinv hn hs hc hroom (c := c)
            exact ⟨_, _, y', I', L', w', hk, q1, q2, q3⟩
          · obtain ⟨y', I', L', w', q1, q2, q3⟩ := app_grow ht hi hz hzs hinv hn hs hne hc h48 hmx (by omega) (c := c)
            exact ⟨_, _, y', I', L', w', hk, q1, q2, q3⟩
  all_goals exact hk.elim
end
end Go.Ab
/-
  APPEND OF A STRING's BYTES.
-/
namespace Go.Ab
/-- a string's bytes -/
def ysS (s : ByteArray) : List AV := s.data.toList.map fun c => .v (.int .u8 c.toNat)
def newsS (s : ByteArray) : List Value := s.data.toList.map fun c => .int .u8 c.toNat
theorem ysS_len (s : ByteArray) : (ysS s).length = s.size := by simp [ysS]
theorem newsS_len (s : ByteArray) : (newsS s).length = s.size := by simp [newsS]
theorem newsS_arr (s : ByteArray) : (newsS s).toArray = s.data.map fun b => Value.int .u8 b.toNat := by
  apply Array.ext'; simp [newsS]
section
variable {P : Program} {I : Imm} {L : Nat → Loc} {O : List AObj} {w : World} {K : AV → List AObj → Prop} {e : Env} {a : Act}
theorem newsS_spec {sb : ByteArray} {s : Nat} (h : s = 1) : (newsS sb).length = (ysS sb).length * s ∧ (∀ u ∈ newsS sb, u.oneCell' = true) ∧ RRow I L O s (ysS sb) (newsS sb).toArray := by
  subst h
  refine ⟨by simp [newsS_len, ysS_len], fun u hu => ?_, fun i x hx => ?_⟩
  · obtain ⟨c, _, rfl⟩ := List.mem_map.1 hu; rfl
  · simp only [ysS, List.getElem?_map, Option.map_eq_some_iff] at hx
    obtain ⟨c, hc, rfl⟩ := hx
    refine ⟨rfl, fun j d hj => ?_⟩
    cases j with
    | zero =>
      simp [AV.cells] at hj
      subst hj
      exact ⟨.int .u8 c.toNat, by simp [newsS, hc], rfl, .v _ rfl⟩
    | succ j => simp [AV.cells] at hj
theorem run_firstCells_s (size : Nat) (s : ByteArray) (w : World) : (Builtin.firstCells size s.size (.string s)).run P w = .ok (newsS s).toArray w := by
  have hx : (s.extract 0 s.size).data = s.data := by simp [ByteArray.extract_zero_size]
  simp [Builtin.firstCells, newsS_arr, hx]
theorem run_append_nil_s (w : World) (t u ty e : TypeId) (i : TypeInfo) (z : Value) (ht : P.underlying t = some (.slice e)) (hu : P.underlying u = some .string) (hi : P.info? e = some i) (hz : i.zero = some z)
    (s : ByteArray) (h0 : 0 < (ysS s).length) (h63 : ((ysS s).length : Int) ≤ 9223372036854775807) (h48 : (ysS s).length * i.bytes ≤ 281474976710656) :
    (Builtin.append_ #[t, u] ty #[.slice none 0 0, .string s]).run P w =
      .ok (.slice (some ⟨w.heap.size, 0, none⟩) (ysS s).length (grownCap w (ysS s).length 0 e)) (w.drew.alloc (.cells ((newsS s).toArray ++ Builtin.zeroCells z.cells (grownCap w (ysS s).length 0 e - (ysS s).length)) e)) := by
  rw [ysS_len] at *
  rw [newsS_arr]
  exact run_append_nil_string w t u ty e i z ht hu hi hz s h0 h63 h48
theorem run_append_room_s (w : World) (t u ty e : TypeId) (i : TypeInfo) (ht : P.underlying t = some (.slice e)) (hu : P.underlying u = some .string) (hi : P.info? e = some i)
    {m0 : Nat × Nat} {sz : Nat} (g sLen sCap : Nat) (cur : Array Value) (hg : w.heap[g]? = some (.cells cur e m0)) (hmk : Mk m0 cur.size sz)
    (s : ByteArray) (h1 : ∀ u ∈ newsS s, u.oneCell' = true)
    (hroom : sLen + (ysS s).length ≤ sCap) (hfit : sLen * i.size + (newsS s).length ≤ cur.size) :
    (Builtin.append_ #[t, u] ty #[.slice (some ⟨g, 0, none⟩) sLen sCap, .string s]).run P w =
      .ok (.slice (some ⟨g, 0, none⟩) (sLen + (ysS s).length) sCap) (w.setRow g (cur.toList.take (sLen * i.size) ++ newsS s ++ cur.toList.drop (sLen * i.size + (newsS s).length)).toArray) := by
  have hst := run_storeCells_m (P := P) g (sLen * i.size) sz e m0 (newsS s) 0 cur w hg hmk (by simpa using hfit) h1
  simp only [Nat.add_zero] at hst
  rw [ysS_len] at *
  simp [Builtin.append_, run_underlying ht, run_underlying hu, sizeOf, typeInfo, hi, Builtin.lenOf, hroom, run_firstCells_s, Addr.add_lit, hst]
theorem run_append_grow_s (w : World) (t u ty e : TypeId) (i : TypeInfo) (z : Value) (ht : P.underlying t = some (.slice e)) (hu : P.underlying u = some .string) (hi : P.info? e = some i) (hz : i.zero = some z)
    (b : Addr) (sLen sCap : Nat) (olds : List Value) (hlo : olds.length = sLen * i.size) (holds : ∀ j v, olds[j]? = some v → w.cell? (b.add j) = some v)
    (s : ByteArray)
    (hg : sCap < sLen + (ysS s).length) (h63 : ((sLen + (ysS s).length : Nat) : Int) ≤ 9223372036854775807) (hfit : Builtin.nextslicecap (sLen + (ysS s).length) sCap * i.bytes ≤ 281474976710656) :
    (Builtin.append_ #[t, u] ty #[.slice (some b) sLen sCap, .string s]).run P w =
      .ok (.slice (some ⟨w.heap.size, 0, none⟩) (sLen + (ysS s).length) (grownCap w (sLen + (ysS s).length) sCap e))
        (w.drew.alloc (.cells (olds.toArray ++ (newsS s).toArray ++ Builtin.zeroCells z.cells (grownCap w (sLen + (ysS s).length) sCap e - (sLen + (ysS s).length))) e)) := by
  rw [ysS_len] at *
  have hn : ¬ (sLen + s.size ≤ sCap) := by omega
  have h63' : ¬ (9223372036854775807 < ((sLen : Int) + (s.size : Int))) := by omega
  have h48' : ¬ (281474976710656 < Builtin.nextslicecap (sLen + s.size) sCap * i.bytes) := by omega
  have hf := fun w => run_firstCells_s (P := P) i.size s w
  have hfo := run_firstCells_some (P := P) w.drew i.size sLen b sLen sCap olds hlo (by simpa using holds)
  simp [Builtin.append_, run_underlying ht, run_underlying hu, sizeOf, typeInfo, zeroValue, hi, hz, Builtin.lenOf, hn, h63', h48', Question.forced, hf, hfo, newRow, grownCap]
  congr 2
  apply Array.ext'
  simp [List.append_assoc]
theorem append_zero_s {t u ty el : TypeId} {i : TypeInfo} (ht : P.underlying t = some (.slice el)) (hu : P.underlying u = some .string) (hi : P.info? el = some i) (b : Option Addr) (n cap : Nat) (hn : n ≤ cap) {s : ByteArray} (hs : s.size = 0) (w : World) :
    (Builtin.append_ #[t, u] ty #[.slice b n cap, .string s]).run P w = .ok (.slice b n cap) w := by
  have hf : (Builtin.firstCells i.size 0 (.string s)).run P w = .ok #[] w := by
    have := run_firstCells_s (P := P) i.size s w
    rw [hs] at this
    rw [this, List.eq_nil_of_length_eq_zero (by rw [newsS_len, hs] : (newsS s).length = 0)]
  cases b <;> simp [Builtin.append_, run_underlying ht, run_underlying hu, sizeOf, typeInfo, hi, Builtin.lenOf, hs, hn, hf, storeCells]
theorem apps_nil {t u ty el : Nat} {i : TypeInfo} {z0 : Value} (ht : P.underlying t = some (.slice el)) (hu : P.underlying u = some .string) {sb : ByteArray} (hi : P.info? el = some i) (hz : i.zero = some z0) (h0 : 0 < i.size) (hzs : z0.cells.size = i.size)
    (hinv : Inv I L O w) (h1s : i.size = 1) (hne : (ysS sb) ≠ [])
    (h48 : (ysS sb).length * i.bytes ≤ 140737488355328) (hmx : (ysS sb).length ≤ maxLen) :
    ∃ y' I' L' w', Good I L O w I' L' (O ++ [.live el i.size (ysS sb)]) w' ∧ R I' L' (O ++ [.live el i.size (ysS sb)]) (.row O.length (ysS sb).length) y' ∧
      (Builtin.append_ #[t, u] ty #[.slice none 0 0, .string sb]).run P w = .ok y' w' := by
  obtain ⟨h1, h3, h4⟩ := newsS_spec (I := I) (L := L) (O := O) (sb := sb) h1s
  have hpos : 0 < (ysS sb).length := List.length_pos_iff.2 hne
  have hm : (ysS sb).length ≤ 9223372036854775807 := by simpa [maxLen] using hmx
  have hrun := run_append_nil_s (P := P) w t u ty el i z0 ht hu hi hz sb hpos (by omega) (by omega)
  have hge := grownCap_ge w (ysS sb).length 0 el
  have hle := grownCap_le_maxLen w (ysS sb).length 0 el hmx
  generalize grownCap w (ysS sb).length 0 el = cap at *
  have hgood := (Good.drawn hinv (w.drawn + 1))
  have hrow := RRow.append (I := I) (L := L) (O := O) (s := i.size) (xs := []) (ys := (ysS sb)) (c := #[]) (d := (newsS sb).toArray) (fun i x hx => by simp at hx) h4 (Builtin.zeroCells z0.cells (cap - (ysS sb).length)).toList [] (by simp) (by simp)
  have hnew := hgood.inv.new (e := el) (s := i.size) (xs := (ysS sb)) ((newsS sb).toArray ++ Builtin.zeroCells z0.cells (cap - (ysS sb).length)) cap
    (by rw [Array.size_append, size_zeroCells, hzs]; simp only [List.size_toArray, h1]; rw [← Nat.add_mul]; congr 1; omega) hge hle h0 (by
      have : RRow I L O i.size (ysS sb) ((newsS sb).toArray ++ Builtin.zeroCells z0.cells (cap - (ysS sb).length)) := by simpa using RRow.of_append hrow
      exact this)
  refine ⟨_, _, _, _, hgood.trans hnew, ?_, hrun⟩
  have := R.rowLive (I := I) (L := fun k => if k = O.length then Loc.at w.heap.size (cap) else L k) (O := O ++ [.live el i.size (ysS sb)]) O.length (ysS sb).length el i.size (ysS sb) (by simp) rfl
  simpa using this
theorem run_append_nil_z (w : World) (t u ty e : TypeId) (i : TypeInfo) (z : Value) (ki : IntKind) (ht : P.underlying t = some (.slice e)) (hu : P.underlying u = some (.int ki)) (hi : P.info? e = some i) (hz : i.zero = some z) (h0 : 0 < i.size)
    (k : Nat) (hk : 0 < k) (h63 : (k : Int) ≤ 9223372036854775807) (h48 : k * i.bytes ≤ 281474976710656) :
    (Builtin.append_ #[t, u] ty #[.slice none 0 0, .int .i64 k]).run P w =
      .ok (.slice (some ⟨w.heap.size, 0, none⟩) k (grownCap w k 0 e)) (w.drew.alloc (.cells (Builtin.zeroCells z.cells k ++ Builtin.zeroCells z.cells (grownCap w k 0 e - k)) e)) := by
  have hn : k ≠ 0 := by omega
  have h63' : ¬ (9223372036854775807 < (k : Int)) := by omega
  have h48' : ¬ (281474976710656 < Builtin.nextslicecap k 0 * i.bytes) := by rw [nextslicecap_zero hk]; omega
  have hw : IntKind.i64.wrap (k : Int) = k := by
    simp [IntKind.wrap, IntKind.signed, IntKind.bits]
    split <;> omega
  have h48i : ¬ (281474976710656 < (k : Int) * (i.bytes : Int)) := by
    have : ((k * i.bytes : Nat) : Int) ≤ 281474976710656 := by omega
    rw [Int.natCast_mul] at this; omega
  have hlt : ¬ ((k : Int) < 0) := by omega
  have hs : ¬ (k * i.size = 0) := Nat.mul_ne_zero hn (by omega)
  simp [Builtin.append_, run_underlying ht, run_underlying hu, sizeOf, typeInfo, zeroValue, hi, hz, asInt, asIntOf, hw, hlt, h48i, Builtin.firstCells, hn, hs, h63', h48', Question.forced, newRow, grownCap]
theorem appz_nil {t u ty el : Nat} {i : TypeInfo} {z0 : Value} {z : AV} {ki : IntKind} (ht : P.underlying t = some (.slice el)) (hu : P.underlying u = some (.int ki)) {k : Nat} (hi : P.info? el = some i) (hz : i.zero = some z0) (hz0 : absV z0 = some z) (h0 : 0 < i.size) (hzs : z0.cells.size = i.size)
    (hst : z.storable = true) (hzl : z.cells.length = i.size) (hinv : Inv I L O w) (hk : 0 < k) (h48 : k * i.bytes ≤ 281474976710656) (hmx : k ≤ maxLen) :
    ∃ y' I' L' w', Good I L O w I' L' (O ++ [.live el i.size (List.replicate k z)]) w' ∧ R I' L' (O ++ [.live el i.size (List.replicate k z)]) (.row O.length k) y' ∧
      (Builtin.append_ #[t, u] ty #[.slice none 0 0, .int .i64 k]).run P w = .ok y' w' := by
  have hm : k ≤ 9223372036854775807 := by simpa [maxLen] using hmx
  have hrun := run_append_nil_z (P := P) w t u ty el i z0 ki ht hu hi hz h0 k hk (by omega) h48
  have hge := grownCap_ge w k 0 el
  have hle := grownCap_le_maxLen w k 0 el hmx
  generalize grownCap w k 0 el = cap at *
  have hgood := (Good.drawn hinv (w.drawn + 1))
  have h4 : RRow I L O i.size (List.replicate k z) (Builtin.zeroCells z0.cells k) := by
    have := RRow.made (I := I) (L := L) (O := O) (cap := k) (n := k) (absV_sound hz0) hst hzl h0 (Nat.le_refl _)
    unfold Builtin.zeroCells
    rw [hzs] at this ⊢
    exact this
  have hsz : (Builtin.zeroCells z0.cells k).size = k * i.size := by rw [size_zeroCells, hzs]
  have hrow := RRow.append (I := I) (L := L) (O := O) (s := i.size) (xs := []) (ys := List.replicate k z) (c := #[]) (d := Builtin.zeroCells z0.cells k) (fun i x hx => by simp at hx) h4 (Builtin.zeroCells z0.cells (cap - k)).toList [] (by simp) (by simp)
  have hnew := hgood.inv.new (e := el) (s := i.size) (xs := List.replicate k z) (Builtin.zeroCells z0.cells k ++ Builtin.zeroCells z0.cells (cap - k)) cap
    (by rw [Array.size_append, size_zeroCells, size_zeroCells, hzs, ← Nat.add_mul]; congr 1; omega) (by simpa using hge) hle h0 (by
      have : RRow I L O i.size (List.replicate k z) (Builtin.zeroCells z0.cells k ++ Builtin.zeroCells z0.cells (cap - k)) := by simpa using RRow.of_append hrow
      exact this)
  refine ⟨_, _, _, _, hgood.trans hnew, ?_, hrun⟩
  have := R.rowLive (I := I) (L := fun m => if m = O.length then Loc.at w.heap.size (cap) else L m) (O := O ++ [.live el i.size (List.replicate k z)]) O.length k el i.size (List.replicate k z) (by simp) (by simp)
  simpa using this
theorem apps_first {t u ty el : Nat} {i : TypeInfo} {z0 : Value} (ht : P.underlying t = some (.slice el)) (hu : P.underlying u = some .string) {sb : ByteArray} (hi : P.info? el = some i) (hz : i.zero = some z0) (h0 : 0 < i.size) (hzs : z0.cells.size = i.size)
    (hinv : Inv I L O w) {n : Nat} (hn : O[n]? = some (.nil el i.size)) (h1s : i.size = 1) (hne : (ysS sb) ≠ [])
    (h48 : (ysS sb).length * i.bytes ≤ 140737488355328) (hmx : (ysS sb).length ≤ maxLen) :
    ∃ y' I' L' w', Good I L O w I' L' (O.set n (.live el i.size (ysS sb))) w' ∧ R I' L' (O.set n (.live el i.size (ysS sb))) (.row n (ysS sb).length) y' ∧
      (Builtin.append_ #[t, u] ty #[.slice none 0 0, .string sb]).run P w = .ok y' w' := by
  have hnlt : n < O.length := (List.getElem?_eq_some_iff.1 hn).1
  obtain ⟨h1, h3, h4⟩ := newsS_spec (I := I) (L := L) (O := O) (sb := sb) h1s
  have hpos : 0 < (ysS sb).length := List.length_pos_iff.2 hne
  have hm : (ysS sb).length ≤ 9223372036854775807 := by simpa [maxLen] using hmx
  have hrun := run_append_nil_s (P := P) w t u ty el i z0 ht hu hi hz sb hpos (by omega) (by omega)
  have hge := grownCap_ge w (ysS sb).length 0 el
  have hle := grownCap_le_maxLen w (ysS sb).length 0 el hmx
  generalize grownCap w (ysS sb).length 0 el = cap at *
  have hgood := (Good.drawn hinv (w.drawn + 1))
  have hrow := RRow.append (I := I) (L := L) (O := O) (s := i.size) (xs := []) (ys := (ysS sb)) (c := #[]) (d := (newsS sb).toArray) (fun i x hx => by simp at hx) h4 (Builtin.zeroCells z0.cells (cap - (ysS sb).length)).toList [] (by simp) (by simp)
  have hnew := hgood.inv.put (n := n) (l := Loc.at w.heap.size (cap)) (e := el) (s := i.size) (xs := (ysS sb)) (O' := O.set n (.live el i.size (ysS sb)))
    (w' := w.drew.alloc (.cells ((newsS sb).toArray ++ Builtin.zeroCells z0.cells (cap - (ysS sb).length)) el))
    (set_get hnlt _) (by simp) (fun b' hb' _ => heap_alloc_old w.drew _ b' hb') rfl rfl rfl (by rw [World.size_alloc]; exact Nat.le_succ _) (.inl (Nat.le_refl _))
    ⟨_, ⟨_, heap_alloc_new w.drew _, .inl rfl⟩, by rw [Array.size_append, size_zeroCells, hzs]; simp only [List.size_toArray, h1]; rw [← Nat.add_mul]; congr 1; omega, hge, hle, h0, by
      have : RRow I L O i.size (ysS sb) ((newsS sb).toArray ++ Builtin.zeroCells z0.cells (cap - (ysS sb).length)) := by simpa using RRow.of_append hrow
      exact this⟩
    (fun _ => .inr ⟨hn, hne⟩)
  refine ⟨_, _, _, _, hgood.trans hnew, ?_, hrun⟩
  have := R.rowLive (I := I) (L := fun k => if k = n then Loc.at w.heap.size (cap) else L k) (O := O.set n (.live el i.size (ysS sb))) n (ysS sb).length el i.size (ysS sb) (by simp [hnlt]) rfl
  simpa using this
theorem apps_room {t u ty el : Nat} {i : TypeInfo} (ht : P.underlying t = some (.slice el)) (hu : P.underlying u = some .string) {sb : ByteArray} (hi : P.info? el = some i)
    (hinv : Inv I L O w) {n : Nat} {xs : List AV} (h1s : i.size = 1) (hn : O[n]? = some (.live el i.size xs))
    (hroom : xs.length + (ysS sb).length ≤ (L n).cap) :
    ∃ y' I' L' w', Good I L O w I' L' (O.set n (.live el i.size (xs ++ (ysS sb)))) w' ∧ R I' L' (O.set n (.live el i.size (xs ++ (ysS sb)))) (.row n (xs.length + (ysS sb).length)) y' ∧
      (Builtin.append_ #[t, u] ty #[.slice (some ⟨(L n).blk, 0, none⟩) xs.length (L n).cap, .string sb]).run P w = .ok y' w' := by
  obtain ⟨h1, h3, h4⟩ := newsS_spec (I := I) (L := L) (O := O) (sb := sb) h1s
  obtain ⟨cur, ⟨m0z, g1, hm0z⟩, g2, g3, g4, g5, g6⟩ := hinv.obj n _ _ xs hn
  have hnlt : n < O.length := (List.getElem?_eq_some_iff.1 hn).1
  have hmul : xs.length * i.size + (ysS sb).length * i.size ≤ (L n).cap * i.size := by rw [← Nat.add_mul]; exact Nat.mul_le_mul_right _ hroom
  have hfit : xs.length * i.size + (newsS sb).length ≤ cur.size := by
    rw [h1, g2]; exact hmul
  have hrun := run_append_room_s (P := P) w t u ty el i ht hu hi (L n).blk xs.length (L n).cap cur g1 hm0z sb h3 hroom hfit
  have hrow := RRow.append (I := I) (L := L) (O := O) (s := i.size) (xs := xs) (ys := (ysS sb)) (c := cur) (d := (newsS sb).toArray) g6 h4 (cur.toList.drop (xs.length * i.size + (newsS sb).length)) (cur.toList.take (xs.length * i.size))
    (by simp only [List.length_take, Array.length_toList]; omega) (fun k hk => by rw [List.getElem?_take, if_pos hk, Array.getElem?_toList])
  have hgood := hinv.put (n := n) (l := L n) (e := el) (s := i.size) (xs := xs ++ (ysS sb)) (O' := O.set n (.live el i.size (xs ++ (ysS sb)))) (w' := w.setRow (L n).blk (cur.toList.take (xs.length * i.size) ++ newsS sb ++ cur.toList.drop (xs.length * i.size + (newsS sb).length)).toArray)
    (set_get hnlt _) (by simp) (fun b' _ hb' => setRow_other w _ _ _ hb') rfl rfl rfl (by simp) (.inr ⟨_, _, _, hn, rfl⟩)
    ⟨_, ⟨_, setRow_heap w _ cur _ _ _ g1, hm0z.size (by simp only [List.size_toArray, List.length_append, List.length_take, List.length_drop, Array.length_toList]; omega)⟩, by simp only [List.size_toArray, List.length_append, List.length_take, List.length_drop, Array.length_toList]; omega, by simpa using hroom, g4, g5, hrow⟩
    (fun _ => .inl ⟨xs, hn, by simp, fun _ => rfl⟩)
  refine ⟨_, _, _, _, hgood, ?_, hrun⟩
  have := R.rowLive (I := I) (L := fun k => if k = n then L n else L k) (O := O.set n (.live el i.size (xs ++ (ysS sb)))) n (xs.length + (ysS sb).length) el i.size (xs ++ (ysS sb)) (by simp [hnlt]) (by simp)
  simpa using this
theorem apps_grow {t u ty el : Nat} {i : TypeInfo} {z0 : Value} (ht : P.underlying t = some (.slice el)) (hu : P.underlying u = some .string) {sb : ByteArray} (hi : P.info? el = some i) (hz : i.zero = some z0) (hzs : z0.cells.size = i.size)
    (hinv : Inv I L O w) {n : Nat} {xs : List AV} (h1s : i.size = 1) (hn : O[n]? = some (.live el i.size xs)) (hne : (ysS sb) ≠ [])
    (h48 : (xs.length + (ysS sb).length) * i.bytes ≤ 140737488355328) (hmx : xs.length + (ysS sb).length ≤ maxLen) (hroom : (L n).cap < xs.length + (ysS sb).length) :
    ∃ y' I' L' w', Good I L O w I' L' (O.set n (.live el i.size (xs ++ (ysS sb)))) w' ∧ R I' L' (O.set n (.live el i.size (xs ++ (ysS sb)))) (.row n (xs.length + (ysS sb).length)) y' ∧
      (Builtin.append_ #[t, u] ty #[.slice (some ⟨(L n).blk, 0, none⟩) xs.length (L n).cap, .string sb]).run P w = .ok y' w' := by
  obtain ⟨h1, h3, h4⟩ := newsS_spec (I := I) (L := L) (O := O) (sb := sb) h1s
  obtain ⟨cur, ⟨m0z, g1, hm0z⟩, g2, g3, g4, g5, g6⟩ := hinv.obj n _ _ xs hn
  have hnlt : n < O.length := (List.getElem?_eq_some_iff.1 hn).1
  have hm : xs.length + (ysS sb).length ≤ 9223372036854775807 := by simpa [maxLen] using hmx
  have hpos : 0 < (ysS sb).length := List.length_pos_iff.2 hne
  have holds : (cur.toList.take (xs.length * i.size)).length = xs.length * i.size := by
    simp only [List.length_take, Array.length_toList, g2]
    exact Nat.min_eq_left (Nat.mul_le_mul_right _ g3)
  have hrun := run_append_grow_s (P := P) w t u ty el i z0 ht hu hi hz ⟨(L n).blk, 0, none⟩ xs.length (L n).cap (cur.toList.take (xs.length * i.size)) holds (fun j v hv => by
      rw [add_lit, Nat.zero_add, cell_cells g1]
      rw [List.getElem?_take] at hv
      split at hv
      · simpa using hv
      · cases hv) sb (by omega) (by omega) (growslice_fits (by omega) h48)
  have hge := grownCap_ge w (xs.length + (ysS sb).length) (L n).cap el
  have hle := grownCap_le_maxLen w (xs.length + (ysS sb).length) (L n).cap el hmx
  generalize grownCap w (xs.length + (ysS sb).length) (L n).cap el = cap at *
  have hrow := RRow.append (I := I) (L := L) (O := O) (s := i.size) (xs := xs) (ys := (ysS sb)) (c := cur) (d := (newsS sb).toArray) g6 h4 (Builtin.zeroCells z0.cells (cap - (xs.length + (ysS sb).length))).toList (cur.toList.take (xs.length * i.size))
    holds (fun k hk => by rw [List.getElem?_take, if_pos hk, Array.getElem?_toList])
  have hgood0 := (Good.drawn hinv (w.drawn + 1))
  have hgood := hgood0.inv.put (n := n) (l := Loc.at w.heap.size (cap)) (e := el) (s := i.size) (xs := xs ++ (ysS sb)) (O' := O.set n (.live el i.size (xs ++ (ysS sb))))
    (w' := w.drew.alloc (.cells ((cur.toList.take (xs.length * i.size)).toArray ++ (newsS sb).toArray ++ Builtin.zeroCells z0.cells (cap - (xs.length + (ysS sb).length))) el))
    (set_get hnlt _) (by simp) (fun b' hb' _ => heap_alloc_old w.drew _ b' hb') rfl rfl rfl (by rw [World.size_alloc]; exact Nat.le_succ _) (.inl (Nat.le_refl _))
    ⟨_, ⟨_, heap_alloc_new w.drew _, .inl rfl⟩, by
        simp only [Array.size_append, size_zeroCells, hzs, List.size_toArray, holds, h1]
        rw [← Nat.add_mul, ← Nat.add_mul]; congr 1; omega, by simpa using hge, hle, g5, RRow.of_append hrow⟩
    (fun _ => .inl ⟨xs, hn, by simp, fun he => by simp at he; exact (hne he).elim⟩)
  refine ⟨_, _, _, _, hgood0.trans hgood, ?_, hrun⟩
  have := R.rowLive (I := I) (L := fun k => if k = n then Loc.at w.heap.size (cap) else L k) (O := O.set n (.live el i.size (xs ++ (ysS sb)))) n (xs.length + (ysS sb).length) el i.size (xs ++ (ysS sb)) (by simp [hnlt]) (by simp)
  simpa using this
theorem apps_ran {t u ty el s by_ : Nat} {z : AV} (ht : P.underlying t = some (.slice el)) (hu : P.underlying u = some .string) (hel : cElem P el = some (s, by_, z)) {x : AV} {vx : Value} {sb : ByteArray}
    (hinv : Inv I L O w) (hx : R I L O x vx) (hs1 : s = 1) (hk : appK O x el s by_ (ysS sb) K) :
    ∃ x' O' y' I' L' w', K x' O' ∧ Good I L O w I' L' O' w' ∧ R I' L' O' x' y' ∧ (Builtin.append_ #[t, u] ty #[vx, .string sb]).run P w = .ok y' w' := by
  obtain ⟨i, z0, hi, hz, hz0, hsz, hby, hzl, h0, hzs, hst⟩ := cElem_inv hel
  subst hsz; subst hby
  have hlen0 : ysS sb = [] → sb.size = 0 := fun h => by have := ysS_len sb; rw [h] at this; simpa using this.symm
  cases x
  case nils =>
    obtain ⟨h48, hmx, hk0, hk1⟩ := hk
    cases hx
    by_cases hne : ysS sb = []
    · exact ⟨_, O, _, I, L, w, hk0 hne, .refl hinv, .nils, append_zero_s ht hu hi none 0 0 (Nat.le_refl _) (hlen0 hne) w⟩
    · obtain ⟨y', I', L', w', q1, q2, q3⟩ := apps_nil ht hu hi hz h0 hzs hinv hs1 hne h48 hmx
      exact ⟨_, _, y', I', L', w', hk1 hne, q1, q2, q3⟩
  case row n len =>
    cases hn : O[n]? with
    | none => simp only [appK, hn] at hk
    | some ob =>
      cases ob with
      | dead => simp only [appK, hn] at hk
      | own a => simp only [appK, hn] at hk
      | gho g => simp only [appK, hn] at hk
      | nil t' s' =>
        simp only [appK, hn] at hk
        obtain ⟨rfl, rfl, rfl, h48, hmx, hk0, hk1⟩ := hk
        obtain ⟨rfl, _⟩ := hx.row_nil hn
        by_cases hne : ysS sb = []
        · exact ⟨_, O, _, I, L, w, hk0 hne, .refl hinv, .rowNil n _ _ hn, append_zero_s ht hu hi none 0 0 (Nat.le_refl _) (hlen0 hne) w⟩
        · obtain ⟨y', I', L', w', q1, q2, q3⟩ := apps_first ht hu hi hz h0 hzs hinv hn hs1 hne h48 hmx
          exact ⟨_, _, y', I', L', w', hk1 hne, q1, q2, q3⟩
      | live t' s' xs =>
        simp only [appK, hn] at hk
        obtain ⟨rfl, rfl, hlen, h48, hmx, hk⟩ := hk
        have hv := hx.row_live hn hlen
        subst hv
        subst hlen
        have hnlt : n < O.length := (List.getElem?_eq_some_iff.1 hn).1
        by_cases hne : ysS sb = []
        · obtain ⟨cur, ⟨m0z, g1, hm0z⟩, g2, g3, g4, g5, g6⟩ := hinv.obj n _ _ xs hn
          have hO : O.set n (.live t' i.size (xs ++ ysS sb)) = O := by
            rw [hne, List.append_nil]; apply List.ext_getElem?; intro k; rw [set_get hnlt]; split
            · rename_i hk'; rw [hk', hn]
            · rfl
          rw [hO, hne] at hk
          exact ⟨_, O, _, I, L, w, hk, .refl hinv, by simpa using hx, append_zero_s ht hu hi _ xs.length _ g3 (hlen0 hne) w⟩
        · by_cases hroom : xs.length + (ysS sb).length ≤ (L n).cap
          · obtain ⟨y', I', L', w', q1, q2, q3⟩ := apps_room ht hu hi hinv hs1 hn hroom
            exact ⟨_, _, y', I', L', w', hk, q1, q2, q3⟩
          · obtain ⟨y', I', L', w', q1, q2, q3⟩ := apps_grow ht hu hi hz hzs hinv hs1 hn hne h48 hmx (by omega)
            exact ⟨_, _, y', I', L', w', hk, q1, q2, q3⟩
  all_goals exact hk.elim
theorem ran_s2b (hi : Inv I L O w) {ty s t el : TypeId} {pos : String} {af : Array Edge} {g : Option (Nat × Bool)} {d : Option Tmp} (hs : P.underlying s = some .string) (ht : P.underlying t = some (.slice el)) (hu : isU8 P el = true) (he : ∀ t, R I L O (e t) (a.tmps.getD t undef)) {x : Operand} {ax : Opd} (hx : cOpd x = some ax) (hk : wpOp P (.s2b el ax) e O K) :
    Ran P I L O w (execOp a.eval ⟨d, .convert s t x, ty, pos, af, g⟩) K := by
  have he8 : P.underlying el = some (.int .u8) := by
    unfold isU8 at hu
    split at hu
    · assumption
    · cases hu
  have rx := cOpd_sound hx he
  simp only [wpOp] at hk
  split at hk
  · rename_i sb hsb
    rw [hsb] at rx
    have hv := rx.exact
    obtain ⟨hmx, hk⟩ := hk
    have hrun := run_bytes_of_string (P := P) w s t el sb hs ht he8
    have hge := grownCap_ge w sb.size 0 el
    have hle := grownCap_le_maxLen w sb.size 0 el hmx
    generalize grownCap w sb.size 0 el = cap at *
    obtain ⟨h1, h3, h4⟩ := newsS_spec (I := I) (L := L) (O := O) (sb := sb) (s := 1) rfl
    have hgood := (Good.drawn hi (w.drawn + 1))
    have hsz : (bytesRow sb cap).size = cap * 1 := by
      have : sb.data.size = sb.size := rfl
      simp [bytesRow]; omega
    have hrow : RRow I L O 1 (ysS sb) (bytesRow sb cap) := by
      intro i y hy
      obtain ⟨q1, q2⟩ := h4 i y hy
      refine ⟨q1, fun j b hj => ?_⟩
      obtain ⟨u, hu1, hu2, hu3⟩ := q2 j b hj
      refine ⟨u, ?_, hu2, hu3⟩
      unfold bytesRow
      rw [Array.getElem?_append]
      have hlt := (Array.getElem?_eq_some_iff.1 hu1).1
      rw [newsS_arr] at hlt hu1
      rw [if_pos hlt]; exact hu1
    have hlen : (ysS sb).length = sb.size := ysS_len sb
    have hnew := hgood.inv.newM (e := el) (s := 1) (xs := ysS sb) (bytesRow sb cap) cap (m := ((bytesRow sb cap).size, (bytesRow sb cap).size + 1)) (.inr ⟨rfl, rfl⟩) hsz (by omega) hle (by omega) hrow
    refine ⟨_, _, _, _, _, _, hk, hgood.trans hnew, ?_, .inl (by simp only [execOp, hv]; rw [Sem.run_bind, hrun]; rfl)⟩
    have := R.rowLive (I := I) (L := fun k => if k = O.length then Loc.at w.heap.size (cap) else L k) (O := O ++ [.live el 1 (ysS sb)]) O.length (ysS sb).length el 1 (ysS sb) (by simp) rfl
    rw [hlen] at this
    rw [if_pos rfl] at this
    exact this
  · exact hk.elim
theorem ran_markS (hi : Inv I L O w) {ty t el : TypeId} {pos : String} {af : Array Edge} {g : Option (Nat × Bool)} {d : Option Tmp} (ht : P.underlying t = some (.slice el)) (hu : isU8 P el = true) (he : ∀ t, R I L O (e t) (a.tmps.getD t undef)) {x : Operand} {ax : Opd} (hx : cOpd x = some ax) (hk : wpOp P (.markS el ax) e O K) :
    Ran P I L O w (execOp a.eval ⟨d, .convert t t x, ty, pos, af, g⟩) K := by
  have he8 : P.underlying el = some (.int .u8) := by
    unfold isU8 at hu
    split at hu
    · assumption
    · cases hu
  have rx := cOpd_sound hx he
  simp only [wpOp] at hk
  split at hk
  · rename_i n len hn
    split at hk
    · rename_i t' s xs hO
      obtain ⟨rfl, rfl, rfl, hk⟩ := hk
      rw [hn] at rx
      have hv := rx.row_live hO rfl
      obtain ⟨c, ⟨m0z, g1, hm0z⟩, g2, g3, g4, g5, g6⟩ := hi.obj n _ _ xs hO
      have hlt := (Array.getElem?_eq_some_iff.1 g1).1
      have hnlt := (List.getElem?_eq_some_iff.1 hO).1
      have hshape : w.shape? (L n).blk = some (t', c.size) := by unfold World.shape?; rw [g1]
      have hheap : (w.freeze ⟨(L n).blk, c.size, none⟩ 1).heap = w.heap.setIfInBounds (L n).blk (.cells c t' (c.size, c.size + 1)) := by
        unfold World.freeze
        rw [if_neg (by decide)]
        apply Array.ext_getElem?
        intro i
        simp only [Array.getElem?_modify, Array.getElem?_setIfInBounds]
        by_cases h : (L n).blk = i
        · subst h
          rw [if_pos rfl, if_pos rfl, if_pos hlt, g1]
          simp only [Option.map_some]
          rcases hm0z with rfl | ⟨rfl, _⟩
          · simp
          · simp
        · rw [if_neg h, if_neg h]
      have hgood := hi.put (n := n) (l := L n) (e := t') (s := 1) (xs := xs) (O' := O) (w' := w.freeze ⟨(L n).blk, c.size, none⟩ 1)
        (fun k => by by_cases h : k = n
                     · subst h; rw [if_pos rfl, hO]
                     · rw [if_neg h]) (Nat.le_refl _) (fun b hb hne => by rw [hheap]; simp [Ne.symm hne]) (by unfold World.freeze; rw [if_neg (by decide)]) (by unfold World.freeze; rw [if_neg (by decide)]) (by unfold World.freeze; rw [if_neg (by decide)]) (by rw [hheap]; simp) (.inr ⟨_, _, _, hO, rfl⟩)
        ⟨c, ⟨_, by rw [hheap]; simp [hlt], .inr ⟨rfl, rfl⟩⟩, g2, g3, g4, g5, g6⟩ (fun _ => .inl ⟨xs, hO, Nat.le_refl _, fun _ => rfl⟩)
      have hL : (fun k => if k = n then L n else L k) = L := by
        funext k
        by_cases h : k = n
        · subst h; rw [if_pos rfl]
        · rw [if_neg h]
      rw [hL] at hgood
      have hrun : (convert t t (.slice (some ⟨(L n).blk, 0, none⟩) xs.length (L n).cap)).run P w = .ok (.slice (some ⟨(L n).blk, 0, none⟩) xs.length (L n).cap) (w.freeze ⟨(L n).blk, c.size, none⟩ 1) := by
        simp [convert, run_underlying ht, run_underlying he8, markStringish, hshape]
      refine ⟨_, _, _, _, _, _, hk, hgood, ?_, .inl (by simp only [execOp, hv]; rw [Sem.run_bind, hrun]; rfl)⟩
      exact R.rowLive (I := I) (L := L) (O := O) n xs.length t' 1 xs hO rfl
    · exact hk.elim
  · exact hk.elim
end
end Go.Ab
/-
  EACH OPERATION DOES WHAT ITS ABSTRACT ONE SAYS (1).
-/
namespace Go.Ab
section
variable {P : Program} {I : Imm} {L : Nat → Loc} {O : List AObj} {w : World} {K : AV → List AObj → Prop} {e : Env} {a : Act}
variable {d : Option Tmp} {ty : TypeId} {pos : String} {af : Array Edge} {g : Option (Nat × Bool)} {ao : AOp}
theorem ran_mov (hi : Inv I L O w) (he : ∀ t, R I L O (e t) (a.tmps.getD t undef)) {x : Operand} (hc : cOp1 P ty (.move x) = some ao) (hk : wpOp P ao e O K) :
    Ran P I L O w (execOp a.eval ⟨d, .move x, ty, pos, af, g⟩) K := by
  simp only [cOp1, Option.bind_eq_bind, Option.bind_eq_some_iff, Option.some.injEq] at hc
  obtain ⟨ax, hx, rfl⟩ := hc
  exact Ran.same hi hk (cOpd_sound hx he) rfl
theorem ran_assign (hi : Inv I L O w) (he : ∀ t, R I L O (e t) (a.tmps.getD t undef)) {x : Operand} (hc : cOp1 P ty (.assign x) = some ao) (hk : wpOp P ao e O K) :
    Ran P I L O w (execOp a.eval ⟨d, .assign x, ty, pos, af, g⟩) K := by
  simp only [cOp1, Option.bind_eq_bind, Option.bind_eq_some_iff, Option.some.injEq] at hc
  obtain ⟨ax, hx, rfl⟩ := hc
  exact Ran.same hi hk (cOpd_sound hx he) rfl
theorem ran_pick (hi : Inv I L O w) (he : ∀ t, R I L O (e t) (a.tmps.getD t undef)) {x y z : Operand} (hc : cOp1 P ty (.pick x y z) = some ao) (hk : wpOp P ao e O K) :
    Ran P I L O w (execOp a.eval ⟨d, .pick x y z, ty, pos, af, g⟩) K := by
  simp only [cOp1, Option.bind_eq_bind, Option.bind_eq_some_iff, Option.some.injEq] at hc
  obtain ⟨ax, hx, ay, hy, az, hz, rfl⟩ := hc
  have rx := cOpd_sound hx he
  simp only [wpOp] at hk
  split at hk
  · rename_i t ht
    rw [ht] at rx
    have := rx.bool
    refine Ran.same hi hk (y := if t = true then a.eval y else a.eval z) ?_ ?_
    · cases t
      · simpa using cOpd_sound hz he
      · simpa using cOpd_sound hy he
    · simp [execOp, this, asBool]
  · exact hk.elim
theorem ran_alloc (hi : Inv I L O w) {t : TypeId} (hc : cOp1 P ty (.alloc t) = some ao) (hk : wpOp P ao e O K) :
    Ran P I L O w (execOp a.eval ⟨d, .alloc t, ty, pos, af, g⟩) K := by
  simp only [cOp1, Option.bind_eq_bind, Option.bind_eq_some_iff, Option.some.injEq] at hc
  obtain ⟨⟨s, b, z⟩, hz, rfl⟩ := hc
  obtain ⟨i, z0, h1, h2, h3, rfl, rfl, h4, h5, h6, h7⟩ := cElem_inv hz
  obtain ⟨q1, q2⟩ := hi.box t (absV_sound (I := I) (L := L) (O := O) h3) h7 h4 h5
  exact ⟨_, _, _, _, _, _, hk, q1, q2, .inl (by simp [execOp, Instr.alloc, zeroValue, typeInfo, h1, h2, newVar, newRow])⟩
theorem ran_box (hi : Inv I L O w) (he : ∀ t, R I L O (e t) (a.tmps.getD t undef)) {t : TypeId} {x : Operand} (hc : cOp1 P ty (.box t x) = some ao) (hk : wpOp P ao e O K) :
    Ran P I L O w (execOp a.eval ⟨d, .box t x, ty, pos, af, g⟩) K := by
  simp only [cOp1, Option.bind_eq_bind, Option.bind_eq_some_iff] at hc
  obtain ⟨i, hi', hc⟩ := hc
  split at hc
  · rename_i hs
    simp only [Option.bind_eq_some_iff, Option.some.injEq] at hc
    obtain ⟨ax, hx, rfl⟩ := hc
    obtain ⟨h1, h2, h3⟩ := hk
    obtain ⟨q1, q2⟩ := hi.box t (cOpd_sound hx he) h2 h1 hs
    exact ⟨_, _, _, _, _, _, h3, q1, q2, .inl (by simp [execOp, Instr.box, newVar, newRow])⟩
  · cases hc
theorem ran_load (hi : Inv I L O w) (he : ∀ t, R I L O (e t) (a.tmps.getD t undef)) {t : TypeId} {x : Operand} (hc : cOp1 P ty (.load t x) = some ao) (hk : wpOp P ao e O K) :
    Ran P I L O w (execOp a.eval ⟨d, .load t x, ty, pos, af, g⟩) K := by
  simp only [cOp1, Option.bind_eq_bind, Option.bind_eq_some_iff, Option.some.injEq] at hc
  obtain ⟨n, hn, ax, hx, rfl⟩ := hc
  have rx := cOpd_sound hx he
  simp only [wpOp] at hk
  generalize ax.ev e = A at rx hk
  generalize hX : a.eval x = X at rx
  cases A
  case iptr y f =>
    obtain ⟨h1, h2⟩ := hk
    cases rx with
    | iptr _ _ blk base vals hv hr =>
      have hget : ∀ j, j < n.getD 1 → ∃ c, y.cells[f + j]? = some c := fun j hj => ⟨y.cells[f + j]'(by omega), by simp⟩
      have hrun := run_loadAt (P := P) (t := t) hn blk (base + f) (fun j => vals (f + j)) w (fun j hj => by
        obtain ⟨c, hc⟩ := hget j hj
        rw [Nat.add_assoc]; exact hi.imm _ _ _ (hv _ c hc).1)
      refine Ran.same hi h2 (loadC_sound (vals := fun j => vals (f + j)) h1 fun j c hj hlt => hr _ c hj) ?_
      simp only [execOp, hX]
      simp [hrun]
  case ptr k len i f =>
    cases hO : O[k]? with
    | none => simp only [hO] at hk
    | some ob =>
      cases ob with
      | dead => simp only [hO] at hk
      | own a => simp only [hO] at hk
      | gho g => simp only [hO] at hk
      | nil t' s' => simp only [hO] at hk
      | live t' s xs =>
        simp only [hO] at hk
        obtain ⟨hl, hlt, hf, hk⟩ := hk
        have := rx.ptr_live hO hl
        subst this
        obtain ⟨c, ⟨m0z, g1, hm0z⟩, g2, g3, g4, g5, g6⟩ := hi.obj k _ _ xs hO
        have hx' : xs[i]? = some (xs.getD i .top) := by simp [List.getD, show i < xs.length by omega]
        obtain ⟨g7, g8⟩ := g6 i _ hx'
        generalize xs.getD i .top = y at *
        have hex : ∀ j, ∃ u, j < n.getD 1 → c[i * s + (f + j)]? = some u ∧ ∀ c', y.cells[f + j]? = some c' → R I L O c' u := by
          intro j
          by_cases hj : j < n.getD 1
          · have hc' : y.cells[f + j]? = some (y.cells[f + j]'(by omega)) := by simp
            obtain ⟨u, hu, _, hr⟩ := g8 (f + j) _ hc'
            exact ⟨u, fun _ => ⟨hu, fun c'' h'' => by rw [hc'] at h''; cases h''; exact hr⟩⟩
          · exact ⟨undef, fun h => (hj h).elim⟩
        let vals : Nat → Value := fun j => (hex j).choose
        have hvals : ∀ j, j < n.getD 1 → c[i * s + (f + j)]? = some (vals j) ∧ ∀ c', y.cells[f + j]? = some c' → R I L O c' (vals j) := fun j hj => (hex j).choose_spec hj
        have hrun := run_loadAt (P := P) (t := t) hn (L k).blk (i * s + f) vals w (fun j hj => by
          rw [cell_cells g1, Nat.add_assoc]; exact (hvals j hj).1)
        refine Ran.same hi hk (loadC_sound (vals := vals) hf fun j c' hj hlt' => (hvals j hlt').2 c' hj) ?_
        simp only [execOp, hX]
        simp [hrun]
  all_goals exact hk.elim
theorem upd_cells {x y : AV} {f : Nat} (hf : f + y.cells.length ≤ x.cells.length) (j : Nat) :
    (upd x f y).cells.length = x.cells.length ∧ (upd x f y).cells[j]? = if f ≤ j ∧ j < f + y.cells.length then y.cells[j - f]? else x.cells[j]? := by
  unfold upd
  split
  · rename_i h
    obtain ⟨rfl, hl⟩ := h
    refine ⟨hl, ?_⟩
    split
    · simp
    · rename_i hn
      rw [List.getElem?_eq_none (by omega), List.getElem?_eq_none (by omega)]
  · generalize hxs : x.cells = xs at *
    generalize hys : y.cells = ys at *
    show (xs.take f ++ ys ++ xs.drop (f + ys.length)).length = xs.length ∧ (xs.take f ++ ys ++ xs.drop (f + ys.length))[j]? = _
    refine ⟨by simp; omega, ?_⟩
    split
    · rename_i h
      rw [List.append_assoc, List.getElem?_append_right (by simp; omega), List.getElem?_append_left (by simp; omega)]
      congr 1; simp; omega
    · rename_i h
      by_cases hlt : j < f
      · rw [List.append_assoc, List.getElem?_append_left (by simp; omega), List.getElem?_take, if_pos hlt]
      · rw [List.getElem?_append_right (by simp; omega), List.getElem?_drop]
        congr 1; simp; omega
theorem ran_store (hi : Inv I L O w) (he : ∀ t, R I L O (e t) (a.tmps.getD t undef)) {t : TypeId} {x y : Operand} (hc : cOp1 P ty (.store t x y) = some ao) (hk : wpOp P ao e O K) :
    Ran P I L O w (execOp a.eval ⟨d, .store t x y, ty, pos, af, g⟩) K := by
  simp only [cOp1, Option.bind_eq_bind, Option.bind_eq_some_iff, Option.some.injEq] at hc
  obtain ⟨inf, hinf, ax, hx, ay, hy, rfl⟩ := hc
  have rx := cOpd_sound hx he
  have ry := cOpd_sound hy he
  simp only [wpOp] at hk
  generalize ax.ev e = A at rx hk
  generalize ay.ev e = B at ry hk
  generalize hX : a.eval x = X at rx
  generalize hY : a.eval y = Y at ry
  cases A
  case ptr k len i f =>
    cases hO : O[k]? with
    | none => simp only [hO] at hk
    | some ob =>
      cases ob with
      | dead => simp only [hO] at hk
      | own a => simp only [hO] at hk
      | gho g => simp only [hO] at hk
      | nil t' s' => simp only [hO] at hk
      | live t' s xs =>
        simp only [hO] at hk
        obtain ⟨hl, hlt, hm, hst, hf, hk⟩ := hk
        have := rx.ptr_live hO hl
        subst this
        obtain ⟨c, ⟨m0z, g1, hm0z⟩, g2, g3, g4, g5, g6⟩ := hi.obj k _ _ xs hO
        have hklt : k < O.length := (List.getElem?_eq_some_iff.1 hO).1
        have hx' : xs[i]? = some (xs.getD i .top) := by simp [List.getD, show i < xs.length by omega]
        obtain ⟨g7, g8⟩ := g6 i _ hx'
        obtain ⟨r1, r2⟩ := ry.cellsOne hst
        have hone := ry.allOne hst
        have hYl : Y.cells.toList.length = B.cells.length := by simp [r1]
        have hrow := idx_lt (s := s) (show i < xs.length by omega) (show s - 1 < s by omega)
        have hcap : xs.length * s ≤ c.size := by rw [g2]; exact Nat.mul_le_mul_right _ g3
        have hfit : i * s + f + 0 + Y.cells.toList.length ≤ c.size := by omega
        have hrun := run_storeCells_m (P := P) (L k).blk (i * s + f) s t' m0z Y.cells.toList 0 c w g1 hm0z hfit hone
        have hc2 : ∀ j : Nat, ((c.toList.take (i * s + f + 0) ++ Y.cells.toList ++ c.toList.drop (i * s + f + 0 + Y.cells.toList.length)).toArray)[j]? = if i * s + f ≤ j ∧ j < i * s + f + B.cells.length then Y.cells[j - (i * s + f)]? else c[j]? := by
          intro j
          simp only [List.getElem?_toArray, Nat.add_zero]
          split
          · rename_i h
            rw [List.append_assoc, List.getElem?_append_right (by simp; omega), List.getElem?_append_left (by simp; omega), Array.getElem?_toList]
            congr 1; simp; omega
          · rename_i h
            by_cases hlt' : j < i * s + f
            · rw [List.append_assoc, List.getElem?_append_left (by simp; omega), List.getElem?_take, if_pos hlt', Array.getElem?_toList]
            · rw [List.getElem?_append_right (by simp; omega), List.getElem?_drop, Array.getElem?_toList]
              congr 1; simp; omega
        generalize hC2 : (c.toList.take (i * s + f + 0) ++ Y.cells.toList ++ c.toList.drop (i * s + f + 0 + Y.cells.toList.length)).toArray = c2 at *
        have hc2s : c2.size = c.size := by rw [← hC2]; simp; omega
        have hgood := hi.put (n := k) (l := L k) (e := t') (s := s) (xs := xs.set i (upd (xs.getD i .top) f B)) (O' := O.set k (.live t' s (xs.set i (upd (xs.getD i .top) f B)))) (w' := w.setRow (L k).blk c2)
          (set_get hklt _) (by simp) (fun b' _ hb' => setRow_other w _ _ _ hb') rfl rfl rfl (by simp) (.inr ⟨_, _, _, hO, rfl⟩)
          ⟨c2, ⟨_, setRow_heap w _ c _ _ _ g1, hm0z.size hc2s⟩, by rw [hc2s, g2], by simpa using g3, g4, g5, by
            intro i' z hz
            rw [List.getElem?_set] at hz
            by_cases hii : i = i'
            · subst hii
              rw [if_pos rfl, if_pos (by omega)] at hz
              cases hz
              refine ⟨by rw [(upd_cells (by omega) 0).1, g7], fun j q hj => ?_⟩
              rw [(upd_cells (by omega) j).2] at hj
              by_cases hj' : f ≤ j ∧ j < f + B.cells.length
              · rw [if_pos hj'] at hj
                obtain ⟨u, hu, ho, hr⟩ := r2 _ q hj
                refine ⟨u, ?_, ho, hr⟩
                rw [hc2, if_pos (by omega), ← hu]; congr 1; omega
              · rw [if_neg hj'] at hj
                obtain ⟨u, hu, ho, hr⟩ := g8 j q hj
                refine ⟨u, ?_, ho, hr⟩
                rw [hc2, if_neg (by omega), hu]
            · rw [if_neg hii] at hz
              obtain ⟨q1, q2⟩ := g6 i' z hz
              refine ⟨q1, fun j q hj => ?_⟩
              obtain ⟨u, hu, ho, hr⟩ := q2 j q hj
              have hjs : j < s := by rw [← q1]; exact (List.getElem?_eq_some_iff.1 hj).1
              refine ⟨u, ?_, ho, hr⟩
              have hne := idx_ne (i := i') (i' := i) hjs (fun h => hii h.symm)
              rw [hc2, if_neg (by omega), hu]⟩
          (fun _ => .inl ⟨xs, hO, by simp, fun _ => rfl⟩)
        refine ⟨_, _, undef, _, _, _, hk, hgood, .top _, .inr ⟨?_, rfl⟩⟩
        have hsz : Y.cells.size = inf.size := by omega
        simp only [execOp, hX, hY]
        simp [Instr.storeAt, Instr.sureAddr, storeVar, sizeOf, typeInfo, hinf, hsz, hrun]
  all_goals exact hk.elim
end
end Go.Ab
/-
  MAPS AND ITERATORS: a new one, and one that changes.
-/
namespace Go.Ab
theorem Inv.putGho {I : Imm} {L : Nat → Loc} {O O' : List AObj} {w w' : World} {n : Nat} {l : Loc} {g : Gho} (h : Inv I L O w)
    (hO : ∀ k : Nat, O'[k]? = if k = n then some (.gho g) else O[k]?) (hlen : O.length ≤ O'.length)
    (hw : ∀ b, b < w.heap.size → b ≠ l.blk → w'.heap[b]? = w.heap[b]?)
    (hos : w'.os = w.os) (htape : w'.tape = w.tape) (hout : w'.output = w.output) (hsize : w.heap.size ≤ w'.heap.size)
    (hl : (O.length ≤ n ∧ w.heap.size ≤ l.blk) ∨ ∃ g0, O[n]? = some (.gho g0) ∧ g0.isMp = g.isMp ∧ l.blk = (L n).blk)
    (hok : Ext I L O I (fun k => if k = n then l else L k) O' → GhoOk I (fun k => if k = n then l else L k) O' w' l g) :
    Good I L O w I (fun k => if k = n then l else L k) O' w' := by
  have hext : Ext I L O I (fun k => if k = n then l else L k) O' := by
    refine ⟨fun _ _ _ h => h, hlen, fun k hk e' s' xs' hx => ?_, fun k hk e' s' hx => ?_, fun k hk a hx => ?_, fun k hk a hx => ?_⟩
    · rw [hO] at hx
      by_cases hkn : k = n
      · rw [if_pos hkn] at hx; cases hx
      · rw [if_neg hkn] at hx
        exact .inl ⟨xs', hx, Nat.le_refl _, fun _ => by simp [hkn]⟩
    · rw [hO] at hx
      by_cases hkn : k = n
      · rw [if_pos hkn] at hx; cases hx
      · rwa [if_neg hkn] at hx
    · rw [hO] at hx
      by_cases hkn : k = n
      · rw [if_pos hkn] at hx; cases hx
      · rw [if_neg hkn] at hx
        exact ⟨⟨a, hx⟩, by simp only [if_neg hkn]⟩
    · rw [hO] at hx
      by_cases hkn : k = n
      · subst hkn
        rw [if_pos rfl] at hx
        cases hx
        rcases hl with ⟨h1, _⟩ | ⟨g0, h1, h2, h3⟩
        · omega
        · exact ⟨⟨g0, h1, h2⟩, by simp only [if_true]; exact h3⟩
      · rw [if_neg hkn] at hx
        exact ⟨⟨a, hx, rfl⟩, by simp only [if_neg hkn]⟩
  -- the block is no cells
  have hnc : ∀ b, (b < w.heap.size ∧ ∃ c e z, w.heap[b]? = some (.cells c e z)) → w'.heap[b]? = w.heap[b]? := by
    rintro b ⟨hb, c, e, z, hc⟩
    refine hw b hb fun he => ?_
    rcases hl with ⟨_, h1⟩ | ⟨g0, h1, _, h3⟩
    · omega
    · exact (h.gh.ok n g0 h1).no.2 c e z (by rw [← h3, ← he]; exact hc)
  have hcell : ∀ {b o : Nat} {x : Value}, w.cell? ⟨b, o, none⟩ = some x → w'.heap[b]? = w.heap[b]? := by
    intro b o x hx
    refine hnc b ⟨cell_block hx, ?_⟩
    unfold World.cell? at hx
    split at hx
    · rename_i c e f hh; exact ⟨c, e, f, hh⟩
    · cases hx
  have hlv : ∀ {k e s : Nat} {xs : List AV}, O[k]? = some (.live e s xs) → w'.heap[(L k).blk]? = w.heap[(L k).blk]? := by
    intro k e s xs hk
    obtain ⟨c, ⟨m0z, h1, hm0z⟩, _⟩ := h.obj k e s xs hk
    exact hnc _ ⟨(Array.getElem?_eq_some_iff.1 h1).1, c, e, m0z, h1⟩
  have old : ∀ {k : Nat} {ob : AObj}, O'[k]? = some ob → (∀ g', ob ≠ .gho g') → O[k]? = some ob ∧ k ≠ n := by
    intro k ob hk hne
    rw [hO] at hk
    by_cases hkn : k = n
    · rw [if_pos hkn] at hk; cases hk; exact (hne g rfl).elim
    · rw [if_neg hkn] at hk; exact ⟨hk, hkn⟩
  have hfx : ∀ b, b < w.heap.size → ¬ LB L O b → w'.heap[b]? = w.heap[b]? := fun b hb hn => by
    refine hw b hb fun he => ?_
    rcases hl with ⟨_, h1⟩ | ⟨g0, h1, _, h3⟩
    · omega
    · exact hn (.inr (.inr ⟨n, g0, h1, by rw [← h3, he]⟩))
  have how : Own I (fun k => if k = n then l else L k) O' w' := by
    refine ⟨fun k a hk => ?_, fun k a hk b o v hv => ?_, fun k a hk b o v hv o' => ?_, fun k a hk b o v hv m e' s' xs' hm hb => ?_, fun k m a c hk hm b o o' v v' hv hv' => ?_, fun k a hk => ?_⟩
    · obtain ⟨h1, h2⟩ := old hk (by simp)
      simp only [if_neg h2]; exact h.ow.tree k a h1
    · obtain ⟨h1, h2⟩ := old hk (by simp)
      simp only [if_neg h2] at hv
      have h3 := h.ow.cell k a h1 b o v hv
      rw [← h3]
      exact World.cell?_of_block (a := ⟨b, o, none⟩) (hcell h3)
    · obtain ⟨h1, h2⟩ := old hk (by simp)
      simp only [if_neg h2] at hv
      exact h.ow.imm k a h1 b o v hv o'
    · obtain ⟨h1, h2⟩ := old hk (by simp)
      obtain ⟨h3, h4⟩ := old hm (by simp)
      simp only [if_neg h2] at hv
      simp only [if_neg h4] at hb
      exact h.ow.live k a h1 b o v hv m _ _ _ h3 hb
    · obtain ⟨h1, h2⟩ := old hk (by simp)
      obtain ⟨h3, h4⟩ := old hm (by simp)
      simp only [if_neg h2] at hv
      simp only [if_neg h4] at hv'
      exact h.ow.sep k m a c h1 h3 b o o' v v' hv hv'
    · obtain ⟨h1, h2⟩ := old hk (by simp)
      simp only [if_neg h2]
      obtain ⟨S, p1, p2⟩ := h.ow.deep k a h1
      refine ⟨S, p1.congr fun b hb => ?_, p2⟩
      obtain ⟨o, v, hv⟩ := (p2 b).1 hb
      exact hcell (h.ow.cell k a h1 b o v hv)
  have hgh : Gh I (fun k => if k = n then l else L k) O' w' := by
    have blk : ∀ {k : Nat} {g' : Gho}, k ≠ n → O[k]? = some (.gho g') → (L k).blk ≠ l.blk := by
      intro k g' hkn hk he
      rcases hl with ⟨_, h1⟩ | ⟨g0, h1, _, h3⟩
      · have := (h.gh.ok k g' hk).no.1; omega
      · exact hkn (h.gh.sep k n _ _ hk h1 (he.trans h3))
    refine ⟨fun k g' hk => ?_, fun k m g' g'' hk hm hb => ?_⟩
    · rw [hO] at hk
      by_cases hkn : k = n
      · subst hkn
        rw [if_pos rfl] at hk
        cases hk
        simp only [if_true]
        exact hok hext
      · rw [if_neg hkn] at hk
        simp only [if_neg hkn]
        exact (h.gh.ok k g' hk).mono rfl (fun _ _ hr => hr.mono hext) (hw _ (h.gh.ok k g' hk).no.1 (blk hkn hk))
    · rw [hO] at hk hm
      by_cases hkn : k = n <;> by_cases hmn : m = n
      · omega
      · subst hkn
        simp only [if_true, if_neg hmn] at hb hm
        exact (blk hmn hm hb.symm).elim
      · subst hmn
        simp only [if_true, if_neg hkn] at hb hk
        exact (blk hkn hk hb).elim
      · simp only [if_neg hkn, if_neg hmn] at hb hk hm
        exact h.gh.sep k m _ _ hk hm hb
  refine ⟨⟨fun b o x hx => ?_, fun k e' s' xs' hk => ?_, fun k m e1 s1 xs1 e2 s2 xs2 hk hm hb => ?_, fun k e1 s1 xs1 o hk => ?_, h.fix, h.blk_frm hfx (fun _ _ _ h => h), how, hgh⟩, hext, ⟨hos, htape, hout, hsize, hfx⟩, ?_, fun _ _ _ h => .inl h⟩
  · have h1 := h.imm b o x hx
    rw [← h1]
    exact World.cell?_of_block (a := ⟨b, o, none⟩) (hcell h1)
  · obtain ⟨h1, h2⟩ := old hk (by simp)
    simp only [if_neg h2]
    exact (h.obj k e' s' xs' h1).congr (hlv h1) fun a x => R.mono hext
  · obtain ⟨h1, h2⟩ := old hk (by simp)
    obtain ⟨h3, h4⟩ := old hm (by simp)
    simp only [if_neg h2, if_neg h4] at hb
    exact h.sep k m _ _ _ _ _ _ h1 h3 hb
  · obtain ⟨h1, h2⟩ := old hk (by simp)
    simp only [if_neg h2]
    exact h.immSep k _ _ _ o h1
  · rintro b (⟨k, e', s', xs', hk, hb⟩ | ⟨k, a, o, v, hk, hb⟩ | ⟨k, g', hk, hb⟩)
    · obtain ⟨h1, h2⟩ := old hk (by simp)
      simp only [if_neg h2] at hb
      exact .inl (.inl ⟨k, _, _, _, h1, hb⟩)
    · obtain ⟨h1, h2⟩ := old hk (by simp)
      simp only [if_neg h2] at hb
      exact .inl (.inr (.inl ⟨k, a, o, v, h1, hb⟩))
    · rw [hO] at hk
      by_cases hkn : k = n
      · subst hkn
        simp only [if_true] at hb
        rcases hl with ⟨_, h1⟩ | ⟨g0, h1, _, h3⟩
        · exact .inr (by omega)
        · exact .inl (.inr (.inr ⟨k, g0, h1, by rw [← h3, hb]⟩))
      · rw [if_neg hkn] at hk
        simp only [if_neg hkn] at hb
        exact .inl (.inr (.inr ⟨k, g', hk, hb⟩))
/- THE INSTRUCTIONS, run -/
theorem mkmap_run {P : Program} {w : World} (t : TypeId) : (Instr.makeMap t none).run P w = .ok (.map (some w.heap.size)) (w.alloc (.map #[] 0)) := by
  simp [Instr.makeMap, newObj, Sem.run, Result.andThen]
theorem strit_run {P : Program} {w : World} {t : TypeId} (h : P.underlying t = some .string) (s : ByteArray) : (Instr.range t (.string s)).run P w = .ok (.pointer (some ⟨w.heap.size, 0, none⟩)) (w.alloc (.stringIter s 0)) := by
  simp [Instr.range, underlying, h, newObj, Sem.run, Result.andThen]
theorem snext_run {P : Program} {w : World} {r pos : Nat} {s : ByteArray} (h : w.heap[r]? = some (.stringIter s pos)) (t : TypeId) :
    (Instr.next (.pointer (some ⟨r, 0, none⟩)) true t).run P w = if pos < s.size then .ok (.tuple #[.bool true, goInt pos, .int .i32 (Utf8.decode s pos).1]) { w with heap := w.heap.set! r (.stringIter s (pos + (Utf8.decode s pos).2)) } else .ok (.tuple #[.bool false]) w := by
  by_cases hp : pos < s.size <;> simp [Instr.next, getObj, setObj, h, hp, Sem.run, Result.andThen]
theorem keyB_iff {d : TypeDesc} {a b : Value} (ha : MapKept.IsKey d a) (hb : MapKept.IsKey d b) : keyB a b = true ↔ a = b := by
  cases d <;> cases a <;> cases b <;> simp_all [MapKept.IsKey, keyB]
theorem findNow_mfind {I : Imm} {L : Nat → Loc} {O : List AObj} {d : TypeDesc} {k : Value} (hk : MapKept.IsKey d k) : ∀ (es : List (AV × AV)) (l : List MapEntry) (i : Nat), l.length = es.length →
    (∀ (j : Nat) a v, es[j]? = some (a, v) → ∃ e, l[j]? = some e ∧ R I L O a e.key ∧ R I L O v e.val) → (∀ p ∈ es, ∃ k', p.1 = .v k' ∧ MapKept.IsKey d k') →
    match mfind k es i with
    | none => Instr.findNow d k l i = some none
    | some (j, v) => ∃ x, Instr.findNow d k l i = some (some (j, x)) ∧ R I L O v x
  | [], l, i, hl, _, _ => by
    obtain rfl := List.eq_nil_of_length_eq_zero hl
    rfl
  | (a, v) :: es, l, i, hl, hr, hkey => by
    cases l with
    | nil => simp at hl
    | cons e l =>
      obtain ⟨k', h1, h2⟩ := hkey (a, v) (by simp)
      simp only at h1
      subst h1
      obtain ⟨e', h3, h4, h5⟩ := hr 0 (.v k') v rfl
      simp at h3
      subst h3
      have h6 : e.key = k' := by cases h4; rfl
      obtain ⟨r, hs, hiff⟩ := MapKept.sameNow_of_keys hk (show MapKept.IsKey d e.key by rw [h6]; exact h2)
      rw [h6] at hiff
      by_cases hq : k = k'
      · have hb : keyB k k' = true := (keyB_iff hk h2).2 hq
        have : r = true := hiff.2 hq
        subst this
        simp only [mfind, hb, if_true]
        exact ⟨e.val, by simp [Instr.findNow, hs], h5⟩
      · have hb : ¬ keyB k k' = true := fun h => hq ((keyB_iff hk h2).1 h)
        have : r = false := by
          cases r with
          | false => rfl
          | true => exact (hq (hiff.1 rfl)).elim
        subst this
        have ih := findNow_mfind hk es l (i + 1) (by simpa using hl) (fun j a v hj => by simpa using hr (j + 1) a v (by simpa using hj)) fun p hp => hkey p (by simp [hp])
        simp only [mfind, if_neg hb]
        have hf : Instr.findNow d k (e :: l) i = Instr.findNow d k l (i + 1) := by simp [Instr.findNow, hs]
        rw [hf]
        exact ih
section
variable {P : Program} {w : World} {mty kt et : TypeId} {d : TypeDesc} {r clock : Nat} {en : Array MapEntry} {k : Value}
theorem lookup_none (hm : P.underlying mty = some (.map kt et)) (hd : P.underlying kt = some d) (hb : w.heap[r]? = some (.map en clock)) (hk : MapKept.IsKey d k) {z : Value} (hz : (zeroValue et).run P w = .ok z w)
    (hf : Instr.findNow d k en.toList 0 = some none) (ok : Bool) : (Instr.lookup mty (.map (some r)) k ok).run P w = .ok (if ok then .tuple #[z, .bool false] else z) w := by
  cases ok <;> simp [Instr.lookup, run_underlying hm, MapKept.run_getObj_map hb, MapKept.run_checkKey hd hk, MapKept.run_findKey hd hf, hz, Result.andThen]
theorem lookup_some (hm : P.underlying mty = some (.map kt et)) (hd : P.underlying kt = some d) (hb : w.heap[r]? = some (.map en clock)) (hk : MapKept.IsKey d k) {j : Nat} {v : Value}
    (hf : Instr.findNow d k en.toList 0 = some (some (j, v))) (ok : Bool) : (Instr.lookup mty (.map (some r)) k ok).run P w = .ok (if ok then .tuple #[v, .bool true] else v) w := by
  cases ok <;> simp [Instr.lookup, run_underlying hm, MapKept.run_getObj_map hb, MapKept.run_checkKey hd hk, MapKept.run_findKey hd hf, Result.andThen]
theorem update_none (hm : P.underlying mty = some (.map kt et)) (hd : P.underlying kt = some d) (hb : w.heap[r]? = some (.map en clock)) (hk : MapKept.IsKey d k) (v : Value)
    (hf : Instr.findNow d k en.toList 0 = some none) : (Instr.mapUpdate mty (.map (some r)) k v).run P w = .ok () { w with heap := w.heap.setIfInBounds r (.map (en.push { key := k, val := v, born := clock }) (clock + 1)) } := by
  simp [Instr.mapUpdate, run_underlying hm, MapKept.run_getObj_map hb, MapKept.run_checkKey hd hk, MapKept.run_findKey hd hf, MapKept.run_setObj_map _ hb, Result.andThen]
theorem update_some (hm : P.underlying mty = some (.map kt et)) (hd : P.underlying kt = some d) (hb : w.heap[r]? = some (.map en clock)) (hk : MapKept.IsKey d k) (v : Value) {j : Nat} {e : MapEntry} {u : Value}
    (hf : Instr.findNow d k en.toList 0 = some (some (j, u))) (he : en[j]? = some e) (hek : e.key = k) :
    (Instr.mapUpdate mty (.map (some r)) k v).run P w = .ok () { w with heap := w.heap.setIfInBounds r (.map (en.modify j fun e => { e with key := k, val := v }) clock) } := by
  simp [Instr.mapUpdate, run_underlying hm, MapKept.run_getObj_map hb, MapKept.run_checkKey hd hk, MapKept.run_findKey hd hf, he, hek, MapKept.run_keyThatStays hk, MapKept.run_setObj_map _ hb, Result.andThen]
end
end Go.Ab
/-
  THE OPERATIONS ON MAPS are sound.
-/
namespace Go.Ab
section
variable {P : Program} {I : Imm} {L : Nat → Loc} {O : List AObj} {w : World} {K : AV → List AObj → Prop} {e : Env} {a : Act}
variable {d : Option Tmp} {ty : TypeId} {pos : String} {af : Array Edge} {g : Option (Nat × Bool)} {ao : AOp}
theorem R.own_gho {n : Nat} {x : Value} {q : Gho} (h : R I L O (.own n) x) (hO : O[n]? = some (.gho q)) : x = q.val (L n).blk := by
  cases h with
  | ownLive _ b h1 => rw [hO] at h1; cases h1
  | ownGho _ q' h1 => rw [hO] at h1; cases h1; rfl
  | ownDead _ _ _ _ h1 => exact (h1 _ hO).elim
theorem KD.key {u : TypeDesc} {c : KD} (h : KD.of u = some c) {k : Value} (hk : c.ok k = true) : MapKept.IsKey u k := by
  cases u <;> simp [KD.of] at h <;> subst h <;> cases k <;> simp_all [KD.ok, MapKept.IsKey]
theorem KD.keys {u : TypeDesc} {c : KD} (h : KD.of u = some c) {es : List (AV × AV)} (hk : c.all es = true) : ∀ p ∈ es, ∃ k', p.1 = .v k' ∧ MapKept.IsKey u k' := by
  intro p hp
  have := List.all_eq_true.1 hk p hp
  split at this
  · rename_i k hq; exact ⟨k, hq, KD.key h this⟩
  · cases this
theorem mfind_at {k : Value} : ∀ (es : List (AV × AV)) (i j : Nat) (v : AV), mfind k es i = some (j, v) → ∃ q k', j = i + q ∧ es[q]? = some (.v k', v) ∧ keyB k k' = true
  | [], _, _, _, h => by simp [mfind] at h
  | (p, u) :: es, i, j, v, h => by
    have step : mfind k es (i + 1) = some (j, v) → ∃ q k', j = i + q ∧ ((p, u) :: es)[q]? = some (.v k', v) ∧ keyB k k' = true := fun h => by
      obtain ⟨q, k', h1, h2, h3⟩ := mfind_at es (i + 1) j v h
      exact ⟨q + 1, k', by omega, by simpa using h2, h3⟩
    unfold mfind at h
    split at h
    · rename_i heq; simp at heq
    · rename_i k' v' es' heq
      cases heq
      split at h
      · rename_i hq
        cases h
        exact ⟨0, k', by omega, rfl, hq⟩
      · exact step h
    · rename_i heq
      cases heq
      exact step h
theorem ran_mkmap (hi : Inv I L O w) {t : TypeId} {r : Option Operand} (hc : cOp1 P ty (.makeMap t r) = some ao) (hk : wpOp P ao e O K) : Ran P I L O w (execOp a.eval ⟨d, .makeMap t r, ty, pos, af, g⟩) K := by
  cases r with
  | some _ => simp [cOp1] at hc
  | none =>
    simp only [cOp1, Option.some.injEq] at hc
    subst hc
    have hg := hi.putGho (O' := O ++ [.gho (.mp [])]) (w' := w.alloc (.map #[] 0)) (n := O.length) (l := Loc.at w.heap.size 0) (g := .mp [])
      (fun k => by
        by_cases h : k = O.length
        · subst h; simp
        · rw [if_neg h]
          by_cases hl : k < O.length
          · exact List.getElem?_append_left hl
          · rw [List.getElem?_eq_none (l := O ++ [AObj.gho (Gho.mp [])]) (by simp; omega), List.getElem?_eq_none (by omega)])
      (by simp) (fun b hb _ => (MapKept.heap_alloc w _).2 b hb) rfl rfl rfl (by simp) (.inl ⟨Nat.le_refl _, Nat.le_refl _⟩) (fun _ => ⟨#[], 0, (MapKept.heap_alloc w _).1, rfl, by simp⟩)
    have hr := R.ownGho (I := I) (L := fun k => if k = O.length then Loc.at w.heap.size 0 else L k) (O := O ++ [.gho (.mp [])]) O.length (.mp []) (by simp)
    refine ⟨_, _, _, _, _, _, hk, hg, hr, .inl ?_⟩
    simp [execOp, mkmap_run, Gho.val, Gho.isMp, Result.andThen]
theorem keyBox_inv {i : Nat} (h : keyBox O i = true) : ∃ t s x, O[i]? = some (.live t s [x]) ∧ s ≠ 1 := by
  unfold keyBox at h
  split at h
  · rename_i t s x hO
    exact ⟨t, s, x, hO, by simpa using h⟩
  · cases h
theorem key_val {i : Nat} {v : Value} (h : keyBox O i = true) (hr : R I L O (.ptr i 1 0 0) v) : v = .pointer (some ⟨(L i).blk, 0, none⟩) := by
  obtain ⟨t, s, x, hO, _⟩ := keyBox_inv h
  have := hr.ptr_live hO rfl
  simpa using this
theorem key_same (hi : Inv I L O w) {i j : Nat} (h : keyBox O i = true) (k : keyBox O j = true) : (sameAddr ⟨(L i).blk, 0, none⟩ ⟨(L j).blk, 0, none⟩).run P w = .ok (decide (i = j)) w := by
  obtain ⟨t, s, x, hO, hs⟩ := keyBox_inv h
  obtain ⟨t', s', x', hO', hs'⟩ := keyBox_inv k
  by_cases hij : i = j
  · subst hij
    rw [run_sameAddr_same]; simp
  · obtain ⟨c, ⟨m, h1, hm⟩, _⟩ := hi.obj i _ _ _ hO
    obtain ⟨c', ⟨m', h1', hm'⟩, _⟩ := hi.obj j _ _ _ hO'
    have e1 : m = (0, 0) := by rcases hm with h | h; exact h; exact (hs h.2).elim
    have e2 : m' = (0, 0) := by rcases hm' with h | h; exact h; exact (hs' h.2).elim
    subst e1; subst e2
    rw [run_sameAddr_other w (fun h => hij (hi.sep i j _ _ _ _ _ _ hO hO' (by simpa using h))) h1 h1']
    simp [hij]
theorem isBox_inv {t : TypeId} (h : isBox P t = true) : ∃ el i, P.underlying t = some (.pointer el) ∧ P.info? el = some i ∧ i.size ≠ 0 := by
  unfold isBox at h
  split at h
  · rename_i el ht
    split at h
    · rename_i i hi
      exact ⟨el, i, ht, hi, by have : 0 < i.size := by simpa using h
                               omega⟩
    · cases h
  · cases h
theorem ptr_equal {t el : TypeId} {i : TypeInfo} (ht : P.underlying t = some (.pointer el)) (hel : P.info? el = some i) (hs : i.size ≠ 0) {x y : Addr} {b : Bool} (h : (sameAddr x y).run P w = .ok b w) :
    (Op.equal t (.pointer (some x)) (.pointer (some y))).run P w = .ok b w := by
  have e1 : Op.equal t (.pointer (some x)) (.pointer (some y)) = Op.equalIn (9999 + 1) t (.pointer (some x)) (.pointer (some y)) := rfl
  rw [e1, Op.equalIn]
  simp [run_underlying ht, sizeOf, typeInfo, hel, hs, h]
theorem ask_pfind (hi : Inv I L O w) {kt el : TypeId} {inf : TypeInfo} (ht : P.underlying kt = some (.pointer el)) (hel : P.info? el = some inf) (hs : inf.size ≠ 0) {j : Nat} (hj : keyBox O j = true) : ∀ (es : List (AV × AV)) (l : List MapEntry) (i : Nat), l.length = es.length →
    (∀ (j : Nat) a v, es[j]? = some (a, v) → ∃ e, l[j]? = some e ∧ R I L O a e.key ∧ R I L O v e.val) → keyPtrs O es = true →
    match pfind j es i with
    | none => (Instr.findAsking kt (.pointer (some ⟨(L j).blk, 0, none⟩)) l i).run P w = .ok none w
    | some (q, v) => ∃ x, (Instr.findAsking kt (.pointer (some ⟨(L j).blk, 0, none⟩)) l i).run P w = .ok (some (q, x)) w ∧ R I L O v x
  | [], l, i, hl, _, _ => by
    obtain rfl := List.eq_nil_of_length_eq_zero hl
    simp [pfind, Instr.findAsking]
  | (a, v) :: es, l, i, hl, hr, hk => by
    cases l with
    | nil => simp at hl
    | cons e l =>
      obtain ⟨e', h3, h4, h5⟩ := hr 0 a v rfl
      simp at h3
      subst h3
      simp only [keyPtrs, List.all_cons, Bool.and_eq_true] at hk
      obtain ⟨hk1, hk2⟩ := hk
      split at hk1
      · rename_i k
        have hv := key_val hk1 h4
        have hq := ptr_equal (P := P) (w := w) ht hel hs (key_same (P := P) hi hj hk1)
        by_cases hjk : j = k
        · subst hjk
          simp only [pfind, if_true]
          refine ⟨e.val, ?_, h5⟩
          unfold Instr.findAsking
          simp [hv, hq]
        · have ih := ask_pfind hi ht hel hs hj es l (i + 1) (by simpa using hl) (fun q a v hq => by simpa using hr (q + 1) a v (by simpa using hq)) hk2
          simp only [pfind, if_neg hjk]
          have hf : (Instr.findAsking kt (.pointer (some ⟨(L j).blk, 0, none⟩)) (e :: l) i).run P w = (Instr.findAsking kt (.pointer (some ⟨(L j).blk, 0, none⟩)) l (i + 1)).run P w := by
            conv => lhs; unfold Instr.findAsking
            simp [hv, hq, hjk]
          rw [hf]
          exact ih
      · cases hk1
theorem run_findKey_ptr {kt el : TypeId} (ht : P.underlying kt = some (.pointer el)) (k : Value) (l : List MapEntry) : (Instr.findKey kt k l).run P w = (Instr.findAsking kt k l 0).run P w := by
  cases l with
  | nil => simp [Instr.findKey, Instr.findAsking, run_underlying ht, Instr.findNow]
  | cons e l => simp [Instr.findKey, run_underlying ht, Instr.findNow, Instr.sameNow]
theorem run_checkKey_ptr {kt el : TypeId} (ht : P.underlying kt = some (.pointer el)) (a : Option Addr) (e : Bool) : (Instr.checkKey e 10000 kt (.pointer a)).run P w = .ok () w := by
  show (Instr.checkKey e (9999 + 1) kt (.pointer a)).run P w = _
  unfold Instr.checkKey
  simp [run_underlying ht]
theorem pfind_at {k : Nat} : ∀ (es : List (AV × AV)) (i j : Nat) (v : AV), pfind k es i = some (j, v) → ∃ q l m f, j = i + q ∧ es[q]? = some (.ptr k l m f, v)
  | [], _, _, _, h => by simp [pfind] at h
  | (p, u) :: es, i, j, v, h => by
    have step : pfind k es (i + 1) = some (j, v) → ∃ q l m f, j = i + q ∧ ((p, u) :: es)[q]? = some (.ptr k l m f, v) := fun h => by
      obtain ⟨q, l, m, f, h1, h2⟩ := pfind_at es (i + 1) j v h
      exact ⟨q + 1, l, m, f, by omega, by simpa using h2⟩
    unfold pfind at h
    split at h
    · rename_i heq; simp at heq
    · rename_i k' _ _ _ v' es' heq
      cases heq
      split at h
      · rename_i hq
        subst hq
        cases h
        exact ⟨0, _, _, _, by omega, rfl⟩
      · exact step h
    · rename_i heq
      cases heq
      exact step h
theorem keyPtrs_at {es : List (AV × AV)} (h : keyPtrs O es = true) {q : Nat} {p v : AV} (hq : es[q]? = some (p, v)) : ∃ k, p = .ptr k 1 0 0 ∧ keyBox O k = true := by
  have := List.all_eq_true.1 h _ (List.mem_of_getElem? hq)
  simp only at this
  split at this
  · exact ⟨_, rfl, this⟩
  · cases this
/-- an entry is put into a map: the memory goes on well -/
theorem map_good (hi : Inv I L O w) {n : Nat} {es : List (AV × AV)} {en : Array MapEntry} {clock : Nat} (hO : O[n]? = some (.gho (.mp es))) (b1 : w.heap[(L n).blk]? = some (.map en clock))
    (es' : List (AV × AV)) (en' : Array MapEntry) (clock' : Nat) (h1 : en'.size = es'.length) (h2 : ∀ (i : Nat) p q, es'[i]? = some (p, q) → ∃ e, en'[i]? = some e ∧ R I L O p e.key ∧ R I L O q e.val) :
    Good I L O w I (fun k => if k = n then L n else L k) (O.set n (.gho (.mp es'))) { w with heap := w.heap.setIfInBounds (L n).blk (.map en' clock') } := by
  have hn := (List.getElem?_eq_some_iff.1 hO).1
  exact hi.putGho (n := n) (l := L n) (g := .mp es') (fun k => by
      by_cases h : k = n
      · subst h; rw [if_pos rfl]; exact List.getElem?_set_self hn
      · rw [if_neg h]; exact List.getElem?_set_ne fun q => h q.symm)
    (by simp) (fun b _ hne => (MapKept.heap_set b1).2 b hne) rfl rfl rfl (by simp) (.inr ⟨_, hO, rfl, rfl⟩)
    (fun hext => ⟨en', clock', (MapKept.heap_set b1).1, h1, fun i p q hx => by
      obtain ⟨e, h3, h4, h5⟩ := h2 i p q hx
      exact ⟨e, h3, h4.mono hext, h5.mono hext⟩⟩)
theorem ran_pget (hi : Inv I L O w) (he : ∀ t, R I L O (e t) (a.tmps.getD t undef)) {t kt et : TypeId} (ht : P.underlying t = some (.map kt et)) (hbx : isBox P kt = true) {m k : Operand} {ok : Bool} {s b : Nat} {z : AV} (hz : cElem P et = some (s, b, z)) {am ak : Opd} (hm : cOpd m = some am) (hkk : cOpd k = some ak)
    (hk : wpOp P (.pget ok z am ak) e O K) : Ran P I L O w (execOp a.eval ⟨d, .lookup t m k ok, ty, pos, af, g⟩) K := by
  obtain ⟨el, inf, hpt, hel, hsz⟩ := isBox_inv hbx
  obtain ⟨i, z0, h1, h2, h3, rfl, rfl, h4, h5, h6, h7⟩ := cElem_inv hz
  have rm := cOpd_sound hm he
  have rk := cOpd_sound hkk he
  simp only [wpOp] at hk
  split at hk
  · rename_i n j qm qk
    split at hk
    · rename_i es hO
      obtain ⟨k1, k2, k3⟩ := hk
      rw [qm] at rm
      rw [qk] at rk
      have em := rm.own_gho hO
      have ek := key_val k1 rk
      obtain ⟨en, clock, b1, b2, b3⟩ := hi.gh.ok n _ hO
      have hfm := ask_pfind (P := P) hi hpt hel hsz k1 es en.toList 0 (by simpa using b2) (fun j p v hj => by simpa using b3 j p v hj) k2
      have hzr : (zeroValue et).run P w = .ok z0 w := by simp [zeroValue, typeInfo, h1, h2]
      cases hq : pfind j es 0 with
      | none =>
        rw [hq] at hfm k3
        have rz : R I L O z z0 := absV_sound h3
        have hrun : (Instr.lookup t (.map (some (L n).blk)) (.pointer (some ⟨(L j).blk, 0, none⟩)) ok).run P w = .ok (if ok then .tuple #[z0, .bool false] else z0) w := by
          cases ok <;> simp [Instr.lookup, run_underlying ht, MapKept.run_getObj_map b1, run_checkKey_ptr hpt, run_findKey_ptr hpt, hfm, hzr, Result.andThen]
        cases ok with
        | false => exact .same hi k3 rz (by simp [execOp, em, ek, Gho.val, Gho.isMp, hrun, Result.andThen])
        | true =>
          refine .same hi k3 (y := .tuple #[z0, .bool false]) (.tup _ _ rfl fun j c x hc hx => ?_) (by simp [execOp, em, ek, Gho.val, Gho.isMp, hrun, Result.andThen])
          rcases j with _ | _ | j <;> simp at hc hx <;> subst hc <;> subst hx
          · exact rz
          · exact .v _ rfl
      | some p =>
        obtain ⟨q, v⟩ := p
        rw [hq] at hfm k3
        obtain ⟨x, hf, rx⟩ := hfm
        have hrun : (Instr.lookup t (.map (some (L n).blk)) (.pointer (some ⟨(L j).blk, 0, none⟩)) ok).run P w = .ok (if ok then .tuple #[x, .bool true] else x) w := by
          cases ok <;> simp [Instr.lookup, run_underlying ht, MapKept.run_getObj_map b1, run_checkKey_ptr hpt, run_findKey_ptr hpt, hf, Result.andThen]
        cases ok with
        | false => exact .same hi k3 rx (by simp [execOp, em, ek, Gho.val, Gho.isMp, hrun, Result.andThen])
        | true =>
          refine .same hi k3 (y := .tuple #[x, .bool true]) (.tup _ _ rfl fun j c x hc hx => ?_) (by simp [execOp, em, ek, Gho.val, Gho.isMp, hrun, Result.andThen])
          rcases j with _ | _ | j <;> simp at hc hx <;> subst hc <;> subst hx
          · exact rx
          · exact .v _ rfl
    · exact hk.elim
  · exact hk.elim
theorem ran_pset (hi : Inv I L O w) (he : ∀ t, R I L O (e t) (a.tmps.getD t undef)) {t kt et : TypeId} (ht : P.underlying t = some (.map kt et)) (hbx : isBox P kt = true) {m k v : Operand} {am ak av : Opd} (hm : cOpd m = some am) (hkk : cOpd k = some ak) (hv : cOpd v = some av)
    (hk : wpOp P (.pset am ak av) e O K) : Ran P I L O w (execOp a.eval ⟨d, .mapUpdate t m k v, ty, pos, af, g⟩) K := by
  obtain ⟨el, inf, hpt, hel, hsz⟩ := isBox_inv hbx
  have rm := cOpd_sound hm he
  have rk := cOpd_sound hkk he
  have rv := cOpd_sound hv he
  simp only [wpOp] at hk
  split at hk
  · rename_i n j qm qk
    split at hk
    · rename_i es hO
      obtain ⟨k1, k2, k3⟩ := hk
      rw [qm] at rm
      rw [qk] at rk
      have em := rm.own_gho hO
      have ek := key_val k1 rk
      rw [ek] at rk
      obtain ⟨en, clock, b1, b2, b3⟩ := hi.gh.ok n _ hO
      have hfm := ask_pfind (P := P) hi hpt hel hsz k1 es en.toList 0 (by simpa using b2) (fun j p v hj => by simpa using b3 j p v hj) k2
      cases hq : pfind j es 0 with
      | none =>
        rw [hq] at hfm
        have hms : Go.Ab.pset j (av.ev e) es = es ++ [(.ptr j 1 0 0, av.ev e)] := by unfold Go.Ab.pset; rw [hq]
        rw [hms] at k3
        have hrun : (Instr.mapUpdate t (.map (some (L n).blk)) (.pointer (some ⟨(L j).blk, 0, none⟩)) (a.eval v)).run P w = .ok () { w with heap := w.heap.setIfInBounds (L n).blk (.map (en.push { key := .pointer (some ⟨(L j).blk, 0, none⟩), val := a.eval v, born := clock }) (clock + 1)) } := by
          simp [Instr.mapUpdate, run_underlying ht, MapKept.run_getObj_map b1, run_checkKey_ptr hpt, run_findKey_ptr hpt, hfm, MapKept.run_setObj_map _ b1, Result.andThen]
        refine ⟨_, _, undef, _, _, _, k3, map_good hi hO b1 _ (en.push ⟨.pointer (some ⟨(L j).blk, 0, none⟩), a.eval v, clock⟩) (clock + 1) (by simp [b2]) (fun i p q hx => ?_), .tup _ _ rfl (by simp), .inr ⟨?_, rfl⟩⟩
        rotate_left
        · simp [execOp, em, ek, Gho.val, Gho.isMp, hrun, Result.andThen]
        · by_cases hi' : i < es.length
          · rw [List.getElem?_append_left hi'] at hx
            obtain ⟨e', h3, h4, h5⟩ := b3 i p q hx
            exact ⟨e', by rw [Array.getElem?_push]; rw [if_neg (by omega)]; exact h3, h4, h5⟩
          · rw [List.getElem?_append_right (by omega)] at hx
            cases hz : i - es.length with
            | succ z => rw [hz] at hx; simp at hx
            | zero =>
              rw [hz] at hx
              simp at hx
              obtain ⟨rfl, rfl⟩ := hx
              exact ⟨⟨.pointer (some ⟨(L j).blk, 0, none⟩), a.eval v, clock⟩, by rw [Array.getElem?_push]; rw [if_pos (by omega)], rk, rv⟩
      | some p =>
        obtain ⟨q, u0⟩ := p
        rw [hq] at hfm
        obtain ⟨x0, hf, _⟩ := hfm
        obtain ⟨q0, l0, m0, f0, hj, hes⟩ := pfind_at es 0 q u0 hq
        obtain rfl : q = q0 := by omega
        obtain ⟨kk, hkk1, hkk2⟩ := keyPtrs_at k2 hes
        cases hkk1
        obtain ⟨e0, h3, h4, _⟩ := b3 q _ _ hes
        have hke : e0.key = .pointer (some ⟨(L j).blk, 0, none⟩) := key_val hkk2 h4
        have hms : Go.Ab.pset j (av.ev e) es = es.set q (.ptr j 1 0 0, av.ev e) := by unfold Go.Ab.pset; rw [hq]
        rw [hms] at k3
        have hstay : (Instr.keyThatStays (.pointer (some ⟨(L j).blk, 0, none⟩)) (.pointer (some ⟨(L j).blk, 0, none⟩))).run P w = .ok (.pointer (some ⟨(L j).blk, 0, none⟩)) w := by
          simp [Instr.keyThatStays, Instr.sameBits]
        have hrun : (Instr.mapUpdate t (.map (some (L n).blk)) (.pointer (some ⟨(L j).blk, 0, none⟩)) (a.eval v)).run P w = .ok () { w with heap := w.heap.setIfInBounds (L n).blk (.map (en.modify q fun e => { e with key := .pointer (some ⟨(L j).blk, 0, none⟩), val := a.eval v }) clock) } := by
          simp [Instr.mapUpdate, run_underlying ht, MapKept.run_getObj_map b1, run_checkKey_ptr hpt, run_findKey_ptr hpt, hf, h3, hke, hstay, MapKept.run_setObj_map _ b1, Result.andThen]
        refine ⟨_, _, undef, _, _, _, k3, map_good hi hO b1 _ (en.modify q fun e => { e with key := .pointer (some ⟨(L j).blk, 0, none⟩), val := a.eval v }) clock (by simp [b2]) (fun i p q' hx => ?_), .tup _ _ rfl (by simp), .inr ⟨?_, rfl⟩⟩
        rotate_left
        · simp [execOp, em, ek, Gho.val, Gho.isMp, hrun, Result.andThen]
        · by_cases hij : i = q
          · subst hij
            have hlt := (List.getElem?_eq_some_iff.1 hes).1
            rw [List.getElem?_set_self hlt] at hx
            cases hx
            exact ⟨{ e0 with key := .pointer (some ⟨(L j).blk, 0, none⟩), val := a.eval v }, by rw [Array.getElem?_modify]; simp [h3], rk, rv⟩
          · rw [List.getElem?_set_ne (fun q => hij q.symm)] at hx
            obtain ⟨e', h3', h4', h5'⟩ := b3 i p q' hx
            exact ⟨e', by rw [Array.getElem?_modify]; simp [h3', Ne.symm hij], h4', h5'⟩
    · exact hk.elim
  · exact hk.elim
/- STRINGS -/
theorem ran_strit (hi : Inv I L O w) (he : ∀ t, R I L O (e t) (a.tmps.getD t undef)) {t : TypeId} {x : Operand} (hc : cOp1 P ty (.range t x) = some ao) (hk : wpOp P ao e O K) : Ran P I L O w (execOp a.eval ⟨d, .range t x, ty, pos, af, g⟩) K := by
  simp only [cOp1] at hc
  split at hc
  · rename_i ht
    simp only [Option.bind_eq_bind, Option.bind_eq_some_iff, Option.some.injEq] at hc
    obtain ⟨ax, hx, rfl⟩ := hc
    have rx := cOpd_sound hx he
    simp only [wpOp] at hk
    split at hk
    · rename_i s hs
      rw [hs] at rx
      have hv := rx.exact
      have hg := hi.putGho (O' := O ++ [.gho (.it s 0)]) (w' := w.alloc (.stringIter s 0)) (n := O.length) (l := Loc.at w.heap.size 0) (g := .it s 0)
        (fun k => by
          by_cases h : k = O.length
          · subst h; rw [if_pos rfl]; simp
          · rw [if_neg h]
            by_cases h2 : k < O.length
            · rw [List.getElem?_append_left h2]
            · rw [List.getElem?_eq_none (by simp; omega), List.getElem?_eq_none (by omega)])
        (by simp) (fun b hb _ => heap_alloc_old w _ b hb) rfl rfl rfl (by rw [World.size_alloc]; exact Nat.le_succ _) (.inl ⟨Nat.le_refl _, Nat.le_refl _⟩)
        (fun _ => by
          show (w.alloc (.stringIter s 0)).heap[(Loc.at w.heap.size 0).blk]? = _
          exact heap_alloc_new w _)
      refine ⟨_, _, .pointer (some ⟨w.heap.size, 0, none⟩), _, _, _, hk, hg, ?_, .inl ?_⟩
      · have := R.ownGho (I := I) (L := fun k => if k = O.length then Loc.at w.heap.size 0 else L k) (O := O ++ [.gho (.it s 0)]) O.length (.it s 0) (by simp)
        simpa [Gho.val, Gho.isMp, Loc.at] using this
      · have hrun := strit_run (P := P) (w := w) ht s
        simp only [execOp, hv]
        rw [Sem.run_bind, hrun]; rfl
    · exact hk.elim
  · cases hc
theorem ran_snext (hi : Inv I L O w) (he : ∀ t, R I L O (e t) (a.tmps.getD t undef)) {x : Operand} {is : Bool} (hc : cOp1 P ty (.next x is) = some ao) (hk : wpOp P ao e O K) : Ran P I L O w (execOp a.eval ⟨d, .next x is, ty, pos, af, g⟩) K := by
  cases is with
  | false => simp [cOp1] at hc
  | true =>
    simp only [cOp1, Option.bind_eq_bind, Option.bind_eq_some_iff, Option.some.injEq] at hc
    obtain ⟨ax, hx, rfl⟩ := hc
    have rx := cOpd_sound hx he
    simp only [wpOp] at hk
    split at hk
    · rename_i n hn
      split at hk
      · rename_i s pos' hO
        rw [hn] at rx
        have hv := rx.own_gho hO
        have hb : w.heap[(L n).blk]? = some (.stringIter s pos') := hi.gh.ok n _ hO
        have hnl := (List.getElem?_eq_some_iff.1 hO).1
        have hrun := snext_run (P := P) hb ty
        by_cases hp : pos' < s.size
        · rw [if_pos hp] at hrun
          have hbl := (Array.getElem?_eq_some_iff.1 hb).1
          have hg := hi.putGho (n := n) (l := L n) (g := .it s (pos' + (Utf8.decode s pos').2)) (O' := O.set n (.gho (.it s (pos' + (Utf8.decode s pos').2)))) (w' := { w with heap := w.heap.set! (L n).blk (.stringIter s (pos' + (Utf8.decode s pos').2)) })
            (fun k => by
              by_cases h : k = n
              · subst h; rw [if_pos rfl]; exact List.getElem?_set_self hnl
              · rw [if_neg h]; exact List.getElem?_set_ne fun q => h q.symm)
            (by simp) (fun b _ hne => by simp [Array.set!, Ne.symm hne]) rfl rfl rfl (by simp) (.inr ⟨_, hO, rfl, rfl⟩)
            (fun _ => by
              show ((w.heap.set! (L n).blk _))[(L n).blk]? = _
              simp [hbl])
          refine ⟨_, _, .tuple #[.bool true, goInt pos', .int .i32 (Utf8.decode s pos').1], _, _, _, hk.1 hp, hg, ?_, .inl ?_⟩
          · refine .tup _ _ rfl fun j c x hc hx => ?_
            rcases j with _ | _ | _ | j <;> simp at hc hx <;> subst hc <;> subst hx <;> exact .v _ rfl
          · simp only [execOp, hv, Gho.val, Gho.isMp]
            simp at hrun ⊢
            rw [hrun]; rfl
        · rw [if_neg hp] at hrun
          refine .same hi (hk.2 hp) (y := .tuple #[.bool false]) (.tup _ _ rfl fun j c x hc hx => ?_) ?_
          · rcases j with _ | j <;> simp at hc hx <;> subst hc <;> subst hx <;> exact .v _ rfl
          · simp only [execOp, hv, Gho.val, Gho.isMp]
            simp at hrun ⊢
            rw [hrun]; rfl
      · exact hk.elim
    · exact hk.elim
theorem ran_mget (hi : Inv I L O w) (he : ∀ t, R I L O (e t) (a.tmps.getD t undef)) {t : TypeId} {m k : Operand} {ok : Bool} (hc : cOp1 P ty (.lookup t m k ok) = some ao) (hk : wpOp P ao e O K) : Ran P I L O w (execOp a.eval ⟨d, .lookup t m k ok, ty, pos, af, g⟩) K := by
  simp only [cOp1] at hc
  split at hc
  · rename_i kt et ht
    split at hc
    · rename_i hbx
      simp only [Option.bind_eq_bind, Option.bind_eq_some_iff, Option.some.injEq] at hc
      obtain ⟨⟨s, b, z⟩, hz, am, hm, ak, hkk, rfl⟩ := hc
      exact ran_pget hi he ht hbx hz hm hkk hk
    simp only [Option.bind_eq_bind, Option.bind_eq_some_iff, Option.some.injEq] at hc
    obtain ⟨u, hu, c, hcd, ⟨s, b, z⟩, hz, am, hm, ak, hkk, rfl⟩ := hc
    obtain ⟨i, z0, h1, h2, h3, rfl, rfl, h4, h5, h6, h7⟩ := cElem_inv hz
    have rm := cOpd_sound hm he
    have rk := cOpd_sound hkk he
    simp only [wpOp] at hk
    split at hk
    · rename_i n kv qm qk
      split at hk
      · rename_i es hO
        obtain ⟨k1, k2, k3⟩ := hk
        rw [qm] at rm
        rw [qk] at rk
        have em := rm.own_gho hO
        have ek : a.eval k = kv := by cases rk; rfl
        obtain ⟨en, clock, b1, b2, b3⟩ := hi.gh.ok n _ hO
        have hkey := KD.key hcd k1
        have hfm := findNow_mfind (I := I) (L := L) (O := O) hkey es en.toList 0 (by simpa using b2) (fun j p v hj => by simpa using b3 j p v hj) (KD.keys hcd k2)
        have hzr : (zeroValue et).run P w = .ok z0 w := by simp [zeroValue, typeInfo, h1, h2]
        cases hq : mfind kv es 0 with
        | none =>
          rw [hq] at hfm k3
          have hrun := lookup_none ht hu b1 hkey hzr hfm ok
          have rz : R I L O z z0 := absV_sound h3
          cases ok with
          | false => exact .same hi k3 rz (by simp [execOp, em, ek, Gho.val, Gho.isMp, hrun, Result.andThen])
          | true =>
            refine .same hi k3 (y := .tuple #[z0, .bool false]) (.tup _ _ rfl fun j c x hc hx => ?_) (by simp [execOp, em, ek, Gho.val, Gho.isMp, hrun, Result.andThen])
            rcases j with _ | _ | j <;> simp at hc hx <;> subst hc <;> subst hx
            · exact rz
            · exact .v _ rfl
        | some p =>
          obtain ⟨j, v⟩ := p
          rw [hq] at hfm k3
          obtain ⟨x, hf, rx⟩ := hfm
          have hrun := lookup_some ht hu b1 hkey hf ok
          cases ok with
          | false => exact .same hi k3 rx (by simp [execOp, em, ek, Gho.val, Gho.isMp, hrun, Result.andThen])
          | true =>
            refine .same hi k3 (y := .tuple #[x, .bool true]) (.tup _ _ rfl fun j c x hc hx => ?_) (by simp [execOp, em, ek, Gho.val, Gho.isMp, hrun, Result.andThen])
            rcases j with _ | _ | j <;> simp at hc hx <;> subst hc <;> subst hx
            · exact rx
            · exact .v _ rfl
      · exact hk.elim
    · exact hk.elim
  · cases hc
theorem ran_mset (hi : Inv I L O w) (he : ∀ t, R I L O (e t) (a.tmps.getD t undef)) {t : TypeId} {m k v : Operand} (hc : cOp1 P ty (.mapUpdate t m k v) = some ao) (hk : wpOp P ao e O K) : Ran P I L O w (execOp a.eval ⟨d, .mapUpdate t m k v, ty, pos, af, g⟩) K := by
  simp only [cOp1] at hc
  split at hc
  · rename_i kt et ht
    split at hc
    · rename_i hbx
      simp only [Option.bind_eq_bind, Option.bind_eq_some_iff, Option.some.injEq] at hc
      obtain ⟨am, hm, ak, hkk, av, hv, rfl⟩ := hc
      exact ran_pset hi he ht hbx hm hkk hv hk
    simp only [Option.bind_eq_bind, Option.bind_eq_some_iff, Option.some.injEq] at hc
    obtain ⟨u, hu, c, hcd, am, hm, ak, hkk, av, hv, rfl⟩ := hc
    have rm := cOpd_sound hm he
    have rk := cOpd_sound hkk he
    have rv := cOpd_sound hv he
    simp only [wpOp] at hk
    split at hk
    · rename_i n kv qm qk
      split at hk
      · rename_i es hO
        obtain ⟨k1, k2, k3⟩ := hk
        rw [qm] at rm
        rw [qk] at rk
        have em := rm.own_gho hO
        have ek : a.eval k = kv := by cases rk; rfl
        rw [ek] at rk
        obtain ⟨en, clock, b1, b2, b3⟩ := hi.gh.ok n _ hO
        have hn := (List.getElem?_eq_some_iff.1 hO).1
        have hkey := KD.key hcd k1
        have hfm := findNow_mfind (I := I) (L := L) (O := O) hkey es en.toList 0 (by simpa using b2) (fun j p v hj => by simpa using b3 j p v hj) (KD.keys hcd k2)
        have good : ∀ (es' : List (AV × AV)) (en' : Array MapEntry) (clock' : Nat), en'.size = es'.length → (∀ (i : Nat) p q, es'[i]? = some (p, q) → ∃ e, en'[i]? = some e ∧ R I L O p e.key ∧ R I L O q e.val) →
            Good I L O w I (fun k => if k = n then L n else L k) (O.set n (.gho (.mp es'))) { w with heap := w.heap.setIfInBounds (L n).blk (.map en' clock') } := fun es' en' clock' h1 h2 =>
          hi.putGho (n := n) (l := L n) (g := .mp es') (fun k => by
              by_cases h : k = n
              · subst h; rw [if_pos rfl]; exact List.getElem?_set_self hn
              · rw [if_neg h]; exact List.getElem?_set_ne fun q => h q.symm)
            (by simp) (fun b _ hne => (MapKept.heap_set b1).2 b hne) rfl rfl rfl (by simp) (.inr ⟨_, hO, rfl, rfl⟩)
            (fun hext => ⟨en', clock', (MapKept.heap_set b1).1, h1, fun i p q hx => by
              obtain ⟨e, h3, h4, h5⟩ := h2 i p q hx
              exact ⟨e, h3, h4.mono hext, h5.mono hext⟩⟩)
        cases hq : mfind kv es 0 with
        | none =>
          rw [hq] at hfm
          have hms : Go.Ab.mset kv (av.ev e) es = es ++ [(.v kv, av.ev e)] := by unfold Go.Ab.mset; rw [hq]
          rw [hms] at k3
          have hrun := update_none ht hu b1 hkey (a.eval v) hfm
          refine ⟨_, _, undef, _, _, _, k3, good _ (en.push ⟨kv, a.eval v, clock⟩) (clock + 1) (by simp [b2]) (fun i p q hx => ?_), .tup _ _ rfl (by simp), .inr ⟨?_, rfl⟩⟩
          rotate_left
          · simp [execOp, em, ek, Gho.val, Gho.isMp, hrun, Result.andThen]
          · by_cases hi' : i < es.length
            · rw [List.getElem?_append_left hi'] at hx
              obtain ⟨e', h3, h4, h5⟩ := b3 i p q hx
              exact ⟨e', by rw [Array.getElem?_push]; rw [if_neg (by omega)]; exact h3, h4, h5⟩
            · rw [List.getElem?_append_right (by omega)] at hx
              cases hz : i - es.length with
              | succ z => rw [hz] at hx; simp at hx
              | zero =>
                rw [hz] at hx
                simp at hx
                obtain ⟨rfl, rfl⟩ := hx
                exact ⟨⟨kv, a.eval v, clock⟩, by rw [Array.getElem?_push]; rw [if_pos (by omega)], rk, rv⟩
        | some p =>
          obtain ⟨j, u0⟩ := p
          rw [hq] at hfm
          obtain ⟨x0, hf, _⟩ := hfm
          obtain ⟨q0, k', hj, hes, hkb⟩ := mfind_at es 0 j u0 hq
          obtain rfl : j = q0 := by omega
          obtain ⟨e0, h3, h4, _⟩ := b3 j _ _ hes
          have hkk' : MapKept.IsKey u k' := by
            obtain ⟨k'', h7, h8⟩ := KD.keys hcd k2 _ (List.mem_of_getElem? hes)
            cases h7; exact h8
          have hke : e0.key = kv := by
            have : e0.key = k' := by cases h4; rfl
            rw [this]; exact ((keyB_iff hkey hkk').1 hkb).symm
          have hms : Go.Ab.mset kv (av.ev e) es = es.set j (.v kv, av.ev e) := by unfold Go.Ab.mset; rw [hq]
          rw [hms] at k3
          have hrun := update_some ht hu b1 hkey (a.eval v) hf h3 hke
          refine ⟨_, _, undef, _, _, _, k3, good _ (en.modify j fun e => { e with key := kv, val := a.eval v }) clock (by simp [b2]) (fun i p q hx => ?_), .tup _ _ rfl (by simp), .inr ⟨?_, rfl⟩⟩
          rotate_left
          · simp [execOp, em, ek, Gho.val, Gho.isMp, hrun, Result.andThen]
          · by_cases hij : i = j
            · subst hij
              have hlt := (List.getElem?_eq_some_iff.1 hes).1
              rw [List.getElem?_set_self hlt] at hx
              cases hx
              exact ⟨{ e0 with key := kv, val := a.eval v }, by rw [Array.getElem?_modify]; simp [h3], rk, rv⟩
            · rw [List.getElem?_set_ne (fun q => hij q.symm)] at hx
              obtain ⟨e', h3', h4', h5'⟩ := b3 i p q hx
              exact ⟨e', by rw [Array.getElem?_modify]; simp [h3', Ne.symm hij], h4', h5'⟩
      · exact hk.elim
    · exact hk.elim
  · cases hc
theorem ran_insert (hi : Inv I L O w) (he : ∀ t, R I L O (e t) (a.tmps.getD t undef)) {t : TypeId} {m k v : Operand} (hc : cOp1 P ty (.insert t m k v) = some ao) (hk : wpOp P ao e O K) : Ran P I L O w (execOp a.eval ⟨d, .insert t m k v, ty, pos, af, g⟩) K :=
  ran_mset (d := d) (ty := ty) (pos := pos) (af := af) (g := g) hi he (t := t) (m := m) (k := k) (v := v) hc hk
end
end Go.Ab
