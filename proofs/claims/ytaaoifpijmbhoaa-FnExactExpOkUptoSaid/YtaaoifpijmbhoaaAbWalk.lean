/-
  THE RULES BY WHICH A WALK GOES ON: operands first, then the operation; what comes behind it is not looked at till then.
-/
import Derived.Test.YtaaoifpijmbhoaaAbEnv
import Derived.Laws.Strings
set_option linter.unusedVariables false
set_option linter.unusedSimpArgs false
set_option linter.defProp false
namespace Go.Ab

theorem data_toList (a : ByteArray) : a.toList = a.data.toList := ByteArray.toList_eq a

abbrev KT := AV → List AObj → Prop

def k1 (a : AV) (O : List AObj) (K : KT) : Prop := K a O
theorem k1_eq (a : AV) (O : List AObj) (K : KT) : k1 a O K = K a O := nr rfl

def pickK (c a b : AV) (O : List AObj) (K : KT) : Prop := match c with
  | .v (.bool t) => K (if t then a else b) O
  | _ => False
theorem pickK_true (a b : AV) (O : List AObj) (K : KT) : pickK (.v (.bool true)) a b O K = k1 a O K := nr rfl
theorem pickK_false (a b : AV) (O : List AObj) (K : KT) : pickK (.v (.bool false)) a b O K = k1 b O K := nr rfl
theorem pickK_bool (t x y : Bool) (O : List AObj) (K : KT) : pickK (.v (.bool t)) (.v (.bool x)) (.v (.bool y)) O K = k1 (.v (.bool (if t = true then x else y))) O K := by cases t <;> rfl

def boxK (t s : Nat) (a : AV) (O : List AObj) (K : KT) : Prop := a.cells.length = s ∧ a.storable = true ∧ K (.ptr O.length 1 0 0) (O ++ [.live t s [a]])
theorem boxK_eq (t s : Nat) (a : AV) (O : List AObj) (K : KT) : boxK t s a O K = (a.cells.length = s ∧ a.storable = true ∧ k1 (.ptr O.length 1 0 0) (O ++ [.live t s [a]]) K) := nr rfl

def bldK (z : List AV) (ps : List (Nat × Nat × AV)) (O : List AObj) (K : KT) : Prop := match ps with
  | [] => K (.agg z) O
  | (off, size, x) :: r => x.cells.length = size ∧ (x.isCell || x.isAgg) = true ∧ off + size ≤ z.length ∧ bldK (z.take off ++ x.cells ++ z.drop (off + size)) r O K
theorem bldK_nil (z : List AV) (O : List AObj) (K : KT) : bldK z [] O K = k1 (.agg z) O K := by simp [bldK, k1]
theorem bldK_cons (z : List AV) (off size : Nat) (x : AV) (r : List (Nat × Nat × AV)) (O : List AObj) (K : KT) :
    bldK z ((off, size, x) :: r) O K = (x.cells.length = size ∧ (x.isCell || x.isAgg) = true ∧ off + size ≤ z.length ∧ bldK (z.take off ++ x.cells ++ z.drop (off + size)) r O K) := by rw [bldK]
theorem buildK_bld {e : Env} {O : List AObj} {K : KT} : ∀ (ps : List (Nat × Nat × Opd)) (z : List AV), buildK e z ps (fun a => K a O) = bldK z (ps.map fun p => (p.1, p.2.1, p.2.2.ev e)) O K
  | [], z => by simp [buildK, bldK]
  | (off, size, x) :: r, z => by simp only [buildK, List.map_cons, bldK, buildK_bld r]

def bslK (t s : Nat) (len : Nat) (xs : List AV) (ps : List (Nat × AV)) (O : List AObj) (K : KT) : Prop := match ps with
  | [] => K (.row O.length len) (O ++ [.live t s xs])
  | (i, x) :: r => x.cells.length = s ∧ x.storable = true ∧ i < xs.length ∧ bslK t s len (xs.set i x) r O K
theorem bslK_nil (t s len : Nat) (z : List AV) (O : List AObj) (K : KT) : bslK t s len z [] O K = k1 (.row O.length len) (O ++ [.live t s z]) K := by simp [bslK, k1]
theorem bslK_cons (t s len : Nat) (z : List AV) (i : Nat) (x : AV) (r : List (Nat × AV)) (O : List AObj) (K : KT) :
    bslK t s len z ((i, x) :: r) O K = (x.cells.length = s ∧ x.storable = true ∧ i < z.length ∧ bslK t s len (z.set i x) r O K) := by rw [bslK]
theorem rowK_bsl {e : Env} {O : List AObj} {K : KT} (t s len : Nat) : ∀ (ps : List (Nat × Opd)) (z : List AV), rowK e s z ps (fun xs => K (.row O.length len) (O ++ [.live t s xs])) = bslK t s len z (ps.map fun p => (p.1, p.2.ev e)) O K
  | [], z => by simp [rowK, bslK]
  | (i, x) :: r, z => by simp only [rowK, List.map_cons, bslK, rowK_bsl t s len r]

/-- an object that is looked up -/
def objK (o : Option AObj) (M : Nat → Nat → List AV → Prop) : Prop := match o with
  | some (.live t s xs) => M t s xs
  | _ => False
/-- an object that is a slice -/
def objN (o : Option AObj) (N : Nat → Nat → Prop) (M : Nat → Nat → List AV → Prop) : Prop := match o with
  | some (.live t s xs) => M t s xs
  | some (.nil t s) => N t s
  | _ => False
theorem objN_live (t s : Nat) (xs : List AV) (N : Nat → Nat → Prop) (M : Nat → Nat → List AV → Prop) : objN (some (.live t s xs)) N M = M t s xs := nr rfl
theorem objN_nil (t s : Nat) (N : Nat → Nat → Prop) (M : Nat → Nat → List AV → Prop) : objN (some (.nil t s)) N M = N t s := nr rfl
theorem objK_live (t s : Nat) (xs : List AV) (M : Nat → Nat → List AV → Prop) : objK (some (.live t s xs)) M = M t s xs := nr rfl

def loadK (n : Option Nat) (a : AV) (O : List AObj) (K : KT) : Prop := match a with
    | .iptr y f => f + n.getD 1 ≤ y.cells.length ∧ K (loadC n y f) O
    | .ptr k len i f => objK O[k]? fun _ _ xs => xs.length = len ∧ i < len ∧ f + n.getD 1 ≤ (xs.getD i .top).cells.length ∧ K (loadC n (xs.getD i .top) f) O
    | _ => False
theorem loadK_iptr (n : Option Nat) (y : AV) (f : Nat) (O : List AObj) (K : KT) : loadK n (.iptr y f) O K = (f + n.getD 1 ≤ y.cells.length ∧ k1 (loadC n y f) O K) := nr rfl
theorem loadK_ptr (n : Option Nat) (k len i f : Nat) (O : List AObj) (K : KT) : loadK n (.ptr k len i f) O K = objK O[k]? fun _ _ xs => xs.length = len ∧ i < len ∧ f + n.getD 1 ≤ (xs.getD i .top).cells.length ∧ k1 (loadC n (xs.getD i .top) f) O K := nr rfl

def storeK (m : Nat) (a b : AV) (O : List AObj) (K : KT) : Prop := match a with
    | .ptr k len i f => objK O[k]? fun t s xs => xs.length = len ∧ i < len ∧ b.cells.length = m ∧ b.storable = true ∧ f + m ≤ (xs.getD i .top).cells.length ∧ K .top (O.set k (.live t s (xs.set i (upd (xs.getD i .top) f b))))
    | _ => False
theorem storeK_ptr (m k len i f : Nat) (b : AV) (O : List AObj) (K : KT) : storeK m (.ptr k len i f) b O K = objK O[k]? fun t s xs => xs.length = len ∧ i < len ∧ b.cells.length = m ∧ b.storable = true ∧ f + m ≤ (xs.getD i .top).cells.length ∧ k1 .top (O.set k (.live t s (xs.set i (upd (xs.getD i .top) f b)))) K := nr rfl

def binK (op : BinOp) (a b : AV) (O : List AObj) (K : KT) : Prop := match a, b with
    | .v x, .v y => match sbin op x y with
      | some z => K (.v z) O
      | none => False
    | _, _ => False
section
variable (k : IntKind) (a b : Int) (O : List AObj) (K : KT)
theorem binK_add : binK .add (.v (.int k a)) (.v (.int k b)) O K = k1 (.v (.int k (k.wrap (a + b)))) O K := by simp [binK, sbin, ibin, BinOp.isShift, k1]
theorem binK_sub : binK .sub (.v (.int k a)) (.v (.int k b)) O K = k1 (.v (.int k (k.wrap (a - b)))) O K := by simp [binK, sbin, ibin, BinOp.isShift, k1]
theorem binK_mul : binK .mul (.v (.int k a)) (.v (.int k b)) O K = k1 (.v (.int k (k.wrap (a * b)))) O K := by simp [binK, sbin, ibin, BinOp.isShift, k1]
theorem binK_and : binK .and (.v (.int k a)) (.v (.int k b)) O K = k1 (.v (.int k (k.wrap (BitVec.ofInt k.bits a &&& BitVec.ofInt k.bits b).toNat))) O K := by simp [binK, sbin, ibin, BinOp.isShift, k1]
theorem binK_or : binK .or (.v (.int k a)) (.v (.int k b)) O K = k1 (.v (.int k (k.wrap (BitVec.ofInt k.bits a ||| BitVec.ofInt k.bits b).toNat))) O K := by simp [binK, sbin, ibin, BinOp.isShift, k1]
theorem binK_xor : binK .xor (.v (.int k a)) (.v (.int k b)) O K = k1 (.v (.int k (k.wrap (BitVec.ofInt k.bits a ^^^ BitVec.ofInt k.bits b).toNat))) O K := by simp [binK, sbin, ibin, BinOp.isShift, k1]
theorem binK_quo : binK .quo (.v (.int k a)) (.v (.int k b)) O K = (b ≠ 0 ∧ k1 (.v (.int k (k.wrap (a.tdiv b)))) O K) := by
  by_cases h : b = 0 <;> simp [binK, sbin, ibin, BinOp.isShift, k1, h]
theorem binK_rem : binK .rem (.v (.int k a)) (.v (.int k b)) O K = (b ≠ 0 ∧ k1 (.v (.int k (a.tmod b))) O K) := by
  by_cases h : b = 0 <;> simp [binK, sbin, ibin, BinOp.isShift, k1, h]
theorem binK_eql : binK .eql (.v (.int k a)) (.v (.int k b)) O K = k1 (.v (.bool (decide (a = b)))) O K := by
  have : (a == b) = decide (a = b) := by by_cases h : a = b <;> simp [h]
  simp [binK, sbin, ibin, BinOp.isShift, k1, this]
theorem binK_neq : binK .neq (.v (.int k a)) (.v (.int k b)) O K = k1 (.v (.bool (!decide (a = b)))) O K := by
  have : (a != b) = !decide (a = b) := by by_cases h : a = b <;> simp [h]
  simp [binK, sbin, ibin, BinOp.isShift, k1, this]
theorem binK_lss : binK .lss (.v (.int k a)) (.v (.int k b)) O K = k1 (.v (.bool (decide (a < b)))) O K := by simp [binK, sbin, ibin, BinOp.isShift, k1]
theorem binK_leq : binK .leq (.v (.int k a)) (.v (.int k b)) O K = k1 (.v (.bool (decide (a ≤ b)))) O K := by simp [binK, sbin, ibin, BinOp.isShift, k1]
theorem binK_gtr : binK .gtr (.v (.int k a)) (.v (.int k b)) O K = k1 (.v (.bool (decide (b < a)))) O K := by simp [binK, sbin, ibin, BinOp.isShift, k1]
theorem binK_geq : binK .geq (.v (.int k a)) (.v (.int k b)) O K = k1 (.v (.bool (decide (b ≤ a)))) O K := by simp [binK, sbin, ibin, BinOp.isShift, k1]
theorem binK_shl (k' : IntKind) : binK .shl (.v (.int k a)) (.v (.int k' b)) O K = (0 ≤ b ∧ k1 (.v (.int k (k.wrap (a * 2 ^ (min b.toNat k.bits))))) O K) := by
  by_cases h : 0 ≤ b <;> simp [binK, sbin, shbin, BinOp.isShift, k1, h]
theorem binK_shr (k' : IntKind) : binK .shr (.v (.int k a)) (.v (.int k' b)) O K = (0 ≤ b ∧ k1 (.v (.int k (a.fdiv (2 ^ (min b.toNat k.bits))))) O K) := by
  by_cases h : 0 ≤ b <;> simp [binK, sbin, shbin, BinOp.isShift, k1, h]
end
theorem toList_beq (a b : ByteArray) : (a.toList == b.toList) = decide (a = b) := by
  rw [data_toList, data_toList]
  by_cases h : a = b
  · simp [h]
  · have : ¬ a.data = b.data := fun h' => h (by cases a; cases b; simpa using h')
    simp [h, this]
section
variable (a b : ByteArray) (O : List AObj) (K : KT)
theorem binK_sadd : binK .add (.v (.string a)) (.v (.string b)) O K = (((a.size + b.size : Nat) : Int) ≤ 9223372036854775807 ∧ k1 (.v (.string (a ++ b))) O K) := by
  have h3 : IntKind.i64.max = 9223372036854775807 := by decide
  by_cases h : ((a.size + b.size : Nat) : Int) ≤ 9223372036854775807
  · simp only [binK, sbin, stbin, k1, h3, if_pos h, h, if_true, true_and]
  · simp only [binK, sbin, stbin, k1, h3, if_neg h, h, if_false, false_and]
theorem binK_seql : binK .eql (.v (.string a)) (.v (.string b)) O K = k1 (.v (.bool (decide (a = b)))) O K := by simp [binK, sbin, stbin, k1, toList_beq]
theorem binK_sneq : binK .neq (.v (.string a)) (.v (.string b)) O K = k1 (.v (.bool (!decide (a = b)))) O K := by simp [binK, sbin, stbin, k1, toList_beq]
end

def unK (op : UnOp) (a : AV) (O : List AObj) (K : KT) : Prop := match a with
    | .v x => match sun op x with
      | some z => K (.v z) O
      | none => False
    | _ => False
theorem unK_not (b : Bool) (O : List AObj) (K : KT) : unK .not (.v (.bool b)) O K = k1 (.v (.bool (!b))) O K := nr rfl
theorem unK_neg (k : IntKind) (n : Int) (O : List AObj) (K : KT) : unK .neg (.v (.int k n)) O K = k1 (.v (.int k (k.wrap (-n)))) O K := by simp [unK, sun, k1]

def convK (k : IntKind) (a : AV) (O : List AObj) (K : KT) : Prop := match a with
    | .v (.int _ n) => K (.v (.int k (k.wrap n))) O
    | _ => False
theorem convK_eq (k k' : IntKind) (n : Int) (O : List AObj) (K : KT) : convK k (.v (.int k' n)) O K = k1 (.v (.int k (k.wrap n))) O K := nr rfl

def faddrK (off : Nat) (a : AV) (O : List AObj) (K : KT) : Prop := match a with
    | .iptr y f => K (.iptr y (f + off)) O
    | .ptr n len i f => objK O[n]? fun _ _ xs => xs.length = len ∧ K (.ptr n len i (f + off)) O
    | _ => False
theorem faddrK_iptr (off : Nat) (y : AV) (f : Nat) (O : List AObj) (K : KT) : faddrK off (.iptr y f) O K = k1 (.iptr y (f + off)) O K := nr rfl
theorem faddrK_ptr (off n len i f : Nat) (O : List AObj) (K : KT) : faddrK off (.ptr n len i f) O K = objK O[n]? fun _ _ xs => xs.length = len ∧ k1 (.ptr n len i (f + off)) O K := nr rfl

def fldK (off : Nat) (n : Option Nat) (a : AV) (O : List AObj) (K : KT) : Prop := a.isAgg = true ∧ off + n.getD 1 ≤ a.cells.length ∧ K (loadC n a off) O
theorem fldK_eq (off : Nat) (n : Option Nat) (a : AV) (O : List AObj) (K : KT) : fldK off n a O K = (a.isAgg = true ∧ off + n.getD 1 ≤ a.cells.length ∧ k1 (loadC n a off) O K) := nr rfl

def iaddrK (s : Nat) (a i : AV) (O : List AObj) (K : KT) : Prop := match a, i with
    | .sl xs, .v (.int _ i) => 0 ≤ i ∧ i < xs.length ∧ (xs.getD i.toNat .top).cells.length = s ∧ K (.iptr (xs.getD i.toNat .top) 0) O
    | .row n len, .v (.int _ i) => objK O[n]? fun _ s' xs => s' = s ∧ xs.length = len ∧ 0 ≤ i ∧ i < len ∧ K (.ptr n len i.toNat 0) O
    | _, _ => False
theorem iaddrK_sl (s : Nat) (xs : List AV) (k : IntKind) (i : Int) (O : List AObj) (K : KT) : iaddrK s (.sl xs) (.v (.int k i)) O K = (0 ≤ i ∧ i < xs.length ∧ (xs.getD i.toNat .top).cells.length = s ∧ k1 (.iptr (xs.getD i.toNat .top) 0) O K) := nr rfl
theorem iaddrK_row (s n len : Nat) (k : IntKind) (i : Int) (O : List AObj) (K : KT) : iaddrK s (.row n len) (.v (.int k i)) O K = objK O[n]? fun _ s' xs => s' = s ∧ xs.length = len ∧ 0 ≤ i ∧ i < len ∧ k1 (.ptr n len i.toNat 0) O K := nr rfl

def idxSK (a i : AV) (O : List AObj) (K : KT) : Prop := match a, i with
    | .v (.string s), .v (.int _ i) => 0 ≤ i ∧ i < s.size ∧ K (.v (.int .u8 (s.data.toList.getD i.toNat 0).toNat)) O
    | _, _ => False
theorem idxSK_eq (s : ByteArray) (k : IntKind) (i : Int) (O : List AObj) (K : KT) : idxSK (.v (.string s)) (.v (.int k i)) O K = (0 ≤ i ∧ i < s.size ∧ k1 (.v (.int .u8 (s.data.toList.getD i.toNat 0).toNat)) O K) := nr rfl

def bnd (d : Int) (x : Option AV) (M : Int → Prop) : Prop := match x with
  | none => M d
  | some (.v (.int _ i)) => M i
  | _ => False
theorem bnd_none (d : Int) (M : Int → Prop) : bnd d none M = M d := nr rfl
theorem bnd_some (d : Int) (k : IntKind) (i : Int) (M : Int → Prop) : bnd d (some (.v (.int k i))) M = M i := nr rfl
theorem boundK_bnd (d : Int) (e : Env) (x : Option Opd) (M : Int → Prop) : boundK d e x M = bnd d (x.map (Opd.ev e)) M := by
  cases x with
  | none => rfl
  | some o =>
    simp only [boundK, bnd, Option.map_some]
    cases o.ev e <;> try rfl
    rename_i v; cases v <;> rfl

def sliceSK (a : AV) (lo hi : Option AV) (O : List AObj) (K : KT) : Prop := match a with
    | .v (.string s) => bnd 0 lo fun l => bnd s.size hi fun h => 0 ≤ l ∧ l ≤ h ∧ h ≤ s.size ∧ K (.v (.string (s.extract l.toNat h.toNat))) O
    | _ => False
theorem sliceSK_eq (s : ByteArray) (lo hi : Option AV) (O : List AObj) (K : KT) : sliceSK (.v (.string s)) lo hi O K = bnd 0 lo fun l => bnd s.size hi fun h => 0 ≤ l ∧ l ≤ h ∧ h ≤ s.size ∧ k1 (.v (.string (s.extract l.toNat h.toNat))) O K := nr rfl
def sliceLK (s : Nat) (a : AV) (lo hi : Option AV) (O : List AObj) (K : KT) : Prop := match a with
    | .sl xs => bnd 0 lo fun l => bnd xs.length hi fun h => 0 ≤ l ∧ l ≤ h ∧ h ≤ xs.length ∧ (∀ y ∈ xs, y.cells.length = s) ∧ K (.sl ((xs.take h.toNat).drop l.toNat)) O
    | _ => False
theorem sliceLK_eq (s : Nat) (xs : List AV) (lo hi : Option AV) (O : List AObj) (K : KT) : sliceLK s (.sl xs) lo hi O K = bnd 0 lo fun l => bnd xs.length hi fun h => 0 ≤ l ∧ l ≤ h ∧ h ≤ xs.length ∧ (∀ y ∈ xs, y.cells.length = s) ∧ k1 (.sl ((xs.take h.toNat).drop l.toNat)) O K := nr rfl

def mkK (t s bytes : Nat) (z a b : AV) (O : List AObj) (K : KT) : Prop := match a, b with
    | .v (.int .i64 n), .v (.int .i64 c) => 0 ≤ n ∧ n ≤ c ∧ bytes * c ≤ 2 ^ 48 ∧ c ≤ maxLen ∧ K (.row O.length n.toNat) (O ++ [.live t s (List.replicate n.toNat z)])
    | _, _ => False
theorem mkK_eq (t s bytes : Nat) (z : AV) (n c : Int) (O : List AObj) (K : KT) : mkK t s bytes z (.v (.int .i64 n)) (.v (.int .i64 c)) O K = (0 ≤ n ∧ n ≤ c ∧ bytes * c ≤ 281474976710656 ∧ c ≤ 9223372036854775807 ∧ k1 (.row O.length n.toNat) (O ++ [.live t s (List.replicate n.toNat z)]) K) := by
  have h1 : ((2 : Int) ^ 48) = 281474976710656 := by decide
  have h2 : ((maxLen : Nat) : Int) = 9223372036854775807 := by decide
  simp only [mkK, h1, h2, k1]

def lenSK (a : AV) (O : List AObj) (K : KT) : Prop := match a with
    | .v (.string s) => K (.v (.int .i64 s.size)) O
    | _ => False
theorem lenSK_eq (s : ByteArray) (O : List AObj) (K : KT) : lenSK (.v (.string s)) O K = k1 (.v (.int .i64 s.size)) O K := nr rfl
def lenLK (a : AV) (O : List AObj) (K : KT) : Prop := match a with
    | .nils => K (.v (.int .i64 0)) O
    | .sl xs => K (.v (.int .i64 xs.length)) O
    | .row n len => objN O[n]? (fun _ _ => len = 0 ∧ K (.v (.int .i64 0)) O) fun _ _ xs => xs.length = len ∧ K (.v (.int .i64 len)) O
    | _ => False
theorem lenLK_nils (O : List AObj) (K : KT) : lenLK .nils O K = k1 (.v (.int .i64 0)) O K := nr rfl
theorem lenLK_sl (xs : List AV) (O : List AObj) (K : KT) : lenLK (.sl xs) O K = k1 (.v (.int .i64 xs.length)) O K := nr rfl
theorem lenLK_row (n len : Nat) (O : List AObj) (K : KT) : lenLK (.row n len) O K = objN O[n]? (fun _ _ => len = 0 ∧ k1 (.v (.int .i64 0)) O K) fun _ _ xs => xs.length = len ∧ k1 (.v (.int .i64 len)) O K := nr rfl

def srcOf (O : List AObj) (y : AV) (M : List AV → Prop) : Prop := match y with
  | .nils => M []
  | .sl ys => M ys
  | .row n len => objN O[n]? (fun _ _ => len = 0 ∧ M []) fun _ _ xs => xs.length = len ∧ M xs
  | _ => False
theorem srcOf_nils (O : List AObj) (M : List AV → Prop) : srcOf O .nils M = M [] := nr rfl
theorem srcOf_sl (O : List AObj) (ys : List AV) (M : List AV → Prop) : srcOf O (.sl ys) M = M ys := nr rfl
theorem srcOf_row (O : List AObj) (n len : Nat) (M : List AV → Prop) : srcOf O (.row n len) M = objN O[n]? (fun _ _ => len = 0 ∧ M []) fun _ _ xs => xs.length = len ∧ M xs := nr rfl
def ontoK (O : List AObj) (x : AV) (t s bytes : Nat) (ys : List AV) (K : KT) : Prop := match x with
  | .nils => ys.length * bytes ≤ 140737488355328 ∧ ys.length ≤ maxLen ∧ (ys = [] → K .nils O) ∧ (ys ≠ [] → K (.row O.length ys.length) (O ++ [.live t s ys]))
  | .row n len => objN O[n]? (fun t' s' => t' = t ∧ s' = s ∧ len = 0 ∧ ys.length * bytes ≤ 140737488355328 ∧ ys.length ≤ maxLen ∧ (ys = [] → K (.row n 0) O) ∧ (ys ≠ [] → K (.row n ys.length) (O.set n (.live t s ys)))) fun t' s' xs => t' = t ∧ s' = s ∧ xs.length = len ∧ (len + ys.length) * bytes ≤ 140737488355328 ∧ len + ys.length ≤ maxLen ∧
        K (.row n (len + ys.length)) (O.set n (.live t s (xs ++ ys)))
  | _ => False
theorem ontoK_nils1 (O : List AObj) (t s bytes : Nat) (y : AV) (ys : List AV) (K : KT) : ontoK O .nils t s bytes (y :: ys) K = ((y :: ys).length * bytes ≤ 140737488355328 ∧ (y :: ys).length ≤ maxLen ∧ k1 (.row O.length (y :: ys).length) (O ++ [.live t s (y :: ys)]) K) := by
  simp [ontoK, k1]
theorem ontoK_nils (O : List AObj) (t s bytes : Nat) (ys : List AV) (K : KT) : ontoK O .nils t s bytes ys K = (ys.length * bytes ≤ 140737488355328 ∧ ys.length ≤ maxLen ∧ (ys = [] → k1 .nils O K) ∧ (ys ≠ [] → k1 (.row O.length ys.length) (O ++ [.live t s ys]) K)) := nr rfl
theorem ontoK_row (O : List AObj) (n len t s bytes : Nat) (ys : List AV) (K : KT) : ontoK O (.row n len) t s bytes ys K = objN O[n]? (fun t' s' => t' = t ∧ s' = s ∧ len = 0 ∧ ys.length * bytes ≤ 140737488355328 ∧ ys.length ≤ maxLen ∧ (ys = [] → k1 (.row n 0) O K) ∧ (ys ≠ [] → k1 (.row n ys.length) (O.set n (.live t s ys)) K)) fun t' s' xs => t' = t ∧ s' = s ∧ xs.length = len ∧ (len + ys.length) * bytes ≤ 140737488355328 ∧ len + ys.length ≤ maxLen ∧
        k1 (.row n (len + ys.length)) (O.set n (.live t s (xs ++ ys))) K := nr rfl

def extK (a : AV) (i : Nat) (O : List AObj) (K : KT) : Prop := match a with
    | .tup vs => i < vs.length ∧ K (vs.getD i .top) O
    | _ => False
theorem extK_eq (vs : List AV) (i : Nat) (O : List AObj) (K : KT) : extK (.tup vs) i O K = (i < vs.length ∧ k1 (vs.getD i .top) O K) := nr rfl

def nilcK (a : AV) (O : List AObj) (K : KT) : Prop := match a with
    | .iptr y f => K (.iptr y f) O
    | .fn f caps => K (.fn f caps) O
    | .ptr n len i f => objK O[n]? fun _ _ xs => xs.length = len ∧ K (.ptr n len i f) O
    | _ => False
theorem nilcK_iptr (y : AV) (f : Nat) (O : List AObj) (K : KT) : nilcK (.iptr y f) O K = k1 (.iptr y f) O K := nr rfl
theorem nilcK_fn (f : FuncId) (cs : List AV) (O : List AObj) (K : KT) : nilcK (.fn f cs) O K = k1 (.fn f cs) O K := nr rfl
theorem nilcK_ptr (n len i f : Nat) (O : List AObj) (K : KT) : nilcK (.ptr n len i f) O K = objK O[n]? fun _ _ xs => xs.length = len ∧ k1 (.ptr n len i f) O K := nr rfl

/- calls: the walk stands still here -/
def callK (P : Program) (f : FuncId) (args : List AV) (O : List AObj) (K : KT) : Prop := ∃ res O', Con P f args O res O' ∧ K res O'
theorem callK_intro {P : Program} {f : FuncId} {args : List AV} {O : List AObj} {K : KT} (res : AV) (O' : List AObj) (h : Con P f args O res O') (k : k1 res O' K) : callK P f args O K := ⟨res, O', h, k⟩
def qcallK (P : Program) (f : FuncId) (args : List AV) (O : List AObj) (K : KT) : Prop := ∃ res, AV.norefs args = true ∧ PCon P f args res ∧ K res O
theorem qcallK_intro {P : Program} {f : FuncId} {args : List AV} {O : List AObj} {K : KT} (res : AV) (h : PCon P f args res) (hn : AV.norefs args = true) (k : k1 res O K) : qcallK P f args O K := ⟨res, hn, h, k⟩
/-- args: as they are; fargs: with what was frozen -/
def pcallK (P : Program) (f : FuncId) (fargs args : List AV) (O : List AObj) (K : KT) : Prop := ∃ res, AV.norefs fargs = true ∧ PCon P f fargs res ∧ K res (aft O args res)
theorem pcallK_intro {P : Program} {f : FuncId} {fargs args : List AV} {O : List AObj} {K : KT} (res : AV) (h : PCon P f fargs res) (hn : AV.norefs fargs = true) (k : k1 res (aft O args res) K) : pcallK P f fargs args O K := ⟨res, hn, h, k⟩
def callvK (P : Program) (x : AV) (args : List AV) (O : List AObj) (K : KT) : Prop := match x with
  | .fn f caps => callK P f (args ++ caps) O K
  | _ => False
theorem callvK_fn (P : Program) (f : FuncId) (caps args : List AV) (O : List AObj) (K : KT) : callvK P (.fn f caps) args O K = callK P f (args ++ caps) O K := nr rfl
def qcallvK (P : Program) (x : AV) (args : List AV) (O : List AObj) (K : KT) : Prop := match x with
  | .fn f caps => qcallK P f (args ++ caps) O K
  | _ => False
theorem qcallvK_fn (P : Program) (f : FuncId) (caps args : List AV) (O : List AObj) (K : KT) : qcallvK P (.fn f caps) args O K = qcallK P f (args ++ caps) O K := nr rfl
def pcallvK (P : Program) (x : AV) (fargs args : List AV) (O : List AObj) (K : KT) : Prop := match x with
  | .fn f caps => pcallK P f (fargs ++ caps) args O K
  | _ => False
theorem pcallvK_fn (P : Program) (f : FuncId) (caps fargs args : List AV) (O : List AObj) (K : KT) : pcallvK P (.fn f caps) fargs args O K = pcallK P f (fargs ++ caps) args O K := nr rfl

section
variable (P : Program) (e : Env) (O : List AObj) (K : KT)
theorem o_mov (x : Opd) : wpOp P (.mov x) e O K = k1 (x.ev e) O K := nr rfl
theorem o_pick (c a b : Opd) : wpOp P (.pick c a b) e O K = pickK (c.ev e) (a.ev e) (b.ev e) O K := nr rfl
theorem o_alloc (t s : Nat) (z : AV) : wpOp P (.alloc t s z) e O K = k1 (.ptr O.length 1 0 0) (O ++ [.live t s [z]]) K := nr rfl
theorem o_box (t s : Nat) (x : Opd) : wpOp P (.box t s x) e O K = boxK t s (x.ev e) O K := nr rfl
theorem o_build (z : List AV) (ps : List (Nat × Nat × Opd)) : wpOp P (.build z ps) e O K = bldK z (ps.map fun p => (p.1, p.2.1, p.2.2.ev e)) O K := buildK_bld ps z
theorem o_buildSlice (t s len : Nat) (z : AV) (ps : List (Nat × Opd)) : wpOp P (.buildSlice t s len z ps) e O K = bslK t s len (List.replicate len z) (ps.map fun p => (p.1, p.2.ev e)) O K := rowK_bsl t s len ps _
theorem o_load (n : Option Nat) (x : Opd) : wpOp P (.load n x) e O K = loadK n (x.ev e) O K := by
  simp only [wpOp, loadK]; cases x.ev e <;> first | rfl | (rename_i k l i f; cases O[k]? with | none => rfl | some o => cases o <;> rfl)
theorem o_store (m : Nat) (x y : Opd) : wpOp P (.store m x y) e O K = storeK m (x.ev e) (y.ev e) O K := by
  simp only [wpOp, storeK]; cases x.ev e <;> first | rfl | (rename_i k l i f; cases O[k]? with | none => rfl | some o => cases o <;> rfl)
theorem o_bin (op : BinOp) (x y : Opd) : wpOp P (.bin op x y) e O K = binK op (x.ev e) (y.ev e) O K := nr rfl
theorem o_un (op : UnOp) (x : Opd) : wpOp P (.un op x) e O K = unK op (x.ev e) O K := nr rfl
theorem o_conv (k : IntKind) (x : Opd) : wpOp P (.convInt k x) e O K = convK k (x.ev e) O K := nr rfl
theorem o_faddr (off : Nat) (x : Opd) : wpOp P (.faddr off x) e O K = faddrK off (x.ev e) O K := by
  simp only [wpOp, faddrK]; cases x.ev e <;> first | rfl | (rename_i k l i f; cases O[k]? with | none => rfl | some o => cases o <;> rfl)
theorem o_fld (off : Nat) (n : Option Nat) (x : Opd) : wpOp P (.fld off n x) e O K = fldK off n (x.ev e) O K := nr rfl
theorem o_iaddr (s : Nat) (x y : Opd) : wpOp P (.iaddr s x y) e O K = iaddrK s (x.ev e) (y.ev e) O K := by
  simp only [wpOp, iaddrK]; cases x.ev e <;> cases y.ev e <;> first | rfl | (rename_i v; cases v <;> first | rfl | (rename_i n len _ _; cases O[n]? with | none => rfl | some o => cases o <;> rfl))
theorem o_idxS (x y : Opd) : wpOp P (.idxS x y) e O K = idxSK (x.ev e) (y.ev e) O K := nr rfl
theorem o_sliceS (x : Opd) (lo hi : Option Opd) : wpOp P (.sliceS x lo hi) e O K = sliceSK (x.ev e) (lo.map (Opd.ev e)) (hi.map (Opd.ev e)) O K := by simp only [wpOp, sliceSK, boundK_bnd]; cases x.ev e <;> first | rfl | (rename_i v; cases v <;> rfl)
theorem o_sliceL (s : Nat) (x : Opd) (lo hi : Option Opd) : wpOp P (.sliceL s x lo hi) e O K = sliceLK s (x.ev e) (lo.map (Opd.ev e)) (hi.map (Opd.ev e)) O K := by simp only [wpOp, sliceLK, boundK_bnd]; cases x.ev e <;> rfl
theorem o_mk (t s b : Nat) (z : AV) (x y : Opd) : wpOp P (.mk t s b z x y) e O K = mkK t s b z (x.ev e) (y.ev e) O K := nr rfl
theorem o_lenS (x : Opd) : wpOp P (.lenS x) e O K = lenSK (x.ev e) O K := nr rfl
theorem o_lenL (x : Opd) : wpOp P (.lenL x) e O K = lenLK (x.ev e) O K := by
  simp only [wpOp, lenLK]; cases x.ev e <;> first | rfl | (rename_i k l; cases O[k]? with | none => rfl | some o => cases o <;> rfl)
theorem o_app (t s b : Nat) (x y : Opd) : wpOp P (.app t s b x y) e O K = srcOf O (y.ev e) fun ys => (∀ y ∈ ys, y.cells.length = s) ∧ ontoK O (x.ev e) t s b ys K := by
  have h : ∀ ys, appK O (x.ev e) t s b ys K = ontoK O (x.ev e) t s b ys K := by
    intro ys; unfold appK ontoK; cases x.ev e <;> first | rfl | (rename_i k l; cases O[k]? with | none => rfl | some o => cases o <;> rfl)
  simp only [wpOp, h]
  unfold srcK srcOf; cases y.ev e <;> first | rfl | (rename_i k l; cases O[k]? with | none => rfl | some o => cases o <;> rfl)
theorem o_ext (x : Opd) (i : Nat) : wpOp P (.ext x i) e O K = extK (x.ev e) i O K := nr rfl
theorem o_nilc (x : Opd) : wpOp P (.nilc x) e O K = nilcK (x.ev e) O K := by
  simp only [wpOp, nilcK]; cases x.ev e <;> first | rfl | (rename_i k l i f; cases O[k]? with | none => rfl | some o => cases o <;> rfl)
theorem o_mkfn (f : FuncId) (cs : List Opd) : wpOp P (.mkfn f cs) e O K = k1 (.fn f (cs.map (Opd.ev e))) O K := nr rfl
theorem o_call (f : FuncId) (as : List Opd) : wpOp P (.call f as) e O K = callK P f (as.map (Opd.ev e)) O K := nr rfl
theorem o_callv (x : Opd) (as : List Opd) : wpOp P (.callv x as) e O K = callvK P (x.ev e) (as.map (Opd.ev e)) O K := nr rfl
theorem o_pcall (f : FuncId) (as : List Opd) : wpOp P (.pcall f as) e O K = pcallK P f (as.map fun x => frz O (x.ev e)) (as.map (Opd.ev e)) O K := nr rfl
theorem o_pcallv (x : Opd) (as : List Opd) : wpOp P (.pcallv x as) e O K = pcallvK P (x.ev e) (as.map fun x => frz O (x.ev e)) (as.map (Opd.ev e)) O K := nr rfl
theorem o_qcall (f : FuncId) (as : List Opd) : wpOp P (.qcall f as) e O K = qcallK P f (as.map (Opd.ev e)) O K := nr rfl
theorem o_qcallv (x : Opd) (as : List Opd) : wpOp P (.qcallv x as) e O K = qcallvK P (x.ev e) (as.map (Opd.ev e)) O K := nr rfl
end

/- what comes behind, by name: nothing of it is looked at before its time -/
def kont (P : Program) (d : Option Nat) (e : Env) (r : List AOper) (Q : Env → List AObj → Prop) : KT := fun x O' => Go.Ab.wpOps P r (setD e d x) O' Q
theorem k1_kont (P : Program) (d : Option Nat) (e : Env) (r : List AOper) (Q : Env → List AObj → Prop) (a : AV) (O : List AObj) : k1 a O (kont P d e r Q) = Go.Ab.wpOps P r (setD e d a) O Q := nr rfl
theorem wpOps_kont (P : Program) (d : Option Nat) (op : AOp) (e : Env) (O : List AObj) (r : List AOper) (Q : Env → List AObj → Prop) : Go.Ab.wpOps P (⟨none, d, op⟩ :: r) e O Q = wpOp P op e O (kont P d e r Q) := nr rfl

def gopK (P : Program) (a : AV) (want : Bool) (t : Nat) (d : Option Nat) (op : AOp) (r : List AOper) (e : Env) (O : List AObj) (Q : Env → List AObj → Prop) : Prop := match a with
  | .v (.bool b) =>
    (b = want → wpOp P op (e.set t (.v (.bool want))) O (kont P d (e.set t (.v (.bool want))) r Q)) ∧
    (b = !want → Go.Ab.wpOps P r (setD (e.set t (.v (.bool (!want)))) d (.tup [])) O Q)
  | .tup [] => Go.Ab.wpOps P r (setD e d (.tup [])) O Q
  | _ => False
section
variable (P : Program) (t : Nat) (d : Option Nat) (op : AOp) (r : List AOper) (e : Env) (O : List AObj) (Q : Env → List AObj → Prop)
theorem c_guard (want : Bool) : Go.Ab.wpOps P (⟨some (t, want), d, op⟩ :: r) e O Q = gopK P (e t) want t d op r e O Q := by
  rw [wpOps_guard]; unfold gopK; cases e t <;> try rfl
theorem gopK_tt : gopK P (.v (.bool true)) true t d op r e O Q = wpOp P op (e.set t (.v (.bool true))) O (kont P d (e.set t (.v (.bool true))) r Q) := by simp [gopK]
theorem gopK_ff : gopK P (.v (.bool false)) false t d op r e O Q = wpOp P op (e.set t (.v (.bool false))) O (kont P d (e.set t (.v (.bool false))) r Q) := by simp [gopK]
theorem gopK_tf : gopK P (.v (.bool true)) false t d op r e O Q = Go.Ab.wpOps P r (setD (e.set t (.v (.bool true))) d (.tup [])) O Q := by simp [gopK]
theorem gopK_ft : gopK P (.v (.bool false)) true t d op r e O Q = Go.Ab.wpOps P r (setD (e.set t (.v (.bool false))) d (.tup [])) O Q := by simp [gopK]
theorem gopK_skip (want : Bool) : gopK P (.tup []) want t d op r e O Q = Go.Ab.wpOps P r (setD e d (.tup [])) O Q := by simp [gopK]
variable {P t d op r e O Q}
theorem gopK_intro {b want : Bool} (h : b = want → gopK P (.v (.bool want)) want t d op r e O Q) (h' : b = !want → gopK P (.v (.bool (!want))) want t d op r e O Q) : gopK P (.v (.bool b)) want t d op r e O Q := by
  cases b <;> cases want <;> first | exact h rfl | exact h' rfl
end

def condK (P : Program) (n0 : Nat) (a : AV) (t f : ACode) (Q : AX → Env → List AObj → Prop) (e : Env) (O : List AObj) : Prop := match a with
  | .v (.bool b) => (b = true → wpC P n0 t Q e O) ∧ (b = false → wpC P n0 f Q e O)
  | _ => False
def seqQ (P : Program) (n0 : Nat) (b : ACode) (Q : AX → Env → List AObj → Prop) : AX → Env → List AObj → Prop := fun x e O => match x with | .normal => wpC P n0 b Q e O | x => Q x e O
def blockQ (id : Nat) (Q : AX → Env → List AObj → Prop) : AX → Env → List AObj → Prop := fun x e O => match x with | .exit i => if i = id then Q .normal e O else Q (.exit i) e O | x => Q x e O
def keepQ (l : List Nat) (Q : AX → Env → List AObj → Prop) : AX → Env → List AObj → Prop := fun x e O => match x with | .normal => Q .normal (keepE l e) O | x => Q x e O
section
variable (P : Program) (n0 : Nat) (Q : AX → Env → List AObj → Prop) (e : Env) (O : List AObj)
theorem c_cond (c : Opd) (t f : ACode) : wpC P n0 (.cond c t f) Q e O = condK P n0 (c.ev e) t f Q e O := nr rfl
theorem condK_true (t f : ACode) : condK P n0 (.v (.bool true)) t f Q e O = wpC P n0 t Q e O := by simp [condK]
theorem condK_false (t f : ACode) : condK P n0 (.v (.bool false)) t f Q e O = wpC P n0 f Q e O := by simp [condK]
theorem c_seq (a b : ACode) : wpC P n0 (.seq a b) Q e O = wpC P n0 a (seqQ P n0 b Q) e O := nr rfl
theorem c_block (id : Nat) (b : ACode) : wpC P n0 (.block id b) Q e O = wpC P n0 b (blockQ id Q) e O := nr rfl
theorem c_keep (l : List Nat) (c : ACode) : wpC P n0 (.keep l c) Q e O = wpC P n0 c (keepQ l Q) e O := nr rfl
theorem seqQ_n (b : ACode) : seqQ P n0 b Q .normal e O = wpC P n0 b Q e O := nr rfl
theorem seqQ_e (b : ACode) (i : Nat) : seqQ P n0 b Q (.exit i) e O = Q (.exit i) e O := nr rfl
theorem seqQ_r (b : ACode) : seqQ P n0 b Q .ret e O = Q .ret e O := nr rfl
theorem blockQ_n (id : Nat) : blockQ id Q .normal e O = Q .normal e O := nr rfl
theorem blockQ_e (id i : Nat) : blockQ id Q (.exit i) e O = if i = id then Q .normal e O else Q (.exit i) e O := nr rfl
theorem blockQ_r (id : Nat) : blockQ id Q .ret e O = Q .ret e O := nr rfl
theorem keepQ_n (l : List Nat) : keepQ l Q .normal e O = Q .normal (keepE l e) O := nr rfl
theorem keepQ_e (l : List Nat) (i : Nat) : keepQ l Q (.exit i) e O = Q (.exit i) e O := nr rfl
theorem keepQ_r (l : List Nat) : keepQ l Q .ret e O = Q .ret e O := nr rfl
variable {P n0 Q e O}
theorem condK_intro {b : Bool} {t f : ACode} (h : b = true → wpC P n0 t Q e O) (h' : b = false → wpC P n0 f Q e O) : condK P n0 (.v (.bool b)) t f Q e O := ⟨h, h'⟩
end
section
variable {ι : Type} (n0 : Nat) (D : ι → Prop) (σ : ι → Env) (τ : ι → List AObj) (μ : ι → Nat) (i : ι) (Q : AX → Env → List AObj → Prop) (e : Env) (O : List AObj)
theorem roundQ_e (k : Nat) : roundQ n0 D σ τ μ i Q (.exit k) e O = Q (.exit k) e O := nr rfl
theorem roundQ_r : roundQ n0 D σ τ μ i Q .ret e O = Q .ret e O := nr rfl
variable {n0 D σ τ μ i Q e O}
theorem roundQ_intro (j : ι) (h : D j) (h1 : μ j < μ i) (h2 : WK n0 e O (σ j) (τ j)) : roundQ n0 D σ τ μ i Q .normal e O := ⟨j, h, h1, h2⟩
end
def loopK (P : Program) (n0 : Nat) (Q : AX → Env → List AObj → Prop) (e : Env) (O : List AObj) (b : ACode) : Prop := wpC P n0 (.loop b) Q e O
theorem c_loop (P : Program) (n0 : Nat) (Q : AX → Env → List AObj → Prop) (e : Env) (O : List AObj) (b : ACode) : wpC P n0 (.loop b) Q e O = loopK P n0 Q e O b := nr rfl
theorem loopK_intro {P : Program} {n0 : Nat} {b : ACode} {Q : AX → Env → List AObj → Prop} {e : Env} {O : List AObj} {ι : Type} (D : ι → Prop) (σ : ι → Env) (τ : ι → List AObj) (μ : ι → Nat) (i0 : ι)
    (hd : D i0) (h0 : WK n0 e O (σ i0) (τ i0)) (hr : ∀ i, D i → wpC P n0 b (roundQ n0 D σ τ μ i Q) (σ i) (τ i)) : loopK P n0 Q e O b := wpC_loop D σ τ μ i0 hd h0 hr

theorem loadC_whole {m : Nat} {x : AV} (h : x.isAgg = true) (h' : x.cells.length = m) : loadC (some m) x 0 = x := by simp [loadC, h, h']
theorem loadC_none (x : AV) (f : Nat) : loadC none x f = x.cells.getD f .top := nr rfl
theorem upd_whole {x y : AV} (h : y.cells.length = x.cells.length) : upd x 0 y = y := by simp [upd, h]

theorem cells_agg (cs : List AV) : (AV.agg cs).cells = cs := nr rfl
theorem cells_v (x : Value) : (AV.v x).cells = [.v x] := nr rfl
theorem cells_nils : AV.nils.cells = [.nils] := nr rfl
theorem cells_sl (xs : List AV) : (AV.sl xs).cells = [.sl xs] := nr rfl
theorem cells_row (n l : Nat) : (AV.row n l).cells = [.row n l] := nr rfl
theorem cells_ptr (n l i f : Nat) : (AV.ptr n l i f).cells = [.ptr n l i f] := nr rfl
theorem cells_fn (f : FuncId) (cs : List AV) : (AV.fn f cs).cells = [.fn f cs] := nr rfl
theorem isAgg_agg (cs : List AV) : (AV.agg cs).isAgg = true := nr rfl
theorem isCell_v (x : Value) : (AV.v x).isCell = true := nr rfl
theorem isCell_nils : AV.nils.isCell = true := nr rfl
theorem isCell_sl (xs : List AV) : (AV.sl xs).isCell = true := nr rfl
theorem isCell_row (n l : Nat) : (AV.row n l).isCell = true := nr rfl
theorem isCell_ptr (n l i f : Nat) : (AV.ptr n l i f).isCell = true := nr rfl
theorem isCell_fn (f : FuncId) (cs : List AV) : (AV.fn f cs).isCell = true := nr rfl
theorem storable_agg (cs : List AV) : (AV.agg cs).storable = cs.all AV.isCell := nr rfl
theorem storable_v (x : Value) : (AV.v x).storable = true := nr rfl
theorem storable_nils : AV.nils.storable = true := nr rfl
theorem storable_sl (xs : List AV) : (AV.sl xs).storable = true := nr rfl
theorem storable_row (n l : Nat) : (AV.row n l).storable = true := nr rfl
theorem storable_ptr (n l i f : Nat) : (AV.ptr n l i f).storable = true := nr rfl
theorem storable_fn (f : FuncId) (cs : List AV) : (AV.fn f cs).storable = true := nr rfl

theorem frz_noref {O : List AObj} {a : AV} (h : a.noref = true) : frz O a = a := by
  cases a <;> first | rfl | (simp [AV.noref] at h; done)
theorem frz_row {O : List AObj} {n len t s : Nat} {xs : List AV} (h : O[n]? = some (.live t s xs)) (hl : xs.length = len) : frz O (.row n len) = .sl xs := by simp [frz, h, hl]
theorem aft_flat {O : List AObj} {args : List AV} {res : AV} (h : res.flat = true) : aft O args res = O := by simp [aft, h]
theorem aft_norefs {O : List AObj} {args : List AV} {res : AV} (h : AV.norefs args = true) : aft O args res = O := by
  unfold aft
  split
  · rfl
  · induction args with
    | nil => rfl
    | cons a as ih =>
      simp only [AV.norefs, Bool.and_eq_true] at h
      have : killRow O a = O := by cases a <;> first | rfl | (simp [AV.noref] at h; done)
      simp only [List.foldl_cons, this]
      exact ih h.2
theorem flat_v (x : Value) : (AV.v x).flat = true := nr rfl
theorem norefs_nil : AV.norefs [] = true := nr rfl
theorem norefs_cons (x : AV) (xs : List AV) : AV.norefs (x :: xs) = (x.noref && AV.norefs xs) := nr rfl
theorem noref_v (x : Value) : (AV.v x).noref = true := nr rfl
theorem noref_sl (xs : List AV) : (AV.sl xs).noref = AV.norefs xs := nr rfl
theorem noref_agg (xs : List AV) : (AV.agg xs).noref = AV.norefs xs := nr rfl
theorem noref_tup (xs : List AV) : (AV.tup xs).noref = AV.norefs xs := nr rfl
theorem noref_nils : AV.nils.noref = true := nr rfl
theorem noref_fn (f : FuncId) (cs : List AV) : (AV.fn f cs).noref = AV.norefs cs := nr rfl

theorem wrap_id {n : Int} (h : -9223372036854775808 ≤ n) (h' : n ≤ 9223372036854775807) : IntKind.i64.wrap n = n := by
  rw [IntKind.wrap_i64]; omega

/- what a function gives back -/
section
variable (n0 : Nat) (rs : List ARes) (res : AV) (O' : List AObj) (e : Env) (O : List AObj)
theorem retK_ret : retK n0 rs res O' .ret e O = resK e O rs [] fun xs => ∃ e', WK n0 (fun t => if t = 0 then packR xs else .top) O e' O' ∧ e' 0 = res := nr rfl
theorem retK_normal : retK n0 rs res O' .normal e O = resK e O rs [] fun xs => ∃ e', WK n0 (fun t => if t = 0 then packR xs else .top) O e' O' ∧ e' 0 = res := nr rfl
end
/-- one result in a slot: the objects that were made are forgotten -/
theorem ret_tmp {n0 t : Nat} {res : AV} {O' : List AObj} {x : AX} (hx : x = .ret ∨ x = .normal) {e : Env} {O : List AObj} (h : e t = res) (hO : O.take n0 = O') (hk : n0 ≤ O.length) (hb : ∀ ob ∈ O', ob.inScope n0 = true) (hs : res.inScope n0 = true) :
    retK n0 [.tmp t] res O' x e O := by
  have : resK e O [.tmp t] [] fun xs => ∃ e', WK n0 (fun t => if t = 0 then packR xs else .top) O e' O' ∧ e' 0 = res := by
    simp only [resK, ARes.get, List.reverse_cons, List.reverse_nil, List.nil_append, packR]
    refine ⟨fun t => if t = 0 then res else .top, WK.forget hO (Nat.le_refl _) hk hb fun t => ?_, rfl⟩
    by_cases ht : t = 0
    · subst ht; exact .inr ⟨by simp [h], by simpa using hs⟩
    · exact .inl (by simp [ht])
  rcases hx with rfl | rfl <;> exact this
/-- a call that touches nothing: nothing was there -/
theorem pret_tmp {t : Nat} {res : AV} {x : AX} (hx : x = .ret ∨ x = .normal) {e : Env} {O : List AObj} (h : e t = res) (hs : res.noref = true) : retK 0 [.tmp t] res [] x e O :=
  ret_tmp hx h rfl (Nat.zero_le _) (by simp) (noref_scoped _ hs)

/-- results in any number: as a tuple; nothing was there -/
theorem pret_any {rs : List ARes} {res : AV} {x : AX} (hx : x = .ret ∨ x = .normal) {e : Env} {O : List AObj} (h : resK e O rs [] fun xs => packR xs = res) (hs : res.noref = true) : retK 0 rs res [] x e O := by
  have key : ∀ (rs : List ARes) (acc : List AV) (M M' : List AV → Prop), (∀ xs, M xs → M' xs) → resK e O rs acc M → resK e O rs acc M' := by
    intro rs
    induction rs with
    | nil => intro acc M M' hm h; exact hm _ h
    | cons r rs ih =>
      intro acc M M' hm h
      cases r with
      | tmp t => exact ih _ _ _ hm h
      | cell t n =>
        simp only [resK, ARes.get] at h ⊢
        split at h
        · split at h
          · exact ⟨h.1, ih _ _ _ hm h.2⟩
          · exact h.elim
        · exact h.elim
  have : resK e O rs [] fun xs => ∃ e', WK 0 (fun t => if t = 0 then packR xs else .top) O e' [] ∧ e' 0 = res := by
    refine key rs _ _ _ (fun xs hp => ?_) h
    refine ⟨fun t => if t = 0 then res else .top, WK.forget rfl (Nat.le_refl _) (Nat.zero_le _) (by simp) fun t => ?_, rfl⟩
    by_cases ht : t = 0
    · subst ht; exact .inr ⟨by simp [hp], by simpa using noref_scoped _ hs⟩
    · exact .inl (by simp [ht])
  rcases hx with rfl | rfl <;> exact this

end Go.Ab
