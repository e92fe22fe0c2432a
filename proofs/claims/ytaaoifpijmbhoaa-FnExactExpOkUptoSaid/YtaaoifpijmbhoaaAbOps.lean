/-
  Abstract operations: what they ask and give; how an operation of the model is made into one.
-/
import Derived.Test.YtaaoifpijmbhoaaAbBase
set_option linter.unusedVariables false
set_option linter.unusedSimpArgs false
set_option linter.defProp false
namespace Go.Ab

inductive Opd where
  | t (n : Nat)
  | c (a : AV)

abbrev Env := Nat → AV

def Env.set (e : Env) (t : Nat) (a : AV) : Env := fun k => if k = t then a else e k

def Opd.ev (e : Env) : Opd → AV
  | .t n => e n
  | .c a => a

/-- n: none: one cell; some m: m cells as an aggregate. -/
def loadC (n : Option Nat) (x : AV) (f : Nat) : AV :=
  match n with
  | none => x.cells.getD f .top
  | some m => if f = 0 ∧ x.isAgg = true ∧ x.cells.length = m then x else .agg ((x.cells.drop f).take m)

/-- the cells from f on become y's. -/
def upd (x : AV) (f : Nat) (y : AV) : AV :=
  if f = 0 ∧ y.cells.length = x.cells.length then y else .agg (x.cells.take f ++ y.cells ++ x.cells.drop (f + y.cells.length))

def AV.storable (x : AV) : Bool := x.cells.all AV.isCell

inductive AOp where
  | mov (x : Opd)
  | pick (c a b : Opd)
  | alloc (e s : Nat) (z : AV)
  | box (e s : Nat) (x : Opd)
  | build (z : List AV) (parts : List (Nat × Nat × Opd))
  | buildSlice (e s len : Nat) (z : AV) (parts : List (Nat × Opd))
  | load (n : Option Nat) (x : Opd)
  | store (m : Nat) (x y : Opd)
  | bin (op : BinOp) (x y : Opd)
  /-- two bools: the same; neg: not the same -/
  | beq (neg : Bool) (x y : Opd)
  | un (op : UnOp) (x : Opd)
  | convInt (k : IntKind) (x : Opd)
  | faddr (off : Nat) (x : Opd)
  | fld (off : Nat) (n : Option Nat) (x : Opd)
  | iaddr (s : Nat) (x i : Opd)
  | idxS (x i : Opd)
  | sliceS (x : Opd) (lo hi : Option Opd)
  | sliceL (s : Nat) (x : Opd) (lo hi : Option Opd)
  | mk (e s bytes : Nat) (z : AV) (len cap : Opd)
  | lenS (x : Opd)
  | lenL (x : Opd)
  | app (e s bytes : Nat) (x y : Opd)
  | ext (x : Opd) (i : Nat)
  | nilc (x : Opd)
  | mkfn (f : FuncId) (caps : List Opd)
  | call (f : FuncId) (args : List Opd)
  | callv (x : Opd) (args : List Opd)
  | pcall (f : FuncId) (args : List Opd)
  | pcallv (x : Opd) (args : List Opd)
  | qcall (f : FuncId) (args : List Opd)
  | qcallv (x : Opd) (args : List Opd)

/-- an operator on two ints of one kind. -/
def ibin (op : BinOp) (k : IntKind) (a b : Int) : Option Value :=
  match op with
  | .add => some (.int k (k.wrap (a + b)))
  | .sub => some (.int k (k.wrap (a - b)))
  | .mul => some (.int k (k.wrap (a * b)))
  | .quo => if b ≠ 0 then some (.int k (k.wrap (a.tdiv b))) else none
  | .rem => if b ≠ 0 then some (.int k (a.tmod b)) else none
  | .and => some (.int k (k.wrap (BitVec.ofInt k.bits a &&& BitVec.ofInt k.bits b).toNat))
  | .or => some (.int k (k.wrap (BitVec.ofInt k.bits a ||| BitVec.ofInt k.bits b).toNat))
  | .xor => some (.int k (k.wrap (BitVec.ofInt k.bits a ^^^ BitVec.ofInt k.bits b).toNat))
  | .eql => some (.bool (a == b))
  | .neq => some (.bool (a != b))
  | .lss => some (.bool (a < b))
  | .leq => some (.bool (a ≤ b))
  | .gtr => some (.bool (a > b))
  | .geq => some (.bool (a ≥ b))
  | _ => none

def shbin (op : BinOp) (k : IntKind) (a b : Int) : Option Value :=
  match op with
  | .shl => if 0 ≤ b then some (.int k (k.wrap (a * 2 ^ (min b.toNat k.bits)))) else none
  | .shr => if 0 ≤ b then some (.int k (a.fdiv (2 ^ (min b.toNat k.bits)))) else none
  | _ => none

/-- an operator on two strings. -/
def stbin (op : BinOp) (a b : ByteArray) : Option Value :=
  match op with
  | .add => if ((a.size + b.size : Nat) : Int) ≤ IntKind.i64.max then some (.string (a ++ b)) else none
  | .eql => some (.bool (a.toList == b.toList))
  | .neq => some (.bool !(a.toList == b.toList))
  | .lss => some (.bool (Op.bytesLess a.toList b.toList))
  | .leq => some (.bool (Op.bytesLess a.toList b.toList || a.toList == b.toList))
  | .gtr => some (.bool !(Op.bytesLess a.toList b.toList || a.toList == b.toList))
  | .geq => some (.bool !(Op.bytesLess a.toList b.toList))
  | _ => none

def BinOp.isShift : BinOp → Bool
  | .shl | .shr => true
  | _ => false

/-- an operator on two values of one cell. -/
def sbin (op : BinOp) (x y : Value) : Option Value :=
  match x, y with
  | .int k a, .int k' b => if BinOp.isShift op = true then shbin op k a b else if k = k' then ibin op k a b else none
  | .string a, .string b => stbin op a b
  | _, _ => none

def sun (op : UnOp) (x : Value) : Option Value :=
  match op, x with
  | .neg, .int k n => some (.int k (k.wrap (0 - n)))
  | .not, .bool b => some (.bool !b)
  | _, _ => none

def buildK (e : Env) (z : List AV) : List (Nat × Nat × Opd) → (AV → Prop) → Prop
  | [], K => K (.agg z)
  | (off, size, x) :: r, K => (x.ev e).cells.length = size ∧ ((x.ev e).isCell || (x.ev e).isAgg) = true ∧ off + size ≤ z.length ∧
      buildK e (z.take off ++ (x.ev e).cells ++ z.drop (off + size)) r K

def rowK (e : Env) (s : Nat) (xs : List AV) : List (Nat × Opd) → (List AV → Prop) → Prop
  | [], K => K xs
  | (i, x) :: r, K => (x.ev e).cells.length = s ∧ (x.ev e).storable = true ∧ i < xs.length ∧ rowK e s (xs.set i (x.ev e)) r K

def boundK (d : Int) (e : Env) : Option Opd → (Int → Prop) → Prop
  | none, K => K d
  | some x, K => match x.ev e with | .v (.int _ i) => K i | _ => False

/-- What is appended. -/
def srcK (O : List AObj) (y : AV) (K : List AV → Prop) : Prop :=
  match y with
  | .nils => K []
  | .sl ys => K ys
  | .row n len => match O[n]? with
    | some (.live _ _ xs) => xs.length = len ∧ K xs
    | some (.nil _ _) => len = 0 ∧ K []
    | _ => False
  | _ => False

mutual
/-- no reference to what is owned -/
def AV.noref : AV → Bool
  | .top | .v _ | .nils => true
  | .sl xs => AV.norefs xs
  | .iptr x _ => x.noref
  | .row _ _ | .ptr _ _ _ _ => false
  | .fn _ cs => AV.norefs cs
  | .agg cs => AV.norefs cs
  | .tup vs => AV.norefs vs
def AV.norefs : List AV → Bool
  | [] => true
  | x :: xs => x.noref && AV.norefs xs
end

/-- a row as what it reads -/
def frz (O : List AObj) (a : AV) : AV :=
  match a with
  | .row n len => match O[n]? with
    | some (.live _ _ xs) => if xs.length = len then .sl xs else a
    | some (.nil _ _) => if len = 0 then .sl [] else a
    | _ => a
  | a => a

def AV.flat : AV → Bool
  | .v _ => true
  | .tup vs => vs.all fun x => match x with | .v _ => true | _ => false
  | _ => false

def killRow (O : List AObj) (a : AV) : List AObj :=
  match a with
  | .row n _ => O.set n .dead
  | _ => O

/-- the objects behind a call that touches nothing: what was handed as a row and may be part of the result is not owned any more -/
def aft (O : List AObj) (args : List AV) (res : AV) : List AObj := if res.flat = true then O else args.foldl killRow O

/-- To what it is appended. -/
def appK (O : List AObj) (x : AV) (t s bytes : Nat) (ys : List AV) (K : AV → List AObj → Prop) : Prop :=
  match x with
  | .nils => ys.length * bytes ≤ 140737488355328 ∧ ys.length ≤ maxLen ∧ (ys = [] → K .nils O) ∧ (ys ≠ [] → K (.row O.length ys.length) (O ++ [.live t s ys]))
  | .row n len => match O[n]? with
    | some (.live t' s' xs) => t' = t ∧ s' = s ∧ xs.length = len ∧ (len + ys.length) * bytes ≤ 140737488355328 ∧ len + ys.length ≤ maxLen ∧
        K (.row n (len + ys.length)) (O.set n (.live t s (xs ++ ys)))
    | some (.nil t' s') => t' = t ∧ s' = s ∧ len = 0 ∧ ys.length * bytes ≤ 140737488355328 ∧ ys.length ≤ maxLen ∧
        (ys = [] → K (.row n 0) O) ∧ (ys ≠ [] → K (.row n ys.length) (O.set n (.live t s ys)))
    | _ => False
  | _ => False

def wpOp (P : Program) (o : AOp) (e : Env) (O : List AObj) (K : AV → List AObj → Prop) : Prop :=
  match o with
  | .mov x => K (x.ev e) O
  | .pick c a b => match c.ev e with
    | .v (.bool t) => K (if t then a.ev e else b.ev e) O
    | _ => False
  | .alloc t s z => K (.ptr O.length 1 0 0) (O ++ [.live t s [z]])
  | .box t s x => (x.ev e).cells.length = s ∧ (x.ev e).storable = true ∧ K (.ptr O.length 1 0 0) (O ++ [.live t s [x.ev e]])
  | .build z parts => buildK e z parts fun a => K a O
  | .buildSlice t s len z parts => rowK e s (List.replicate len z) parts fun xs => K (.row O.length len) (O ++ [.live t s xs])
  | .load n x => match x.ev e with
    | .iptr y f => f + n.getD 1 ≤ y.cells.length ∧ K (loadC n y f) O
    | .ptr k len i f => match O[k]? with
      | some (.live _ _ xs) => xs.length = len ∧ i < len ∧ f + n.getD 1 ≤ (xs.getD i .top).cells.length ∧ K (loadC n (xs.getD i .top) f) O
      | _ => False
    | _ => False
  | .store m x y => match x.ev e with
    | .ptr k len i f => match O[k]? with
      | some (.live t s xs) => xs.length = len ∧ i < len ∧ (y.ev e).cells.length = m ∧ (y.ev e).storable = true ∧ f + m ≤ (xs.getD i .top).cells.length ∧
          K .top (O.set k (.live t s (xs.set i (upd (xs.getD i .top) f (y.ev e)))))
      | _ => False
    | _ => False
  | .bin op x y => match x.ev e, y.ev e with
    | .v a, .v b => match sbin op a b with
      | some z => K (.v z) O
      | none => False
    | _, _ => False
  | .beq neg x y => match x.ev e, y.ev e with
    | .v (.bool a), .v (.bool b) => K (.v (.bool (neg != (a == b)))) O
    | _, _ => False
  | .un op x => match x.ev e with
    | .v a => match sun op a with
      | some z => K (.v z) O
      | none => False
    | _ => False
  | .convInt k x => match x.ev e with
    | .v (.int _ n) => K (.v (.int k (k.wrap n))) O
    | _ => False
  | .faddr off x => match x.ev e with
    | .iptr y f => K (.iptr y (f + off)) O
    | .ptr n len i f => match O[n]? with
      | some (.live _ _ xs) => xs.length = len ∧ K (.ptr n len i (f + off)) O
      | _ => False
    | _ => False
  | .fld off n x => (x.ev e).isAgg = true ∧ off + n.getD 1 ≤ (x.ev e).cells.length ∧ K (loadC n (x.ev e) off) O
  | .iaddr s x i => match x.ev e, i.ev e with
    | .sl xs, .v (.int _ i) => 0 ≤ i ∧ i < xs.length ∧ (xs.getD i.toNat .top).cells.length = s ∧ K (.iptr (xs.getD i.toNat .top) 0) O
    | .row n len, .v (.int _ i) => match O[n]? with
      | some (.live _ s' xs) => s' = s ∧ xs.length = len ∧ 0 ≤ i ∧ i < len ∧ K (.ptr n len i.toNat 0) O
      | _ => False
    | _, _ => False
  | .idxS x i => match x.ev e, i.ev e with
    | .v (.string s), .v (.int _ i) => 0 ≤ i ∧ i < s.size ∧ K (.v (.int .u8 (s.data.toList.getD i.toNat 0).toNat)) O
    | _, _ => False
  | .sliceS x lo hi => match x.ev e with
    | .v (.string s) => boundK 0 e lo fun l => boundK s.size e hi fun h => 0 ≤ l ∧ l ≤ h ∧ h ≤ s.size ∧ K (.v (.string (s.extract l.toNat h.toNat))) O
    | _ => False
  | .sliceL s x lo hi => match x.ev e with
    | .sl xs => boundK 0 e lo fun l => boundK xs.length e hi fun h => 0 ≤ l ∧ l ≤ h ∧ h ≤ xs.length ∧ (∀ y ∈ xs, y.cells.length = s) ∧ K (.sl ((xs.take h.toNat).drop l.toNat)) O
    | _ => False
  | .mk t s bytes z len cap => match len.ev e, cap.ev e with
    | .v (.int .i64 n), .v (.int .i64 c) => 0 ≤ n ∧ n ≤ c ∧ bytes * c ≤ 2 ^ 48 ∧ c ≤ maxLen ∧ K (.row O.length n.toNat) (O ++ [.live t s (List.replicate n.toNat z)])
    | _, _ => False
  | .lenS x => match x.ev e with
    | .v (.string s) => K (.v (.int .i64 s.size)) O
    | _ => False
  | .lenL x => match x.ev e with
    | .nils => K (.v (.int .i64 0)) O
    | .sl xs => K (.v (.int .i64 xs.length)) O
    | .row n len => match O[n]? with
      | some (.live _ _ xs) => xs.length = len ∧ K (.v (.int .i64 len)) O
      | some (.nil _ _) => len = 0 ∧ K (.v (.int .i64 0)) O
      | _ => False
    | _ => False
  | .app t s bytes x y => srcK O (y.ev e) fun ys => (∀ y ∈ ys, y.cells.length = s) ∧ appK O (x.ev e) t s bytes ys K
  | .ext x i => match x.ev e with
    | .tup vs => i < vs.length ∧ K (vs.getD i .top) O
    | _ => False
  | .nilc x => match x.ev e with
    | .iptr y f => K (.iptr y f) O
    | .fn f caps => K (.fn f caps) O
    | .ptr n len i f => match O[n]? with
      | some (.live _ _ xs) => xs.length = len ∧ K (.ptr n len i f) O
      | _ => False
    | _ => False
  | .mkfn f caps => K (.fn f (caps.map (Opd.ev e))) O
  | .call f args => ∃ res O', Con P f (args.map (Opd.ev e)) O res O' ∧ K res O'
  | .callv x args => match x.ev e with
    | .fn f caps => ∃ res O', Con P f (args.map (Opd.ev e) ++ caps) O res O' ∧ K res O'
    | _ => False
  | .pcall f args => ∃ res, AV.norefs (args.map fun x => frz O (x.ev e)) = true ∧ PCon P f (args.map fun x => frz O (x.ev e)) res ∧ K res (aft O (args.map (Opd.ev e)) res)
  | .pcallv x args => match x.ev e with
    | .fn f caps => ∃ res, AV.norefs ((args.map fun x => frz O (x.ev e)) ++ caps) = true ∧ PCon P f ((args.map fun x => frz O (x.ev e)) ++ caps) res ∧ K res (aft O (args.map (Opd.ev e)) res)
    | _ => False
  | .qcall f args => ∃ res, AV.norefs (args.map (Opd.ev e)) = true ∧ PCon P f (args.map (Opd.ev e)) res ∧ K res O
  | .qcallv x args => match x.ev e with
    | .fn f caps => ∃ res, AV.norefs (args.map (Opd.ev e) ++ caps) = true ∧ PCon P f (args.map (Opd.ev e) ++ caps) res ∧ K res O
    | _ => False

/- FROM THE MODEL's OPERATIONS -/

def absC : Value → Option AV
  | .bool b => some (.v (.bool b))
  | .int k n => some (.v (.int k n))
  | .string s => some (.v (.string s))
  | .pointer none => some (.v (.pointer none))
  | .map none => some (.v (.map none))
  | .nilFunc => some (.v .nilFunc)
  | .nilIface => some (.v .nilIface)
  | .slice none 0 0 => some .nils
  | _ => none

def absV : Value → Option AV
  | .agg cs => (cs.toList.mapM absC).map .agg
  | .func (.func f) first captured => if first.size = 0 ∧ captured.size = 0 then some (.fn f []) else none
  | x => absC x

def cOpd : Operand → Option Opd
  | .tmp t => some (.t t)
  | .const v => (absV v).map .c
  | .func f => some (.c (.fn f []))
  | .global _ => none

def cOpds (l : Array Operand) : Option (List Opd) := l.toList.mapM cOpd

/-- size of a type, bytes, zero value -/
def cElem (P : Program) (t : TypeId) : Option (Nat × Nat × AV) := do
  let i ← P.info? t
  let z ← i.zero
  let a ← absV z
  if a.cells.length = i.size ∧ 0 < i.size ∧ z.cells.size = i.size ∧ a.storable = true then some (i.size, i.bytes, a) else none

def aggT (d : TypeDesc) : Bool :=
  match d with
  | .struct _ | .array _ _ => true
  | _ => false

/-- none: one cell; some n: an aggregate -/
def cWidth (P : Program) (t : TypeId) : Option (Option Nat) := do
  let d ← P.underlying t
  let i ← P.info? t
  if aggT d = true then (if 0 < i.size then some (some i.size) else none) else some none

def cSlice (P : Program) (t : TypeId) : Option TypeId :=
  match P.underlying t with
  | some (.slice e) => some e
  | _ => none

def isNeq : BinOp → Bool
  | .neq => true
  | _ => false
/-- an equality of two bools -/
def isBoolEq (P : Program) (op : BinOp) (t : TypeId) : Bool :=
  match op, P.underlying t with
  | .eql, some .bool => true
  | .neq, some .bool => true
  | _, _ => false

def cOp1 (P : Program) (type : TypeId) (o : Op) : Option AOp :=
  match o with
  | .move x | .assign x => do some (.mov (← cOpd x))
  | .pick c a b => do some (.pick (← cOpd c) (← cOpd a) (← cOpd b))
  | .alloc t => do let (s, _, z) ← cElem P t; some (.alloc t s z)
  | .box t x => do let i ← P.info? t; if 0 < i.size then some (.box t i.size (← cOpd x)) else none
  | .build t parts =>
    match P.underlying t with
    | some (.struct fs) => do
      let (_, _, z) ← cElem P t
      let _ ← fs.toList.mapM (fun f => (P.info? f.type).map fun i => (f.offset, i.size))
      let ps ← parts.toList.mapM fun (i, x) => do let f ← fs[i]?; let n ← P.info? f.type; some (f.offset, n.size, ← cOpd x)
      some (.build z.cells ps)
    | _ => none
  | .buildSlice t len parts => do
    let e ← cSlice P t
    let (s, _, z) ← cElem P e
    let ps ← parts.toList.mapM fun (i, x) => do some (i, ← cOpd x)
    if len * s ≤ 2 ^ 24 then some (.buildSlice e s len z ps) else none
  | .load t x => do some (.load (← cWidth P t) (← cOpd x))
  | .store t x y => do some (.store (← P.info? t).size (← cOpd x) (← cOpd y))
  | .nilCheck x => do some (.nilc (← cOpd x))
  | .binOp op t x y _ => if isBoolEq P op t = true then do some (.beq (isNeq op) (← cOpd x) (← cOpd y)) else do some (.bin op (← cOpd x) (← cOpd y))
  | .unOp op _ x => do some (.un op (← cOpd x))
  | .convert src dst x => match P.underlying src, P.underlying dst with
    | some (.int _), some (.int k) => do some (.convInt k (← cOpd x))
    | _, _ => none
  | .fieldAddr t x f => match P.underlying t with
    | some (.struct fs) => do
      let g ← fs[f]?
      if 0 < (← P.info? g.type).size then some (.faddr g.offset (← cOpd x)) else none
    | _ => none
  | .field t x f => match P.underlying t with
    | some (.struct fs) => do
      let g ← fs[f]?
      some (.fld g.offset (← cWidth P g.type) (← cOpd x))
    | _ => none
  | .indexAddr t x i => do
    let e ← cSlice P t
    some (.iaddr (← P.info? e).size (← cOpd x) (← cOpd i))
  | .index t x i => match P.underlying t with
    | some .string => do some (.idxS (← cOpd x) (← cOpd i))
    | _ => none
  | .slice t x lo hi mx =>
    if mx.isSome then none else
    match P.underlying t with
    | some .string => do some (.sliceS (← cOpd x) (← lo.mapM cOpd) (← hi.mapM cOpd))
    | some (.slice e) => do some (.sliceL (← P.info? e).size (← cOpd x) (← lo.mapM cOpd) (← hi.mapM cOpd))
    | _ => none
  | .makeSlice t l c => do
    let e ← cSlice P t
    let (s, b, z) ← cElem P e
    some (.mk e s b z (← cOpd l) (← cOpd c))
  | .extract x i => do some (.ext (← cOpd x) i)
  | .makeFunc (.func f) first caps => if first.isEmpty then do some (.mkfn f (← cOpds caps)) else none
  | _ => none

def AOp.isCall : AOp → Bool
  | .call _ _ | .callv _ _ | .pcall _ _ | .pcallv _ _ | .qcall _ _ | .qcallv _ _ => true
  | _ => false

def cCall (P : Program) (c : Call) : Option AOp :=
  match c.callee with
  | .value f => match cOpd f, cOpds c.args with
    | some (.c (.fn f [])), some args => some (.call f args)
    | some x, some args => some (.callv x args)
    | _, _ => none
  | .builtin .len => match c.argTypes.toList, c.args.toList with
    | [t], [x] => match P.underlying t with
      | some .string => (cOpd x).map .lenS
      | some (.slice _) => (cOpd x).map .lenL
      | _ => none
    | _, _ => none
  | .builtin .append => match c.argTypes.toList, c.args.toList with
    | [t, u], [x, y] => if t = u then do
        let e ← cSlice P t
        let (s, b, _) ← cElem P e
        some (.app e s b (← cOpd x) (← cOpd y)) else none
    | _, _ => none
  | _ => none

def cOp (P : Program) (type : TypeId) (o : Op) : Option AOp :=
  match o with
  | .call c => cCall P c
  | o => (cOp1 P type o).bind fun a => if a.isCall = true then none else some a

end Go.Ab
