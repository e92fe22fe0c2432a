/-
  A SYMBOLIC WALK: code is run once, on values that have names only; what is left over is a small program T on plain values: no slots, no boxes, no rows.
-/
import Derived.Test.YtaaoifpijmbhoaaAbX0
set_option linter.unusedVariables false
set_option linter.unusedSimpArgs false
set_option linter.defProp false
namespace Go.Ab

/-- plain values, by names -/
inductive D where
  | x (i : Nat)
  | c (a : AV)
  | cell (i j : Nat)
  | ext (i j : Nat)
  | sl (l : D)
  | agg (l : List D)
  | fn (f : FuncId) (l : List D)
  | ip (d : D) (f : Nat)

instance : Inhabited D := ⟨.x 0⟩

def listOf : AV → List AV
  | .sl xs => xs
  | _ => []
def idxOf : AV → Nat
  | .v (.int _ k) => k.toNat
  | _ => 0
def tupD (a : AV) (j : Nat) : AV :=
  match a with
  | .tup vs => vs.getD j .top
  | _ => .top

mutual
def D.ev (r : List AV) : D → AV
  | .x i => r.getD i .top
  | .c a => a
  | .cell i j => (r.getD i .top).cells.getD j .top
  | .ext i j => tupD (r.getD i .top) j
  | .sl l => .sl (listOf (l.ev r))
  | .agg l => .agg (D.evs r l)
  | .fn f l => .fn f (D.evs r l)
  | .ip d f => .iptr (d.ev r) f
def D.evs (r : List AV) : List D → List AV
  | [] => []
  | d :: l => d.ev r :: D.evs r l
end
mutual
def D.cl (n : Nat) : D → Bool
  | .x i => decide (i < n)
  | .c a => a.noref
  | .cell i _ => decide (i < n)
  | .ext i _ => decide (i < n)
  | .sl l => l.cl n
  | .agg l => D.cls n l
  | .fn _ l => D.cls n l
  | .ip d _ => d.cl n
def D.cls (n : Nat) : List D → Bool
  | [] => true
  | d :: l => d.cl n && D.cls n l
end

def AV.ceq : AV → AV → Bool
  | .v (.int k a), .v (.int k' b) => decide (k = k') && decide (a = b)
  | .v (.bool a), .v (.bool b) => decide (a = b)
  | .v (.string a), .v (.string b) => decide (a = b)
  | .nils, .nils => true
  | .sl [], .sl [] => true
  | .tup [], .tup [] => true
  | .fn f [], .fn g [] => decide (f = g)
  | _, _ => false

mutual
def D.beq : D → D → Bool
  | .x i, .x j => decide (i = j)
  | .c a, .c b => a.ceq b
  | .cell i j, .cell k l => decide (i = k) && decide (j = l)
  | .ext i j, .ext k l => decide (i = k) && decide (j = l)
  | .sl a, .sl b => a.beq b
  | .agg a, .agg b => D.beqs a b
  | .fn f a, .fn g b => decide (f = g) && D.beqs a b
  | .ip a f, .ip b g => a.beq b && decide (f = g)
  | _, _ => false
def D.beqs : List D → List D → Bool
  | [], [] => true
  | a :: as, b :: bs => a.beq b && D.beqs as bs
  | _, _ => false
end

/-- what a slot holds: a plain value, or a reference to what is owned -/
inductive SV where
  | d (x : D)
  | row (n : Nat) (l : D)
  | ptr (n f : Nat)
  | rp (n : Nat) (l i : D) (f : Nat)
  | ip (x : D) (f : Nat)
  | agg (cs : List SV)
  | top

instance : Inhabited SV := ⟨.top⟩

inductive SO where
  | dead
  | box (e : Nat) (cs : List SV)
  | row (nl : Bool) (e s : Nat) (l : D)

instance : Inhabited SO := ⟨.dead⟩

def mkA : List AV → AV
  | [c] => c
  | cs => .agg cs

mutual
def SV.ev (r : List AV) : SV → AV
  | .d x => x.ev r
  | .row n l => .row n (listOf (l.ev r)).length
  | .ptr n f => .ptr n 1 0 f
  | .rp n l i f => .ptr n (listOf (l.ev r)).length (idxOf (i.ev r)) f
  | .ip x f => .iptr (x.ev r) f
  | .agg cs => .agg (SV.evs r cs)
  | .top => .top
def SV.evs (r : List AV) : List SV → List AV
  | [] => []
  | v :: l => v.ev r :: SV.evs r l
end
def SO.ev (r : List AV) : SO → AObj
  | .dead => .dead
  | .box e cs => .live e cs.length [mkA (SV.evs r cs)]
  | .row true e s l => if listOf (l.ev r) = [] then .nil e s else .live e s (listOf (l.ev r))
  | .row false e s l => .live e s (listOf (l.ev r))
mutual
def SV.cl (n : Nat) : SV → Bool
  | .d x => x.cl n
  | .row _ l => l.cl n
  | .ptr _ _ => true
  | .rp _ l i _ => l.cl n && i.cl n
  | .ip x _ => x.cl n
  | .agg cs => SV.cls n cs
  | .top => true
def SV.cls (n : Nat) : List SV → Bool
  | [] => true
  | v :: l => v.cl n && SV.cls n l
end
def SO.cl (n : Nat) : SO → Bool
  | .dead => true
  | .box _ cs => SV.cls n cs
  | .row _ _ _ l => l.cl n
mutual
def SV.beq : SV → SV → Bool
  | .d x, .d y => x.beq y
  | .row n l, .row m k => decide (n = m) && l.beq k
  | .ptr n f, .ptr m g => decide (n = m) && decide (f = g)
  | .rp n l i f, .rp m k j g => decide (n = m) && l.beq k && i.beq j && decide (f = g)
  | .ip x f, .ip y g => x.beq y && decide (f = g)
  | .agg a, .agg b => SV.beqs a b
  | .top, .top => true
  | _, _ => false
def SV.beqs : List SV → List SV → Bool
  | [], [] => true
  | a :: as, b :: bs => a.beq b && SV.beqs as bs
  | _, _ => false
end
def SO.beq : SO → SO → Bool
  | .dead, .dead => true
  | .box e cs, .box e' cs' => decide (e = e') && SV.beqs cs cs'
  | .row n e s l, .row n' e' s' l' => decide (n = n') && decide (e = e') && decide (s = s') && l.beq l'
  | _, _ => false
mutual
/-- only objects below k are named -/
def SV.sc (k : Nat) : SV → Bool
  | .d _ => true
  | .row n _ => decide (n < k)
  | .ptr n _ => decide (n < k)
  | .rp n _ _ _ => decide (n < k)
  | .ip _ _ => true
  | .agg cs => SV.scs k cs
  | .top => true
def SV.scs (k : Nat) : List SV → Bool
  | [] => true
  | v :: l => v.sc k && SV.scs k l
end
def SO.sc (k : Nat) : SO → Bool
  | .dead => true
  | .box _ cs => SV.scs k cs
  | .row _ _ _ _ => true

def lk : List (Nat × SV) → Nat → SV
  | [], _ => .top
  | (k, v) :: l, t => if t = k then v else lk l t

structure SS where
  env : List (Nat × SV)
  objs : List SO
  nv : Nat
  /-- names that are aggregates of so many cells (nothing leans on it) -/
  kn : List (Nat × Nat)

instance : Inhabited SS := ⟨⟨[], [], 0, []⟩⟩

def SS.cl (s : SS) : Bool := s.env.all (fun p => p.2.cl s.nv) && s.objs.all (fun o => o.cl s.nv)
def stE (s : SS) (r : List AV) : Env := fun t => (lk s.env t).ev r
def stO (s : SS) (r : List AV) : List AObj := s.objs.map (SO.ev r)
def SS.set (s : SS) (t : Nat) (v : SV) : SS := { s with env := (t, v) :: s.env.filter (fun p => p.1 != t) }
def SS.setD (s : SS) (d : Option Nat) (v : SV) : SS :=
  match d with
  | some t => s.set t v
  | none => s
def un : SV := .d (.c (.tup []))

/- THE PROGRAM THAT IS LEFT -/

inductive PO where
  | val (x : D)
  | pick (c a b : D)
  | bin (op : BinOp) (a b : D)
  | beq (neg : Bool) (a b : D)
  | un (op : UnOp) (a : D)
  | conv (k : IntKind) (a : D)
  | elem (s : Nat) (l i : D)
  | fld (off : Nat) (n : Option Nat) (a : D)
  | loadc (f m : Nat) (a : D)
  | idxS (a i : D)
  | sliceS (a : D) (lo hi : Option D)
  | sliceL (s : Nat) (a : D) (lo hi : Option D)
  | lenS (a : D)
  | lenL (a : D)
  | mkl (z : AV) (n : Nat) (parts : List (Nat × D))
  | rep (bytes : Nat) (z : AV) (n c : D)
  | app (s bytes : Nat) (l y : D)
  | get (l i : D) (f : Nat) (n : Option Nat)
  | set (l i : D) (f m : Nat) (y : D)
  | call (f : FuncId) (args : List D) (flat : Bool)
  | callv (g : D) (args : List D) (flat : Bool)
  /-- through a pointer into what nobody writes any more -/
  | ldp (n : Option Nat) (a : D)
  | fap (off : Nat) (a : D)

inductive Chk where
  /-- an aggregate of m cells -/
  | cells (a : D) (m : Nat)
  | one (a : D)
  | lt (a : D) (j : Nat)
  | tup (a : D) (j : Nat)
  | idx (l i : D)
  | isFn (a : D)
  /-- a list that is not empty -/
  | ne (l : D)

inductive Node where
  | op (o : PO)
  | chk (c : Chk)

inductive T where
  | leaf (x : AX) (s : SS)
  | ret (ds : List D)
  | jump (vs : List D)
  | esc (t : T)
  | op (o : PO) (t : T)
  | chk (c : Chk) (t : T)
  | ite (c : D) (t f : T)
  | bind (k : Nat) (a b : T)
  | loop (init : List D) (b : T)

instance : Inhabited T := ⟨.jump []⟩

def D.evo (r : List AV) : Option D → Option AV
  | none => none
  | some d => some (d.ev r)

def callP (P : Program) (f : FuncId) (args : List AV) (flat : Bool) (K : AV → Prop) : Prop :=
  ∃ res, PCon P f args res ∧ res.noref = true ∧ (flat = true → res.flat = true) ∧ K res
def callvP (P : Program) (g : AV) (args : List AV) (flat : Bool) (K : AV → Prop) : Prop :=
  match g with
  | .fn f caps => callP P f (args ++ caps) flat K
  | _ => False

def appP (s bytes : Nat) (xs : List AV) (y : AV) (K : AV → Prop) : Prop :=
  srcOf [] y fun ys => (∀ y ∈ ys, y.cells.length = s) ∧ (xs.length + ys.length) * bytes ≤ 140737488355328 ∧ xs.length + ys.length ≤ maxLen ∧ K (.sl (xs ++ ys))
def getP (xs : List AV) (i : Nat) (f : Nat) (n : Option Nat) (K : AV → Prop) : Prop := i < xs.length ∧ f + n.getD 1 ≤ (xs.getD i .top).cells.length ∧ K (loadC n (xs.getD i .top) f)
def setP (xs : List AV) (i : Nat) (f m : Nat) (y : AV) (K : AV → Prop) : Prop :=
  i < xs.length ∧ y.cells.length = m ∧ y.storable = true ∧ f + m ≤ (xs.getD i .top).cells.length ∧ K (.sl (xs.set i (upd (xs.getD i .top) f y)))
def elemP (s : Nat) (a i : AV) (K : AV → Prop) : Prop :=
  match a, i with
  | .sl xs, .v (.int _ i) => 0 ≤ i ∧ i < xs.length ∧ (xs.getD i.toNat .top).cells.length = s ∧ K (xs.getD i.toNat .top)
  | _, _ => False
def repP (bytes : Nat) (z a b : AV) (K : AV → Prop) : Prop :=
  match a, b with
  | .v (.int .i64 n), .v (.int .i64 c) => 0 ≤ n ∧ n ≤ c ∧ bytes * c ≤ 281474976710656 ∧ c ≤ 9223372036854775807 ∧ K (.sl (List.replicate n.toNat z))
  | _, _ => False
def setAll (z : List AV) : List (Nat × AV) → List AV
  | [] => z
  | (i, y) :: r => setAll (z.set i y) r
def loadcP (f m : Nat) (a : AV) (K : AV → Prop) : Prop := f + m ≤ a.cells.length ∧ K (loadC (some m) a f)

def ldpP (n : Option Nat) (a : AV) (K : AV → Prop) : Prop :=
  match a with
  | .iptr y f => f + n.getD 1 ≤ y.cells.length ∧ K (loadC n y f)
  | _ => False
def fapP (off : Nat) (a : AV) (K : AV → Prop) : Prop :=
  match a with
  | .iptr y f => K (.iptr y (f + off))
  | _ => False

def beqP (neg : Bool) (a b : AV) (K : AV → Prop) : Prop :=
  match a, b with
  | .v (.bool a), .v (.bool b) => K (.v (.bool (neg != (a == b))))
  | _, _ => False

def PO.wp (P : Program) (r : List AV) (o : PO) (K : AV → Prop) : Prop :=
  match o with
  | .val x => K (x.ev r)
  | .pick c a b => pickK (c.ev r) (a.ev r) (b.ev r) [] fun x _ => K x
  | .bin op a b => binK op (a.ev r) (b.ev r) [] fun x _ => K x
  | .beq neg a b => beqP neg (a.ev r) (b.ev r) K
  | .un op a => unK op (a.ev r) [] fun x _ => K x
  | .conv k a => convK k (a.ev r) [] fun x _ => K x
  | .elem s l i => elemP s (l.ev r) (i.ev r) K
  | .fld off n a => fldK off n (a.ev r) [] fun x _ => K x
  | .loadc f m a => loadcP f m (a.ev r) K
  | .idxS a i => idxSK (a.ev r) (i.ev r) [] fun x _ => K x
  | .sliceS a lo hi => sliceSK (a.ev r) (D.evo r lo) (D.evo r hi) [] fun x _ => K x
  | .sliceL s a lo hi => sliceLK s (a.ev r) (D.evo r lo) (D.evo r hi) [] fun x _ => K x
  | .lenS a => lenSK (a.ev r) [] fun x _ => K x
  | .lenL a => lenLK (a.ev r) [] fun x _ => K x
  | .mkl z n parts => K (.sl (setAll (List.replicate n z) (parts.map fun p => (p.1, p.2.ev r))))
  | .rep bytes z n c => repP bytes z (n.ev r) (c.ev r) K
  | .app s bytes l y => appP s bytes (listOf (l.ev r)) (y.ev r) K
  | .get l i f n => getP (listOf (l.ev r)) (idxOf (i.ev r)) f n K
  | .set l i f m y => setP (listOf (l.ev r)) (idxOf (i.ev r)) f m (y.ev r) K
  | .call f args flat => callP P f (D.evs r args) flat K
  | .callv g args flat => callvP P (g.ev r) (D.evs r args) flat K
  | .ldp n a => ldpP n (a.ev r) K
  | .fap off a => fapP off (a.ev r) K

def idxP (xs : List AV) (i : AV) (K : Prop) : Prop :=
  match i with
  | .v (.int _ i) => 0 ≤ i ∧ i < xs.length ∧ K
  | _ => False
def tupP (a : AV) (j : Nat) (K : Prop) : Prop :=
  match a with
  | .tup vs => j < vs.length ∧ K
  | _ => False
def isFnP (a : AV) (K : Prop) : Prop :=
  match a with
  | .fn _ _ => K
  | .iptr _ _ => K
  | _ => False

def Chk.wp (r : List AV) (c : Chk) (K : Prop) : Prop :=
  match c with
  | .cells a m => (a.ev r).isAgg = true ∧ (a.ev r).cells.length = m ∧ (a.ev r).storable = true ∧ K
  | .one a => (a.ev r).cells.length = 1 ∧ (a.ev r).isCell = true ∧ K
  | .lt a j => j < (a.ev r).cells.length ∧ K
  | .tup a j => tupP (a.ev r) j K
  | .idx l i => idxP (listOf (l.ev r)) (i.ev r) K
  | .isFn a => isFnP (a.ev r) K
  | .ne l => listOf (l.ev r) ≠ [] ∧ K

/-- WHAT THE PROGRAM COMES TO. L: what is asked at an open end; R: of the result; S: of what is handed to the joins around. -/
def wpT (P : Program) (L : AX → SS → List AV → Prop) (R : AV → Prop) : T → List AV → List (List AV → Prop) → Prop
  | .leaf x s, r, _ => L x s r
  | .ret ds, r, _ => R (packR (D.evs r ds))
  | .jump vs, r, S => match S with
    | J :: _ => J (D.evs r vs)
    | [] => False
  | .esc t, r, S => match S with
    | _ :: S => wpT P L R t r S
    | [] => False
  | .op o t, r, S => o.wp P r fun v => wpT P L R t (r ++ [v]) S
  | .chk c t, r, S => c.wp r (wpT P L R t r S)
  | .ite c t f, r, S => match c.ev r with
    | .v (.bool b) => (b = true → wpT P L R t r S) ∧ (b = false → wpT P L R f r S)
    | _ => False
  | .bind k a b, r, S => wpT P L R a r ((fun vs => vs.length = k → wpT P L R b (r ++ vs) S) :: S)
  | .loop init b, r, S => ∃ (J : Nat → List AV → Prop) (n : Nat), J n (D.evs r init) ∧ ∀ n vs, J n vs → vs.length = init.length → wpT P L R b (r ++ vs) ((fun vs' => ∃ m, m < n ∧ J m vs') :: S)

def escN : Nat → T → T
  | 0, t => t
  | n + 1, t => .esc (escN n t)

/-- open ends are filled; d: how many joins are around -/
def T.fill (k : AX → SS → Option T) : T → Nat → Option T
  | .leaf x s, d => (k x s).map (escN d)
  | .ret d, _ => some (.ret d)
  | .jump vs, d => if d = 0 then none else some (.jump vs)
  | .esc t, d => match d with
    | 0 => none
    | d + 1 => (t.fill k d).map .esc
  | .op o t, d => (t.fill k d).map (.op o)
  | .chk c t, d => (t.fill k d).map (.chk c)
  | .ite c t f, d => match t.fill k d, f.fill k d with
    | some t, some f => some (.ite c t f)
    | _, _ => none
  | .bind m a b, d => match a.fill k (d + 1), b.fill k d with
    | some a, some b => some (.bind m a b)
    | _, _ => none
  | .loop init b, d => (b.fill k (d + 1)).map (.loop init)

def T.leaves : T → List (AX × SS)
  | .leaf x s => [(x, s)]
  | .ret _ => []
  | .jump _ => []
  | .esc t => t.leaves
  | .op _ t => t.leaves
  | .chk _ t => t.leaves
  | .ite _ t f => t.leaves ++ f.leaves
  | .bind _ a b => a.leaves ++ b.leaves
  | .loop _ b => b.leaves
def T.joins : T → Bool
  | .leaf _ _ => false
  | .ret _ => false
  | .jump _ => false
  | .esc t => t.joins
  | .op _ t => t.joins
  | .chk _ t => t.joins
  | .ite _ t f => t.joins || f.joins
  | .bind _ _ _ => true
  | .loop _ _ => true

def wrap : List Node → T → T
  | [], t => t
  | .op o :: r, t => .op o (wrap r t)
  | .chk c :: r, t => .chk c (wrap r t)

end Go.Ab
