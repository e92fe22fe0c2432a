/-
  CODE: regions, control, what a function gives back.
-/
import Derived.Test.YtaaoifpijmbhoaaAbSound14
set_option linter.unusedVariables false
set_option linter.unusedSimpArgs false
set_option linter.defProp false
namespace Go.Ab

structure AOper where
  guard : Option (Nat × Bool)
  dst : Option Nat
  op : AOp

def AOper.strip (o : AOper) : AOper := { o with op := o.op.strip }

def setD (e : Env) (d : Option Nat) (a : AV) : Env :=
  match d with
  | some t => e.set t a
  | none => e

def wpOps (P : Program) : List AOper → Env → List AObj → (Env → List AObj → Prop) → Prop
  | [], e, O, K => K e O
  | o :: r, e, O, K =>
    match o.guard with
    | none => wpOp P o.op e O fun x O' => wpOps P r (setD e o.dst x) O' K
    | some (t, want) =>
      match e t with
      | .v (.bool b) =>
        (b = want → wpOp P o.op (e.set t (.v (.bool want))) O fun x O' => wpOps P r (setD (e.set t (.v (.bool want))) o.dst x) O' K) ∧
        (b = !want → wpOps P r (setD (e.set t (.v (.bool (!want)))) o.dst (.tup [])) O K)
      | .tup [] => wpOps P r (setD e o.dst (.tup [])) O K
      | _ => False

inductive AX where
  | normal
  | exit (id : Nat)
  | ret

inductive ACode where
  | skip
  | region (rows : Option (List (List Nat))) (ops : List AOper)
  | seq (a b : ACode)
  | cond (c : Opd) (t f : ACode)
  | block (id : Nat) (b : ACode)
  | loop (b : ACode)
  | exit (id : Nat)
  | ret
  | keep (live : List Nat) (c : ACode)
  | weak (c : ACode)
  /-- a region without a drawn order, in which less may be known ahead of each operation -/
  | regionW (ops : List AOper)

def ACode.strip : ACode → ACode
  | .region d ops => .region d (ops.map AOper.strip)
  | .seq a b => .seq a.strip b.strip
  | .cond c t f => .cond c t.strip f.strip
  | .block id b => .block id b.strip
  | .loop b => .loop b.strip
  | .keep _ c => c.strip
  | .weak c => c.strip
  | .regionW ops => .region none (ops.map AOper.strip)
  | c => c

/-- only these slots are remembered -/
def keepE (live : List Nat) (e : Env) : Env := fun t => if live.contains t then e t else .top

/-- Less may be known: whatever holds before, holds so behind it. -/
def WK (n0 : Nat) (e : Env) (O : List AObj) (e' : Env) (O' : List AObj) : Prop :=
  ∀ (I0 : Imm) (L0 : Nat → Loc) (O0 : List AObj) (w0 : World) (I : Imm) (L : Nat → Loc) (w : World) (f : Nat → Value), O0.length = n0 → Good I0 L0 O0 w0 I L O w → (∀ t, R I L O (e t) (f t)) →
    ∃ I' L', Good I0 L0 O0 w0 I' L' O' w ∧ ∀ t, R I' L' O' (e' t) (f t)

theorem WK.refl (n0 : Nat) (e : Env) (O : List AObj) : WK n0 e O e O := fun _ _ _ _ I L _ _ _ h k => ⟨I, L, h, k⟩

theorem WK.trans {n0 : Nat} {e e' e'' : Env} {O O' O'' : List AObj} (h : WK n0 e O e' O') (k : WK n0 e' O' e'' O'') : WK n0 e O e'' O'' := by
  intro I0 L0 O0 w0 I L w f h0 hg hr
  obtain ⟨I1, L1, g1, r1⟩ := h I0 L0 O0 w0 I L w f h0 hg hr
  exact k I0 L0 O0 w0 I1 L1 w f h0 g1 r1

def wpOpsW (P : Program) (n0 : Nat) : List AOper → Env → List AObj → (Env → List AObj → Prop) → Prop
  | [], e, O, K => ∃ e' O', WK n0 e O e' O' ∧ K e' O'
  | o :: r, e0, O0, K => ∃ e O, WK n0 e0 O0 e O ∧
    match o.guard with
    | none => wpOp P o.op e O fun x O' => wpOpsW P n0 r (setD e o.dst x) O' K
    | some (t, want) =>
      match e t with
      | .v (.bool b) =>
        (b = want → wpOp P o.op (e.set t (.v (.bool want))) O fun x O' => wpOpsW P n0 r (setD (e.set t (.v (.bool want))) o.dst x) O' K) ∧
        (b = !want → wpOpsW P n0 r (setD (e.set t (.v (.bool (!want)))) o.dst (.tup [])) O K)
      | .tup [] => wpOpsW P n0 r (setD e o.dst (.tup [])) O K
      | _ => False

def wpC (P : Program) (n0 : Nat) : ACode → (AX → Env → List AObj → Prop) → Env → List AObj → Prop
  | .skip, Q, e, O => Q .normal e O
  | .region _ ops, Q, e, O => wpOps P ops e O (Q .normal)
  | .seq a b, Q, e, O => wpC P n0 a (fun x e O => match x with | .normal => wpC P n0 b Q e O | x => Q x e O) e O
  | .cond c t f, Q, e, O => match c.ev e with
    | .v (.bool b) => (b = true → wpC P n0 t Q e O) ∧ (b = false → wpC P n0 f Q e O)
    | _ => False
  | .block id b, Q, e, O => wpC P n0 b (fun x e O => match x with | .exit i => if i = id then Q .normal e O else Q (.exit i) e O | x => Q x e O) e O
  | .loop b, Q, e, O => ∃ (J : Nat → Env → List AObj → Prop) (n : Nat), (∃ e' O', WK n0 e O e' O' ∧ J n e' O') ∧
      ∀ n e O, J n e O → wpC P n0 b (fun x e O => match x with | .normal => ∃ m e' O', m < n ∧ WK n0 e O e' O' ∧ J m e' O' | x => Q x e O) e O
  | .exit id, Q, e, O => Q (.exit id) e O
  | .ret, Q, e, O => Q .ret e O
  | .keep live c, Q, e, O => wpC P n0 c (fun x e O => match x with | .normal => Q .normal (keepE live e) O | x => Q x e O) e O
  | .weak c, Q, e, O => ∃ e' O', WK n0 e O e' O' ∧ wpC P n0 c Q e' O'
  | .regionW ops, Q, e, O => wpOpsW P n0 ops e O (Q .normal)

/- what a function gives back -/

inductive ARes where
  | tmp (t : Nat)
  | cell (t : Nat) (n : Option Nat)

def ARes.get (e : Env) (O : List AObj) (r : ARes) (K : AV → Prop) : Prop :=
  match r with
  | .tmp t => K (e t)
  | .cell t n => match e t with
    | .ptr k 1 0 0 => match O[k]? with
      | some (.live _ _ [x]) => n.getD 1 ≤ x.cells.length ∧ K (loadC n x 0)
      | _ => False
    | _ => False

def resK (e : Env) (O : List AObj) : List ARes → List AV → (List AV → Prop) → Prop
  | [], acc, K => K acc.reverse
  | r :: rs, acc, K => r.get e O fun x => resK e O rs (x :: acc) K

def packR : List AV → AV
  | [x] => x
  | xs => .tup xs

/-- behind the body: the results, and what is owned -/
def retK (n0 : Nat) (rs : List ARes) (res : AV) (O' : List AObj) (x : AX) (e : Env) (O : List AObj) : Prop :=
  match x with
  | .exit _ => False
  | _ => resK e O rs [] fun xs => ∃ e', WK n0 (fun t => if t = 0 then packR xs else .top) O e' O' ∧ e' 0 = res

/- FROM THE MODEL's CODE -/

def cGuard (ops : Array Oper) (nt : Nat) (g : Option (Nat × Bool)) : Option (Option (Nat × Bool)) :=
  match g with
  | none => some none
  | some (j, b) => match (ops[j]?).bind (·.dst) with
    | some t => if t < nt then some (some (t, b)) else none
    | none => none

/-- the edges of a region that draws its order -/
def rowsOf (ops : Array Oper) : List (List Nat) := ops.toList.map fun o => (o.after.toList.filter (Region.binds .any)).map (·.on)

def cOper (P : Program) (nt : Nat) (ops : Array Oper) (o : Oper) : Option AOper :=
  match cOp P o.type o.op, cGuard ops nt o.guard with
  | some op, some g => if o.dst.all (· < nt) = true then some ⟨g, o.dst, op⟩ else none
  | _, _ => none

def cCode (P : Program) (nt : Nat) : Code → Option ACode
  | .skip => some .skip
  | .region _ ops false => (ops.toList.mapM (cOper P nt ops)).map (.region none)
  | .region _ ops true => if Region.departs ops = true ∧ P.follows .mixedOrders = false then none else (ops.toList.mapM (cOper P nt ops)).map (.region (some (rowsOf ops)))
  | .seq a b => match cCode P nt a, cCode P nt b with
    | some a, some b => some (.seq a b)
    | _, _ => none
  | .cond c t f => match cOpd c, cCode P nt t, cCode P nt f with
    | some c, some t, some f => some (.cond c t f)
    | _, _, _ => none
  | .block id b => (cCode P nt b).map (.block id)
  | .loop b => (cCode P nt b).map .loop
  | .exit id => some (.exit id)
  | .ret => some .ret
  | _ => none

def cRes (P : Program) (r : ResultVar) : Option ARes :=
  match r with
  | .tmp t => some (.tmp t)
  | .cell t ty => (cWidth P ty).map (.cell t)

/-- THE WHOLE FUNCTION: number of slots, code, results -/
structure AFn where
  nargs : Nat
  nt : Nat
  code : ACode
  res : List ARes

def entryE (args : List AV) : Env := fun t => args.getD t (.tup [])

end Go.Ab
