/- Part of a proof: the functions that the law reaches, walked by the abstract logic of the texts Ab. -/
import Derived.Test.YtglnadkdpbfffaaAbM1
import Derived.Deep.LoopGhost
import Derived.Laws.Strings

set_option linter.unusedVariables false
set_option linter.unusedSimpArgs false
set_option linter.defProp false
/-
  CODE: regions, control, what a function gives back.
-/
namespace Go.Ab

structure AOper where
  guard : Option (Nat × Bool)
  dst : Option Nat
  op : AOp

def AOper.strip (o : AOper) : AOper := { o with op := o.op.strip }

def setD (e : Env) (d : Option Nat) (a : AV) : Env :=
  match d with
  | some t => e.set t a
  | none => e

def wpOps (P : Program) : List AOper → Env → List AObj → (Env → List AObj → Prop) → Prop
  | [], e, O, K => K e O
  | o :: r, e, O, K =>
    match o.guard with
    | none => wpOp P o.op e O fun x O' => wpOps P r (setD e o.dst x) O' K
    | some (t, want) =>
      match e t with
      | .v (.bool b) =>
        (b = want → wpOp P o.op (e.set t (.v (.bool want))) O fun x O' => wpOps P r (setD (e.set t (.v (.bool want))) o.dst x) O' K) ∧
        (b = !want → wpOps P r (setD (e.set t (.v (.bool (!want)))) o.dst (.tup [])) O K)
      | .tup [] => wpOps P r (setD e o.dst (.tup [])) O K
      | _ => False

inductive AX where
  | normal
  | exit (id : Nat)
  | ret

inductive ACode where
  | skip
  | region (rows : Option (List (List Nat))) (ops : List AOper)
  | seq (a b : ACode)
  | cond (c : Opd) (t f : ACode)
  | block (id : Nat) (b : ACode)
  | loop (b : ACode)
  | exit (id : Nat)
  | ret
  | keep (live : List Nat) (c : ACode)
  | weak (c : ACode)
  /-- a region without a drawn order, in which less may be known ahead of each operation -/
  | regionW (ops : List AOper)

def ACode.strip : ACode → ACode
  | .region d ops => .region d (ops.map AOper.strip)
  | .seq a b => .seq a.strip b.strip
  | .cond c t f => .cond c t.strip f.strip
  | .block id b => .block id b.strip
  | .loop b => .loop b.strip
  | .keep _ c => c.strip
  | .weak c => c.strip
  | .regionW ops => .region none (ops.map AOper.strip)
  | c => c

/-- only these slots are remembered -/
def keepE (live : List Nat) (e : Env) : Env := fun t => if live.contains t then e t else .top

/-- Less may be known: whatever holds before, holds so behind it. -/
def WK (n0 : Nat) (e : Env) (O : List AObj) (e' : Env) (O' : List AObj) : Prop :=
  ∀ (I0 : Imm) (L0 : Nat → Loc) (O0 : List AObj) (w0 : World) (I : Imm) (L : Nat → Loc) (w : World) (f : Nat → Value), O0.length = n0 → Good I0 L0 O0 w0 I L O w → (∀ t, R I L O (e t) (f t)) →
    ∃ I' L', Good I0 L0 O0 w0 I' L' O' w ∧ ∀ t, R I' L' O' (e' t) (f t)

theorem WK.refl (n0 : Nat) (e : Env) (O : List AObj) : WK n0 e O e O := fun _ _ _ _ I L _ _ _ h k => ⟨I, L, h, k⟩

theorem WK.trans {n0 : Nat} {e e' e'' : Env} {O O' O'' : List AObj} (h : WK n0 e O e' O') (k : WK n0 e' O' e'' O'') : WK n0 e O e'' O'' := by
  intro I0 L0 O0 w0 I L w f h0 hg hr
  obtain ⟨I1, L1, g1, r1⟩ := h I0 L0 O0 w0 I L w f h0 hg hr
  exact k I0 L0 O0 w0 I1 L1 w f h0 g1 r1

def wpOpsW (P : Program) (n0 : Nat) : List AOper → Env → List AObj → (Env → List AObj → Prop) → Prop
  | [], e, O, K => ∃ e' O', WK n0 e O e' O' ∧ K e' O'
  | o :: r, e0, O0, K => ∃ e O, WK n0 e0 O0 e O ∧
    match o.guard with
    | none => wpOp P o.op e O fun x O' => wpOpsW P n0 r (setD e o.dst x) O' K
    | some (t, want) =>
      match e t with
      | .v (.bool b) =>
        (b = want → wpOp P o.op (e.set t (.v (.bool want))) O fun x O' => wpOpsW P n0 r (setD (e.set t (.v (.bool want))) o.dst x) O' K) ∧
        (b = !want → wpOpsW P n0 r (setD (e.set t (.v (.bool (!want)))) o.dst (.tup [])) O K)
      | .tup [] => wpOpsW P n0 r (setD e o.dst (.tup [])) O K
      | _ => False

def wpC (P : Program) (n0 : Nat) : ACode → (AX → Env → List AObj → Prop) → Env → List AObj → Prop
  | .skip, Q, e, O => Q .normal e O
  | .region _ ops, Q, e, O => wpOps P ops e O (Q .normal)
  | .seq a b, Q, e, O => wpC P n0 a (fun x e O => match x with | .normal => wpC P n0 b Q e O | x => Q x e O) e O
  | .cond c t f, Q, e, O => match c.ev e with
    | .v (.bool b) => (b = true → wpC P n0 t Q e O) ∧ (b = false → wpC P n0 f Q e O)
    | _ => False
  | .block id b, Q, e, O => wpC P n0 b (fun x e O => match x with | .exit i => if i = id then Q .normal e O else Q (.exit i) e O | x => Q x e O) e O
  | .loop b, Q, e, O => ∃ (J : Nat → Env → List AObj → Prop) (n : Nat), (∃ e' O', WK n0 e O e' O' ∧ J n e' O') ∧
      ∀ n e O, J n e O → wpC P n0 b (fun x e O => match x with | .normal => ∃ m e' O', m < n ∧ WK n0 e O e' O' ∧ J m e' O' | x => Q x e O) e O
  | .exit id, Q, e, O => Q (.exit id) e O
  | .ret, Q, e, O => Q .ret e O
  | .keep live c, Q, e, O => wpC P n0 c (fun x e O => match x with | .normal => Q .normal (keepE live e) O | x => Q x e O) e O
  | .weak c, Q, e, O => ∃ e' O', WK n0 e O e' O' ∧ wpC P n0 c Q e' O'
  | .regionW ops, Q, e, O => wpOpsW P n0 ops e O (Q .normal)

/- what a function gives back -/

inductive ARes where
  | tmp (t : Nat)
  | cell (t : Nat) (n : Option Nat)

def ARes.get (e : Env) (O : List AObj) (r : ARes) (K : AV → Prop) : Prop :=
  match r with
  | .tmp t => K (e t)
  | .cell t n => match e t with
    | .ptr k 1 0 0 => match O[k]? with
      | some (.live _ _ [x]) => n.getD 1 ≤ x.cells.length ∧ K (loadC n x 0)
      | _ => False
    | _ => False

def resK (e : Env) (O : List AObj) : List ARes → List AV → (List AV → Prop) → Prop
  | [], acc, K => K acc.reverse
  | r :: rs, acc, K => r.get e O fun x => resK e O rs (x :: acc) K

def packR : List AV → AV
  | [x] => x
  | xs => .tup xs

/-- behind the body: the results, and what is owned -/
def retK (n0 : Nat) (rs : List ARes) (res : AV) (O' : List AObj) (x : AX) (e : Env) (O : List AObj) : Prop :=
  match x with
  | .exit _ => False
  | _ => resK e O rs [] fun xs => ∃ e', WK n0 (fun t => if t = 0 then packR xs else .top) O e' O' ∧ e' 0 = res

/- FROM THE MODEL's CODE -/

def cGuard (ops : Array Oper) (nt : Nat) (g : Option (Nat × Bool)) : Option (Option (Nat × Bool)) :=
  match g with
  | none => some none
  | some (j, b) => match (ops[j]?).bind (·.dst) with
    | some t => if t < nt then some (some (t, b)) else none
    | none => none

/-- the edges of a region that draws its order -/
def rowsOf (ops : Array Oper) : List (List Nat) := ops.toList.map fun o => (o.after.toList.filter (Region.binds .any)).map (·.on)

def cOper (P : Program) (nt : Nat) (ops : Array Oper) (o : Oper) : Option AOper :=
  match cOp P o.type o.op, cGuard ops nt o.guard with
  | some op, some g => if o.dst.all (· < nt) = true then some ⟨g, o.dst, op⟩ else none
  | _, _ => none

def cCode (P : Program) (nt : Nat) : Code → Option ACode
  | .skip => some .skip
  | .region _ ops false => (ops.toList.mapM (cOper P nt ops)).map (.region none)
  | .region _ ops true => if Region.departs ops = true ∧ P.follows .mixedOrders = false then none else (ops.toList.mapM (cOper P nt ops)).map (.region (some (rowsOf ops)))
  | .seq a b => match cCode P nt a, cCode P nt b with
    | some a, some b => some (.seq a b)
    | _, _ => none
  | .cond c t f => match cOpd c, cCode P nt t, cCode P nt f with
    | some c, some t, some f => some (.cond c t f)
    | _, _, _ => none
  | .block id b => (cCode P nt b).map (.block id)
  | .loop b => (cCode P nt b).map .loop
  | .exit id => some (.exit id)
  | .ret => some .ret
  | _ => none

def cRes (P : Program) (r : ResultVar) : Option ARes :=
  match r with
  | .tmp t => some (.tmp t)
  | .cell t ty => (cWidth P ty).map (.cell t)

/-- THE WHOLE FUNCTION: number of slots, code, results -/
structure AFn where
  nargs : Nat
  nt : Nat
  code : ACode
  res : List ARes

def entryE (args : List AV) : Env := fun t => args.getD t (.tup [])

end Go.Ab
/-
  REGIONS THAT DRAW THEIR ORDER (1): which operations may change places, and that they may.
-/
namespace Go.Ab

def Opd.rd : Opd → List Nat
  | .t n => [n]
  | .c _ => []

def optRd : Option Opd → List Nat
  | some x => x.rd
  | none => []

def AOp.reads : AOp → List Nat
  | .stuck => []
  | .buildF _ _ _ _ ps => ps.flatMap fun p => p.2.rd
  | .pu _ as => as.flatMap Opd.rd
  | .mov x | .box _ _ x | .load _ x | .un _ x | .convInt _ x | .faddr _ x | .fld _ _ x | .lenS x | .lenL x | .ext x _ | .nilc x => x.rd
  | .alloc _ _ _ => []
  | .pick c a b => c.rd ++ a.rd ++ b.rd
  | .build _ ps => ps.flatMap fun p => p.2.2.rd
  | .buildSlice _ _ _ _ ps => ps.flatMap fun p => p.2.rd
  | .store _ x y | .bin _ x y | .beq _ x y | .iaddr _ x y | .idxS x y | .app _ _ _ x y | .appS _ _ _ x y | .mk _ _ _ _ x y => x.rd ++ y.rd
  | .sliceS x l h | .sliceL _ x l h => x.rd ++ optRd l ++ optRd h
  | .mkfn _ cs => cs.flatMap Opd.rd
  | .call _ as | .pcall _ as | .qcall _ as => as.flatMap Opd.rd
  | .callv x as | .pcallv x as | .qcallv x as => x.rd ++ as.flatMap Opd.rd

/-- 0: hangs on its operands alone · 1: reads what is owned · 2: makes an object · 3: any -/
def AOp.cls : AOp → Nat
  | .buildF _ _ _ _ _ | .mov _ | .pick _ _ _ | .build _ _ | .bin _ _ _ | .beq _ _ _ | .un _ _ | .convInt _ _ | .fld _ _ _ | .idxS _ _ | .sliceS _ _ _ | .sliceL _ _ _ _ | .ext _ _ | .mkfn _ _ | .lenS _ | .qcall _ _ | .qcallv _ _ => 0
  | .load _ _ | .faddr _ _ | .nilc _ | .iaddr _ _ _ | .lenL _ | .pu _ _ => 1
  | .alloc _ _ _ | .box _ _ _ | .buildSlice _ _ _ _ _ | .mk _ _ _ _ _ _ => 2
  | _ => 3

def agree (l : List Nat) (e e' : Env) : Prop := ∀ t ∈ l, e t = e' t

theorem agree.ev {x : Opd} {e e' : Env} {l : List Nat} (h : agree l e e') (hx : ∀ t ∈ x.rd, t ∈ l) : x.ev e = x.ev e' := by
  cases x with
  | t n => exact h n (hx n (by simp [Opd.rd]))
  | c a => rfl

theorem agree.evs {xs : List Opd} {e e' : Env} {l : List Nat} (h : agree l e e') (hx : ∀ t ∈ xs.flatMap Opd.rd, t ∈ l) : xs.map (Opd.ev e) = xs.map (Opd.ev e') := by
  apply List.map_congr_left
  intro x hm
  exact h.ev fun t ht => hx t (List.mem_flatMap.2 ⟨x, hm, ht⟩)

theorem boundK_congr {d : Int} {e e' : Env} {x : Option Opd} {l : List Nat} (h : agree l e e') (hx : ∀ t ∈ optRd x, t ∈ l) (K : Int → Prop) : boundK d e x K = boundK d e' x K := by
  cases x with
  | none => rfl
  | some o => simp only [boundK]; rw [h.ev hx]

theorem buildK_congr {e e' : Env} {l : List Nat} (h : agree l e e') : ∀ (ps : List (Nat × Nat × Opd)) (z : List AV) (K : AV → Prop), (∀ t ∈ ps.flatMap (fun p => p.2.2.rd), t ∈ l) → buildK e z ps K = buildK e' z ps K
  | [], _, _, _ => rfl
  | (off, size, x) :: r, z, K, hx => by
    simp only [buildK]
    rw [h.ev (x := x) fun t ht => hx t (by simp [ht]), buildK_congr h r _ K fun t ht => hx t (by simp only [List.flatMap_cons, List.mem_append]; exact .inr ht)]

theorem rowK_congr {e e' : Env} {l : List Nat} (h : agree l e e') (s : Nat) : ∀ (ps : List (Nat × Opd)) (z : List AV) (K : List AV → Prop), (∀ t ∈ ps.flatMap (fun p => p.2.rd), t ∈ l) → rowK e s z ps K = rowK e' s z ps K
  | [], _, _, _ => rfl
  | (i, x) :: r, z, K, hx => by
    simp only [rowK]
    rw [h.ev (x := x) fun t ht => hx t (by simp [ht]), rowK_congr h s r _ K fun t ht => hx t (by simp only [List.flatMap_cons, List.mem_append]; exact .inr ht)]

theorem wpOp_congr {P : Program} {o : AOp} {e e' : Env} (h : agree o.reads e e') (O : List AObj) (K : AV → List AObj → Prop) : wpOp P o e O K = wpOp P o e' O K := by
  cases o <;> simp only [AOp.reads] at h <;> simp only [wpOp]
  case mov x => rw [h.ev fun t ht => ht]
  case pick c a b => rw [h.ev (x := c) (by simp +contextual), h.ev (x := a) (by simp +contextual), h.ev (x := b) (by simp +contextual)]
  case box t s x => rw [h.ev fun t ht => ht]
  case build z ps => exact buildK_congr h ps z _ fun t ht => ht
  case buildSlice t s len z ps => exact rowK_congr h s ps _ _ fun t ht => ht
  case buildF t s len z ps => exact rowK_congr h s ps _ _ fun t ht => ht
  case pu o as =>
    have hm : (as.map fun x => frz O (x.ev e)) = as.map fun x => frz O (x.ev e') := List.map_congr_left fun x hx => by rw [h.ev (x := x) fun t ht => List.mem_flatMap.2 ⟨x, hx, ht⟩]
    rw [hm]
  case appS t s b x y => rw [h.ev (x := x) (by simp +contextual), h.ev (x := y) (by simp +contextual)]
  case load n x => rw [h.ev fun t ht => ht]
  case store m x y => rw [h.ev (x := x) (by simp +contextual), h.ev (x := y) (by simp +contextual)]
  case bin op x y => rw [h.ev (x := x) (by simp +contextual), h.ev (x := y) (by simp +contextual)]
  case beq neg x y => rw [h.ev (x := x) (by simp +contextual), h.ev (x := y) (by simp +contextual)]
  case un op x => rw [h.ev fun t ht => ht]
  case convInt k x => rw [h.ev fun t ht => ht]
  case faddr k x => rw [h.ev fun t ht => ht]
  case fld k n x => rw [h.ev fun t ht => ht]
  case iaddr s x y => rw [h.ev (x := x) (by simp +contextual), h.ev (x := y) (by simp +contextual)]
  case idxS x y => rw [h.ev (x := x) (by simp +contextual), h.ev (x := y) (by simp +contextual)]
  case sliceS x lo hi =>
    have e1 := fun d K => boundK_congr (d := d) (x := lo) h (by simp +contextual) K
    have e2 := fun d K => boundK_congr (d := d) (x := hi) h (by simp +contextual) K
    rw [h.ev (x := x) (by simp +contextual)]
    simp only [e1, e2]
  case sliceL s x lo hi =>
    have e1 := fun d K => boundK_congr (d := d) (x := lo) h (by simp +contextual) K
    have e2 := fun d K => boundK_congr (d := d) (x := hi) h (by simp +contextual) K
    rw [h.ev (x := x) (by simp +contextual)]
    simp only [e1, e2]
  case mk t s b z x y => rw [h.ev (x := x) (by simp +contextual), h.ev (x := y) (by simp +contextual)]
  case lenS x => rw [h.ev fun t ht => ht]
  case lenL x => rw [h.ev fun t ht => ht]
  case app t s b x y => rw [h.ev (x := x) (by simp +contextual), h.ev (x := y) (by simp +contextual)]
  case ext x i => rw [h.ev fun t ht => ht]
  case nilc x => rw [h.ev fun t ht => ht]
  case mkfn f cs => rw [h.evs fun t ht => ht]
  case call f as => rw [h.evs fun t ht => ht]
  case callv x as => rw [h.ev (x := x) (by simp +contextual), h.evs (xs := as) (by simp +contextual)]
  case pcall f as =>
    have hm : (as.map fun x => frz O (x.ev e)) = as.map fun x => frz O (x.ev e') := List.map_congr_left fun x hx => by rw [h.ev (x := x) fun t ht => List.mem_flatMap.2 ⟨x, hx, ht⟩]
    rw [hm, h.evs fun t ht => ht]
  case pcallv x as =>
    have hm : (as.map fun x => frz O (x.ev e)) = as.map fun x => frz O (x.ev e') := List.map_congr_left fun x hx => by rw [h.ev (x := x) fun t ht => List.mem_append_right _ (List.mem_flatMap.2 ⟨x, hx, ht⟩)]
    rw [hm, h.ev (x := x) (by simp +contextual), h.evs (xs := as) (by simp +contextual)]
  case qcall f as => rw [h.evs fun t ht => ht]
  case qcallv x as => rw [h.ev (x := x) (by simp +contextual), h.evs (xs := as) (by simp +contextual)]

/-- what an operation gives, for whoever goes on -/
def Ex (P : Program) (o : AOp) (e : Env) (O : List AObj) (x : AV) (O' : List AObj) : Prop := ∀ K : AV → List AObj → Prop, K x O' → wpOp P o e O K

theorem buildK_ex {e : Env} : ∀ (ps : List (Nat × Nat × Opd)) (z : List AV) {K : AV → Prop}, buildK e z ps K → ∃ x, K x ∧ ∀ K' : AV → Prop, K' x → buildK e z ps K'
  | [], _, _, h => ⟨_, h, fun _ h => h⟩
  | (off, size, x) :: r, z, K, h => by
    obtain ⟨h1, h2, h3, h4⟩ := h
    obtain ⟨y, h5, h6⟩ := buildK_ex r _ h4
    exact ⟨y, h5, fun K' h => ⟨h1, h2, h3, h6 K' h⟩⟩

theorem rowK_ex {e : Env} {s : Nat} : ∀ (ps : List (Nat × Opd)) (z : List AV) {K : List AV → Prop}, rowK e s z ps K → ∃ x, K x ∧ ∀ K' : List AV → Prop, K' x → rowK e s z ps K'
  | [], _, _, h => ⟨_, h, fun _ h => h⟩
  | (i, x) :: r, z, K, h => by
    obtain ⟨h1, h2, h3, h4⟩ := h
    obtain ⟨y, h5, h6⟩ := rowK_ex r _ h4
    exact ⟨y, h5, fun K' h => ⟨h1, h2, h3, h6 K' h⟩⟩

theorem boundK_ex {d : Int} {e : Env} {x : Option Opd} {K : Int → Prop} (h : boundK d e x K) : ∃ i, K i ∧ ∀ K' : Int → Prop, K' i → boundK d e x K' := by
  cases x with
  | none => exact ⟨_, h, fun _ h => h⟩
  | some o =>
    simp only [boundK] at h ⊢
    split at h
    · exact ⟨_, h, fun _ h => h⟩
    · exact h.elim

/-- what hangs on its operands alone -/
theorem ex0 {P : Program} {o : AOp} (hc : o.cls = 0) {e : Env} {O : List AObj} {K : AV → List AObj → Prop} (h : wpOp P o e O K) :
    ∃ x, K x O ∧ ∀ O', Ex P o e O' x O' := by
  cases o <;> simp only [AOp.cls] at hc <;> first | (cases hc; done) | skip
  case mov x => exact ⟨_, h, fun O' K' h' => h'⟩
  case pick c a b =>
    simp only [wpOp] at h
    split at h
    · rename_i t ht; exact ⟨_, h, fun O' K' h' => by simp only [wpOp, ht]; exact h'⟩
    · exact h.elim
  case build z ps =>
    obtain ⟨x, h1, h2⟩ := buildK_ex ps z h
    exact ⟨x, h1, fun O' K' h' => h2 (fun a => K' a O') h'⟩
  case buildF t s len z ps =>
    obtain ⟨xs, ⟨hno, h1⟩, h2⟩ := rowK_ex ps _ h
    exact ⟨_, h1, fun O' K' h' => h2 (fun xs => AV.norefs xs = true ∧ K' (.sl xs) O') ⟨hno, h'⟩⟩
  case beq neg x y =>
    simp only [wpOp] at h
    split at h
    · rename_i a b ha hb
      exact ⟨_, h, fun O' K' h' => by simp only [wpOp, ha, hb]; exact h'⟩
    · exact h.elim
  case bin op x y =>
    simp only [wpOp] at h
    split at h
    · rename_i a b ha hb
      split at h
      · rename_i z hz; exact ⟨_, h, fun O' K' h' => by simp only [wpOp, ha, hb, hz]; exact h'⟩
      · exact h.elim
    · exact h.elim
  case un op x =>
    simp only [wpOp] at h
    split at h
    · rename_i a ha
      split at h
      · rename_i z hz; exact ⟨_, h, fun O' K' h' => by simp only [wpOp, ha, hz]; exact h'⟩
      · exact h.elim
    · exact h.elim
  case convInt k x =>
    simp only [wpOp] at h
    split at h
    · rename_i k' n ha; exact ⟨_, h, fun O' K' h' => by simp only [wpOp, ha]; exact h'⟩
    · exact h.elim
  case fld off n x => exact ⟨_, h.2.2, fun O' K' h' => ⟨h.1, h.2.1, h'⟩⟩
  case idxS x i =>
    simp only [wpOp] at h
    split at h
    · rename_i s k j ha hb; exact ⟨_, h.2.2, fun O' K' h' => by simp only [wpOp, ha, hb]; exact ⟨h.1, h.2.1, h'⟩⟩
    · exact h.elim
  case sliceS x lo hi =>
    simp only [wpOp] at h
    split at h
    · rename_i s ha
      obtain ⟨l, h1, h2⟩ := boundK_ex h
      obtain ⟨u, h3, h4⟩ := boundK_ex h1
      exact ⟨_, h3.2.2.2, fun O' K' h' => by simp only [wpOp, ha]; exact h2 _ (h4 _ ⟨h3.1, h3.2.1, h3.2.2.1, h'⟩)⟩
    · exact h.elim
  case sliceL s x lo hi =>
    simp only [wpOp] at h
    split at h
    · rename_i s ha
      obtain ⟨l, h1, h2⟩ := boundK_ex h
      obtain ⟨u, h3, h4⟩ := boundK_ex h1
      exact ⟨_, h3.2.2.2.2, fun O' K' h' => by simp only [wpOp, ha]; exact h2 _ (h4 _ ⟨h3.1, h3.2.1, h3.2.2.1, h3.2.2.2.1, h'⟩)⟩
    · exact h.elim
  case lenS x =>
    simp only [wpOp] at h
    split at h
    · rename_i s ha; exact ⟨_, h, fun O' K' h' => by simp only [wpOp, ha]; exact h'⟩
    · exact h.elim
  case ext x i =>
    simp only [wpOp] at h
    split at h
    · rename_i vs ha; exact ⟨_, h.2, fun O' K' h' => by simp only [wpOp, ha]; exact ⟨h.1, h'⟩⟩
    · exact h.elim
  case mkfn f cs => exact ⟨_, h, fun O' K' h' => h'⟩
  case qcall f as =>
    obtain ⟨r, h1, h2, h3⟩ := h
    exact ⟨r, h3, fun O' K' h' => ⟨r, h1, h2, h'⟩⟩
  case qcallv x as =>
    simp only [wpOp] at h
    split at h
    · rename_i f caps ha
      obtain ⟨r, h1, h2, h3⟩ := h
      exact ⟨r, h3, fun O' K' h' => by simp only [wpOp, ha]; exact ⟨r, h1, h2, h'⟩⟩
    · exact h.elim

theorem get_more {O : List AObj} {k : Nat} {ob b : AObj} (h : O[k]? = some ob) : (O ++ [b])[k]? = some ob := by
  rw [List.getElem?_append_left (List.getElem?_eq_some_iff.1 h).1]; exact h

theorem frz_more {O : List AObj} {a : AV} {b : AObj} (h : (frz O a).noref = true) : frz (O ++ [b]) a = frz O a := by
  cases a <;> try rfl
  rename_i n len
  simp only [frz] at h ⊢
  cases hO : O[n]? with
  | none => rw [hO] at h; simp [AV.noref] at h
  | some ob => rw [get_more hO]

/-- what reads -/
theorem ex1 {P : Program} {o : AOp} (hc : o.cls = 1) {e : Env} {O : List AObj} {K : AV → List AObj → Prop} (h : wpOp P o e O K) :
    ∃ x, K x O ∧ Ex P o e O x O ∧ ∀ b, Ex P o e (O ++ [b]) x (O ++ [b]) := by
  cases o <;> simp only [AOp.cls] at hc <;> first | (cases hc; done) | skip
  case pu o as =>
    obtain ⟨hn, hk⟩ := h
    unfold puK at hk
    split at hk
    · rename_i v hv
      refine ⟨v, hk, fun K' h' => ⟨hn, by unfold puK; rw [hv]; exact h'⟩, fun b K' h' => ?_⟩
      have hm : (as.map fun x => frz (O ++ [b]) (x.ev e)) = as.map fun x => frz O (x.ev e) := List.map_congr_left fun x hx =>
        frz_more (norefs_mem hn _ (List.mem_map.2 ⟨x, hx, rfl⟩))
      exact ⟨by rw [hm]; exact hn, by rw [hm]; unfold puK; rw [hv]; exact h'⟩
    · exact hk.elim
  case load n x =>
    simp only [wpOp] at h
    split at h
    · rename_i y f ha; exact ⟨_, h.2, fun K' h' => by simp only [wpOp, ha]; exact ⟨h.1, h'⟩, fun b K' h' => by simp only [wpOp, ha]; exact ⟨h.1, h'⟩⟩
    · rename_i k len i f ha
      split at h
      · rename_i t s xs hO
        obtain ⟨h1, h2, h3, h4⟩ := h
        exact ⟨_, h4, fun K' h' => by simp only [wpOp, ha, hO]; exact ⟨h1, h2, h3, h'⟩, fun b K' h' => by simp only [wpOp, ha, get_more hO]; exact ⟨h1, h2, h3, h'⟩⟩
      · exact h.elim
    · exact h.elim
  case faddr off x =>
    simp only [wpOp] at h
    split at h
    · rename_i y f ha; exact ⟨_, h, fun K' h' => by simp only [wpOp, ha]; exact h', fun b K' h' => by simp only [wpOp, ha]; exact h'⟩
    · rename_i k len i f ha
      split at h
      · rename_i t s xs hO
        exact ⟨_, h.2, fun K' h' => by simp only [wpOp, ha, hO]; exact ⟨h.1, h'⟩, fun b K' h' => by simp only [wpOp, ha, get_more hO]; exact ⟨h.1, h'⟩⟩
      · exact h.elim
    · exact h.elim
  case nilc x =>
    simp only [wpOp] at h
    split at h
    · rename_i y f ha; exact ⟨_, h, fun K' h' => by simp only [wpOp, ha]; exact h', fun b K' h' => by simp only [wpOp, ha]; exact h'⟩
    · rename_i y f ha; exact ⟨_, h, fun K' h' => by simp only [wpOp, ha]; exact h', fun b K' h' => by simp only [wpOp, ha]; exact h'⟩
    · rename_i k len i f ha
      split at h
      · rename_i t s xs hO
        exact ⟨_, h.2, fun K' h' => by simp only [wpOp, ha, hO]; exact ⟨h.1, h'⟩, fun b K' h' => by simp only [wpOp, ha, get_more hO]; exact ⟨h.1, h'⟩⟩
      · exact h.elim
    · exact h.elim
  case iaddr s x y =>
    simp only [wpOp] at h
    split at h
    · rename_i xs k i ha hb
      obtain ⟨h1, h2, h3, h4⟩ := h
      exact ⟨_, h4, fun K' h' => by simp only [wpOp, ha, hb]; exact ⟨h1, h2, h3, h'⟩, fun b K' h' => by simp only [wpOp, ha, hb]; exact ⟨h1, h2, h3, h'⟩⟩
    · rename_i n len k i ha hb
      split at h
      · rename_i t s' xs hO
        obtain ⟨h1, h2, h3, h4, h5⟩ := h
        exact ⟨_, h5, fun K' h' => by simp only [wpOp, ha, hb, hO]; exact ⟨h1, h2, h3, h4, h'⟩, fun b K' h' => by simp only [wpOp, ha, hb, get_more hO]; exact ⟨h1, h2, h3, h4, h'⟩⟩
      · exact h.elim
    · exact h.elim
  case lenL x =>
    simp only [wpOp] at h
    split at h
    · rename_i ha; exact ⟨_, h, fun K' h' => by simp only [wpOp, ha]; exact h', fun b K' h' => by simp only [wpOp, ha]; exact h'⟩
    · rename_i xs ha; exact ⟨_, h, fun K' h' => by simp only [wpOp, ha]; exact h', fun b K' h' => by simp only [wpOp, ha]; exact h'⟩
    · rename_i k len ha
      split at h
      · rename_i t s xs hO
        exact ⟨_, h.2, fun K' h' => by simp only [wpOp, ha, hO]; exact ⟨h.1, h'⟩, fun b K' h' => by simp only [wpOp, ha, get_more hO]; exact ⟨h.1, h'⟩⟩
      · rename_i t s hO
        exact ⟨_, h.2, fun K' h' => by simp only [wpOp, ha, hO]; exact ⟨h.1, h'⟩, fun b K' h' => by simp only [wpOp, ha, get_more hO]; exact ⟨h.1, h'⟩⟩
      · exact h.elim
    · exact h.elim

/-- what makes an object -/
theorem ex2 {P : Program} {o : AOp} (hc : o.cls = 2) {e : Env} {O : List AObj} {K : AV → List AObj → Prop} (h : wpOp P o e O K) :
    ∃ x b, K x (O ++ [b]) ∧ Ex P o e O x (O ++ [b]) := by
  cases o <;> simp only [AOp.cls] at hc <;> first | (cases hc; done) | skip
  case alloc t s z => exact ⟨_, _, h, fun K' h' => h'⟩
  case box t s x => exact ⟨_, _, h.2.2, fun K' h' => ⟨h.1, h.2.1, h'⟩⟩
  case buildSlice t s len z ps =>
    obtain ⟨xs, h1, h2⟩ := rowK_ex ps _ h
    exact ⟨_, _, h1, fun K' h' => h2 _ h'⟩
  case mk t s b z x y =>
    simp only [wpOp] at h
    split at h
    · rename_i n c ha hb
      obtain ⟨h1, h2, h3, h4, h5⟩ := h
      exact ⟨_, _, h5, fun K' h' => by simp only [wpOp, ha, hb]; exact ⟨h1, h2, h3, h4, h'⟩⟩
    · exact h.elim

theorem srcK_ex {O : List AObj} {y : AV} {K : List AV → Prop} (h : srcK O y K) : ∃ ys, K ys ∧ ∀ K' : List AV → Prop, K' ys → srcK O y K' := by
  unfold srcK at h
  split at h
  · exact ⟨_, h, fun K' h' => h'⟩
  · exact ⟨_, h, fun K' h' => h'⟩
  · rename_i n len
    split at h
    · rename_i t s xs hO; exact ⟨_, h.2, fun K' h' => by simp only [srcK, hO]; exact ⟨h.1, h'⟩⟩
    · rename_i t s hO; exact ⟨_, h.2, fun K' h' => by simp only [srcK, hO]; exact ⟨h.1, h'⟩⟩
    · exact h.elim
  · exact h.elim

theorem appK_ex {O : List AObj} {x : AV} {t s b : Nat} {ys : List AV} {K : AV → List AObj → Prop} (h : appK O x t s b ys K) : ∃ r O', K r O' ∧ ∀ K' : AV → List AObj → Prop, K' r O' → appK O x t s b ys K' := by
  unfold appK at h
  split at h
  · obtain ⟨h1, h2, h3, h4⟩ := h
    by_cases hy : ys = []
    · exact ⟨_, _, h3 hy, fun K' h' => ⟨h1, h2, fun _ => h', fun hn => (hn hy).elim⟩⟩
    · exact ⟨_, _, h4 hy, fun K' h' => ⟨h1, h2, fun hn => (hy hn).elim, fun _ => h'⟩⟩
  · rename_i n len
    split at h
    · rename_i t' s' xs hO
      obtain ⟨h1, h2, h3, h4, h5, h6⟩ := h
      exact ⟨_, _, h6, fun K' h' => by simp only [appK, hO]; exact ⟨h1, h2, h3, h4, h5, h'⟩⟩
    · rename_i t' s' hO
      obtain ⟨h1, h2, h3, h4, h5, h6, h7⟩ := h
      by_cases hy : ys = []
      · exact ⟨_, _, h6 hy, fun K' h' => by simp only [appK, hO]; exact ⟨h1, h2, h3, h4, h5, fun _ => h', fun hn => (hn hy).elim⟩⟩
      · exact ⟨_, _, h7 hy, fun K' h' => by simp only [appK, hO]; exact ⟨h1, h2, h3, h4, h5, fun hn => (hy hn).elim, fun _ => h'⟩⟩
    · exact h.elim
  · exact h.elim

/-- any operation -/
theorem exAny {P : Program} {o : AOp} {e : Env} {O : List AObj} {K : AV → List AObj → Prop} (h : wpOp P o e O K) : ∃ x O', K x O' ∧ Ex P o e O x O' := by
  by_cases h0 : o.cls = 0
  · obtain ⟨x, h1, h2⟩ := ex0 h0 h; exact ⟨x, O, h1, h2 O⟩
  by_cases h1 : o.cls = 1
  · obtain ⟨x, h1, h2, _⟩ := ex1 h1 h; exact ⟨x, O, h1, h2⟩
  by_cases h2 : o.cls = 2
  · obtain ⟨x, b, h1, h2⟩ := ex2 h2 h; exact ⟨x, _, h1, h2⟩
  cases o <;> first | (exact (h0 rfl).elim) | (exact (h1 rfl).elim) | (exact (h2 rfl).elim) | skip
  case stuck => exact h.elim
  case appS t s b x y =>
    simp only [wpOp] at h
    split at h
    · rename_i sb hsb
      obtain ⟨r, O', h1, h2⟩ := appK_ex h.2
      exact ⟨r, O', h1, fun K' h' => by simp only [wpOp, hsb]; exact ⟨h.1, h2 K' h'⟩⟩
    · exact h.elim
  case store m x y =>
    simp only [wpOp] at h
    split at h
    · rename_i k len i f ha
      split at h
      · rename_i t s xs hO
        obtain ⟨q1, q2, q3, q4, q5, q6⟩ := h
        exact ⟨_, _, q6, fun K' h' => by simp only [wpOp, ha, hO]; exact ⟨q1, q2, q3, q4, q5, h'⟩⟩
      · exact h.elim
    · exact h.elim
  case app t s b x y =>
    simp only [wpOp] at h
    obtain ⟨ys, q1, q2⟩ := srcK_ex h
    obtain ⟨r, O', q3, q4⟩ := appK_ex q1.2
    exact ⟨r, O', q3, fun K' h' => by simp only [wpOp]; exact q2 _ ⟨q1.1, q4 K' h'⟩⟩
  case call f as =>
    obtain ⟨r, O', q1, q2⟩ := h
    exact ⟨r, O', q2, fun K' h' => ⟨r, O', q1, h'⟩⟩
  case callv x as =>
    simp only [wpOp] at h
    split at h
    · rename_i f caps ha
      obtain ⟨r, O', q1, q2⟩ := h
      exact ⟨r, O', q2, fun K' h' => by simp only [wpOp, ha]; exact ⟨r, O', q1, h'⟩⟩
    · exact h.elim
  case pcall f as =>
    obtain ⟨r, q1, q2, q3⟩ := h
    exact ⟨r, _, q3, fun K' h' => ⟨r, q1, q2, h'⟩⟩
  case pcallv x as =>
    simp only [wpOp] at h
    split at h
    · rename_i f caps ha
      obtain ⟨r, q1, q2, q3⟩ := h
      exact ⟨r, _, q3, fun K' h' => by simp only [wpOp, ha]; exact ⟨r, q1, q2, h'⟩⟩
    · exact h.elim

end Go.Ab
/-
  REGIONS THAT DRAW THEIR ORDER (2): a run in the text's order is a run in every order that the edges allow.
-/
namespace Go.Ab

/-- one operation of a region: carried out, or left out -/
inductive Step (P : Program) (o : AOper) (e : Env) (O : List AObj) : Env → List AObj → Prop
  | run (x : AV) (O' : List AObj) : (∀ t want, o.guard = some (t, want) → e t = .v (.bool want)) → Ex P o.op e O x O' → Step P o e O (setD e o.dst x) O'
  | skip (t : Nat) (want : Bool) : o.guard = some (t, want) → (e t = .v (.bool (!want)) ∨ e t = .tup []) → Step P o e O (setD e o.dst (.tup [])) O

inductive Run (P : Program) : List AOper → Env → List AObj → Env → List AObj → Prop
  | nil (e : Env) (O : List AObj) : Run P [] e O e O
  | cons {o : AOper} {l : List AOper} {e e1 e2 : Env} {O O1 O2 : List AObj} : Step P o e O e1 O1 → Run P l e1 O1 e2 O2 → Run P (o :: l) e O e2 O2

theorem set_self {e : Env} {t : Nat} {a : AV} (h : e t = a) : e.set t a = e := by
  funext k; unfold Env.set; split
  · rename_i hk; subst hk; exact h.symm
  · rfl

theorem run_of_wp {P : Program} : ∀ (l : List AOper) {e : Env} {O : List AObj} {K : Env → List AObj → Prop}, wpOps P l e O K → ∃ e' O', Run P l e O e' O' ∧ K e' O'
  | [], e, O, K, h => ⟨e, O, .nil e O, h⟩
  | o :: l, e, O, K, h => by
    simp only [wpOps] at h
    cases hg : o.guard with
    | none =>
      rw [hg] at h
      obtain ⟨x, O', h1, h2⟩ := exAny h
      obtain ⟨e2, O2, h3, h4⟩ := run_of_wp l h1
      exact ⟨e2, O2, .cons (.run x O' (fun t want h => by rw [hg] at h; cases h) h2) h3, h4⟩
    | some g =>
      obtain ⟨t, want⟩ := g
      rw [hg] at h
      simp only at h
      split at h
      · rename_i b hb
        by_cases hbw : b = want
        · have hs : e.set t (.v (.bool want)) = e := set_self (by rw [hb, hbw])
          rw [hs] at h
          obtain ⟨x, O', h1, h2⟩ := exAny (h.1 hbw)
          obtain ⟨e2, O2, h3, h4⟩ := run_of_wp l h1
          exact ⟨e2, O2, .cons (.run x O' (fun t' want' h => by rw [hg] at h; cases h; rw [hb, hbw]) h2) h3, h4⟩
        · have hbn : b = !want := by cases b <;> cases want <;> simp_all
          have hs : e.set t (.v (.bool (!want))) = e := set_self (by rw [hb, hbn])
          rw [hs] at h
          obtain ⟨e2, O2, h3, h4⟩ := run_of_wp l (h.2 hbn)
          exact ⟨e2, O2, .cons (.skip t want hg (.inl (by rw [hb, hbn]))) h3, h4⟩
      · rename_i hb
        obtain ⟨e2, O2, h3, h4⟩ := run_of_wp l h
        exact ⟨e2, O2, .cons (.skip t want hg (.inr hb)) h3, h4⟩
      · exact h.elim

def AOper.reads (o : AOper) : List Nat := (match o.guard with | some (t, _) => [t] | none => []) ++ o.op.reads

/-- may p, which stands ahead of i in the text, be carried out behind it? -/
def indep (p i : AOper) : Bool :=
  (match p.dst with
    | some t => !(i.reads.contains t) && !(i.dst == some t)
    | none => true) &&
  (match i.dst with
    | some t => !(p.reads.contains t)
    | none => true) &&
  (p.op.cls == 0 || i.op.cls == 0 || (p.op.cls == 1 && i.op.cls == 1) || (p.op.cls == 1 && i.op.cls == 2))

theorem setD_comm {e : Env} {d d' : Option Nat} {a b : AV} (h : d = none ∨ d ≠ d') : setD (setD e d a) d' b = setD (setD e d' b) d a := by
  cases d <;> cases d' <;> simp only [setD]
  rename_i t t'
  have hne : t ≠ t' := by
    rcases h with h | h
    · cases h
    · intro he; exact h (by rw [he])
  funext k
  simp only [Env.set]
  by_cases h1 : k = t
  · subst h1
    rw [if_neg hne, if_pos rfl, if_pos rfl]
  · rw [if_neg h1, if_neg h1]

theorem agree_setD {l : List Nat} {e : Env} {d : Option Nat} {a : AV} (h : ∀ t, d = some t → t ∉ l) : agree l (setD e d a) e := by
  intro t ht
  cases d with
  | none => rfl
  | some d =>
    simp only [setD, Env.set]
    rw [if_neg]
    intro he; subst he; exact h _ rfl ht

theorem Ex.congr {P : Program} {o : AOp} {e e' : Env} {O O' : List AObj} {x : AV} (h : Ex P o e O x O') (ha : agree o.reads e' e) : Ex P o e' O x O' := by
  intro K hk
  rw [wpOp_congr ha]
  exact h K hk

theorem Ex.zero {P : Program} {o : AOp} {e : Env} {O O' : List AObj} {x : AV} (h : Ex P o e O x O') (hc : o.cls = 0) : O' = O ∧ ∀ O'', Ex P o e O'' x O'' := by
  obtain ⟨y, ⟨h1, h2⟩, h3⟩ := ex0 hc (h (fun a b => a = x ∧ b = O') ⟨rfl, rfl⟩)
  subst h1
  exact ⟨h2.symm, h3⟩

theorem Ex.one {P : Program} {o : AOp} {e : Env} {O O' : List AObj} {x : AV} (h : Ex P o e O x O') (hc : o.cls = 1) : O' = O ∧ ∀ b, Ex P o e (O ++ [b]) x (O ++ [b]) := by
  obtain ⟨y, ⟨h1, h2⟩, _, h3⟩ := ex1 hc (h (fun a b => a = x ∧ b = O') ⟨rfl, rfl⟩)
  subst h1
  exact ⟨h2.symm, h3⟩

theorem Ex.two {P : Program} {o : AOp} {e : Env} {O O' : List AObj} {x : AV} (h : Ex P o e O x O') (hc : o.cls = 2) : ∃ b, O' = O ++ [b] := by
  obtain ⟨y, b, ⟨_, h2⟩, _⟩ := ex2 hc (h (fun a b => a = x ∧ b = O') ⟨rfl, rfl⟩)
  exact ⟨b, h2.symm⟩

theorem indep_inv {p i : AOper} (h : indep p i = true) :
    (∀ t, p.dst = some t → t ∉ i.reads) ∧ (p.dst = none ∨ p.dst ≠ i.dst) ∧ (∀ t, i.dst = some t → t ∉ p.reads) ∧
    (p.op.cls = 0 ∨ i.op.cls = 0 ∨ (p.op.cls = 1 ∧ i.op.cls = 1) ∨ (p.op.cls = 1 ∧ i.op.cls = 2)) := by
  unfold indep at h
  simp only [Bool.and_eq_true, Bool.or_eq_true, beq_iff_eq] at h
  obtain ⟨⟨h1, h2⟩, h3⟩ := h
  refine ⟨fun t ht => ?_, ?_, fun t ht => ?_, ?_⟩
  · rw [ht] at h1; simp at h1; exact h1.1
  · cases hp : p.dst with
    | none => exact .inl rfl
    | some t => rw [hp] at h1; simp at h1; exact .inr fun he => h1.2 he.symm
  · rw [ht] at h2; simpa using h2
  · rcases h3 with ((h3 | h3) | h3) | h3
    · exact .inl h3
    · exact .inr (.inl h3)
    · exact .inr (.inr (.inl h3))
    · exact .inr (.inr (.inr h3))

theorem step_swap {P : Program} {p i : AOper} (hd : indep p i = true) {e e1 e2 : Env} {O O1 O2 : List AObj} (h1 : Step P p e O e1 O1) (h2 : Step P i e1 O1 e2 O2) :
    ∃ e1' O1', Step P i e O e1' O1' ∧ Step P p e1' O1' e2 O2 := by
  obtain ⟨d1, d2, d3, d4⟩ := indep_inv hd
  have gi : ∀ {t want a}, i.guard = some (t, want) → setD e p.dst a t = e t := by
    intro t want a hg
    exact agree_setD (l := i.reads) d1 t (by simp [AOper.reads, hg])
  have gp : ∀ {t want} {e' : Env} {a}, p.guard = some (t, want) → setD e' i.dst a t = e' t := by
    intro t want e' a hg
    exact agree_setD (l := p.reads) d3 t (by simp [AOper.reads, hg])
  have ri : ∀ {a}, agree i.op.reads e (setD e p.dst a) := fun {a} t ht => (agree_setD (l := i.reads) d1 t (by simp [AOper.reads, ht])).symm
  have rp : ∀ {e' a}, agree p.op.reads (setD e' i.dst a) e' := fun {e' a} t ht => agree_setD (l := p.reads) d3 t (by simp [AOper.reads, ht])
  cases h1 with
  | skip t want hg hb =>
    cases h2 with
    | skip t' want' hg' hb' =>
      rw [gi hg'] at hb'
      refine ⟨_, _, .skip t' want' hg' hb', ?_⟩
      rw [setD_comm d2]
      refine .skip t want hg ?_
      rw [gp hg]; exact hb
    | run y _ hq hy =>
      refine ⟨_, _, .run y O2 (fun t' want' hg' => by rw [← gi hg']; exact hq t' want' hg') (hy.congr ri), ?_⟩
      rw [setD_comm d2]
      refine .skip t want hg ?_
      rw [gp hg]; exact hb
  | run x _ hq hx =>
    cases h2 with
    | skip t' want' hg' hb' =>
      rw [gi hg'] at hb'
      refine ⟨_, _, .skip t' want' hg' hb', ?_⟩
      rw [setD_comm d2]
      exact .run x O1 (fun t want hg => by rw [gp hg]; exact hq t want hg) (hx.congr rp)
    | run y _ hq' hy =>
      have hy' := hy.congr (ri (a := x))
      have gq : ∀ t want, i.guard = some (t, want) → e t = .v (.bool want) := fun t' want' hg' => by rw [← gi hg']; exact hq' t' want' hg'
      have gp' : ∀ a t want, p.guard = some (t, want) → setD e i.dst a t = .v (.bool want) := fun a t want hg => by rw [gp hg]; exact hq t want hg
      rcases d4 with hc | hc | ⟨hc, hc'⟩ | ⟨hc, hc'⟩
      · obtain ⟨rfl, hall⟩ := hx.zero hc
        refine ⟨_, _, .run y O2 gq hy', ?_⟩
        rw [setD_comm d2]
        exact .run x O2 (gp' y) ((hall O2).congr rp)
      · obtain ⟨rfl, hall⟩ := hy'.zero hc
        refine ⟨_, _, .run y O gq (hall O), ?_⟩
        rw [setD_comm d2]
        exact .run x O2 (gp' y) (hx.congr rp)
      · obtain ⟨rfl, _⟩ := hx.one hc
        obtain ⟨rfl, _⟩ := hy'.one hc'
        refine ⟨_, _, .run y _ gq hy', ?_⟩
        rw [setD_comm d2]
        exact .run x _ (gp' y) (hx.congr rp)
      · obtain ⟨rfl, hmore⟩ := hx.one hc
        obtain ⟨b, rfl⟩ := hy'.two hc'
        refine ⟨_, _, .run y _ gq hy', ?_⟩
        rw [setD_comm d2]
        exact .run x _ (gp' y) ((hmore b).congr rp)

theorem run_front {P : Program} {i : AOper} {post : List AOper} : ∀ (pre : List AOper), (∀ p ∈ pre, indep p i = true) → ∀ {e e2 : Env} {O O2 : List AObj}, Run P (pre ++ i :: post) e O e2 O2 → Run P (i :: (pre ++ post)) e O e2 O2
  | [], _, _, _, _, _, h => h
  | p :: pre, hp, e, e2, O, O2, h => by
    cases h with
    | cons hs hr =>
      have := run_front pre (fun q hq => hp q (by simp [hq])) hr
      cases this with
      | cons hi hr' =>
        obtain ⟨e1', O1', s1, s2⟩ := step_swap (hp p (by simp)) hs hi
        exact .cons s1 (.cons s2 hr')

end Go.Ab
/-
  REGIONS THAT DRAW THEIR ORDER (3): the model's schedules.
-/
namespace Go.Ab

/-- row n: the operations that stand ahead of operation n by the edges, as bits -/
def cloN (rows : List (List Nat)) : Nat → List Nat
  | 0 => []
  | n + 1 => let acc := cloN rows n; acc ++ [(rows.getD n []).foldl (fun s j => s ||| (2 ^ j ||| acc.getD j 0)) 0]

theorem cloN_length (rows : List (List Nat)) (n : Nat) : (cloN rows n).length = n := by
  induction n with
  | zero => rfl
  | succ n ih => simp [cloN, ih]

theorem cloN_get (rows : List (List Nat)) {i n : Nat} (h : i < n) : (cloN rows n).getD i 0 = (rows.getD i []).foldl (fun s j => s ||| (2 ^ j ||| (cloN rows i).getD j 0)) 0 := by
  induction n with
  | zero => omega
  | succ n ih =>
    simp only [cloN]
    by_cases hi : i < n
    · rw [List.getD, List.getElem?_append_left (by rw [cloN_length]; exact hi)]
      exact ih hi
    · obtain rfl : i = n := by omega
      rw [List.getD, List.getElem?_append_right (by rw [cloN_length]; exact Nat.le_refl _)]
      simp [cloN_length]

theorem cloN_stable (rows : List (List Nat)) {i n m : Nat} (h : i < n) (h' : i < m) : (cloN rows n).getD i 0 = (cloN rows m).getD i 0 := by
  rw [cloN_get rows h, cloN_get rows h']

theorem testBit_fold (f : Nat → Nat) (p : Nat) : ∀ (l : List Nat) (s : Nat), (l.foldl (fun s j => s ||| (2 ^ j ||| f j)) s).testBit p = true → s.testBit p = true ∨ ∃ j ∈ l, p = j ∨ (f j).testBit p = true
  | [], s, h => .inl h
  | j :: l, s, h => by
    rcases testBit_fold f p l _ h with h1 | ⟨k, hk, h1⟩
    · rw [Nat.testBit_or, Nat.testBit_or] at h1
      simp only [Bool.or_eq_true] at h1
      rcases h1 with h1 | h1 | h1
      · exact .inl h1
      · rw [Nat.testBit_two_pow] at h1
        exact .inr ⟨j, by simp, .inl (by simpa using (of_decide_eq_true h1).symm)⟩
      · exact .inr ⟨j, by simp, .inr h1⟩
    · exact .inr ⟨k, by simp [hk], h1⟩

/-- what stands ahead is in every set that the edges close -/
theorem clo_in {rows : List (List Nat)} {n : Nat} {S : Nat → Prop} (hrows : ∀ i, i < n → ∀ d ∈ rows.getD i [], d < i) (hS : ∀ j, j < n → S j → ∀ d ∈ rows.getD j [], S d) :
    ∀ i, i < n → (∀ d ∈ rows.getD i [], S d) → ∀ p, ((cloN rows n).getD i 0).testBit p = true → S p := by
  intro i
  induction i using Nat.strongRecOn with
  | _ i ih =>
    intro hi hd p hp
    rw [cloN_get rows hi] at hp
    rcases testBit_fold _ p _ _ hp with h | ⟨j, hj, h⟩
    · simp at h
    · have hji := hrows i hi j hj
      rcases h with rfl | h
      · exact hd p hj
      · exact ih j hji (by omega) (hS j (by omega) (hd j hj)) p (by rw [cloN_stable rows (show j < n by omega) hji]; exact h)

def drawOk (rows : List (List Nat)) (al : List AOper) : Bool :=
  let c := cloN rows al.length
  (List.range al.length).all fun i => (rows.getD i []).all (· < i) &&
    (List.range i).all fun p => (c.getD i 0).testBit p || (match al[p]?, al[i]? with | some x, some y => indep x y | _, _ => false)

section
variable {P : Program} {ops : Array Oper} {al : List AOper}

theorem rows_get {i : Nat} {o : Oper} (h : ops[i]? = some o) : (rowsOf ops).getD i [] = (o.after.toList.filter (Region.binds .any)).map (·.on) := by
  have : ops.toList[i]? = some o := by simpa using h
  simp [rowsOf, List.getD, this]

theorem go_run (hlen : al.length = ops.size) (hok : drawOk (rowsOf ops) al = true) {e2 : Env} {O2 : List AObj} :
    ∀ (fuel t : Nat) (listed : Array Bool) (acc rem : List Nat) (e : Env) (O : List AObj), listed.size = ops.size → rem.length ≤ fuel → rem.Pairwise (· < ·) → (∀ j, j ∈ rem ↔ j < ops.size ∧ listed.getD j true = false) →
      (∀ j, j < ops.size → listed.getD j true = true → ∀ d ∈ (rowsOf ops).getD j [], listed.getD d true = true) →
      Run P (rem.map fun i => al.getD i ⟨none, none, .mov (.c .top)⟩) e O e2 O2 →
      ∃ l, Region.linearise.go .any ops fuel t listed acc = acc.reverse ++ l ∧ Run P (l.map fun i => al.getD i ⟨none, none, .mov (.c .top)⟩) e O e2 O2 ∧ ∀ i ∈ l, i < ops.size := by
  have hok' : ∀ i, i < ops.size → (∀ d ∈ (rowsOf ops).getD i [], d < i) ∧ ∀ p, p < i → ((cloN (rowsOf ops) ops.size).getD i 0).testBit p = true ∨ indep (al.getD p ⟨none, none, .mov (.c .top)⟩) (al.getD i ⟨none, none, .mov (.c .top)⟩) = true := by
    intro i hi
    unfold drawOk at hok
    simp only [List.all_eq_true, List.mem_range, Bool.and_eq_true, Bool.or_eq_true, decide_eq_true_eq, hlen] at hok
    obtain ⟨h1, h2⟩ := hok i hi
    refine ⟨h1, fun p hp => ?_⟩
    rcases h2 p hp with h | h
    · exact .inl h
    · refine .inr ?_
      have e1 : al[p]? = some (al.getD p ⟨none, none, .mov (.c .top)⟩) := by simp [List.getD, show p < al.length by omega]
      have e2 : al[i]? = some (al.getD i ⟨none, none, .mov (.c .top)⟩) := by simp [List.getD, show i < al.length by omega]
      rw [e1, e2] at h
      exact h
  intro fuel
  induction fuel with
  | zero =>
    intro t listed acc rem e O hsz hf hpw hmem hcl hr
    obtain rfl : rem = [] := List.eq_nil_of_length_eq_zero (by omega)
    exact ⟨[], by simp [Region.linearise.go], hr, by simp⟩
  | succ fuel ih =>
    intro t listed acc rem e O hsz hf hpw hmem hcl hr
    simp only [Region.linearise.go]
    generalize hrs : (List.range ops.size).filter (fun i => !listed.getD i true && ((ops[i]?).map (·.after.all fun e => !Region.binds .any e || listed.getD e.on false)).getD false) = rs
    cases hg : rs[t % rs.length]? with
    | none =>
      have hempty : rs = [] := by
        by_cases h0 : rs.length = 0
        · exact List.eq_nil_of_length_eq_zero h0
        · have := Nat.mod_lt t (Nat.pos_of_ne_zero h0)
          rw [List.getElem?_eq_getElem this] at hg; cases hg
      have hrem : rem = [] := by
        cases rem with
        | nil => rfl
        | cons i r =>
          exfalso
          obtain ⟨hi, hli⟩ := (hmem i).1 (by simp)
          have hmin : ∀ d, d < i → listed.getD d true = true := by
            intro d hdi
            cases hld : listed.getD d true with
            | true => rfl
            | false =>
              have hm := (hmem d).2 ⟨by omega, hld⟩
              rcases List.mem_cons.1 hm with rfl | hm
              · omega
              · have := List.rel_of_pairwise_cons hpw hm; omega
          have : i ∈ rs := by
            rw [← hrs, List.mem_filter]
            refine ⟨List.mem_range.2 hi, ?_⟩
            have ho : ops[i]? = some ops[i] := by simp [hi]
            simp only [hli, Bool.not_false, Bool.true_and, ho, Option.map_some, Option.getD_some, Array.all_eq_true, Bool.or_eq_true]
            intro j hj
            by_cases hbj : Region.binds .any (ops[i].after[j]) = true
            rotate_left
            · exact .inl (by simpa using hbj)
            refine .inr ?_
            have hdi : (ops[i].after[j]).on < i := (hok' i hi).1 _ (by rw [rows_get ho]; exact List.mem_map.2 ⟨_, List.mem_filter.2 ⟨Array.getElem_mem_toList hj, hbj⟩, rfl⟩)
            have := hmin _ hdi
            have hlt : (ops[i].after[j]).on < listed.size := by omega
            simp [Array.getD, hlt] at this ⊢
            exact this
          rw [hempty] at this; cases this
      subst hrem
      exact ⟨[], by simp, hr, by simp⟩
    | some i =>
      have hmi : i ∈ rs := List.mem_of_getElem? hg
      rw [← hrs, List.mem_filter] at hmi
      obtain ⟨hi, hprop⟩ := hmi
      have hi : i < ops.size := List.mem_range.1 hi
      have ho : ops[i]? = some ops[i] := by simp [hi]
      simp only [ho, Option.map_some, Option.getD_some, Bool.and_eq_true, Bool.not_eq_true', Array.all_eq_true, Bool.or_eq_true] at hprop
      obtain ⟨hli, hall⟩ := hprop
      have hdeps : ∀ d ∈ (rowsOf ops).getD i [], listed.getD d true = true := by
        intro d hdm
        rw [rows_get ho] at hdm
        obtain ⟨ed, hed0, rfl⟩ := List.mem_map.1 hdm
        obtain ⟨hed, hbe⟩ := List.mem_filter.1 hed0
        obtain ⟨j, hj⟩ := List.getElem?_of_mem hed
        obtain ⟨hjl, hje⟩ := List.getElem?_eq_some_iff.1 hj
        have hjl' : j < ops[i].after.size := by simpa using hjl
        have hje' : ops[i].after[j] = ed := by simpa using hje
        rcases hall j hjl' with h | h
        · rw [hje', hbe] at h; simp at h
        · rw [hje'] at h
          by_cases hlt : ed.on < listed.size
          · simp [Array.getD, hlt] at h ⊢; exact h
          · simp [Array.getD, hlt] at h
      have hirem : i ∈ rem := (hmem i).2 ⟨hi, hli⟩
      obtain ⟨pre, post, rfl⟩ := List.append_of_mem hirem
      have hpw' := List.pairwise_append.1 hpw
      have hpre : ∀ p ∈ pre, p < i := fun p hp => hpw'.2.2 p hp i (by simp)
      have hpost : ∀ p ∈ post, i < p := fun p hp => List.rel_of_pairwise_cons hpw'.2.1 hp
      have hfront := run_front (P := P) (i := al.getD i ⟨none, none, .mov (.c .top)⟩) (post := post.map fun i => al.getD i ⟨none, none, .mov (.c .top)⟩) (pre.map fun i => al.getD i ⟨none, none, .mov (.c .top)⟩) (by
        intro q hq
        obtain ⟨p, hp, rfl⟩ := List.mem_map.1 hq
        rcases (hok' i hi).2 p (hpre p hp) with h | h
        · exfalso
          have := clo_in (S := fun j => listed.getD j true = true) (fun j hj => (hok' j hj).1) hcl i hi hdeps p h
          have hpm := ((hmem p).1 (by simp [hp])).2
          rw [hpm] at this; cases this
        · exact h) (by simpa using hr)
      cases hfront with
      | cons hs hrest =>
        have hne : ∀ j, j ∈ pre ++ post → j ≠ i := by
          intro j hj he
          subst he
          rcases List.mem_append.1 hj with h | h
          · have := hpre j h; omega
          · have := hpost j h; omega
        have hset : ∀ j, (listed.setIfInBounds i true).getD j true = if j = i then true else listed.getD j true := by
          intro j
          simp only [Array.getD_eq_getD_getElem?, Array.getElem?_setIfInBounds]
          by_cases hji : i = j
          · subst hji; simp [hsz, hi]
          · rw [if_neg hji, if_neg (fun h => hji h.symm)]
        obtain ⟨l, h1, h2, h3⟩ := ih (t / rs.length) (listed.setIfInBounds i true) (i :: acc) (pre ++ post) _ _ (by simp [hsz]) (by simp at hf ⊢; omega)
          (List.pairwise_append.2 ⟨hpw'.1, (List.pairwise_cons.1 hpw'.2.1).2, fun x hx y hy => hpw'.2.2 x hx y (by simp [hy])⟩)
          (by
            intro j
            rw [hset]
            constructor
            · intro hj
              rw [if_neg (hne j hj)]
              exact (hmem j).1 (by rcases List.mem_append.1 hj with h | h <;> simp [h])
            · rintro ⟨hj1, hj2⟩
              by_cases hji : j = i
              · rw [if_pos hji] at hj2; cases hj2
              · rw [if_neg hji] at hj2
                have := (hmem j).2 ⟨hj1, hj2⟩
                simp only [List.mem_append, List.mem_cons] at this ⊢
                rcases this with h | h | h
                · exact .inl h
                · exact (hji h).elim
                · exact .inr h)
          (by
            intro j hj hlj d hd
            rw [hset] at hlj ⊢
            split
            · rfl
            · by_cases hji : j = i
              · subst hji; exact hdeps d hd
              · rw [if_neg hji] at hlj; exact hcl j hj hlj d hd)
          (by simpa using hrest)
        refine ⟨i :: l, by simp [h1], ?_, fun j hj => ?_⟩
        · exact .cons hs h2
        · rcases List.mem_cons.1 hj with rfl | h
          · exact hi
          · exact h3 j h

theorem schedule_run {mixed : Bool} (hd : Region.departs ops = false ∨ mixed = true) (hlen : al.length = ops.size) (hok : drawOk (rowsOf ops) al = true) {e e2 : Env} {O O2 : List AObj} (hr : Run P al e O e2 O2) (t : Nat) :
    Run P ((Region.schedule mixed ops t).map fun i => al.getD i ⟨none, none, .mov (.c .top)⟩) e O e2 O2 ∧ ∀ i ∈ Region.schedule mixed ops t, i < ops.size := by
  have hs : Region.schedule mixed ops t = Region.linearise .any ops t := by rcases hd with hd | hd <;> simp [Region.schedule, hd]
  rw [hs]
  have hall : (List.range ops.size).map (fun i => al.getD i ⟨none, none, .mov (.c .top)⟩) = al := by
    apply List.ext_getElem
    · simp [hlen]
    · intro i h1 h2
      simp [List.getD, h2]
  obtain ⟨l, h1, h2, h3⟩ := go_run (P := P) hlen hok ops.size t (Array.replicate ops.size false) [] (List.range ops.size) e O (by simp) (by simp) List.pairwise_lt_range
    (fun j => by
      rw [List.mem_range]
      constructor
      · intro h; exact ⟨h, by simp [Array.getD, h]⟩
      · exact fun h => h.1)
    (fun j hj h => by simp [Array.getD, hj] at h)
    (by rw [hall]; exact hr)
  simp only [Region.linearise]
  rw [h1]
  simpa using ⟨h2, h3⟩

end
end Go.Ab
/-
  THE ABSTRACT WALK IS SOUND: regions without a drawn order, control, a function's contract.
-/
namespace Go.Ab

structure Sat (I0 : Imm) (L0 : Nat → Loc) (O0 : List AObj) (w0 : World) (nt : Nat) (e : Env) (O : List AObj) (a : Act) (w : World) (I : Imm) (L : Nat → Loc) : Prop where
  good : Good I0 L0 O0 w0 I L O w
  env : ∀ t, R I L O (e t) (a.tmps.getD t undef)
  size : nt ≤ a.tmps.size
  defers : a.defers = []

section
variable {P : Program} {I0 : Imm} {L0 : Nat → Loc} {O0 : List AObj} {w0 : World} {nt : Nat}

theorem getD_set (tmps : Array Value) (d : Nat) (v : Value) (hd : d < tmps.size) (t : Nat) : (tmps.setIfInBounds d v).getD t undef = if t = d then v else tmps.getD t undef := by
  simp only [Array.getD_eq_getD_getElem?, Array.getElem?_setIfInBounds]
  by_cases h : d = t
  · subst h; simp [hd]
  · rw [if_neg h, if_neg (fun k => h k.symm)]

theorem Sat.put {e : Env} {O O' : List AObj} {a : Act} {w w' : World} {I I' : Imm} {L L' : Nat → Loc} (h : Sat I0 L0 O0 w0 nt e O a w I L) {d : Option Nat} (hd : d.all (· < nt) = true) {x : AV} {y : Value}
    (hg : Good I L O w I' L' O' w') (hr : R I' L' O' x y) : Sat I0 L0 O0 w0 nt (setD e d x) O' (a.put d y) w' I' L' := by
  refine ⟨h.good.trans hg, fun t => ?_, ?_, ?_⟩
  · cases d with
    | none => exact (h.env t).mono hg.ext
    | some d =>
      have hlt : d < a.tmps.size := by have := h.size; simp at hd; omega
      simp only [setD, Env.set, Act.put]
      rw [getD_set _ _ _ hlt]
      split
      · exact hr
      · exact (h.env t).mono hg.ext
  · cases d <;> simp [Act.put]; exact h.size; exact h.size
  · cases d <;> simp [Act.put]; exact h.defers; exact h.defers

theorem Sat.env_eq {e e' : Env} {O : List AObj} {a : Act} {w : World} {I : Imm} {L : Nat → Loc} (h : Sat I0 L0 O0 w0 nt e O a w I L) (he : ∀ t, R I L O (e' t) (a.tmps.getD t undef)) : Sat I0 L0 O0 w0 nt e' O a w I L :=
  ⟨h.good, he, h.size, h.defers⟩

theorem ops_sound {ops : Array Oper} {K : Env → List AObj → Prop} {Q : Exit → Act → World → Prop} (hq : ∀ e O a w I L, K e O → Sat I0 L0 O0 w0 nt e O a w I L → Q .normal a w) :
    ∀ (l : List Oper) (al : List AOper), l.mapM (cOper P nt ops) = some (al.map AOper.strip) → ∀ e O a w I L, wpOps P al e O K → Sat I0 L0 O0 w0 nt e O a w I L → wpList P ops Q l a w
  | [], al, h, e, O, a, w, I, L, hk, hs => by
    simp at h; subst h
    exact hq _ _ _ _ _ _ hk hs
  | o :: l, al, h, e, O, a, w, I, L, hk, hs => by
    simp only [List.mapM_cons, Option.bind_eq_bind, Option.pure_def, Option.bind_eq_some_iff, Option.some.injEq] at h
    obtain ⟨b, hb, bs, hbs, h⟩ := h
    cases al with
    | nil => simp at h
    | cons ao al =>
      simp only [List.map_cons, List.cons.injEq] at h
      obtain ⟨rfl, rfl⟩ := h
      have ih := ops_sound hq l al hbs
      unfold cOper at hb
      split at hb
      case h_2 => cases hb
      case h_1 op g hop hg =>
        split at hb
        case isFalse => cases hb
        case isTrue hd =>
          simp only [Option.some.injEq, AOper.strip, AOper.mk.injEq] at hb
          obtain ⟨hgu, hdst, hopp⟩ := hb
          subst hopp
          rw [hdst] at hd
          have step : ∀ e1 I1 L1, Sat I0 L0 O0 w0 nt e1 O a w I1 L1 → (wpOp P ao.op e1 O fun x O' => wpOps P al (setD e1 ao.dst x) O' K) → o.wp P a w (wpList P ops Q l) Q := by
            intro e1 I1 L1 hs1 hk1
            refine op_sound hop hs1.good.inv hs1.env hk1 fun x O' y I' L' w' hk' hg' hr' => ?_
            rw [hdst]
            exact ih _ _ _ _ _ _ hk' (hs1.put hd hg' hr')
          have skip : ∀ e1 I1 L1, Sat I0 L0 O0 w0 nt e1 O a w I1 L1 → wpOps P al (setD e1 ao.dst (.tup [])) O K → wpList P ops Q l (a.put o.dst undef) w := by
            intro e1 I1 L1 hs1 hk1
            rw [hdst]
            exact ih _ _ _ _ _ _ hk1 (hs1.put hd (.refl hs1.good.inv) (.tup [] #[] rfl (by simp)))
          simp only [wpOps] at hk
          unfold wpList
          cases hog : o.guard with
          | none =>
            rw [hog] at hg
            simp only [cGuard, Option.some.injEq] at hg
            subst hg
            rw [← hgu] at hk
            rw [if_pos (by simp [Region.wanted, hog])]
            exact .inl (step _ _ _ hs hk)
          | some jb =>
            obtain ⟨j, want⟩ := jb
            rw [hog] at hg
            simp only [cGuard] at hg
            split at hg
            case h_2 => cases hg
            case h_1 t ht =>
              split at hg
              case isFalse => cases hg
              case isTrue htn =>
                simp only [Option.some.injEq] at hg
                subst hg
                rw [← hgu] at hk
                simp only at hk
                have hlt : t < a.tmps.size := Nat.lt_of_lt_of_le htn hs.size
                have hget : a.tmps[t]? = some (a.tmps.getD t undef) := by simp [Array.getD, hlt]
                have hr := hs.env t
                have hw : Region.wanted o (yielded ops a.tmps) = (yielded ops a.tmps j == some want) := by simp [Region.wanted, hog]
                have hy : yielded ops a.tmps j = match some (a.tmps.getD t undef) with | some (.bool b) => some b | _ => none := by
                  unfold yielded
                  rw [ht]
                  simp only [Option.bind_some]
                  rw [hget]
                  cases a.tmps.getD t undef <;> rfl
                split at hk
                · rename_i b hb
                  rw [hb] at hr
                  have hv := hr.bool
                  rw [hv] at hy
                  simp only at hy
                  rw [hw, hy]
                  have hset : ∀ c, b = c → Sat I0 L0 O0 w0 nt (e.set t (.v (.bool c))) O a w I L := by
                    intro c hc
                    refine hs.env_eq fun t' => ?_
                    unfold Env.set
                    split
                    · rename_i htt; subst htt; rw [hv, hc]; exact .v _ rfl
                    · exact hs.env t'
                  by_cases hbw : b = want
                  · rw [if_pos (by simp [hbw])]
                    exact .inl (step _ _ _ (hset want hbw) (hk.1 hbw))
                  · rw [if_neg (by simpa using hbw)]
                    have hbn : b = !want := by cases b <;> cases want <;> simp_all
                    exact skip _ _ _ (hset (!want) hbn) (hk.2 hbn)
                · rename_i hb
                  rw [hb] at hr
                  have hv : a.tmps.getD t undef = .tuple #[] := by
                    generalize a.tmps.getD t undef = X at hr
                    cases hr with
                    | tup _ vs h1 _ => congr 1; exact Array.eq_empty_of_size_eq_zero h1.symm
                  rw [hv] at hy
                  simp only at hy
                  rw [hw, hy, if_neg (by simp)]
                  exact skip _ _ _ hs hk
                · exact hk.elim


def AX.to : AX → Exit
  | .normal => .normal
  | .exit id => .exit id
  | .ret => .ret

theorem keepE_R {I : Imm} {L : Nat → Loc} {O : List AObj} {e : Env} {f : Nat → Value} (h : ∀ t, R I L O (e t) (f t)) (live : List Nat) : ∀ t, R I L O (keepE live e t) (f t) := by
  intro t
  unfold keepE
  split
  · exact h t
  · exact .top _

theorem Sat.wk {e e' : Env} {O O' : List AObj} {a : Act} {w : World} {I : Imm} {L : Nat → Loc} (h : Sat I0 L0 O0 w0 nt e O a w I L) (hw : WK O0.length e O e' O') : ∃ I' L', Sat I0 L0 O0 w0 nt e' O' a w I' L' := by
  obtain ⟨I', L', hg, hr⟩ := hw I0 L0 O0 w0 I L w _ rfl h.good h.env
  exact ⟨I', L', hg, hr, h.size, h.defers⟩

theorem opsW_sound {ops : Array Oper} {K : Env → List AObj → Prop} {Q : Exit → Act → World → Prop} (hq : ∀ e O a w I L, K e O → Sat I0 L0 O0 w0 nt e O a w I L → Q .normal a w) :
    ∀ (l : List Oper) (al : List AOper), l.mapM (cOper P nt ops) = some (al.map AOper.strip) → ∀ e O a w I L, wpOpsW P O0.length al e O K → Sat I0 L0 O0 w0 nt e O a w I L → wpList P ops Q l a w
  | [], al, h, e, O, a, w, I, L, hk, hs => by
    simp at h; subst h
    obtain ⟨e', O', hw, hk⟩ := hk
    obtain ⟨I', L', hs'⟩ := hs.wk hw
    exact hq _ _ _ _ _ _ hk hs'
  | o :: l, al, h, e00, O00, a, w, I00, L00, hk, hs00 => by
    simp only [List.mapM_cons, Option.bind_eq_bind, Option.pure_def, Option.bind_eq_some_iff, Option.some.injEq] at h
    obtain ⟨b, hb, bs, hbs, h⟩ := h
    cases al with
    | nil => simp at h
    | cons ao al =>
      simp only [List.map_cons, List.cons.injEq] at h
      obtain ⟨rfl, rfl⟩ := h
      simp only [wpOpsW] at hk
      obtain ⟨e, O, hwk, hk⟩ := hk
      obtain ⟨I, L, hs⟩ := hs00.wk hwk
      have ih := opsW_sound hq l al hbs
      unfold cOper at hb
      split at hb
      case h_2 => cases hb
      case h_1 op g hop hg =>
        split at hb
        case isFalse => cases hb
        case isTrue hd =>
          simp only [Option.some.injEq, AOper.strip, AOper.mk.injEq] at hb
          obtain ⟨hgu, hdst, hopp⟩ := hb
          subst hopp
          rw [hdst] at hd
          have step : ∀ e1 I1 L1, Sat I0 L0 O0 w0 nt e1 O a w I1 L1 → (wpOp P ao.op e1 O fun x O' => wpOpsW P O0.length al (setD e1 ao.dst x) O' K) → o.wp P a w (wpList P ops Q l) Q := by
            intro e1 I1 L1 hs1 hk1
            refine op_sound hop hs1.good.inv hs1.env hk1 fun x O' y I' L' w' hk' hg' hr' => ?_
            rw [hdst]
            exact ih _ _ _ _ _ _ hk' (hs1.put hd hg' hr')
          have skip : ∀ e1 I1 L1, Sat I0 L0 O0 w0 nt e1 O a w I1 L1 → wpOpsW P O0.length al (setD e1 ao.dst (.tup [])) O K → wpList P ops Q l (a.put o.dst undef) w := by
            intro e1 I1 L1 hs1 hk1
            rw [hdst]
            exact ih _ _ _ _ _ _ hk1 (hs1.put hd (.refl hs1.good.inv) (.tup [] #[] rfl (by simp)))
          unfold wpList
          cases hog : o.guard with
          | none =>
            rw [hog] at hg
            simp only [cGuard, Option.some.injEq] at hg
            subst hg
            rw [← hgu] at hk
            rw [if_pos (by simp [Region.wanted, hog])]
            exact .inl (step _ _ _ hs hk)
          | some jb =>
            obtain ⟨j, want⟩ := jb
            rw [hog] at hg
            simp only [cGuard] at hg
            split at hg
            case h_2 => cases hg
            case h_1 t ht =>
              split at hg
              case isFalse => cases hg
              case isTrue htn =>
                simp only [Option.some.injEq] at hg
                subst hg
                rw [← hgu] at hk
                simp only at hk
                have hlt : t < a.tmps.size := Nat.lt_of_lt_of_le htn hs.size
                have hget : a.tmps[t]? = some (a.tmps.getD t undef) := by simp [Array.getD, hlt]
                have hr := hs.env t
                have hw : Region.wanted o (yielded ops a.tmps) = (yielded ops a.tmps j == some want) := by simp [Region.wanted, hog]
                have hy : yielded ops a.tmps j = match some (a.tmps.getD t undef) with | some (.bool b) => some b | _ => none := by
                  unfold yielded
                  rw [ht]
                  simp only [Option.bind_some]
                  rw [hget]
                  cases a.tmps.getD t undef <;> rfl
                split at hk
                · rename_i b hb
                  rw [hb] at hr
                  have hv := hr.bool
                  rw [hv] at hy
                  simp only at hy
                  rw [hw, hy]
                  have hset : ∀ c, b = c → Sat I0 L0 O0 w0 nt (e.set t (.v (.bool c))) O a w I L := by
                    intro c hc
                    refine hs.env_eq fun t' => ?_
                    unfold Env.set
                    split
                    · rename_i htt; subst htt; rw [hv, hc]; exact .v _ rfl
                    · exact hs.env t'
                  by_cases hbw : b = want
                  · rw [if_pos (by simp [hbw])]
                    exact .inl (step _ _ _ (hset want hbw) (hk.1 hbw))
                  · rw [if_neg (by simpa using hbw)]
                    have hbn : b = !want := by cases b <;> cases want <;> simp_all
                    exact skip _ _ _ (hset (!want) hbn) (hk.2 hbn)
                · rename_i hb
                  rw [hb] at hr
                  have hv : a.tmps.getD t undef = .tuple #[] := by
                    generalize a.tmps.getD t undef = X at hr
                    cases hr with
                    | tup _ vs h1 _ => congr 1; exact Array.eq_empty_of_size_eq_zero h1.symm
                  rw [hv] at hy
                  simp only at hy
                  rw [hw, hy, if_neg (by simp)]
                  exact skip _ _ _ hs hk
                · exact hk.elim


/-- every drawn region's order does not matter -/
def ACode.drawsOk : ACode → Bool
  | .region (some rows) ops => drawOk rows ops
  | .seq a b => a.drawsOk && b.drawsOk
  | .cond _ t f => t.drawsOk && f.drawsOk
  | .block _ b => b.drawsOk
  | .loop b => b.drawsOk
  | .keep _ c => c.drawsOk
  | .weak c => c.drawsOk
  | _ => true

theorem Sat.drawn {e : Env} {O : List AObj} {a : Act} {w : World} {I : Imm} {L : Nat → Loc} (h : Sat I0 L0 O0 w0 nt e O a w I L) (k : Nat) : Sat I0 L0 O0 w0 nt e O a { w with drawn := k } I L :=
  ⟨h.good.trans (Good.drawn h.good.inv k), h.env, h.size, h.defers⟩

/-- one operation that is carried out or left out -/
theorem step_sound {ops : Array Oper} {o : Oper} {ao : AOper} (hb : cOper P nt ops o = some ao.strip) {e e' : Env} {O O' : List AObj} (hst : Step P ao e O e' O') {a : Act} {w : World} {I : Imm} {L : Nat → Loc} (hs : Sat I0 L0 O0 w0 nt e O a w I L)
    {next : Act → World → Prop} {Q : Exit → Act → World → Prop} (hn : ∀ a w I L, Sat I0 L0 O0 w0 nt e' O' a w I L → next a w) :
    if Region.wanted o (yielded ops a.tmps) = true then o.wp P a w next Q else next (a.put o.dst undef) w := by
  unfold cOper at hb
  split at hb
  case h_2 => cases hb
  case h_1 op g hop hg =>
    split at hb
    case isFalse => cases hb
    case isTrue hd =>
      simp only [Option.some.injEq, AOper.strip, AOper.mk.injEq] at hb
      obtain ⟨hgu, hdst, hopp⟩ := hb
      subst hopp
      rw [hdst] at hd
      have hguard : ∀ t want, ao.guard = some (t, want) → ∃ j, o.guard = some (j, want) ∧ ((ops[j]?).bind (·.dst)) = some t ∧ t < nt := by
        intro t want h
        rw [h] at hgu
        subst hgu
        cases hog : o.guard with
        | none => rw [hog] at hg; simp [cGuard] at hg
        | some jb =>
          obtain ⟨j, b⟩ := jb
          rw [hog] at hg
          simp only [cGuard] at hg
          split at hg
          case h_2 => cases hg
          case h_1 t' ht' =>
            split at hg
            case isFalse => cases hg
            case isTrue htn =>
              simp only [Option.some.injEq, Prod.mk.injEq] at hg
              obtain ⟨rfl, rfl⟩ := hg
              exact ⟨j, rfl, ht', htn⟩
      have hyield : ∀ {j t}, ((ops[j]?).bind (·.dst)) = some t → t < nt → yielded ops a.tmps j = match some (a.tmps.getD t undef) with | some (.bool b) => some b | _ => none := by
        intro j t ht htn
        have hlt : t < a.tmps.size := Nat.lt_of_lt_of_le htn hs.size
        have hget : a.tmps[t]? = some (a.tmps.getD t undef) := by simp [Array.getD, hlt]
        unfold yielded
        rw [ht]
        simp only [Option.bind_some]
        rw [hget]
        cases a.tmps.getD t undef <;> rfl
      cases hst with
      | run x _ hq hx =>
        have hw : Region.wanted o (yielded ops a.tmps) = true := by
          cases hag : ao.guard with
          | none =>
            have : o.guard = none := by
              rw [hag] at hgu; subst hgu
              cases hog : o.guard with
              | none => rfl
              | some jb =>
                obtain ⟨j, b⟩ := jb
                rw [hog] at hg
                simp only [cGuard] at hg
                split at hg
                · split at hg <;> simp at hg
                · cases hg
            simp [Region.wanted, this]
          | some tw =>
            obtain ⟨t, want⟩ := tw
            obtain ⟨j, h1, h2, h3⟩ := hguard t want hag
            have hr := hs.env t
            rw [hq t want hag] at hr
            have hy := hyield h2 h3
            rw [hr.bool] at hy
            simp only at hy
            simp [Region.wanted, h1, hy]
        rw [if_pos hw]
        refine op_sound hop hs.good.inv hs.env (hx (fun x' O'' => x' = x ∧ O'' = O') ⟨rfl, rfl⟩) fun x' O'' y I' L' w' hk' hg' hr' => ?_
        obtain ⟨rfl, rfl⟩ := hk'
        rw [hdst]
        exact hn _ _ _ _ (hs.put hd hg' hr')
      | skip t want hgt hb =>
        obtain ⟨j, h1, h2, h3⟩ := hguard t want hgt
        have hr := hs.env t
        have hy := hyield h2 h3
        have hw : Region.wanted o (yielded ops a.tmps) = false := by
          rcases hb with hb | hb
          · rw [hb] at hr
            rw [hr.bool] at hy
            simp only at hy
            simp [Region.wanted, h1, hy]
          · rw [hb] at hr
            have hv : a.tmps.getD t undef = .tuple #[] := by
              generalize a.tmps.getD t undef = X at hr
              cases hr with
              | tup _ vs h1 _ => congr 1; exact Array.eq_empty_of_size_eq_zero h1.symm
            rw [hv] at hy
            simp only at hy
            simp [Region.wanted, h1, hy]
        rw [if_neg (by simp [hw])]
        rw [hdst]
        exact hn _ _ _ _ (hs.put hd (.refl hs.good.inv) (.tup [] #[] rfl (by simp)))

theorem run_sound {ops : Array Oper} {al : List AOper} (hm : ops.toList.mapM (cOper P nt ops) = some (al.map AOper.strip)) (hlen : al.length = ops.size) {e2 : Env} {O2 : List AObj} {Q : Exit → Act → World → Prop}
    (hq : ∀ a w I L, Sat I0 L0 O0 w0 nt e2 O2 a w I L → Q .normal a w) :
    ∀ (l : List Nat), (∀ i ∈ l, i < ops.size) → ∀ e O a w I L, Run P (l.map fun i => al.getD i ⟨none, none, .mov (.c .top)⟩) e O e2 O2 → Sat I0 L0 O0 w0 nt e O a w I L → Go.wpOps P ops Q l a w
  | [], _, e, O, a, w, I, L, hr, hs => by
    cases hr
    exact hq _ _ _ _ hs
  | i :: l, hl, e, O, a, w, I, L, hr, hs => by
    cases hr with
    | cons hst hr =>
      have hi := hl i (by simp)
      have ho : ops[i]? = some ops[i] := by simp [hi]
      have ha : al[i]? = some (al.getD i ⟨none, none, .mov (.c .top)⟩) := by simp [List.getD, show i < al.length by omega]
      have hc := (mapM_some hm).2 i ops[i] ((al.getD i ⟨none, none, .mov (.c .top)⟩).strip) (by simp) (by rw [List.getElem?_map, ha]; rfl)
      have := step_sound (Q := Q) hc hst hs (next := Go.wpOps P ops Q l) fun a w I L hs' => run_sound hm hlen hq l (fun j hj => hl j (by simp [hj])) _ _ a w I L hr hs'
      simp only [Go.wpOps, ho]
      split
      · rename_i hw; rw [if_pos hw] at this; exact .inl this
      · rename_i hw; rw [if_neg hw] at this; exact this

theorem cCode_cases {code : Code} {c : ACode} (h : cCode P nt code = some c) :
    (code = .skip ∧ c = .skip) ∨ (∃ id ops draw rows aops, code = .region id ops draw ∧ c = .region rows aops ∧ ops.toList.mapM (cOper P nt ops) = some aops ∧ ((draw = false ∧ rows = none) ∨ (draw = true ∧ rows = some (rowsOf ops) ∧ (Region.departs ops = false ∨ P.follows .mixedOrders = true)))) ∨
    (∃ x y ax ay, code = .seq x y ∧ c = .seq ax ay ∧ cCode P nt x = some ax ∧ cCode P nt y = some ay) ∨
    (∃ o x y ao ax ay, code = .cond o x y ∧ c = .cond ao ax ay ∧ cOpd o = some ao ∧ cCode P nt x = some ax ∧ cCode P nt y = some ay) ∨
    (∃ id b ab, code = .block id b ∧ c = .block id ab ∧ cCode P nt b = some ab) ∨ (∃ b ab, code = .loop b ∧ c = .loop ab ∧ cCode P nt b = some ab) ∨
    (∃ id, code = .exit id ∧ c = .exit id) ∨ (code = .ret ∧ c = .ret) := by
  cases code with
  | skip => simp only [cCode, Option.some.injEq] at h; exact .inl ⟨rfl, h.symm⟩
  | region id ops draw =>
    cases draw
    · simp only [cCode, Option.map_eq_some_iff] at h
      obtain ⟨aops, h1, h2⟩ := h
      exact .inr (.inl ⟨id, ops, false, _, aops, rfl, h2.symm, h1, .inl ⟨rfl, rfl⟩⟩)
    · simp only [cCode] at h
      split at h
      · cases h
      · rename_i hd
        simp only [Option.map_eq_some_iff] at h
        obtain ⟨aops, h1, h2⟩ := h
        exact .inr (.inl ⟨id, ops, true, _, aops, rfl, h2.symm, h1, .inr ⟨rfl, rfl, by
          by_cases h : Region.departs ops = true
          · exact .inr (by simpa [h] using hd)
          · exact .inl (by simpa using h)⟩⟩)
  | seq x y =>
    simp only [cCode] at h
    split at h
    · rename_i ax ay h1 h2
      simp only [Option.some.injEq] at h
      exact .inr (.inr (.inl ⟨x, y, ax, ay, rfl, h.symm, h1, h2⟩))
    · cases h
  | cond o x y =>
    simp only [cCode] at h
    split at h
    · rename_i ao ax ay h0 h1 h2
      simp only [Option.some.injEq] at h
      exact .inr (.inr (.inr (.inl ⟨o, x, y, ao, ax, ay, rfl, h.symm, h0, h1, h2⟩)))
    · cases h
  | block id b =>
    simp only [cCode, Option.map_eq_some_iff] at h
    obtain ⟨ab, h1, h2⟩ := h
    exact .inr (.inr (.inr (.inr (.inl ⟨id, b, ab, rfl, h2.symm, h1⟩))))
  | loop b =>
    simp only [cCode, Option.map_eq_some_iff] at h
    obtain ⟨ab, h1, h2⟩ := h
    exact .inr (.inr (.inr (.inr (.inr (.inl ⟨b, ab, rfl, h2.symm, h1⟩)))))
  | exit id => simp only [cCode, Option.some.injEq] at h; exact .inr (.inr (.inr (.inr (.inr (.inr (.inl ⟨id, rfl, h.symm⟩))))))
  | ret => simp only [cCode, Option.some.injEq] at h; exact .inr (.inr (.inr (.inr (.inr (.inr (.inr ⟨rfl, h.symm⟩))))))
  | _ => simp [cCode] at h

theorem code_sound (c : ACode) : ∀ (code : Code), cCode P nt code = some c.strip → c.drawsOk = true → ∀ (Q : AX → Env → List AObj → Prop) (QM : Exit → Act → World → Prop),
    (∀ x e O a w I L, Q x e O → Sat I0 L0 O0 w0 nt e O a w I L → QM x.to a w) → ∀ e O a w I L, wpC P O0.length c Q e O → Sat I0 L0 O0 w0 nt e O a w I L → code.wp P QM a w := by
  induction c with
  | skip =>
    intro code hc hok Q QM hq e O a w I L hk hs
    rcases cCode_cases hc with ⟨rfl, h⟩ | ⟨_, _, _, _, _, _, h, _⟩ | ⟨_, _, _, _, _, h, _⟩ | ⟨_, _, _, _, _, _, _, h, _⟩ | ⟨_, _, _, _, h, _⟩ | ⟨_, _, _, h, _⟩ | ⟨_, _, h⟩ | ⟨_, h⟩ <;> simp only [ACode.strip] at h <;> first | (cases h; done) | skip
    exact wp_skip (hq .normal _ _ _ _ _ _ hk hs)
  | region d ops =>
    intro code hc hok Q QM hq e O a w I L hk hs
    rcases cCode_cases hc with ⟨_, h⟩ | ⟨id, mops, draw, rows, aops, rfl, h, hm, hdr⟩ | ⟨_, _, _, _, _, h, _⟩ | ⟨_, _, _, _, _, _, _, h, _⟩ | ⟨_, _, _, _, h, _⟩ | ⟨_, _, _, h, _⟩ | ⟨_, _, h⟩ | ⟨_, h⟩ <;> simp only [ACode.strip] at h <;> first | (cases h; done) | skip
    simp only [ACode.region.injEq] at h
    obtain ⟨rfl, rfl⟩ := h
    rcases hdr with ⟨rfl, rfl⟩ | ⟨rfl, rfl, hdep⟩
    case inr =>
      obtain ⟨e2, O2, hrun, hK⟩ := run_of_wp ops hk
      refine wp_region_draw fun t => ?_
      have hlen : ops.length = mops.size := by have := (mapM_some hm).1; simpa using this
      obtain ⟨h1, h2⟩ := schedule_run hdep hlen hok hrun t
      exact run_sound hm hlen (fun a w I L hs => hq .normal _ _ _ _ _ _ hK hs) _ h2 e O a _ I L h1 (hs.drawn _)
    exact wp_region_list (ops_sound (fun e O a w I L h hs => hq .normal e O a w I L h hs) mops.toList ops hm e O a w I L hk hs)
  | seq x y ihx ihy =>
    intro code hc hok Q QM hq e O a w I L hk hs
    rcases cCode_cases hc with ⟨_, h⟩ | ⟨_, _, _, _, _, _, h, _⟩ | ⟨cx, cy, ax, ay, rfl, h, hx, hy⟩ | ⟨_, _, _, _, _, _, _, h, _⟩ | ⟨_, _, _, _, h, _⟩ | ⟨_, _, _, h, _⟩ | ⟨_, _, h⟩ | ⟨_, h⟩ <;> simp only [ACode.strip] at h <;> first | (cases h; done) | skip
    simp only [ACode.seq.injEq] at h
    obtain ⟨rfl, rfl⟩ := h
    simp only [ACode.drawsOk, Bool.and_eq_true] at hok
    refine wp_seq (ihx cx hx hok.1 _ _ ?_ e O a w I L hk hs)
    intro z e O a w I L hz hs
    cases z
    case normal => exact ihy cy hy hok.2 Q QM hq e O a w I L hz hs
    case exit id => exact hq (.exit id) _ _ _ _ _ _ hz hs
    case ret => exact hq .ret _ _ _ _ _ _ hz hs
  | cond c t f iht ihf =>
    intro code hc hok Q QM hq e O a w I L hk hs
    rcases cCode_cases hc with ⟨_, h⟩ | ⟨_, _, _, _, _, _, h, _⟩ | ⟨_, _, _, _, _, h, _⟩ | ⟨o, x, y, ao, ax, ay, rfl, h, h0, h1, h2⟩ | ⟨_, _, _, _, h, _⟩ | ⟨_, _, _, h, _⟩ | ⟨_, _, h⟩ | ⟨_, h⟩ <;> simp only [ACode.strip] at h <;> first | (cases h; done) | skip
    simp only [ACode.cond.injEq] at h
    obtain ⟨rfl, rfl, rfl⟩ := h
    have rc := cOpd_sound h0 hs.env
    simp only [ACode.drawsOk, Bool.and_eq_true] at hok
    simp only [wpC] at hk
    split at hk
    · rename_i b hb
      rw [hb] at rc
      refine wp_cond (t := b) rc.bool ?_
      cases b
      · exact ihf y h2 hok.2 Q QM hq e O a w I L (hk.2 rfl) hs
      · exact iht x h1 hok.1 Q QM hq e O a w I L (hk.1 rfl) hs
    · exact hk.elim
  | block id b ih =>
    intro code hc hok Q QM hq e O a w I L hk hs
    rcases cCode_cases hc with ⟨_, h⟩ | ⟨_, _, _, _, _, _, h, _⟩ | ⟨_, _, _, _, _, h, _⟩ | ⟨_, _, _, _, _, _, _, h, _⟩ | ⟨id', cb, ab, rfl, h, hb⟩ | ⟨_, _, _, h, _⟩ | ⟨_, _, h⟩ | ⟨_, h⟩ <;> simp only [ACode.strip] at h <;> first | (cases h; done) | skip
    simp only [ACode.block.injEq] at h
    obtain ⟨rfl, rfl⟩ := h
    refine wp_block (ih cb hb hok _ _ ?_ e O a w I L hk hs)
    intro z e O a w I L hz hs
    cases z
    case normal => exact hq .normal _ _ _ _ _ _ hz hs
    case exit i =>
      simp only [AX.to, Exit.inBlock]
      simp only at hz
      by_cases hi : i = id
      · rw [if_pos hi] at hz ⊢; exact hq .normal _ _ _ _ _ _ hz hs
      · rw [if_neg hi] at hz ⊢; exact hq (.exit i) _ _ _ _ _ _ hz hs
    case ret => exact hq .ret _ _ _ _ _ _ hz hs
  | loop b ih =>
    intro code hc hok Q QM hq e O a w I L hk hs
    rcases cCode_cases hc with ⟨_, h⟩ | ⟨_, _, _, _, _, _, h, _⟩ | ⟨_, _, _, _, _, h, _⟩ | ⟨_, _, _, _, _, _, _, h, _⟩ | ⟨_, _, _, _, h, _⟩ | ⟨cb, ab, rfl, h, hb⟩ | ⟨_, _, h⟩ | ⟨_, h⟩ <;> simp only [ACode.strip] at h <;> first | (cases h; done) | skip
    simp only [ACode.loop.injEq] at h
    subst h
    obtain ⟨J, n, ⟨e', O', hw, hJ⟩, hround⟩ := hk
    obtain ⟨I', L', hs'⟩ := hs.wk hw
    refine wp_loop_ghost (fun m a w => ∃ e O I L, J m e O ∧ Sat I0 L0 O0 w0 nt e O a w I L) n ⟨e', O', I', L', hJ, hs'⟩ ?_
    rintro m a w ⟨e1, O1, I1, L1, hJ1, hs1⟩
    refine ih cb hb hok _ _ ?_ e1 O1 a w I1 L1 (hround m e1 O1 hJ1) hs1
    intro z e2 O2 a2 w2 I2 L2 hz hs2
    cases z
    case normal =>
      obtain ⟨m', e3, O3, hlt, hw3, hJ3⟩ := hz
      obtain ⟨I3, L3, hs3⟩ := hs2.wk hw3
      exact ⟨m', hlt, e3, O3, I3, L3, hJ3, hs3⟩
    case exit id => exact hq (.exit id) _ _ _ _ _ _ hz hs2
    case ret => exact hq .ret _ _ _ _ _ _ hz hs2
  | exit id =>
    intro code hc hok Q QM hq e O a w I L hk hs
    rcases cCode_cases hc with ⟨_, h⟩ | ⟨_, _, _, _, _, _, h, _⟩ | ⟨_, _, _, _, _, h, _⟩ | ⟨_, _, _, _, _, _, _, h, _⟩ | ⟨_, _, _, _, h, _⟩ | ⟨_, _, _, h, _⟩ | ⟨i, rfl, h⟩ | ⟨_, h⟩ <;> simp only [ACode.strip] at h <;> first | (cases h; done) | skip
    simp only [ACode.exit.injEq] at h
    subst h
    exact wp_exit (hq (.exit id) _ _ _ _ _ _ hk hs)
  | ret =>
    intro code hc hok Q QM hq e O a w I L hk hs
    rcases cCode_cases hc with ⟨_, h⟩ | ⟨_, _, _, _, _, _, h, _⟩ | ⟨_, _, _, _, _, h, _⟩ | ⟨_, _, _, _, _, _, _, h, _⟩ | ⟨_, _, _, _, h, _⟩ | ⟨_, _, _, h, _⟩ | ⟨_, _, h⟩ | ⟨rfl, h⟩ <;> simp only [ACode.strip] at h <;> first | (cases h; done) | skip
    exact wp_ret (hq .ret _ _ _ _ _ _ hk hs)
  | keep live c ih =>
    intro code hc hok Q QM hq e O a w I L hk hs
    refine ih code hc hok _ QM ?_ e O a w I L hk hs
    intro x e O a w I L hx hs
    cases x
    case normal => exact hq .normal _ _ _ _ _ _ hx (hs.env_eq (keepE_R hs.env live))
    all_goals exact hq _ _ _ _ _ _ _ hx hs
  | regionW ops =>
    intro code hc hok Q QM hq e O a w I L hk hs
    rcases cCode_cases hc with ⟨_, h⟩ | ⟨id, mops, draw, rows, aops, rfl, h, hm, hdr⟩ | ⟨_, _, _, _, _, h, _⟩ | ⟨_, _, _, _, _, _, _, h, _⟩ | ⟨_, _, _, _, h, _⟩ | ⟨_, _, _, h, _⟩ | ⟨_, _, h⟩ | ⟨_, h⟩ <;> simp only [ACode.strip] at h <;> first | (cases h; done) | skip
    simp only [ACode.region.injEq] at h
    obtain ⟨rfl, rfl⟩ := h
    rcases hdr with ⟨rfl, h0⟩ | ⟨rfl, h0, hdep⟩
    case inr => cases h0
    exact wp_region_list (opsW_sound (fun e O a w I L h hs => hq .normal e O a w I L h hs) mops.toList ops hm e O a w I L hk hs)
  | weak c ih =>
    intro code hc hok Q QM hq e O a w I L hk hs
    obtain ⟨e', O', hw, hk⟩ := hk
    obtain ⟨I', L', hs'⟩ := hs.wk hw
    exact ih code hc hok Q QM hq e' O' a w I' L' hk hs'


/-- one result -/
def getR (a : Act) (r : ResultVar) : Sem Value :=
  match r with
  | .tmp t => pure (a.tmps.getD t undef)
  | .cell b t => do loadVar t (← asAddr (a.tmps.getD b undef))

theorem resK_run {e : Env} {O : List AObj} {a : Act} {w : World} {I : Imm} {L : Nat → Loc} (hi : Inv I L O w) (he : ∀ t, R I L O (e t) (a.tmps.getD t undef)) :
    ∀ (l : List ResultVar) (al : List ARes) (acc : List AV) (M : List AV → Prop), l.mapM (cRes P) = some al → resK e O al acc M →
      ∃ xs vs, M (acc.reverse ++ xs) ∧ xs.length = vs.length ∧ (∀ (i : Nat) x v, xs[i]? = some x → vs[i]? = some v → R I L O x v) ∧
        (l.mapM (getR a)).run P w = .ok vs w
  | [], al, acc, M, h, hk => by
    simp at h; subst h
    exact ⟨[], [], by simpa [resK] using hk, rfl, by simp, by simp⟩
  | r :: l, al, acc, M, h, hk => by
    simp only [List.mapM_cons, Option.bind_eq_bind, Option.pure_def, Option.bind_eq_some_iff, Option.some.injEq] at h
    obtain ⟨b, hb, bs, hbs, rfl⟩ := h
    have key : ∃ x v, resK e O bs (x :: acc) M ∧ R I L O x v ∧ (getR a r).run P w = .ok v w := by
      cases r with
      | tmp t =>
        simp only [cRes, Option.some.injEq] at hb
        subst hb
        exact ⟨_, _, hk, he t, rfl⟩
      | cell t ty =>
        simp only [cRes, Option.map_eq_some_iff] at hb
        obtain ⟨n, hn, rfl⟩ := hb
        simp only [resK, ARes.get] at hk
        split at hk
        · rename_i k hk0
          have hr := he t
          rw [hk0] at hr
          split at hk
          · rename_i t' s x hO
            obtain ⟨hl, hk⟩ := hk
            have hv := hr.ptr_live hO rfl
            obtain ⟨c, g1, g2, g3, g4, g5, g6⟩ := hi.obj k _ _ _ hO
            obtain ⟨g7, g8⟩ := g6 0 x rfl
            have hex : ∀ j, ∃ u, j < n.getD 1 → c[0 * s + j]? = some u ∧ ∀ c', x.cells[j]? = some c' → R I L O c' u := by
              intro j
              by_cases hj : j < n.getD 1
              · have hc' : x.cells[j]? = some (x.cells[j]'(by omega)) := by simp
                obtain ⟨u, hu, _, hr⟩ := g8 j _ hc'
                exact ⟨u, fun _ => ⟨hu, fun c'' h'' => by rw [hc'] at h''; cases h''; exact hr⟩⟩
              · exact ⟨undef, fun h => (hj h).elim⟩
            let vals : Nat → Value := fun j => (hex j).choose
            have hvals : ∀ j, j < n.getD 1 → c[0 * s + j]? = some (vals j) ∧ ∀ c', x.cells[j]? = some c' → R I L O c' (vals j) := fun j hj => (hex j).choose_spec hj
            have hrun := run_loadAt (P := P) (t := ty) hn (L k).blk 0 vals w (fun j hj => by
              rw [cell_cells g1]; have := (hvals j hj).1; rwa [Nat.zero_mul] at this)
            refine ⟨_, _, hk, loadC_sound (vals := vals) (by omega) fun j c' hj hlt' => (hvals j hlt').2 c' (by simpa using hj), ?_⟩
            simp only [getR, hv]
            simp [Instr.loadAt, Instr.sureAddr] at hrun
            simpa [asAddr] using hrun
          · exact hk.elim
        · exact hk.elim
    obtain ⟨x, v, hk', hr, hrun⟩ := key
    obtain ⟨xs, vs, h1, h2, h3, h4⟩ := resK_run hi he l bs (x :: acc) M hbs hk'
    refine ⟨x :: xs, v :: vs, by simpa using h1, by simp [h2], fun i y u hy hu => ?_, ?_⟩
    · cases i with
      | zero => simp at hy hu; subst hy; subst hu; exact hr
      | succ i => simp at hy hu; exact h3 i y u hy hu
    · rw [List.mapM_cons, Sem.run_bind, hrun, Result.andThen_ok, Sem.run_bind, h4]
      rfl


theorem results_run {fn : Func} {e : Env} {O O' : List AObj} {a : Act} {w : World} {I : Imm} {L : Nat → Loc} {rs : List ARes} {res : AV} {x : AX} (hm : fn.results.toList.mapM (cRes P) = some rs) (hs : Sat I0 L0 O0 w0 nt e O a w I L)
    (hk : retK O0.length rs res O' x e O) : ∃ y I' L', (results fn a.tmps).run P w = .ok y w ∧ R I' L' O' res y ∧ Good I0 L0 O0 w0 I' L' O' w := by
  have hk' : resK e O rs [] fun xs => ∃ e', WK O0.length (fun t => if t = 0 then packR xs else .top) O e' O' ∧ e' 0 = res := by
    cases x <;> first | exact hk | exact hk.elim
  obtain ⟨xs, vs, ⟨e', hw, he0⟩, h2, h3, h4⟩ := resK_run hs.good.inv hs.env _ _ _ _ hm hk'
  simp only [List.reverse_nil, List.nil_append] at hw
  let y : Value := if h : vs.toArray.size = 1 then vs.toArray[0] else .tuple vs.toArray
  have hy : R I L O (packR xs) y := by
    unfold packR
    split
    · rename_i x
      have hv : vs.length = 1 := by rw [← h2]; rfl
      have : y = vs[0]'(by omega) := by simp [y, hv]
      rw [this]
      exact h3 0 x _ rfl (by simp [hv])
    · rename_i hne
      have hv : vs.length ≠ 1 := by
        rw [← h2]; intro h1
        obtain ⟨x, hx⟩ := List.length_eq_one_iff.1 h1
        exact hne x hx
      have : y = .tuple vs.toArray := by simp [y, hv]
      rw [this]
      exact .tup _ _ (by simpa using h2) fun i c v hc hv => h3 i c v hc (by simpa using hv)
  obtain ⟨I', L', hg, hr⟩ := hw I0 L0 O0 w0 I L w (fun t => if t = 0 then y else undef) rfl hs.good (fun t => by
    by_cases ht : t = 0
    · subst ht; simpa using hy
    · simp only [if_neg ht]; exact .top _)
  refine ⟨y, I', L', ?_, ?_, hg⟩
  · have hrun : (fn.results.mapM (getR a)).run P w = .ok vs.toArray w := by
      simp [Array.mapM_eq_mapM_toList, h4]
    have hres : results fn a.tmps = (do let vs ← fn.results.mapM (getR a); pure (if h : vs.size = 1 then vs[0] else .tuple vs)) := rfl
    rw [hres, Sem.run_bind, hrun]
    rfl
  · have := hr 0
    rw [he0] at this
    simpa using this

def cFn (P : Program) (f : FuncId) (a : AFn) : Prop :=
  ∃ fn code, P.funcs[f]? = some fn ∧ fn.body = some code ∧ (fn.name == "runtime.NumGoroutine") = false ∧ fn.ntmps = a.nt ∧ a.nargs ≤ a.nt ∧
    cCode P a.nt code = some a.code.strip ∧ fn.results.toList.mapM (cRes P) = some a.res ∧ a.code.drawsOk = true

/-- FROM THE ABSTRACT WALK OF A BODY TO THE CONTRACT OF ITS CALLS. -/
theorem con_of_wp {f : FuncId} {A : AFn} (hf : cFn P f A) {args : List AV} {O O' : List AObj} {res : AV} (hl : args.length = A.nargs)
    (h : wpC P O.length A.code (retK O.length A.res res O') (entryE args) O) : Con P f args O res O' := by
  obtain ⟨fn, code, h1, h2, h3, h4, h5, h6, h7, h8⟩ := hf
  refine ⟨⟨fn, h1, by rw [h2]; rfl, h3⟩, ?_⟩
  intro I L w vs hi hr
  refine calls_of_wp h1 h2 ?_
  have hsz : vs.size = A.nargs := by rw [← hr.1, hl]
  have hsat : Sat I L O w A.nt (entryE args) O { tmps := vs ++ Array.replicate (fn.ntmps - vs.size) undef, defers := [] } w I L := by
    refine ⟨.refl hi, fun t => ?_, ?_, rfl⟩
    · unfold entryE
      by_cases ht : t < vs.size
      · have ha : args[t]? = some (args.getD t (.tup [])) := by simp [List.getD, show t < args.length by rw [hr.1]; exact ht]
        have hv : vs[t]? = some ((vs ++ Array.replicate (fn.ntmps - vs.size) undef).getD t undef) := by
          rw [Array.getD_eq_getD_getElem?, Array.getElem?_append_left ht]; simp [ht]
        exact hr.2 t _ _ ha hv
      · have ha : args.getD t (.tup []) = .tup [] := by simp [List.getD, List.getElem?_eq_none (show args.length ≤ t by rw [hr.1]; omega)]
        have hv : (vs ++ Array.replicate (fn.ntmps - vs.size) undef).getD t undef = .tuple #[] := by
          rw [Array.getD_eq_getD_getElem?, Array.getElem?_append_right (by omega)]
          by_cases h8 : t - vs.size < fn.ntmps - vs.size
          · simp [h8]; rfl
          · simp [h8]; rfl
        rw [ha, hv]
        exact .tup [] #[] rfl (by simp)
    · simp; omega
  refine code_sound A.code code h6 h8 _ _ ?_ (entryE args) O _ w I L h hsat
  intro x e O1 a w' I' L' hq hs
  obtain ⟨y, I2, L2, r1, r2, r3⟩ := results_run h7 hs hq
  cases x with
  | normal => exact ⟨hs.defers, y, r1, y, I2, L2, rfl, r2, r3⟩
  | ret => exact ⟨hs.defers, y, r1, y, I2, L2, rfl, r2, r3⟩
  | exit id => exact hq.elim

end
end Go.Ab
/-
  SLOTS AS LISTS; WEAKENING: what is no longer wanted is forgotten.
-/
namespace Go.Ab
universe u

/-- an equation that the walk uses as such, not by unfolding -/
theorem nr {α : Sort u} {a b : α} (h : a = b) : a = b := h

def envL : List (Nat × AV) → Env
  | [], _ => .top
  | (k, a) :: l, t => if t = k then a else envL l t

theorem set_at (e : Env) (t : Nat) (a : AV) (k : Nat) : (e.set t a) k = if k = t then a else e k := nr rfl
theorem envL_cons (k : Nat) (a : AV) (l : List (Nat × AV)) (t : Nat) : envL ((k, a) :: l) t = if t = k then a else envL l t := nr rfl
theorem entry_at (args : List AV) (t : Nat) : entryE args t = args.getD t (.tup []) := nr rfl

theorem keepE_eq (live : List Nat) (e : Env) : keepE live e = envL (live.map fun t => (t, e t)) := by
  funext t
  induction live with
  | nil => rfl
  | cons k l ih =>
    simp only [List.map_cons, envL_cons]
    unfold keepE at ih ⊢
    by_cases h : t = k
    · subst h; simp
    · rw [if_neg h, ← ih]
      simp [h]

mutual
/-- all references are to objects ahead of k -/
def AV.inScope (k : Nat) : AV → Bool
  | .top | .v _ | .nils => true
  | .sl xs => AV.scopeds k xs
  | .iptr x _ => x.inScope k
  | .row n _ => n < k
  | .ptr n _ _ _ => n < k
  | .fn _ cs => AV.scopeds k cs
  | .agg cs => AV.scopeds k cs
  | .tup vs => AV.scopeds k vs
def AV.scopeds (k : Nat) : List AV → Bool
  | [] => true
  | x :: xs => x.inScope k && AV.scopeds k xs
end

theorem scopeds_mem {k : Nat} {xs : List AV} (h : AV.scopeds k xs = true) : ∀ x ∈ xs, x.inScope k = true := by
  induction xs with
  | nil => simp
  | cons y ys ih =>
    simp only [AV.scopeds, Bool.and_eq_true] at h
    intro x hx
    rcases List.mem_cons.1 hx with rfl | hx
    · exact h.1
    · exact ih h.2 x hx

mutual
theorem noref_scoped {k : Nat} : ∀ (x : AV), x.noref = true → x.inScope k = true
  | .top, _ | .v _, _ | .nils, _ => rfl
  | .sl xs, h => by simp only [AV.noref, AV.inScope] at *; exact norefs_scopeds xs h
  | .iptr x _, h => by simp only [AV.noref, AV.inScope] at *; exact noref_scoped x h
  | .row _ _, h => by simp [AV.noref] at h
  | .ptr _ _ _ _, h => by simp [AV.noref] at h
  | .fn _ cs, h => by simp only [AV.noref, AV.inScope] at *; exact norefs_scopeds cs h
  | .agg cs, h => by simp only [AV.noref, AV.inScope] at *; exact norefs_scopeds cs h
  | .tup cs, h => by simp only [AV.noref, AV.inScope] at *; exact norefs_scopeds cs h
theorem norefs_scopeds {k : Nat} : ∀ (xs : List AV), AV.norefs xs = true → AV.scopeds k xs = true
  | [], _ => rfl
  | x :: xs, h => by
    simp only [AV.norefs, AV.scopeds, Bool.and_eq_true] at *
    exact ⟨noref_scoped x h.1, norefs_scopeds xs h.2⟩
end

theorem scoped_cells {k : Nat} {x : AV} (h : x.inScope k = true) : ∀ c ∈ x.cells, c.inScope k = true := by
  cases x <;> simp only [AV.cells] <;> try (intro c hc; simp at hc; subst hc; exact h)
  simp only [AV.inScope] at h
  exact scopeds_mem h

def AObj.inScope (k : Nat) : AObj → Bool
  | .dead => true
  | .nil _ _ => true
  | .live _ _ xs => AV.scopeds k xs

theorem R.take {I : Imm} {L : Nat → Loc} {O : List AObj} {k : Nat} (hk : k ≤ O.length) {a : AV} {x : Value} (hr : R I L O a x) (h : a.inScope k = true) : R I L (O.take k) a x := by
  have hget : ∀ {n : Nat}, n < k → (O.take k)[n]? = O[n]? := fun {n} hn => by rw [List.getElem?_take, if_pos hn]
  have hlen : (O.take k).length = k := by simp; omega
  induction hr with
  | top x => exact .top x
  | v x hx => exact .v x hx
  | nils => exact .nils
  | sl0 a cap => exact .sl0 a cap
  | sl xs blk off cap s vals h1 h2 h3 h4 _ ih =>
    refine .sl xs blk off cap s vals h1 h2 h3 h4 fun i x j c hi hj => ih i x j c hi hj ?_
    exact scoped_cells (scopeds_mem (by simpa [AV.inScope] using h) x (List.mem_of_getElem? hi)) c (List.mem_of_getElem? hj)
  | iptr x f blk base vals h1 _ ih =>
    refine .iptr x f blk base vals h1 fun j c hj => ih j c hj ?_
    exact scoped_cells (by simpa [AV.inScope] using h) c (List.mem_of_getElem? hj)
  | rowLive n len e s xs hn hl =>
    have hn' : n < k := by simpa [AV.inScope] using h
    exact .rowLive n len e s xs (by rw [hget hn']; exact hn) hl
  | rowNil n e s hn =>
    have hn' : n < k := by simpa [AV.inScope] using h
    exact .rowNil n e s (by rw [hget hn']; exact hn)
  | rowDead n len x hn hnn hs hx =>
    have hn' : n < k := by simpa [AV.inScope] using h
    exact .rowDead n len x (by omega) (fun e s he => hnn e s (by rwa [hget hn'] at he)) (fun e s xs hxs => hs e s xs (by rwa [hget hn'] at hxs)) hx
  | ptrLive n len i f e s xs hn hl =>
    have hn' : n < k := by simpa [AV.inScope] using h
    exact .ptrLive n len i f e s xs (by rw [hget hn']; exact hn) hl
  | ptrDead n len i f x hn hnn hs hx =>
    have hn' : n < k := by simpa [AV.inScope] using h
    exact .ptrDead n len i f x (by omega) (fun e s he => hnn e s (by rwa [hget hn'] at he)) (fun e s xs hxs => hs e s xs (by rwa [hget hn'] at hxs)) hx
  | fn f caps vs h1 _ ih => exact .fn f caps vs h1 fun i c x hi hx => ih i c x hi hx (scopeds_mem (by simpa [AV.inScope] using h) c (List.mem_of_getElem? hi))
  | agg cs vs h1 _ ih => exact .agg cs vs h1 fun i c x hi hx => ih i c x hi hx (scopeds_mem (by simpa [AV.inScope] using h) c (List.mem_of_getElem? hi))
  | tup cs vs h1 _ ih => exact .tup cs vs h1 fun i c x hi hx => ih i c x hi hx (scopeds_mem (by simpa [AV.inScope] using h) c (List.mem_of_getElem? hi))

theorem Good.take {I0 I : Imm} {L0 L : Nat → Loc} {O0 O : List AObj} {w0 w : World} (h : Good I0 L0 O0 w0 I L O w) {k : Nat} (h0 : O0.length ≤ k) (hk : k ≤ O.length) (hb : ∀ ob ∈ O.take k, ob.inScope k = true) :
    Good I0 L0 O0 w0 I L (O.take k) w := by
  have hget : ∀ {n e s xs}, (O.take k)[n]? = some (.live e s xs) → O[n]? = some (.live e s xs) ∧ n < k := by
    intro n e s xs hn
    rw [List.getElem?_take] at hn
    split at hn
    · exact ⟨hn, by assumption⟩
    · cases hn
  have hgetn : ∀ {n e s : Nat}, (O.take k)[n]? = some (AObj.nil e s) → O[n]? = some (AObj.nil e s) := by
    intro n e s hn
    rw [List.getElem?_take] at hn
    split at hn
    · exact hn
    · cases hn
  refine ⟨⟨h.inv.imm, fun n e s xs hn => ?_, fun n m _ _ _ _ _ _ hn hm => h.inv.sep n m _ _ _ _ _ _ (hget hn).1 (hget hm).1, fun n e s xs o hn => h.inv.immSep n e s xs o (hget hn).1⟩, ⟨h.ext.imm, by simp; omega, fun n hn e s xs hx => h.ext.obj n hn e s xs (hget hx).1, fun n hn e s hx => h.ext.nil n hn e s (hgetn hx)⟩, h.frm, ?_, h.immNew⟩
  · obtain ⟨c, h1, h2, h3, h4, h5, h6⟩ := h.inv.obj n e s xs (hget hn).1
    refine ⟨c, h1, h2, h3, h4, h5, fun i x hx => ⟨(h6 i x hx).1, fun j a ha => ?_⟩⟩
    obtain ⟨y, hy, ho, hr⟩ := (h6 i x hx).2 j a ha
    have hbo := hb _ (List.mem_of_getElem? hn)
    exact ⟨y, hy, ho, hr.take hk (scoped_cells (scopeds_mem hbo x (List.mem_of_getElem? hx)) a (List.mem_of_getElem? ha))⟩
  · rintro b ⟨n, e, s, xs, hn, hb⟩
    exact h.lb b ⟨n, e, s, xs, (hget hn).1, hb⟩

/-- forget slots, and the objects from k on -/
theorem WK.forget {n0 : Nat} {e e' : Env} {O O' : List AObj} {k : Nat} (hO : O.take k = O') (h0 : n0 ≤ k) (hk : k ≤ O.length) (hb : ∀ ob ∈ O', ob.inScope k = true) (he : ∀ t, e' t = .top ∨ (e' t = e t ∧ (e' t).inScope k = true)) : WK n0 e O e' O' := by
  subst hO
  intro I0 L0 O0 w0 I L w f hl hg hr
  subst hl
  refine ⟨I, L, hg.take h0 hk hb, fun t => ?_⟩
  rcases he t with h | ⟨h, h'⟩
  · rw [h]; exact .top _
  · rw [h] at h' ⊢; exact (hr t).take hk h'

theorem envL_forget {e : Env} {k : Nat} {l : List (Nat × AV)} (h : ∀ p ∈ l, p.2 = e p.1 ∧ p.2.inScope k = true) : ∀ t, envL l t = .top ∨ (envL l t = e t ∧ (envL l t).inScope k = true) := by
  intro t
  induction l with
  | nil => exact .inl rfl
  | cons p l ih =>
    obtain ⟨q, a⟩ := p
    simp only [envL_cons]
    by_cases hq : t = q
    · subst hq
      rw [if_pos rfl]
      exact .inr (h (t, a) (by simp))
    · rw [if_neg hq]
      exact ih fun p hp => h p (by simp [hp])

theorem wpOp_mono {P : Program} {o : AOp} {e : Env} {O : List AObj} {K K' : AV → List AObj → Prop} (hk : ∀ x O, K x O → K' x O) (h : wpOp P o e O K) : wpOp P o e O K' := by
  obtain ⟨x, O', h1, h2⟩ := exAny h
  exact h2 K' (hk x O' h1)

theorem wpOps_mono {P : Program} : ∀ (l : List AOper) {e : Env} {O : List AObj} {K K' : Env → List AObj → Prop}, (∀ e O, K e O → K' e O) → wpOps P l e O K → wpOps P l e O K'
  | [], _, _, _, _, hk, h => hk _ _ h
  | o :: l, e, O, K, K', hk, h => by
    simp only [wpOps] at h ⊢
    split at h
    · exact wpOp_mono (fun x O' h => wpOps_mono l hk h) h
    · split at h
      · exact ⟨fun hb => wpOp_mono (fun x O' h => wpOps_mono l hk h) (h.1 hb), fun hb => wpOps_mono l hk (h.2 hb)⟩
      · exact wpOps_mono l hk h
      · exact h.elim

theorem wpOpsW_mono {P : Program} {n0 : Nat} : ∀ (l : List AOper) {e : Env} {O : List AObj} {K K' : Env → List AObj → Prop}, (∀ e O, K e O → K' e O) → wpOpsW P n0 l e O K → wpOpsW P n0 l e O K'
  | [], _, _, _, _, hk, ⟨e', O', hw, h⟩ => ⟨e', O', hw, hk _ _ h⟩
  | o :: l, e, O, K, K', hk, h => by
    simp only [wpOpsW] at h ⊢
    obtain ⟨e', O', hw, h⟩ := h
    refine ⟨e', O', hw, ?_⟩
    split at h
    · exact wpOp_mono (fun x O' h => wpOpsW_mono l hk h) h
    · split at h
      · exact ⟨fun hb => wpOp_mono (fun x O' h => wpOpsW_mono l hk h) (h.1 hb), fun hb => wpOpsW_mono l hk (h.2 hb)⟩
      · exact wpOpsW_mono l hk h
      · exact h.elim

theorem wpC_mono {P : Program} {n0 : Nat} (c : ACode) : ∀ {Q Q' : AX → Env → List AObj → Prop} {e : Env} {O : List AObj}, (∀ x e O, Q x e O → Q' x e O) → wpC P n0 c Q e O → wpC P n0 c Q' e O := by
  induction c with
  | skip => intro Q Q' e O hq h; exact hq _ _ _ h
  | region r ops => intro Q Q' e O hq h; exact wpOps_mono ops (fun e O h => hq _ _ _ h) h
  | regionW ops => intro Q Q' e O hq h; exact wpOpsW_mono ops (fun e O h => hq _ _ _ h) h
  | seq a b iha ihb =>
    intro Q Q' e O hq h
    refine iha (fun x e O h => ?_) h
    cases x
    · exact ihb hq h
    · exact hq _ _ _ h
    · exact hq _ _ _ h
  | cond c t f iht ihf =>
    intro Q Q' e O hq h
    simp only [wpC] at h ⊢
    split at h
    · exact ⟨fun hb => iht hq (h.1 hb), fun hb => ihf hq (h.2 hb)⟩
    · exact h.elim
  | block id b ih =>
    intro Q Q' e O hq h
    refine ih (fun x e O h => ?_) h
    cases x
    · exact hq _ _ _ h
    · simp only at h ⊢
      split
      · rename_i hi; rw [if_pos hi] at h; exact hq _ _ _ h
      · rename_i hi; rw [if_neg hi] at h; exact hq _ _ _ h
    · exact hq _ _ _ h
  | loop b ih =>
    intro Q Q' e O hq h
    obtain ⟨J, n, h0, hr⟩ := h
    refine ⟨J, n, h0, fun n e O hJ => ih (fun x e O h => ?_) (hr n e O hJ)⟩
    cases x
    · exact h
    · exact hq _ _ _ h
    · exact hq _ _ _ h
  | exit id => intro Q Q' e O hq h; exact hq _ _ _ h
  | ret => intro Q Q' e O hq h; exact hq _ _ _ h
  | keep l c ih =>
    intro Q Q' e O hq h
    refine ih (fun x e O h => ?_) h
    cases x <;> exact hq _ _ _ h
  | weak c ih =>
    intro Q Q' e O hq h
    obtain ⟨e', O', hw, h⟩ := h
    exact ⟨e', O', hw, ih hq h⟩

/-- what a round of a loop must come to -/
def roundQ (n0 : Nat) {ι : Type} (D : ι → Prop) (σ : ι → Env) (τ : ι → List AObj) (μ : ι → Nat) (i : ι) (Q : AX → Env → List AObj → Prop) : AX → Env → List AObj → Prop :=
  fun x e O => match x with | .normal => ∃ j, D j ∧ μ j < μ i ∧ WK n0 e O (σ j) (τ j) | x => Q x e O

/-- A LOOP, by a family of states. -/
theorem wpC_loop {P : Program} {n0 : Nat} {b : ACode} {Q : AX → Env → List AObj → Prop} {e : Env} {O : List AObj} {ι : Type} (D : ι → Prop) (σ : ι → Env) (τ : ι → List AObj) (μ : ι → Nat) (i0 : ι)
    (hd : D i0) (h0 : WK n0 e O (σ i0) (τ i0)) (hr : ∀ i, D i → wpC P n0 b (roundQ n0 D σ τ μ i Q) (σ i) (τ i)) : wpC P n0 (.loop b) Q e O := by
  refine ⟨fun n e O => ∃ i, D i ∧ μ i = n ∧ e = σ i ∧ O = τ i, μ i0, ⟨_, _, h0, i0, hd, rfl, rfl, rfl⟩, ?_⟩
  rintro n e O ⟨i, hi, rfl, rfl, rfl⟩
  refine wpC_mono b (fun x e O h => ?_) (hr i hi)
  cases x
  · obtain ⟨j, hj, h1, h2⟩ := h
    exact ⟨μ j, _, _, h1, h2, j, hj, rfl, rfl, rfl⟩
  · exact h
  · exact h

theorem WK.of_eq {n0 : Nat} {e e' : Env} {O O' : List AObj} (he : e = e') (hO : O = O') : WK n0 e O e' O' := by subst he; subst hO; exact .refl _ _ _

/- the equations by which a walk goes on: all but those of loops and weakenings -/
section
variable (P : Program) (n0 : Nat) (Q : AX → Env → List AObj → Prop) (e : Env) (O : List AObj)
theorem wpC_skip : wpC P n0 .skip Q e O = Q .normal e O := nr rfl
theorem wpC_region (rows : Option (List (List Nat))) (ops : List AOper) : wpC P n0 (.region rows ops) Q e O = Go.Ab.wpOps P ops e O (Q .normal) := nr rfl
theorem wpC_seq (a b : ACode) : wpC P n0 (.seq a b) Q e O = wpC P n0 a (fun x e O => match x with | .normal => wpC P n0 b Q e O | x => Q x e O) e O := nr rfl
theorem wpC_cond (c : Opd) (t f : ACode) : wpC P n0 (.cond c t f) Q e O = match c.ev e with
    | .v (.bool b) => (b = true → wpC P n0 t Q e O) ∧ (b = false → wpC P n0 f Q e O)
    | _ => False := nr rfl
theorem wpC_block (id : Nat) (b : ACode) : wpC P n0 (.block id b) Q e O = wpC P n0 b (fun x e O => match x with | .exit i => if i = id then Q .normal e O else Q (.exit i) e O | x => Q x e O) e O := nr rfl
theorem wpC_exit (id : Nat) : wpC P n0 (.exit id) Q e O = Q (.exit id) e O := nr rfl
theorem wpC_ret : wpC P n0 .ret Q e O = Q .ret e O := nr rfl
theorem wpC_keep (l : List Nat) (c : ACode) : wpC P n0 (.keep l c) Q e O = wpC P n0 c (fun x e O => match x with | .normal => Q .normal (keepE l e) O | x => Q x e O) e O := nr rfl
theorem wpOps_nil (K : Env → List AObj → Prop) : Go.Ab.wpOps P [] e O K = K e O := nr rfl
theorem wpOps_plain (K : Env → List AObj → Prop) (d : Option Nat) (op : AOp) (r : List AOper) :
    Go.Ab.wpOps P (⟨none, d, op⟩ :: r) e O K = wpOp P op e O (fun x O' => Go.Ab.wpOps P r (setD e d x) O' K) := nr rfl
theorem wpOps_guard (K : Env → List AObj → Prop) (t : Nat) (want : Bool) (d : Option Nat) (op : AOp) (r : List AOper) :
    Go.Ab.wpOps P (⟨some (t, want), d, op⟩ :: r) e O K = match e t with
      | .v (.bool b) =>
        (b = want → wpOp P op (e.set t (.v (.bool want))) O fun x O' => Go.Ab.wpOps P r (setD (e.set t (.v (.bool want))) d x) O' K) ∧
        (b = !want → Go.Ab.wpOps P r (setD (e.set t (.v (.bool (!want)))) d (.tup [])) O K)
      | .tup [] => Go.Ab.wpOps P r (setD e d (.tup [])) O K
      | _ => False := nr rfl
theorem setD_some (t : Nat) (a : AV) : setD e (some t) a = e.set t a := nr rfl
theorem setD_none (a : AV) : setD e none a = e := nr rfl
theorem ev_t (n : Nat) : (Opd.t n).ev e = e n := nr rfl
theorem ev_c (a : AV) : (Opd.c a).ev e = a := nr rfl
end

theorem keepE_nil (e : Env) : keepE [] e = envL [] := by rw [keepE_eq]; rfl

end Go.Ab
/-
  THE RULES BY WHICH A WALK GOES ON: operands first, then the operation; what comes behind it is not looked at till then.
-/
namespace Go.Ab

theorem data_toList (a : ByteArray) : a.toList = a.data.toList := ByteArray.toList_eq a

abbrev KT := AV → List AObj → Prop

def k1 (a : AV) (O : List AObj) (K : KT) : Prop := K a O
theorem k1_eq (a : AV) (O : List AObj) (K : KT) : k1 a O K = K a O := nr rfl

def pickK (c a b : AV) (O : List AObj) (K : KT) : Prop := match c with
  | .v (.bool t) => K (if t then a else b) O
  | _ => False
theorem pickK_true (a b : AV) (O : List AObj) (K : KT) : pickK (.v (.bool true)) a b O K = k1 a O K := nr rfl
theorem pickK_false (a b : AV) (O : List AObj) (K : KT) : pickK (.v (.bool false)) a b O K = k1 b O K := nr rfl
theorem pickK_bool (t x y : Bool) (O : List AObj) (K : KT) : pickK (.v (.bool t)) (.v (.bool x)) (.v (.bool y)) O K = k1 (.v (.bool (if t = true then x else y))) O K := by cases t <;> rfl

def boxK (t s : Nat) (a : AV) (O : List AObj) (K : KT) : Prop := a.cells.length = s ∧ a.storable = true ∧ K (.ptr O.length 1 0 0) (O ++ [.live t s [a]])
theorem boxK_eq (t s : Nat) (a : AV) (O : List AObj) (K : KT) : boxK t s a O K = (a.cells.length = s ∧ a.storable = true ∧ k1 (.ptr O.length 1 0 0) (O ++ [.live t s [a]]) K) := nr rfl

def bldK (z : List AV) (ps : List (Nat × Nat × AV)) (O : List AObj) (K : KT) : Prop := match ps with
  | [] => K (.agg z) O
  | (off, size, x) :: r => x.cells.length = size ∧ (x.isCell || x.isAgg) = true ∧ off + size ≤ z.length ∧ bldK (z.take off ++ x.cells ++ z.drop (off + size)) r O K
theorem bldK_nil (z : List AV) (O : List AObj) (K : KT) : bldK z [] O K = k1 (.agg z) O K := by simp [bldK, k1]
theorem bldK_cons (z : List AV) (off size : Nat) (x : AV) (r : List (Nat × Nat × AV)) (O : List AObj) (K : KT) :
    bldK z ((off, size, x) :: r) O K = (x.cells.length = size ∧ (x.isCell || x.isAgg) = true ∧ off + size ≤ z.length ∧ bldK (z.take off ++ x.cells ++ z.drop (off + size)) r O K) := by rw [bldK]
theorem buildK_bld {e : Env} {O : List AObj} {K : KT} : ∀ (ps : List (Nat × Nat × Opd)) (z : List AV), buildK e z ps (fun a => K a O) = bldK z (ps.map fun p => (p.1, p.2.1, p.2.2.ev e)) O K
  | [], z => by simp [buildK, bldK]
  | (off, size, x) :: r, z => by simp only [buildK, List.map_cons, bldK, buildK_bld r]

def bslK (t s : Nat) (len : Nat) (xs : List AV) (ps : List (Nat × AV)) (O : List AObj) (K : KT) : Prop := match ps with
  | [] => K (.row O.length len) (O ++ [.live t s xs])
  | (i, x) :: r => x.cells.length = s ∧ x.storable = true ∧ i < xs.length ∧ bslK t s len (xs.set i x) r O K
theorem bslK_nil (t s len : Nat) (z : List AV) (O : List AObj) (K : KT) : bslK t s len z [] O K = k1 (.row O.length len) (O ++ [.live t s z]) K := by simp [bslK, k1]
theorem bslK_cons (t s len : Nat) (z : List AV) (i : Nat) (x : AV) (r : List (Nat × AV)) (O : List AObj) (K : KT) :
    bslK t s len z ((i, x) :: r) O K = (x.cells.length = s ∧ x.storable = true ∧ i < z.length ∧ bslK t s len (z.set i x) r O K) := by rw [bslK]
theorem rowK_bsl {e : Env} {O : List AObj} {K : KT} (t s len : Nat) : ∀ (ps : List (Nat × Opd)) (z : List AV), rowK e s z ps (fun xs => K (.row O.length len) (O ++ [.live t s xs])) = bslK t s len z (ps.map fun p => (p.1, p.2.ev e)) O K
  | [], z => by simp [rowK, bslK]
  | (i, x) :: r, z => by simp only [rowK, List.map_cons, bslK, rowK_bsl t s len r]

/-- an object that is looked up -/
def objK (o : Option AObj) (M : Nat → Nat → List AV → Prop) : Prop := match o with
  | some (.live t s xs) => M t s xs
  | _ => False
/-- an object that is a slice -/
def objN (o : Option AObj) (N : Nat → Nat → Prop) (M : Nat → Nat → List AV → Prop) : Prop := match o with
  | some (.live t s xs) => M t s xs
  | some (.nil t s) => N t s
  | _ => False
theorem objN_live (t s : Nat) (xs : List AV) (N : Nat → Nat → Prop) (M : Nat → Nat → List AV → Prop) : objN (some (.live t s xs)) N M = M t s xs := nr rfl
theorem objN_nil (t s : Nat) (N : Nat → Nat → Prop) (M : Nat → Nat → List AV → Prop) : objN (some (.nil t s)) N M = N t s := nr rfl
theorem objK_live (t s : Nat) (xs : List AV) (M : Nat → Nat → List AV → Prop) : objK (some (.live t s xs)) M = M t s xs := nr rfl

def loadK (n : Option Nat) (a : AV) (O : List AObj) (K : KT) : Prop := match a with
    | .iptr y f => f + n.getD 1 ≤ y.cells.length ∧ K (loadC n y f) O
    | .ptr k len i f => objK O[k]? fun _ _ xs => xs.length = len ∧ i < len ∧ f + n.getD 1 ≤ (xs.getD i .top).cells.length ∧ K (loadC n (xs.getD i .top) f) O
    | _ => False
theorem loadK_iptr (n : Option Nat) (y : AV) (f : Nat) (O : List AObj) (K : KT) : loadK n (.iptr y f) O K = (f + n.getD 1 ≤ y.cells.length ∧ k1 (loadC n y f) O K) := nr rfl
theorem loadK_ptr (n : Option Nat) (k len i f : Nat) (O : List AObj) (K : KT) : loadK n (.ptr k len i f) O K = objK O[k]? fun _ _ xs => xs.length = len ∧ i < len ∧ f + n.getD 1 ≤ (xs.getD i .top).cells.length ∧ k1 (loadC n (xs.getD i .top) f) O K := nr rfl

def storeK (m : Nat) (a b : AV) (O : List AObj) (K : KT) : Prop := match a with
    | .ptr k len i f => objK O[k]? fun t s xs => xs.length = len ∧ i < len ∧ b.cells.length = m ∧ b.storable = true ∧ f + m ≤ (xs.getD i .top).cells.length ∧ K .top (O.set k (.live t s (xs.set i (upd (xs.getD i .top) f b))))
    | _ => False
theorem storeK_ptr (m k len i f : Nat) (b : AV) (O : List AObj) (K : KT) : storeK m (.ptr k len i f) b O K = objK O[k]? fun t s xs => xs.length = len ∧ i < len ∧ b.cells.length = m ∧ b.storable = true ∧ f + m ≤ (xs.getD i .top).cells.length ∧ k1 .top (O.set k (.live t s (xs.set i (upd (xs.getD i .top) f b)))) K := nr rfl

def binK (op : BinOp) (a b : AV) (O : List AObj) (K : KT) : Prop := match a, b with
    | .v x, .v y => match sbin op x y with
      | some z => K (.v z) O
      | none => False
    | _, _ => False
section
variable (k : IntKind) (a b : Int) (O : List AObj) (K : KT)
theorem binK_add : binK .add (.v (.int k a)) (.v (.int k b)) O K = k1 (.v (.int k (k.wrap (a + b)))) O K := by simp [binK, sbin, ibin, BinOp.isShift, k1]
theorem binK_sub : binK .sub (.v (.int k a)) (.v (.int k b)) O K = k1 (.v (.int k (k.wrap (a - b)))) O K := by simp [binK, sbin, ibin, BinOp.isShift, k1]
theorem binK_mul : binK .mul (.v (.int k a)) (.v (.int k b)) O K = k1 (.v (.int k (k.wrap (a * b)))) O K := by simp [binK, sbin, ibin, BinOp.isShift, k1]
theorem binK_and : binK .and (.v (.int k a)) (.v (.int k b)) O K = k1 (.v (.int k (k.wrap (BitVec.ofInt k.bits a &&& BitVec.ofInt k.bits b).toNat))) O K := by simp [binK, sbin, ibin, BinOp.isShift, k1]
theorem binK_or : binK .or (.v (.int k a)) (.v (.int k b)) O K = k1 (.v (.int k (k.wrap (BitVec.ofInt k.bits a ||| BitVec.ofInt k.bits b).toNat))) O K := by simp [binK, sbin, ibin, BinOp.isShift, k1]
theorem binK_xor : binK .xor (.v (.int k a)) (.v (.int k b)) O K = k1 (.v (.int k (k.wrap (BitVec.ofInt k.bits a ^^^ BitVec.ofInt k.bits b).toNat))) O K := by simp [binK, sbin, ibin, BinOp.isShift, k1]
theorem binK_quo : binK .quo (.v (.int k a)) (.v (.int k b)) O K = (b ≠ 0 ∧ k1 (.v (.int k (k.wrap (a.tdiv b)))) O K) := by
  by_cases h : b = 0 <;> simp [binK, sbin, ibin, BinOp.isShift, k1, h]
theorem binK_rem : binK .rem (.v (.int k a)) (.v (.int k b)) O K = (b ≠ 0 ∧ k1 (.v (.int k (a.tmod b))) O K) := by
  by_cases h : b = 0 <;> simp [binK, sbin, ibin, BinOp.isShift, k1, h]
theorem binK_eql : binK .eql (.v (.int k a)) (.v (.int k b)) O K = k1 (.v (.bool (decide (a = b)))) O K := by
  have : (a == b) = decide (a = b) := by by_cases h : a = b <;> simp [h]
  simp [binK, sbin, ibin, BinOp.isShift, k1, this]
theorem binK_neq : binK .neq (.v (.int k a)) (.v (.int k b)) O K = k1 (.v (.bool (!decide (a = b)))) O K := by
  have : (a != b) = !decide (a = b) := by by_cases h : a = b <;> simp [h]
  simp [binK, sbin, ibin, BinOp.isShift, k1, this]
theorem binK_lss : binK .lss (.v (.int k a)) (.v (.int k b)) O K = k1 (.v (.bool (decide (a < b)))) O K := by simp [binK, sbin, ibin, BinOp.isShift, k1]
theorem binK_leq : binK .leq (.v (.int k a)) (.v (.int k b)) O K = k1 (.v (.bool (decide (a ≤ b)))) O K := by simp [binK, sbin, ibin, BinOp.isShift, k1]
theorem binK_gtr : binK .gtr (.v (.int k a)) (.v (.int k b)) O K = k1 (.v (.bool (decide (b < a)))) O K := by simp [binK, sbin, ibin, BinOp.isShift, k1]
theorem binK_geq : binK .geq (.v (.int k a)) (.v (.int k b)) O K = k1 (.v (.bool (decide (b ≤ a)))) O K := by simp [binK, sbin, ibin, BinOp.isShift, k1]
theorem binK_shl (k' : IntKind) : binK .shl (.v (.int k a)) (.v (.int k' b)) O K = (0 ≤ b ∧ k1 (.v (.int k (k.wrap (a * 2 ^ (min b.toNat k.bits))))) O K) := by
  by_cases h : 0 ≤ b <;> simp [binK, sbin, shbin, BinOp.isShift, k1, h]
theorem binK_shr (k' : IntKind) : binK .shr (.v (.int k a)) (.v (.int k' b)) O K = (0 ≤ b ∧ k1 (.v (.int k (a.fdiv (2 ^ (min b.toNat k.bits))))) O K) := by
  by_cases h : 0 ≤ b <;> simp [binK, sbin, shbin, BinOp.isShift, k1, h]
end
theorem toList_beq (a b : ByteArray) : (a.toList == b.toList) = decide (a = b) := by
  rw [data_toList, data_toList]
  by_cases h : a = b
  · simp [h]
  · have : ¬ a.data = b.data := fun h' => h (by cases a; cases b; simpa using h')
    simp [h, this]
section
variable (a b : ByteArray) (O : List AObj) (K : KT)
theorem binK_sadd : binK .add (.v (.string a)) (.v (.string b)) O K = (((a.size + b.size : Nat) : Int) ≤ 9223372036854775807 ∧ k1 (.v (.string (a ++ b))) O K) := by
  have h3 : IntKind.i64.max = 9223372036854775807 := by decide
  by_cases h : ((a.size + b.size : Nat) : Int) ≤ 9223372036854775807
  · simp only [binK, sbin, stbin, k1, h3, if_pos h, h, if_true, true_and]
  · simp only [binK, sbin, stbin, k1, h3, if_neg h, h, if_false, false_and]
theorem binK_seql : binK .eql (.v (.string a)) (.v (.string b)) O K = k1 (.v (.bool (decide (a = b)))) O K := by simp [binK, sbin, stbin, k1, toList_beq]
theorem binK_sneq : binK .neq (.v (.string a)) (.v (.string b)) O K = k1 (.v (.bool (!decide (a = b)))) O K := by simp [binK, sbin, stbin, k1, toList_beq]
end

def unK (op : UnOp) (a : AV) (O : List AObj) (K : KT) : Prop := match a with
    | .v x => match sun op x with
      | some z => K (.v z) O
      | none => False
    | _ => False
theorem unK_not (b : Bool) (O : List AObj) (K : KT) : unK .not (.v (.bool b)) O K = k1 (.v (.bool (!b))) O K := nr rfl
theorem unK_neg (k : IntKind) (n : Int) (O : List AObj) (K : KT) : unK .neg (.v (.int k n)) O K = k1 (.v (.int k (k.wrap (-n)))) O K := by simp [unK, sun, k1]

def convK (k : IntKind) (a : AV) (O : List AObj) (K : KT) : Prop := match a with
    | .v (.int _ n) => K (.v (.int k (k.wrap n))) O
    | _ => False
theorem convK_eq (k k' : IntKind) (n : Int) (O : List AObj) (K : KT) : convK k (.v (.int k' n)) O K = k1 (.v (.int k (k.wrap n))) O K := nr rfl

def faddrK (off : Nat) (a : AV) (O : List AObj) (K : KT) : Prop := match a with
    | .iptr y f => K (.iptr y (f + off)) O
    | .ptr n len i f => objK O[n]? fun _ _ xs => xs.length = len ∧ K (.ptr n len i (f + off)) O
    | _ => False
theorem faddrK_iptr (off : Nat) (y : AV) (f : Nat) (O : List AObj) (K : KT) : faddrK off (.iptr y f) O K = k1 (.iptr y (f + off)) O K := nr rfl
theorem faddrK_ptr (off n len i f : Nat) (O : List AObj) (K : KT) : faddrK off (.ptr n len i f) O K = objK O[n]? fun _ _ xs => xs.length = len ∧ k1 (.ptr n len i (f + off)) O K := nr rfl

def fldK (off : Nat) (n : Option Nat) (a : AV) (O : List AObj) (K : KT) : Prop := a.isAgg = true ∧ off + n.getD 1 ≤ a.cells.length ∧ K (loadC n a off) O
theorem fldK_eq (off : Nat) (n : Option Nat) (a : AV) (O : List AObj) (K : KT) : fldK off n a O K = (a.isAgg = true ∧ off + n.getD 1 ≤ a.cells.length ∧ k1 (loadC n a off) O K) := nr rfl

def iaddrK (s : Nat) (a i : AV) (O : List AObj) (K : KT) : Prop := match a, i with
    | .sl xs, .v (.int _ i) => 0 ≤ i ∧ i < xs.length ∧ (xs.getD i.toNat .top).cells.length = s ∧ K (.iptr (xs.getD i.toNat .top) 0) O
    | .row n len, .v (.int _ i) => objK O[n]? fun _ s' xs => s' = s ∧ xs.length = len ∧ 0 ≤ i ∧ i < len ∧ K (.ptr n len i.toNat 0) O
    | _, _ => False
theorem iaddrK_sl (s : Nat) (xs : List AV) (k : IntKind) (i : Int) (O : List AObj) (K : KT) : iaddrK s (.sl xs) (.v (.int k i)) O K = (0 ≤ i ∧ i < xs.length ∧ (xs.getD i.toNat .top).cells.length = s ∧ k1 (.iptr (xs.getD i.toNat .top) 0) O K) := nr rfl
theorem iaddrK_row (s n len : Nat) (k : IntKind) (i : Int) (O : List AObj) (K : KT) : iaddrK s (.row n len) (.v (.int k i)) O K = objK O[n]? fun _ s' xs => s' = s ∧ xs.length = len ∧ 0 ≤ i ∧ i < len ∧ k1 (.ptr n len i.toNat 0) O K := nr rfl

def idxSK (a i : AV) (O : List AObj) (K : KT) : Prop := match a, i with
    | .v (.string s), .v (.int _ i) => 0 ≤ i ∧ i < s.size ∧ K (.v (.int .u8 (s.data.toList.getD i.toNat 0).toNat)) O
    | _, _ => False
theorem idxSK_eq (s : ByteArray) (k : IntKind) (i : Int) (O : List AObj) (K : KT) : idxSK (.v (.string s)) (.v (.int k i)) O K = (0 ≤ i ∧ i < s.size ∧ k1 (.v (.int .u8 (s.data.toList.getD i.toNat 0).toNat)) O K) := nr rfl

def bnd (d : Int) (x : Option AV) (M : Int → Prop) : Prop := match x with
  | none => M d
  | some (.v (.int _ i)) => M i
  | _ => False
theorem bnd_none (d : Int) (M : Int → Prop) : bnd d none M = M d := nr rfl
theorem bnd_some (d : Int) (k : IntKind) (i : Int) (M : Int → Prop) : bnd d (some (.v (.int k i))) M = M i := nr rfl
theorem boundK_bnd (d : Int) (e : Env) (x : Option Opd) (M : Int → Prop) : boundK d e x M = bnd d (x.map (Opd.ev e)) M := by
  cases x with
  | none => rfl
  | some o =>
    simp only [boundK, bnd, Option.map_some]
    cases o.ev e <;> try rfl
    rename_i v; cases v <;> rfl

def sliceSK (a : AV) (lo hi : Option AV) (O : List AObj) (K : KT) : Prop := match a with
    | .v (.string s) => bnd 0 lo fun l => bnd s.size hi fun h => 0 ≤ l ∧ l ≤ h ∧ h ≤ s.size ∧ K (.v (.string (s.extract l.toNat h.toNat))) O
    | _ => False
theorem sliceSK_eq (s : ByteArray) (lo hi : Option AV) (O : List AObj) (K : KT) : sliceSK (.v (.string s)) lo hi O K = bnd 0 lo fun l => bnd s.size hi fun h => 0 ≤ l ∧ l ≤ h ∧ h ≤ s.size ∧ k1 (.v (.string (s.extract l.toNat h.toNat))) O K := nr rfl
def sliceLK (s : Nat) (a : AV) (lo hi : Option AV) (O : List AObj) (K : KT) : Prop := match a with
    | .sl xs => bnd 0 lo fun l => bnd xs.length hi fun h => 0 ≤ l ∧ l ≤ h ∧ h ≤ xs.length ∧ (∀ y ∈ xs, y.cells.length = s) ∧ K (.sl ((xs.take h.toNat).drop l.toNat)) O
    | _ => False
theorem sliceLK_eq (s : Nat) (xs : List AV) (lo hi : Option AV) (O : List AObj) (K : KT) : sliceLK s (.sl xs) lo hi O K = bnd 0 lo fun l => bnd xs.length hi fun h => 0 ≤ l ∧ l ≤ h ∧ h ≤ xs.length ∧ (∀ y ∈ xs, y.cells.length = s) ∧ k1 (.sl ((xs.take h.toNat).drop l.toNat)) O K := nr rfl

def mkK (t s bytes : Nat) (z a b : AV) (O : List AObj) (K : KT) : Prop := match a, b with
    | .v (.int .i64 n), .v (.int .i64 c) => 0 ≤ n ∧ n ≤ c ∧ bytes * c ≤ 2 ^ 48 ∧ c ≤ maxLen ∧ K (.row O.length n.toNat) (O ++ [.live t s (List.replicate n.toNat z)])
    | _, _ => False
theorem mkK_eq (t s bytes : Nat) (z : AV) (n c : Int) (O : List AObj) (K : KT) : mkK t s bytes z (.v (.int .i64 n)) (.v (.int .i64 c)) O K = (0 ≤ n ∧ n ≤ c ∧ bytes * c ≤ 281474976710656 ∧ c ≤ 9223372036854775807 ∧ k1 (.row O.length n.toNat) (O ++ [.live t s (List.replicate n.toNat z)]) K) := by
  have h1 : ((2 : Int) ^ 48) = 281474976710656 := by decide
  have h2 : ((maxLen : Nat) : Int) = 9223372036854775807 := by decide
  simp only [mkK, h1, h2, k1]

def lenSK (a : AV) (O : List AObj) (K : KT) : Prop := match a with
    | .v (.string s) => K (.v (.int .i64 s.size)) O
    | _ => False
theorem lenSK_eq (s : ByteArray) (O : List AObj) (K : KT) : lenSK (.v (.string s)) O K = k1 (.v (.int .i64 s.size)) O K := nr rfl
def lenLK (a : AV) (O : List AObj) (K : KT) : Prop := match a with
    | .nils => K (.v (.int .i64 0)) O
    | .sl xs => K (.v (.int .i64 xs.length)) O
    | .row n len => objN O[n]? (fun _ _ => len = 0 ∧ K (.v (.int .i64 0)) O) fun _ _ xs => xs.length = len ∧ K (.v (.int .i64 len)) O
    | _ => False
theorem lenLK_nils (O : List AObj) (K : KT) : lenLK .nils O K = k1 (.v (.int .i64 0)) O K := nr rfl
theorem lenLK_sl (xs : List AV) (O : List AObj) (K : KT) : lenLK (.sl xs) O K = k1 (.v (.int .i64 xs.length)) O K := nr rfl
theorem lenLK_row (n len : Nat) (O : List AObj) (K : KT) : lenLK (.row n len) O K = objN O[n]? (fun _ _ => len = 0 ∧ k1 (.v (.int .i64 0)) O K) fun _ _ xs => xs.length = len ∧ k1 (.v (.int .i64 len)) O K := nr rfl

def srcOf (O : List AObj) (y : AV) (M : List AV → Prop) : Prop := match y with
  | .nils => M []
  | .sl ys => M ys
  | .row n len => objN O[n]? (fun _ _ => len = 0 ∧ M []) fun _ _ xs => xs.length = len ∧ M xs
  | _ => False
theorem srcOf_nils (O : List AObj) (M : List AV → Prop) : srcOf O .nils M = M [] := nr rfl
theorem srcOf_sl (O : List AObj) (ys : List AV) (M : List AV → Prop) : srcOf O (.sl ys) M = M ys := nr rfl
theorem srcOf_row (O : List AObj) (n len : Nat) (M : List AV → Prop) : srcOf O (.row n len) M = objN O[n]? (fun _ _ => len = 0 ∧ M []) fun _ _ xs => xs.length = len ∧ M xs := nr rfl
def ontoK (O : List AObj) (x : AV) (t s bytes : Nat) (ys : List AV) (K : KT) : Prop := match x with
  | .nils => ys.length * bytes ≤ 140737488355328 ∧ ys.length ≤ maxLen ∧ (ys = [] → K .nils O) ∧ (ys ≠ [] → K (.row O.length ys.length) (O ++ [.live t s ys]))
  | .row n len => objN O[n]? (fun t' s' => t' = t ∧ s' = s ∧ len = 0 ∧ ys.length * bytes ≤ 140737488355328 ∧ ys.length ≤ maxLen ∧ (ys = [] → K (.row n 0) O) ∧ (ys ≠ [] → K (.row n ys.length) (O.set n (.live t s ys)))) fun t' s' xs => t' = t ∧ s' = s ∧ xs.length = len ∧ (len + ys.length) * bytes ≤ 140737488355328 ∧ len + ys.length ≤ maxLen ∧
        K (.row n (len + ys.length)) (O.set n (.live t s (xs ++ ys)))
  | _ => False
theorem ontoK_nils1 (O : List AObj) (t s bytes : Nat) (y : AV) (ys : List AV) (K : KT) : ontoK O .nils t s bytes (y :: ys) K = ((y :: ys).length * bytes ≤ 140737488355328 ∧ (y :: ys).length ≤ maxLen ∧ k1 (.row O.length (y :: ys).length) (O ++ [.live t s (y :: ys)]) K) := by
  simp [ontoK, k1]
theorem ontoK_nils (O : List AObj) (t s bytes : Nat) (ys : List AV) (K : KT) : ontoK O .nils t s bytes ys K = (ys.length * bytes ≤ 140737488355328 ∧ ys.length ≤ maxLen ∧ (ys = [] → k1 .nils O K) ∧ (ys ≠ [] → k1 (.row O.length ys.length) (O ++ [.live t s ys]) K)) := nr rfl
theorem ontoK_row (O : List AObj) (n len t s bytes : Nat) (ys : List AV) (K : KT) : ontoK O (.row n len) t s bytes ys K = objN O[n]? (fun t' s' => t' = t ∧ s' = s ∧ len = 0 ∧ ys.length * bytes ≤ 140737488355328 ∧ ys.length ≤ maxLen ∧ (ys = [] → k1 (.row n 0) O K) ∧ (ys ≠ [] → k1 (.row n ys.length) (O.set n (.live t s ys)) K)) fun t' s' xs => t' = t ∧ s' = s ∧ xs.length = len ∧ (len + ys.length) * bytes ≤ 140737488355328 ∧ len + ys.length ≤ maxLen ∧
        k1 (.row n (len + ys.length)) (O.set n (.live t s (xs ++ ys))) K := nr rfl

def extK (a : AV) (i : Nat) (O : List AObj) (K : KT) : Prop := match a with
    | .tup vs => i < vs.length ∧ K (vs.getD i .top) O
    | _ => False
theorem extK_eq (vs : List AV) (i : Nat) (O : List AObj) (K : KT) : extK (.tup vs) i O K = (i < vs.length ∧ k1 (vs.getD i .top) O K) := nr rfl

def nilcK (a : AV) (O : List AObj) (K : KT) : Prop := match a with
    | .iptr y f => K (.iptr y f) O
    | .fn f caps => K (.fn f caps) O
    | .ptr n len i f => objK O[n]? fun _ _ xs => xs.length = len ∧ K (.ptr n len i f) O
    | _ => False
theorem nilcK_iptr (y : AV) (f : Nat) (O : List AObj) (K : KT) : nilcK (.iptr y f) O K = k1 (.iptr y f) O K := nr rfl
theorem nilcK_fn (f : FuncId) (cs : List AV) (O : List AObj) (K : KT) : nilcK (.fn f cs) O K = k1 (.fn f cs) O K := nr rfl
theorem nilcK_ptr (n len i f : Nat) (O : List AObj) (K : KT) : nilcK (.ptr n len i f) O K = objK O[n]? fun _ _ xs => xs.length = len ∧ k1 (.ptr n len i f) O K := nr rfl

/- calls: the walk stands still here -/
def callK (P : Program) (f : FuncId) (args : List AV) (O : List AObj) (K : KT) : Prop := ∃ res O', Con P f args O res O' ∧ K res O'
theorem callK_intro {P : Program} {f : FuncId} {args : List AV} {O : List AObj} {K : KT} (res : AV) (O' : List AObj) (h : Con P f args O res O') (k : k1 res O' K) : callK P f args O K := ⟨res, O', h, k⟩
def qcallK (P : Program) (f : FuncId) (args : List AV) (O : List AObj) (K : KT) : Prop := ∃ res, AV.norefs args = true ∧ PCon P f args res ∧ K res O
theorem qcallK_intro {P : Program} {f : FuncId} {args : List AV} {O : List AObj} {K : KT} (res : AV) (h : PCon P f args res) (hn : AV.norefs args = true) (k : k1 res O K) : qcallK P f args O K := ⟨res, hn, h, k⟩
/-- args: as they are; fargs: with what was frozen -/
def pcallK (P : Program) (f : FuncId) (fargs args : List AV) (O : List AObj) (K : KT) : Prop := ∃ res, AV.norefs fargs = true ∧ PCon P f fargs res ∧ K res (aft O args res)
theorem pcallK_intro {P : Program} {f : FuncId} {fargs args : List AV} {O : List AObj} {K : KT} (res : AV) (h : PCon P f fargs res) (hn : AV.norefs fargs = true) (k : k1 res (aft O args res) K) : pcallK P f fargs args O K := ⟨res, hn, h, k⟩
def callvK (P : Program) (x : AV) (args : List AV) (O : List AObj) (K : KT) : Prop := match x with
  | .fn f caps => callK P f (args ++ caps) O K
  | _ => False
theorem callvK_fn (P : Program) (f : FuncId) (caps args : List AV) (O : List AObj) (K : KT) : callvK P (.fn f caps) args O K = callK P f (args ++ caps) O K := nr rfl
def qcallvK (P : Program) (x : AV) (args : List AV) (O : List AObj) (K : KT) : Prop := match x with
  | .fn f caps => qcallK P f (args ++ caps) O K
  | _ => False
theorem qcallvK_fn (P : Program) (f : FuncId) (caps args : List AV) (O : List AObj) (K : KT) : qcallvK P (.fn f caps) args O K = qcallK P f (args ++ caps) O K := nr rfl
def pcallvK (P : Program) (x : AV) (fargs args : List AV) (O : List AObj) (K : KT) : Prop := match x with
  | .fn f caps => pcallK P f (fargs ++ caps) args O K
  | _ => False
theorem pcallvK_fn (P : Program) (f : FuncId) (caps fargs args : List AV) (O : List AObj) (K : KT) : pcallvK P (.fn f caps) fargs args O K = pcallK P f (fargs ++ caps) args O K := nr rfl

section
variable (P : Program) (e : Env) (O : List AObj) (K : KT)
theorem o_mov (x : Opd) : wpOp P (.mov x) e O K = k1 (x.ev e) O K := nr rfl
theorem o_pick (c a b : Opd) : wpOp P (.pick c a b) e O K = pickK (c.ev e) (a.ev e) (b.ev e) O K := nr rfl
theorem o_alloc (t s : Nat) (z : AV) : wpOp P (.alloc t s z) e O K = k1 (.ptr O.length 1 0 0) (O ++ [.live t s [z]]) K := nr rfl
theorem o_box (t s : Nat) (x : Opd) : wpOp P (.box t s x) e O K = boxK t s (x.ev e) O K := nr rfl
theorem o_build (z : List AV) (ps : List (Nat × Nat × Opd)) : wpOp P (.build z ps) e O K = bldK z (ps.map fun p => (p.1, p.2.1, p.2.2.ev e)) O K := buildK_bld ps z
theorem o_buildSlice (t s len : Nat) (z : AV) (ps : List (Nat × Opd)) : wpOp P (.buildSlice t s len z ps) e O K = bslK t s len (List.replicate len z) (ps.map fun p => (p.1, p.2.ev e)) O K := rowK_bsl t s len ps _
theorem o_load (n : Option Nat) (x : Opd) : wpOp P (.load n x) e O K = loadK n (x.ev e) O K := by
  simp only [wpOp, loadK]; cases x.ev e <;> first | rfl | (rename_i k l i f; cases O[k]? with | none => rfl | some o => cases o <;> rfl)
theorem o_store (m : Nat) (x y : Opd) : wpOp P (.store m x y) e O K = storeK m (x.ev e) (y.ev e) O K := by
  simp only [wpOp, storeK]; cases x.ev e <;> first | rfl | (rename_i k l i f; cases O[k]? with | none => rfl | some o => cases o <;> rfl)
theorem o_bin (op : BinOp) (x y : Opd) : wpOp P (.bin op x y) e O K = binK op (x.ev e) (y.ev e) O K := nr rfl
theorem o_un (op : UnOp) (x : Opd) : wpOp P (.un op x) e O K = unK op (x.ev e) O K := nr rfl
theorem o_conv (k : IntKind) (x : Opd) : wpOp P (.convInt k x) e O K = convK k (x.ev e) O K := nr rfl
theorem o_faddr (off : Nat) (x : Opd) : wpOp P (.faddr off x) e O K = faddrK off (x.ev e) O K := by
  simp only [wpOp, faddrK]; cases x.ev e <;> first | rfl | (rename_i k l i f; cases O[k]? with | none => rfl | some o => cases o <;> rfl)
theorem o_fld (off : Nat) (n : Option Nat) (x : Opd) : wpOp P (.fld off n x) e O K = fldK off n (x.ev e) O K := nr rfl
theorem o_iaddr (s : Nat) (x y : Opd) : wpOp P (.iaddr s x y) e O K = iaddrK s (x.ev e) (y.ev e) O K := by
  simp only [wpOp, iaddrK]; cases x.ev e <;> cases y.ev e <;> first | rfl | (rename_i v; cases v <;> first | rfl | (rename_i n len _ _; cases O[n]? with | none => rfl | some o => cases o <;> rfl))
theorem o_idxS (x y : Opd) : wpOp P (.idxS x y) e O K = idxSK (x.ev e) (y.ev e) O K := nr rfl
theorem o_sliceS (x : Opd) (lo hi : Option Opd) : wpOp P (.sliceS x lo hi) e O K = sliceSK (x.ev e) (lo.map (Opd.ev e)) (hi.map (Opd.ev e)) O K := by simp only [wpOp, sliceSK, boundK_bnd]; cases x.ev e <;> first | rfl | (rename_i v; cases v <;> rfl)
theorem o_sliceL (s : Nat) (x : Opd) (lo hi : Option Opd) : wpOp P (.sliceL s x lo hi) e O K = sliceLK s (x.ev e) (lo.map (Opd.ev e)) (hi.map (Opd.ev e)) O K := by simp only [wpOp, sliceLK, boundK_bnd]; cases x.ev e <;> rfl
theorem o_mk (t s b : Nat) (z : AV) (x y : Opd) : wpOp P (.mk t s b z x y) e O K = mkK t s b z (x.ev e) (y.ev e) O K := nr rfl
theorem o_lenS (x : Opd) : wpOp P (.lenS x) e O K = lenSK (x.ev e) O K := nr rfl
theorem o_lenL (x : Opd) : wpOp P (.lenL x) e O K = lenLK (x.ev e) O K := by
  simp only [wpOp, lenLK]; cases x.ev e <;> first | rfl | (rename_i k l; cases O[k]? with | none => rfl | some o => cases o <;> rfl)
theorem o_app (t s b : Nat) (x y : Opd) : wpOp P (.app t s b x y) e O K = srcOf O (y.ev e) fun ys => (∀ y ∈ ys, y.cells.length = s) ∧ ontoK O (x.ev e) t s b ys K := by
  have h : ∀ ys, appK O (x.ev e) t s b ys K = ontoK O (x.ev e) t s b ys K := by
    intro ys; unfold appK ontoK; cases x.ev e <;> first | rfl | (rename_i k l; cases O[k]? with | none => rfl | some o => cases o <;> rfl)
  simp only [wpOp, h]
  unfold srcK srcOf; cases y.ev e <;> first | rfl | (rename_i k l; cases O[k]? with | none => rfl | some o => cases o <;> rfl)
theorem o_ext (x : Opd) (i : Nat) : wpOp P (.ext x i) e O K = extK (x.ev e) i O K := nr rfl
theorem o_nilc (x : Opd) : wpOp P (.nilc x) e O K = nilcK (x.ev e) O K := by
  simp only [wpOp, nilcK]; cases x.ev e <;> first | rfl | (rename_i k l i f; cases O[k]? with | none => rfl | some o => cases o <;> rfl)
theorem o_mkfn (f : FuncId) (cs : List Opd) : wpOp P (.mkfn f cs) e O K = k1 (.fn f (cs.map (Opd.ev e))) O K := nr rfl
theorem o_call (f : FuncId) (as : List Opd) : wpOp P (.call f as) e O K = callK P f (as.map (Opd.ev e)) O K := nr rfl
theorem o_callv (x : Opd) (as : List Opd) : wpOp P (.callv x as) e O K = callvK P (x.ev e) (as.map (Opd.ev e)) O K := nr rfl
theorem o_pcall (f : FuncId) (as : List Opd) : wpOp P (.pcall f as) e O K = pcallK P f (as.map fun x => frz O (x.ev e)) (as.map (Opd.ev e)) O K := nr rfl
theorem o_pcallv (x : Opd) (as : List Opd) : wpOp P (.pcallv x as) e O K = pcallvK P (x.ev e) (as.map fun x => frz O (x.ev e)) (as.map (Opd.ev e)) O K := nr rfl
theorem o_qcall (f : FuncId) (as : List Opd) : wpOp P (.qcall f as) e O K = qcallK P f (as.map (Opd.ev e)) O K := nr rfl
theorem o_qcallv (x : Opd) (as : List Opd) : wpOp P (.qcallv x as) e O K = qcallvK P (x.ev e) (as.map (Opd.ev e)) O K := nr rfl
end

/- what comes behind, by name: nothing of it is looked at before its time -/
def kont (P : Program) (d : Option Nat) (e : Env) (r : List AOper) (Q : Env → List AObj → Prop) : KT := fun x O' => Go.Ab.wpOps P r (setD e d x) O' Q
theorem k1_kont (P : Program) (d : Option Nat) (e : Env) (r : List AOper) (Q : Env → List AObj → Prop) (a : AV) (O : List AObj) : k1 a O (kont P d e r Q) = Go.Ab.wpOps P r (setD e d a) O Q := nr rfl
theorem wpOps_kont (P : Program) (d : Option Nat) (op : AOp) (e : Env) (O : List AObj) (r : List AOper) (Q : Env → List AObj → Prop) : Go.Ab.wpOps P (⟨none, d, op⟩ :: r) e O Q = wpOp P op e O (kont P d e r Q) := nr rfl

def gopK (P : Program) (a : AV) (want : Bool) (t : Nat) (d : Option Nat) (op : AOp) (r : List AOper) (e : Env) (O : List AObj) (Q : Env → List AObj → Prop) : Prop := match a with
  | .v (.bool b) =>
    (b = want → wpOp P op (e.set t (.v (.bool want))) O (kont P d (e.set t (.v (.bool want))) r Q)) ∧
    (b = !want → Go.Ab.wpOps P r (setD (e.set t (.v (.bool (!want)))) d (.tup [])) O Q)
  | .tup [] => Go.Ab.wpOps P r (setD e d (.tup [])) O Q
  | _ => False
section
variable (P : Program) (t : Nat) (d : Option Nat) (op : AOp) (r : List AOper) (e : Env) (O : List AObj) (Q : Env → List AObj → Prop)
theorem c_guard (want : Bool) : Go.Ab.wpOps P (⟨some (t, want), d, op⟩ :: r) e O Q = gopK P (e t) want t d op r e O Q := by
  rw [wpOps_guard]; unfold gopK; cases e t <;> try rfl
theorem gopK_tt : gopK P (.v (.bool true)) true t d op r e O Q = wpOp P op (e.set t (.v (.bool true))) O (kont P d (e.set t (.v (.bool true))) r Q) := by simp [gopK]
theorem gopK_ff : gopK P (.v (.bool false)) false t d op r e O Q = wpOp P op (e.set t (.v (.bool false))) O (kont P d (e.set t (.v (.bool false))) r Q) := by simp [gopK]
theorem gopK_tf : gopK P (.v (.bool true)) false t d op r e O Q = Go.Ab.wpOps P r (setD (e.set t (.v (.bool true))) d (.tup [])) O Q := by simp [gopK]
theorem gopK_ft : gopK P (.v (.bool false)) true t d op r e O Q = Go.Ab.wpOps P r (setD (e.set t (.v (.bool false))) d (.tup [])) O Q := by simp [gopK]
theorem gopK_skip (want : Bool) : gopK P (.tup []) want t d op r e O Q = Go.Ab.wpOps P r (setD e d (.tup [])) O Q := by simp [gopK]
variable {P t d op r e O Q}
theorem gopK_intro {b want : Bool} (h : b = want → gopK P (.v (.bool want)) want t d op r e O Q) (h' : b = !want → gopK P (.v (.bool (!want))) want t d op r e O Q) : gopK P (.v (.bool b)) want t d op r e O Q := by
  cases b <;> cases want <;> first | exact h rfl | exact h' rfl
end

def condK (P : Program) (n0 : Nat) (a : AV) (t f : ACode) (Q : AX → Env → List AObj → Prop) (e : Env) (O : List AObj) : Prop := match a with
  | .v (.bool b) => (b = true → wpC P n0 t Q e O) ∧ (b = false → wpC P n0 f Q e O)
  | _ => False
def seqQ (P : Program) (n0 : Nat) (b : ACode) (Q : AX → Env → List AObj → Prop) : AX → Env → List AObj → Prop := fun x e O => match x with | .normal => wpC P n0 b Q e O | x => Q x e O
def blockQ (id : Nat) (Q : AX → Env → List AObj → Prop) : AX → Env → List AObj → Prop := fun x e O => match x with | .exit i => if i = id then Q .normal e O else Q (.exit i) e O | x => Q x e O
def keepQ (l : List Nat) (Q : AX → Env → List AObj → Prop) : AX → Env → List AObj → Prop := fun x e O => match x with | .normal => Q .normal (keepE l e) O | x => Q x e O
section
variable (P : Program) (n0 : Nat) (Q : AX → Env → List AObj → Prop) (e : Env) (O : List AObj)
theorem c_cond (c : Opd) (t f : ACode) : wpC P n0 (.cond c t f) Q e O = condK P n0 (c.ev e) t f Q e O := nr rfl
theorem condK_true (t f : ACode) : condK P n0 (.v (.bool true)) t f Q e O = wpC P n0 t Q e O := by simp [condK]
theorem condK_false (t f : ACode) : condK P n0 (.v (.bool false)) t f Q e O = wpC P n0 f Q e O := by simp [condK]
theorem c_seq (a b : ACode) : wpC P n0 (.seq a b) Q e O = wpC P n0 a (seqQ P n0 b Q) e O := nr rfl
theorem c_block (id : Nat) (b : ACode) : wpC P n0 (.block id b) Q e O = wpC P n0 b (blockQ id Q) e O := nr rfl
theorem c_keep (l : List Nat) (c : ACode) : wpC P n0 (.keep l c) Q e O = wpC P n0 c (keepQ l Q) e O := nr rfl
theorem seqQ_n (b : ACode) : seqQ P n0 b Q .normal e O = wpC P n0 b Q e O := nr rfl
theorem seqQ_e (b : ACode) (i : Nat) : seqQ P n0 b Q (.exit i) e O = Q (.exit i) e O := nr rfl
theorem seqQ_r (b : ACode) : seqQ P n0 b Q .ret e O = Q .ret e O := nr rfl
theorem blockQ_n (id : Nat) : blockQ id Q .normal e O = Q .normal e O := nr rfl
theorem blockQ_e (id i : Nat) : blockQ id Q (.exit i) e O = if i = id then Q .normal e O else Q (.exit i) e O := nr rfl
theorem blockQ_r (id : Nat) : blockQ id Q .ret e O = Q .ret e O := nr rfl
theorem keepQ_n (l : List Nat) : keepQ l Q .normal e O = Q .normal (keepE l e) O := nr rfl
theorem keepQ_e (l : List Nat) (i : Nat) : keepQ l Q (.exit i) e O = Q (.exit i) e O := nr rfl
theorem keepQ_r (l : List Nat) : keepQ l Q .ret e O = Q .ret e O := nr rfl
variable {P n0 Q e O}
theorem condK_intro {b : Bool} {t f : ACode} (h : b = true → wpC P n0 t Q e O) (h' : b = false → wpC P n0 f Q e O) : condK P n0 (.v (.bool b)) t f Q e O := ⟨h, h'⟩
end
section
variable {ι : Type} (n0 : Nat) (D : ι → Prop) (σ : ι → Env) (τ : ι → List AObj) (μ : ι → Nat) (i : ι) (Q : AX → Env → List AObj → Prop) (e : Env) (O : List AObj)
theorem roundQ_e (k : Nat) : roundQ n0 D σ τ μ i Q (.exit k) e O = Q (.exit k) e O := nr rfl
theorem roundQ_r : roundQ n0 D σ τ μ i Q .ret e O = Q .ret e O := nr rfl
variable {n0 D σ τ μ i Q e O}
theorem roundQ_intro (j : ι) (h : D j) (h1 : μ j < μ i) (h2 : WK n0 e O (σ j) (τ j)) : roundQ n0 D σ τ μ i Q .normal e O := ⟨j, h, h1, h2⟩
end
def loopK (P : Program) (n0 : Nat) (Q : AX → Env → List AObj → Prop) (e : Env) (O : List AObj) (b : ACode) : Prop := wpC P n0 (.loop b) Q e O
theorem c_loop (P : Program) (n0 : Nat) (Q : AX → Env → List AObj → Prop) (e : Env) (O : List AObj) (b : ACode) : wpC P n0 (.loop b) Q e O = loopK P n0 Q e O b := nr rfl
theorem loopK_intro {P : Program} {n0 : Nat} {b : ACode} {Q : AX → Env → List AObj → Prop} {e : Env} {O : List AObj} {ι : Type} (D : ι → Prop) (σ : ι → Env) (τ : ι → List AObj) (μ : ι → Nat) (i0 : ι)
    (hd : D i0) (h0 : WK n0 e O (σ i0) (τ i0)) (hr : ∀ i, D i → wpC P n0 b (roundQ n0 D σ τ μ i Q) (σ i) (τ i)) : loopK P n0 Q e O b := wpC_loop D σ τ μ i0 hd h0 hr

theorem loadC_whole {m : Nat} {x : AV} (h : x.isAgg = true) (h' : x.cells.length = m) : loadC (some m) x 0 = x := by simp [loadC, h, h']
theorem loadC_none (x : AV) (f : Nat) : loadC none x f = x.cells.getD f .top := nr rfl
theorem upd_whole {x y : AV} (h : y.cells.length = x.cells.length) : upd x 0 y = y := by simp [upd, h]

theorem cells_agg (cs : List AV) : (AV.agg cs).cells = cs := nr rfl
theorem cells_v (x : Value) : (AV.v x).cells = [.v x] := nr rfl
theorem cells_nils : AV.nils.cells = [.nils] := nr rfl
theorem cells_sl (xs : List AV) : (AV.sl xs).cells = [.sl xs] := nr rfl
theorem cells_row (n l : Nat) : (AV.row n l).cells = [.row n l] := nr rfl
theorem cells_ptr (n l i f : Nat) : (AV.ptr n l i f).cells = [.ptr n l i f] := nr rfl
theorem cells_fn (f : FuncId) (cs : List AV) : (AV.fn f cs).cells = [.fn f cs] := nr rfl
theorem isAgg_agg (cs : List AV) : (AV.agg cs).isAgg = true := nr rfl
theorem isCell_v (x : Value) : (AV.v x).isCell = true := nr rfl
theorem isCell_nils : AV.nils.isCell = true := nr rfl
theorem isCell_sl (xs : List AV) : (AV.sl xs).isCell = true := nr rfl
theorem isCell_row (n l : Nat) : (AV.row n l).isCell = true := nr rfl
theorem isCell_ptr (n l i f : Nat) : (AV.ptr n l i f).isCell = true := nr rfl
theorem isCell_fn (f : FuncId) (cs : List AV) : (AV.fn f cs).isCell = true := nr rfl
theorem storable_agg (cs : List AV) : (AV.agg cs).storable = cs.all AV.isCell := nr rfl
theorem storable_v (x : Value) : (AV.v x).storable = true := nr rfl
theorem storable_nils : AV.nils.storable = true := nr rfl
theorem storable_sl (xs : List AV) : (AV.sl xs).storable = true := nr rfl
theorem storable_row (n l : Nat) : (AV.row n l).storable = true := nr rfl
theorem storable_ptr (n l i f : Nat) : (AV.ptr n l i f).storable = true := nr rfl
theorem storable_fn (f : FuncId) (cs : List AV) : (AV.fn f cs).storable = true := nr rfl

theorem frz_noref {O : List AObj} {a : AV} (h : a.noref = true) : frz O a = a := by
  cases a <;> first | rfl | (simp [AV.noref] at h; done)
theorem frz_row {O : List AObj} {n len t s : Nat} {xs : List AV} (h : O[n]? = some (.live t s xs)) (hl : xs.length = len) : frz O (.row n len) = .sl xs := by simp [frz, h, hl]
theorem aft_flat {O : List AObj} {args : List AV} {res : AV} (h : res.flat = true) : aft O args res = O := by simp [aft, h]
theorem aft_norefs {O : List AObj} {args : List AV} {res : AV} (h : AV.norefs args = true) : aft O args res = O := by
  unfold aft
  split
  · rfl
  · induction args with
    | nil => rfl
    | cons a as ih =>
      simp only [AV.norefs, Bool.and_eq_true] at h
      have : killRow O a = O := by cases a <;> first | rfl | (simp [AV.noref] at h; done)
      simp only [List.foldl_cons, this]
      exact ih h.2
theorem flat_v (x : Value) : (AV.v x).flat = true := nr rfl
theorem norefs_nil : AV.norefs [] = true := nr rfl
theorem norefs_cons (x : AV) (xs : List AV) : AV.norefs (x :: xs) = (x.noref && AV.norefs xs) := nr rfl
theorem noref_v (x : Value) : (AV.v x).noref = true := nr rfl
theorem noref_sl (xs : List AV) : (AV.sl xs).noref = AV.norefs xs := nr rfl
theorem noref_agg (xs : List AV) : (AV.agg xs).noref = AV.norefs xs := nr rfl
theorem noref_tup (xs : List AV) : (AV.tup xs).noref = AV.norefs xs := nr rfl
theorem noref_nils : AV.nils.noref = true := nr rfl
theorem noref_fn (f : FuncId) (cs : List AV) : (AV.fn f cs).noref = AV.norefs cs := nr rfl

theorem wrap_id {n : Int} (h : -9223372036854775808 ≤ n) (h' : n ≤ 9223372036854775807) : IntKind.i64.wrap n = n := by
  rw [IntKind.wrap_i64]; omega

/- what a function gives back -/
section
variable (n0 : Nat) (rs : List ARes) (res : AV) (O' : List AObj) (e : Env) (O : List AObj)
theorem retK_ret : retK n0 rs res O' .ret e O = resK e O rs [] fun xs => ∃ e', WK n0 (fun t => if t = 0 then packR xs else .top) O e' O' ∧ e' 0 = res := nr rfl
theorem retK_normal : retK n0 rs res O' .normal e O = resK e O rs [] fun xs => ∃ e', WK n0 (fun t => if t = 0 then packR xs else .top) O e' O' ∧ e' 0 = res := nr rfl
end
/-- one result in a slot: the objects that were made are forgotten -/
theorem ret_tmp {n0 t : Nat} {res : AV} {O' : List AObj} {x : AX} (hx : x = .ret ∨ x = .normal) {e : Env} {O : List AObj} (h : e t = res) (hO : O.take n0 = O') (hk : n0 ≤ O.length) (hb : ∀ ob ∈ O', ob.inScope n0 = true) (hs : res.inScope n0 = true) :
    retK n0 [.tmp t] res O' x e O := by
  have : resK e O [.tmp t] [] fun xs => ∃ e', WK n0 (fun t => if t = 0 then packR xs else .top) O e' O' ∧ e' 0 = res := by
    simp only [resK, ARes.get, List.reverse_cons, List.reverse_nil, List.nil_append, packR]
    refine ⟨fun t => if t = 0 then res else .top, WK.forget hO (Nat.le_refl _) hk hb fun t => ?_, rfl⟩
    by_cases ht : t = 0
    · subst ht; exact .inr ⟨by simp [h], by simpa using hs⟩
    · exact .inl (by simp [ht])
  rcases hx with rfl | rfl <;> exact this
/-- a call that touches nothing: nothing was there -/
theorem pret_tmp {t : Nat} {res : AV} {x : AX} (hx : x = .ret ∨ x = .normal) {e : Env} {O : List AObj} (h : e t = res) (hs : res.noref = true) : retK 0 [.tmp t] res [] x e O :=
  ret_tmp hx h rfl (Nat.zero_le _) (by simp) (noref_scoped _ hs)

/-- results in any number: as a tuple; nothing was there -/
theorem pret_any {rs : List ARes} {res : AV} {x : AX} (hx : x = .ret ∨ x = .normal) {e : Env} {O : List AObj} (h : resK e O rs [] fun xs => packR xs = res) (hs : res.noref = true) : retK 0 rs res [] x e O := by
  have key : ∀ (rs : List ARes) (acc : List AV) (M M' : List AV → Prop), (∀ xs, M xs → M' xs) → resK e O rs acc M → resK e O rs acc M' := by
    intro rs
    induction rs with
    | nil => intro acc M M' hm h; exact hm _ h
    | cons r rs ih =>
      intro acc M M' hm h
      cases r with
      | tmp t => exact ih _ _ _ hm h
      | cell t n =>
        simp only [resK, ARes.get] at h ⊢
        split at h
        · split at h
          · exact ⟨h.1, ih _ _ _ hm h.2⟩
          · exact h.elim
        · exact h.elim
  have : resK e O rs [] fun xs => ∃ e', WK 0 (fun t => if t = 0 then packR xs else .top) O e' [] ∧ e' 0 = res := by
    refine key rs _ _ _ (fun xs hp => ?_) h
    refine ⟨fun t => if t = 0 then res else .top, WK.forget rfl (Nat.le_refl _) (Nat.zero_le _) (by simp) fun t => ?_, rfl⟩
    by_cases ht : t = 0
    · subst ht; exact .inr ⟨by simp [hp], by simpa using noref_scoped _ hs⟩
    · exact .inl (by simp [ht])
  rcases hx with rfl | rfl <;> exact this

end Go.Ab
/-
  AT THE END OF A CALL THAT TOUCHES NOTHING: what it made is not written any more: rows are read as slices.
-/
namespace Go.Ab

/-- rows as what they read, k levels deep; nil slices as empty ones -/
def fz (O : List AObj) : Nat → AV → AV
  | 0, a => a
  | k + 1, .row n len => match O[n]? with
    | some (.live _ _ xs) => if xs.length = len then .sl (xs.map (fz O k)) else .row n len
    | some (.nil _ _) => if len = 0 then .sl [] else .row n len
    | _ => .row n len
  | _ + 1, .nils => .sl []
  | k + 1, .agg cs => .agg (cs.map (fz O k))
  | k + 1, .tup vs => .tup (vs.map (fz O k))
  | _ + 1, a => a

open Classical in
noncomputable def allI (I : Imm) (L : Nat → Loc) (O : List AObj) (w : World) : Imm := fun b o => if LB L O b then w.cell? ⟨b, o, none⟩ else I b o

theorem allI_le {I : Imm} {L : Nat → Loc} {O : List AObj} {w : World} (hi : Inv I L O w) : ∀ b o x, I b o = some x → allI I L O w b o = some x := by
  intro b o x hx
  unfold allI
  split
  · exact hi.imm b o x hx
  · exact hx

theorem fz_width {O : List AObj} {k : Nat} {x : AV} : (fz O k x).cells.length = x.cells.length := by
  cases k with
  | zero => rfl
  | succ k =>
    cases x <;> simp only [fz] <;> try rfl
    · split
      · split <;> rfl
      · split <;> rfl
      · rfl
    · simp [AV.cells]

theorem fz_sound {I : Imm} {L : Nat → Loc} {O : List AObj} {w : World} (hi : Inv I L O w) : ∀ (k : Nat) {a : AV} {x : Value}, R I L O a x → (fz O k a).noref = true → R (allI I L O w) L [] (fz O k a) x := by
  intro k
  induction k with
  | zero => intro a x hr hn; exact hr.noref (allI_le hi) hn
  | succ k ih =>
    intro a x hr hn
    cases a
    case row n len =>
      simp only [fz] at hn ⊢
      cases hO : O[n]? with
      | none => simp only [hO] at hn; simp [AV.noref] at hn
      | some ob =>
        cases ob with
        | dead => simp only [hO] at hn; simp [AV.noref] at hn
        | nil e s =>
          simp only [hO] at hn ⊢
          obtain ⟨rfl, rfl⟩ := hr.row_nil hO
          rw [if_pos rfl]
          exact .sl0 _ _
        | live e s xs =>
          simp only [hO] at hn ⊢
          by_cases hl : xs.length = len
          · rw [if_pos hl] at hn ⊢
            have := hr.row_live hO hl
            subst this
            obtain ⟨c, h1, h2, h3, h4, h5, h6⟩ := hi.obj n e s xs hO
            have hlb : LB L O (L n).blk := ⟨n, e, s, xs, hO, rfl⟩
            by_cases hx : xs = []
            · subst hx; simp at hl; subst hl; exact .sl0 _ _
            · subst hl
              have hgetm : ∀ {i : Nat} {y : AV}, (xs.map (fz O k))[i]? = some y → ∃ x, xs[i]? = some x ∧ y = fz O k x := by
                intro i y hy
                simp only [List.getElem?_map, Option.map_eq_some_iff] at hy
                obtain ⟨x, hx, rfl⟩ := hy
                exact ⟨x, hx, rfl⟩
              have hnm : ∀ x ∈ xs, (fz O k x).noref = true := fun x hx => norefs_mem (by simpa [AV.noref] using hn) _ (List.mem_map.2 ⟨x, hx, rfl⟩)
              -- each element: its cells
              have key : ∀ (i : Nat) (x : AV), xs[i]? = some x → ∀ (j : Nat) (d : AV), (fz O k x).cells[j]? = some d → ∃ y, c[i * s + j]? = some y ∧ y.oneCell' = true ∧ R (allI I L O w) L [] d y := by
                intro i x hx j d hd
                obtain ⟨q1, q2⟩ := h6 i x hx
                have hno := hnm x (List.mem_of_getElem? hx)
                by_cases hag : x.isAgg = true
                · cases k with
                  | zero =>
                    obtain ⟨y, hy, ho, hr'⟩ := q2 j d hd
                    exact ⟨y, hy, ho, hr'.noref (allI_le hi) (noref_cells hno d (List.mem_of_getElem? hd))⟩
                  | succ k =>
                    -- the aggregate as a whole
                    have hsz : ∀ j, j < s → ∃ y, c[i * s + j]? = some y ∧ y.oneCell' = true ∧ ∀ d, x.cells[j]? = some d → R I L O d y := by
                      intro j hj
                      obtain ⟨y, hy, ho, hr'⟩ := q2 j (x.cells[j]'(by omega)) (by simp)
                      exact ⟨y, hy, ho, fun d hd => by rw [List.getElem?_eq_getElem (by omega)] at hd; cases hd; exact hr'⟩
                    have hjs : j < s := by rw [← q1, ← fz_width (O := O) (k := k + 1)]; exact (List.getElem?_eq_some_iff.1 hd).1
                    let vs : Array Value := ((List.range s).map fun j => (c[i * s + j]?).getD undef).toArray
                    have hra : R I L O x (.agg vs) := by
                      rw [AV.agg_of hag]
                      refine .agg _ _ (by simp [vs, q1]) fun j' d' v hd' hv => ?_
                      have hj's : j' < s := by rw [← q1]; exact (List.getElem?_eq_some_iff.1 hd').1
                      obtain ⟨y, hy, _, hr'⟩ := hsz j' hj's
                      simp [vs, hj's, hy] at hv
                      subst hv
                      exact hr' d' hd'
                    have hrf := ih hra hno
                    rw [AV.agg_of hag] at hrf hd
                    simp only [fz] at hrf hd
                    cases hrf with
                    | agg _ _ hl' hr' =>
                      obtain ⟨y, hy, ho, _⟩ := hsz j hjs
                      exact ⟨y, hy, ho, hr' j d y hd (by simp [vs, hjs, hy])⟩
                · have hcells : x.cells = [x] := by cases x <;> first | rfl | (simp [AV.isAgg] at hag; done)
                  have hfc : (fz O k x).cells = [fz O k x] := by
                    cases k with
                    | zero => exact hcells
                    | succ k =>
                      cases x <;> simp only [fz] <;> try rfl
                      · split
                        · split <;> rfl
                        · split <;> rfl
                        · rfl
                      · simp [AV.isAgg] at hag
                  rw [hfc] at hd
                  cases j with
                  | zero =>
                    simp at hd; subst hd
                    obtain ⟨y, hy, ho, hr'⟩ := q2 0 x (by simp [hcells])
                    exact ⟨y, hy, ho, ih hr' hno⟩
                  | succ j => simp at hd
              rw [show xs.length = (xs.map (fz O k)).length by simp]
              refine (.sl (xs.map (fz O k)) (L n).blk 0 (L n).cap s (fun i j => (c[i * s + j]?).getD undef) (by simpa using h3) (by simpa using hx) (fun i y hy => ?_) (fun i y j d hy hd => ?_) fun i y j d hy hd => ?_)
              · obtain ⟨x, hx, rfl⟩ := hgetm hy; rw [fz_width]; exact (h6 i x hx).1
              · obtain ⟨x, hx, rfl⟩ := hgetm hy
                obtain ⟨z, hz, ho, _⟩ := key i x hx j d hd
                unfold allI
                rw [if_pos hlb, Nat.zero_add, cell_cells h1, hz]
                exact ⟨rfl, ho⟩
              · obtain ⟨x, hx, rfl⟩ := hgetm hy
                obtain ⟨z, hz, ho, hr'⟩ := key i x hx j d hd
                rw [hz]; exact hr'
          · rw [if_neg hl] at hn; simp [AV.noref] at hn
    case nils => cases hr; exact .sl0 _ _
    case agg cs =>
      cases hr with
      | agg _ vs hl hr =>
        simp only [fz] at hn ⊢
        refine .agg _ _ (by simpa using hl) fun i c v hc hv => ?_
        simp only [List.getElem?_map, Option.map_eq_some_iff] at hc
        obtain ⟨d, hd, rfl⟩ := hc
        exact ih (hr i d v hd hv) (norefs_mem (by simpa [AV.noref] using hn) _ (List.mem_map.2 ⟨d, List.mem_of_getElem? hd, rfl⟩))
    case tup cs =>
      cases hr with
      | tup _ vs hl hr =>
        simp only [fz] at hn ⊢
        refine .tup _ _ (by simpa using hl) fun i c v hc hv => ?_
        simp only [List.getElem?_map, Option.map_eq_some_iff] at hc
        obtain ⟨d, hd, rfl⟩ := hc
        exact ih (hr i d v hd hv) (norefs_mem (by simpa [AV.noref] using hn) _ (List.mem_map.2 ⟨d, List.mem_of_getElem? hd, rfl⟩))
    all_goals exact hr.noref (allI_le hi) hn

theorem Good.all {I0 I : Imm} {L0 L : Nat → Loc} {O : List AObj} {w0 w : World} (h : Good I0 L0 [] w0 I L O w) : Good I0 L0 [] w0 (allI I L O w) L [] w := by
  refine ⟨⟨fun b o x hx => ?_, by simp, by simp, by simp⟩, ⟨fun b o x hx => allI_le h.inv _ _ _ (h.ext.imm _ _ _ hx), by simp, by simp, by simp⟩, h.frm, ?_, fun b o x hx => ?_⟩
  · unfold allI at hx
    split at hx
    · exact hx
    · exact h.inv.imm b o x hx
  · rintro b ⟨n, e, s, xs, hn, _⟩; simp at hn
  · unfold allI at hx
    split at hx
    · rename_i hlb
      rcases h.lb b hlb with ⟨n, e, s, xs, hn, _⟩ | h1
      · simp at hn
      · exact .inr (.inr h1)
    · exact h.immNew b o x hx

/-- THE END OF A CALL THAT TOUCHES NOTHING. -/
theorem pret {rs : List ARes} {res : AV} {x : AX} (hx : x = .ret ∨ x = .normal) {e : Env} {O : List AObj} (k : Nat) (h : resK e O rs [] fun xs => fz O k (packR xs) = res) (hs : res.noref = true) : retK 0 rs res [] x e O := by
  have key : ∀ (rs : List ARes) (acc : List AV) (M M' : List AV → Prop), (∀ xs, M xs → M' xs) → resK e O rs acc M → resK e O rs acc M' := by
    intro rs
    induction rs with
    | nil => intro acc M M' hm h; exact hm _ h
    | cons r rs ih =>
      intro acc M M' hm h
      cases r with
      | tmp t => exact ih _ _ _ hm h
      | cell t n =>
        simp only [resK, ARes.get] at h ⊢
        split at h
        · split at h
          · exact ⟨h.1, ih _ _ _ hm h.2⟩
          · exact h.elim
        · exact h.elim
  have : resK e O rs [] fun xs => ∃ e', WK 0 (fun t => if t = 0 then packR xs else .top) O e' [] ∧ e' 0 = res := by
    refine key rs _ _ _ (fun xs hp => ⟨fun t => if t = 0 then res else .top, ?_, rfl⟩) h
    intro I0 L0 O0 w0 I L w f hl hg hr
    obtain rfl : O0 = [] := List.eq_nil_of_length_eq_zero hl
    refine ⟨_, L, hg.all, fun t => ?_⟩
    by_cases ht : t = 0
    · subst ht
      have h0 := hr 0
      simp only [if_true] at h0 ⊢
      rw [← hp] at hs ⊢
      exact fz_sound hg.inv k h0 hs
    · simp only [if_neg ht]; exact .top _
  rcases hx with rfl | rfl <;> exact this

theorem fz_v (O : List AObj) (k : Nat) (x : Value) : fz O k (.v x) = .v x := by cases k <;> rfl
theorem fz_sl (O : List AObj) (k : Nat) (xs : List AV) : fz O k (.sl xs) = .sl xs := by cases k <;> rfl
theorem fz_nils (O : List AObj) (k : Nat) : fz O (k + 1) .nils = .sl [] := nr rfl
theorem fz_agg (O : List AObj) (k : Nat) (cs : List AV) : fz O (k + 1) (.agg cs) = .agg (cs.map (fz O k)) := nr rfl
theorem fz_tup (O : List AObj) (k : Nat) (cs : List AV) : fz O (k + 1) (.tup cs) = .tup (cs.map (fz O k)) := nr rfl
theorem fz_row {O : List AObj} {k n len e s : Nat} {xs : List AV} (h : O[n]? = some (.live e s xs)) (hl : xs.length = len) : fz O (k + 1) (.row n len) = .sl (xs.map (fz O k)) := by simp [fz, h, hl]
theorem resK_nil (e : Env) (O : List AObj) (acc : List AV) (M : List AV → Prop) : resK e O [] acc M = M acc.reverse := nr rfl
theorem resK_tmp (e : Env) (O : List AObj) (t : Nat) (rs : List ARes) (acc : List AV) (M : List AV → Prop) : resK e O (.tmp t :: rs) acc M = resK e O rs (e t :: acc) M := nr rfl
def cellOK (o : Option AObj) (n : Option Nat) (K : AV → Prop) : Prop := match o with
  | some (.live _ _ [x]) => n.getD 1 ≤ x.cells.length ∧ K (loadC n x 0)
  | _ => False
def cellK (a : AV) (O : List AObj) (n : Option Nat) (K : AV → Prop) : Prop := match a with
  | .ptr k 1 0 0 => cellOK O[k]? n K
  | _ => False
theorem resK_cell (e : Env) (O : List AObj) (t : Nat) (n : Option Nat) (rs : List ARes) (acc : List AV) (M : List AV → Prop) : resK e O (.cell t n :: rs) acc M = cellK (e t) O n fun x => resK e O rs (x :: acc) M := nr rfl
theorem cellK_ptr (k : Nat) (O : List AObj) (n : Option Nat) (K : AV → Prop) : cellK (.ptr k 1 0 0) O n K = cellOK O[k]? n K := nr rfl
theorem cellOK_live (t s : Nat) (x : AV) (n : Option Nat) (K : AV → Prop) : cellOK (some (.live t s [x])) n K = (n.getD 1 ≤ x.cells.length ∧ K (loadC n x 0)) := nr rfl
theorem packR_one (x : AV) : packR [x] = x := nr rfl
theorem packR_more (x y : AV) (l : List AV) : packR (x :: y :: l) = .tup (x :: y :: l) := nr rfl

theorem frz_v (O : List AObj) (x : Value) : frz O (.v x) = .v x := nr rfl
theorem frz_sl (O : List AObj) (xs : List AV) : frz O (.sl xs) = .sl xs := nr rfl
theorem frz_nils (O : List AObj) : frz O .nils = .nils := nr rfl
theorem frz_agg (O : List AObj) (xs : List AV) : frz O (.agg xs) = .agg xs := nr rfl
theorem frz_fn (O : List AObj) (f : FuncId) (xs : List AV) : frz O (.fn f xs) = .fn f xs := nr rfl
theorem upd_one {a b y : AV} {cs : List AV} {i : Nat} (hy : y.cells = [y]) (h : i < (a :: b :: cs).length) : upd (.agg (a :: b :: cs)) i y = .agg ((a :: b :: cs).set i y) := by
  unfold upd
  rw [hy, if_neg (by simp [AV.cells])]
  simp only [AV.cells, List.length_singleton, List.append_assoc, List.singleton_append]
  rw [List.set_eq_take_append_cons_drop, if_pos h]
theorem upd_v {a b : AV} {cs : List AV} {i : Nat} (x : Value) (h : i < (a :: b :: cs).length) : upd (.agg (a :: b :: cs)) i (.v x) = .agg ((a :: b :: cs).set i (.v x)) := upd_one rfl h
theorem upd_sl {a b : AV} {cs : List AV} {i : Nat} (x : List AV) (h : i < (a :: b :: cs).length) : upd (.agg (a :: b :: cs)) i (.sl x) = .agg ((a :: b :: cs).set i (.sl x)) := upd_one rfl h
theorem upd_nils {a b : AV} {cs : List AV} {i : Nat} (h : i < (a :: b :: cs).length) : upd (.agg (a :: b :: cs)) i .nils = .agg ((a :: b :: cs).set i .nils) := upd_one rfl h
theorem upd_row {a b : AV} {cs : List AV} {i : Nat} (n l : Nat) (h : i < (a :: b :: cs).length) : upd (.agg (a :: b :: cs)) i (.row n l) = .agg ((a :: b :: cs).set i (.row n l)) := upd_one rfl h
theorem upd_ptr {a b : AV} {cs : List AV} {i : Nat} (n l j f : Nat) (h : i < (a :: b :: cs).length) : upd (.agg (a :: b :: cs)) i (.ptr n l j f) = .agg ((a :: b :: cs).set i (.ptr n l j f)) := upd_one rfl h
theorem upd_fn {a b : AV} {cs : List AV} {i : Nat} (f : FuncId) (l : List AV) (h : i < (a :: b :: cs).length) : upd (.agg (a :: b :: cs)) i (.fn f l) = .agg ((a :: b :: cs).set i (.fn f l)) := upd_one rfl h
theorem upd_agg {cs ds : List AV} {i : Nat} (h : i ≠ 0) : upd (.agg cs) i (.agg ds) = .agg (cs.take i ++ (ds ++ cs.drop (i + ds.length))) := by
  unfold upd
  rw [if_neg (by simp [h])]
  simp [AV.cells]
theorem upd_agg0 {cs ds : List AV} (h : ds.length < cs.length) : upd (.agg cs) 0 (.agg ds) = .agg (ds ++ cs.drop ds.length) := by
  unfold upd
  rw [if_neg (by simp [AV.cells]; omega)]
  simp [AV.cells]

/-- the same slots; the objects from k on are forgotten -/
theorem WK.forgetE {n0 : Nat} {O O' : List AObj} (k : Nat) {l l' : List (Nat × AV)} (h : envL l' = envL l) (hO : O.take k = O') (h0 : n0 ≤ k) (hk : k ≤ O.length) (hb : O'.all (fun ob => ob.inScope k) = true)
    (hs : l.all (fun p => p.2.inScope k) = true) : WK n0 (envL l') O (envL l) O' := by
  rw [h]
  refine .forget hO h0 hk (fun ob ho => List.all_eq_true.1 hb ob ho) fun t => ?_
  have key : envL l t = .top ∨ (envL l t).inScope k = true := by
    clear h
    induction l with
    | nil => exact .inl rfl
    | cons p l ih =>
      obtain ⟨q, a⟩ := p
      simp only [List.all_cons, Bool.and_eq_true] at hs
      simp only [envL_cons]
      split
      · exact .inr hs.1
      · exact ih hs.2
  exact key.imp id fun h => ⟨rfl, h⟩

theorem dlt0 (n : Nat) : decide ((n : Int) < 0) = false := by simp

end Go.Ab
