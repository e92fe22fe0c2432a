/- Part of a proof: the functions that the law reaches, walked by the abstract logic of the texts Ab. -/
import Derived.Test.YtkinchcjijhmgaaDoorAbM4
import Derived.Test.YtkinchcjijhmgaaDoorAbM3
set_option linter.unusedVariables false
set_option linter.unusedSimpArgs false
set_option linter.defProp false
/-
  FROM THE MODEL's CODE TO THE PROGRAM THAT IS LEFT, all of it computed.
-/
namespace Go.Ab
def insN (x : Nat) : List Nat → List Nat
  | [] => [x]
  | y :: l => if x < y then x :: y :: l else if x = y then y :: l else y :: insN x l
def uniN (a b : List Nat) : List Nat := a.foldr insN b
def liveOps : List AOper → List Nat → List Nat
  | [], out => out
  | o :: r, out => uniN o.reads (match o.dst with | some t => (liveOps r out).filter (· != t) | none => liveOps r out)
def Opd.slot : Opd → List Nat
  | .t n => [n]
  | .c _ => []
/-- what is live (nothing depends on it but how much is remembered) -/
def live (ret : List Nat) : ACode → List Nat → List (Nat × List Nat) → ACode × List Nat
  | .skip, out, _ => (.skip, out)
  | .region rows ops, out, _ => (.keep out (.region rows ops), liveOps ops out)
  | .seq a b, out, ex =>
    let qb := live ret b out ex
    let qa := live ret a qb.2 ex
    (.seq qa.1 qb.1, qa.2)
  | .cond c t f, out, ex =>
    let qt := live ret t out ex
    let qf := live ret f out ex
    (.keep out (.cond c qt.1 qf.1), uniN c.slot (uniN qt.2 qf.2))
  | .block id b, out, ex =>
    let qb := live ret b out ((id, out) :: ex)
    (.keep out (.block id qb.1), qb.2)
  | .loop b, _, ex =>
    let l1 := (live ret b [] ex).2
    let l2 := uniN l1 (live ret b l1 ex).2
    let l3 := uniN l2 (live ret b l2 ex).2
    (.loop (live ret b l3 ex).1, l3)
  | .exit id, _, ex => (.exit id, match ex.find? (fun p => p.1 == id) with | some p => p.2 | none => [])
  | .ret, _, _ => (.ret, ret)
  | .keep l c, out, ex => let q := live ret c out ex; (.keep l q.1, q.2)
  | .weak c, out, ex => let q := live ret c out ex; (.weak q.1, q.2)
  | .regionW ops, out, _ => (.regionW ops, out)
/-- what is said of functions ahead: fl: flat results; fr: those that make a slice; sg: those that reach what is owned -/
structure Cfg where
  fl : List Nat
  fr : List (Nat × Bool × Nat × Nat)
  sg : List (Nat × List Sig)
  cut : Bool
def frOf : List (Nat × Bool × Nat × Nat) → Nat → Option (Bool × Nat × Nat)
  | [], _ => none
  | (g, q) :: l, f => if g = f then some q else frOf l f
def sgOf : List (Nat × List Sig) → Nat → Option (List Sig)
  | [], _ => none
  | (g, q) :: l, f => if g = f then some q else sgOf l f
/-- slots to whose slices is appended in a region -/
def basesOf (ops : List AOper) : List Nat := ops.foldr (fun o l => match o.op with
  | .app _ _ _ (.t k) _ => k :: l
  | .appS _ _ _ (.t k) _ => k :: l
  | .mov (.t k) => (match o.dst with | some d => if l.contains d = true then k :: l else l | none => l)
  | _ => l) []
/-- which calls touch nothing -/
def setOp (c : Cfg) (drawn base : Bool) : AOp → AOp
  | .call f as => match sgOf c.sg f with
    | some gs => if drawn = true ∧ gs.any Sig.one = true then .scall1 gs f as else .scall gs f as
    | none => match frOf c.fr f with
      | some (nl, e, s) => if drawn = true ∧ base = false then (if c.fl.contains f = true then .rcall f as else .qcall f as) else .fcall nl e s f as
      | none => if drawn = true then (if c.fl.contains f = true then .rcall f as else .qcall f as) else .pcall f as
  | .callv x as => if drawn = true then .qcallv x as else .pcallv x as
  | .sliceL s x l h => if c.cut = true then .cut s x l h else .sliceL s x l h
  | .buildSlice t s l z ps => if (drawn = true ∨ (c.cut = true ∧ ps.all (fun p => match p.2 with | .c _ => true | .t _ => false) = true)) ∧ base = false then .buildF t s l z ps else .buildSlice t s l z ps
  | o => o
def setD' (c : Cfg) (rows : Bool) (bs : List Nat) (o : AOper) : AOper := { o with op := setOp c rows (match o.dst with | some t => bs.contains t | none => false) o.op }
def setC (gen : Cfg) : ACode → ACode
  | .region rows ops => .region rows (ops.map (setD' gen rows.isSome (basesOf ops)))
  | .seq a b => .seq (setC gen a) (setC gen b)
  | .cond c t f => .cond c (setC gen t) (setC gen f)
  | .block id b => .block id (setC gen b)
  | .loop b => .loop (setC gen b)
  | .keep l c => .keep l (setC gen c)
  | .weak c => .weak (setC gen c)
  | c => c
theorem live_strip (ret : List Nat) : ∀ (c : ACode) (out : List Nat) (ex : List (Nat × List Nat)), (live ret c out ex).1.strip = c.strip
  | .skip, _, _ => rfl
  | .region rows ops, _, _ => rfl
  | .seq a b, out, ex => by simp only [live, ACode.strip, live_strip ret a, live_strip ret b]
  | .cond c t f, out, ex => by simp only [live, ACode.strip, live_strip ret t, live_strip ret f]
  | .block id b, out, ex => by simp only [live, ACode.strip, live_strip ret b]
  | .loop b, out, ex => by simp only [live, ACode.strip, live_strip ret b]
  | .exit id, _, _ => rfl
  | .ret, _, _ => rfl
  | .keep l c, out, ex => by simp only [live, ACode.strip, live_strip ret c]
  | .weak c, out, ex => by simp only [live, ACode.strip, live_strip ret c]
  | .regionW ops, _, _ => rfl
theorem setOp_strip (gen : Cfg) (d b : Bool) (o : AOp) : (setOp gen d b o).strip = o.strip := by
  cases o <;> try rfl
  case buildSlice => simp only [setOp]; split <;> rfl
  case sliceL => simp only [setOp]; split <;> rfl
  case callv => simp only [setOp]; split <;> rfl
  case call =>
    simp only [setOp]
    split
    · split <;> rfl
    · split
      · split
        · split <;> rfl
        · rfl
      · split
        · split <;> rfl
        · rfl
theorem setC_strip (gen : Cfg) : ∀ (c : ACode), (setC gen c).strip = c.strip
  | .skip => rfl
  | .region rows ops => by
    simp only [setC, ACode.strip, List.map_map]
    congr 1
    apply List.map_congr_left
    intro o _
    simp only [Function.comp, AOper.strip, setD', setOp_strip]
  | .seq a b => by simp only [setC, ACode.strip, setC_strip gen a, setC_strip gen b]
  | .cond c t f => by simp only [setC, ACode.strip, setC_strip gen t, setC_strip gen f]
  | .block id b => by simp only [setC, ACode.strip, setC_strip gen b]
  | .loop b => by simp only [setC, ACode.strip, setC_strip gen b]
  | .exit id => rfl
  | .ret => rfl
  | .keep l c => by simp only [setC, ACode.strip, setC_strip gen c]
  | .weak c => by simp only [setC, ACode.strip, setC_strip gen c]
  | .regionW ops => rfl
section
variable {P : Program} {nt : Nat}
theorem cCall_strip {c : Call} {a : AOp} (h : cCall P c = some a) : a.strip = a := by
  unfold cCall at h
  split at h
  · split at h
    · cases h; rfl
    · cases h; rfl
    · cases h
  · split at h
    · split at h
      · simp only [Option.map_eq_some_iff] at h; obtain ⟨_, _, rfl⟩ := h; rfl
      · simp only [Option.map_eq_some_iff] at h; obtain ⟨_, _, rfl⟩ := h; rfl
      · cases h
    · cases h
  · split at h
    · split at h
      · simp only [Option.bind_eq_bind, Option.bind_eq_some_iff, Option.some.injEq] at h
        obtain ⟨e, _, ⟨s, b, z⟩, _, x, _, y, _, rfl⟩ := h
        rfl
      · cases h
    · cases h
  · cases h
theorem cOp1_noF {ty : TypeId} {op : Op} {t s l : Nat} {z : AV} {ps : List (Nat × Opd)} (h : cOp1 P ty op = some (.buildF t s l z ps)) : False := by
  cases op <;> simp only [cOp1] at h
  all_goals (repeat' split at h)
  all_goals first
    | (simp [Option.bind_eq_some_iff] at h; done)
    | (exfalso; simp_all; done)
theorem cOp1_noA1 {ty : TypeId} {op : Op} {k t s : Nat} {z : AV} (h : cOp1 P ty op = some (.allocAt k t s z)) : False := by
  cases op <;> simp only [cOp1] at h
  all_goals (repeat' split at h)
  all_goals first
    | (simp [Option.bind_eq_some_iff] at h; done)
    | (exfalso; simp_all; done)
theorem cOp1_noA2 {ty : TypeId} {op : Op} {k t s : Nat} {z : Opd} (h : cOp1 P ty op = some (.boxAt k t s z)) : False := by
  cases op <;> simp only [cOp1] at h
  all_goals (repeat' split at h)
  all_goals first
    | (simp [Option.bind_eq_some_iff] at h; done)
    | (exfalso; simp_all; done)
theorem cOp1_noA3 {ty : TypeId} {op : Op} {k t s l : Nat} {z : AV} {ps : List (Nat × Opd)} (h : cOp1 P ty op = some (.buildAt k t s l z ps)) : False := by
  cases op <;> simp only [cOp1] at h
  all_goals (repeat' split at h)
  all_goals first
    | (simp [Option.bind_eq_some_iff] at h; done)
    | (exfalso; simp_all; done)
theorem cOp1_noA4 {ty : TypeId} {op : Op} {s : Nat} {x : Opd} {l h' : Option Opd} (h : cOp1 P ty op = some (.cut s x l h')) : False := by
  cases op <;> simp only [cOp1] at h
  all_goals (repeat' split at h)
  all_goals first
    | (simp [Option.bind_eq_some_iff] at h; done)
    | (exfalso; simp_all; done)
theorem cOp1_noA5 {ty : TypeId} {op : Op} {neg : Bool} {x : Opd} (h : cOp1 P ty op = some (.pnil neg x)) : False := by
  cases op <;> simp only [cOp1] at h
  all_goals (repeat' split at h)
  all_goals first
    | (simp [Option.bind_eq_some_iff] at h; done)
    | (exfalso; simp_all; done)
theorem cOp1_noA6 {ty : TypeId} {op : Op} {e s b : Nat} {z : AV} {x y : Opd} (h : cOp1 P ty op = some (.mkF e s b z x y)) : False := by
  cases op <;> simp only [cOp1] at h
  all_goals (repeat' split at h)
  all_goals first
    | (simp [Option.bind_eq_some_iff] at h; done)
    | (exfalso; simp_all; done)
theorem cOp1_noA7 {ty : TypeId} {op : Op} {k e s b : Nat} {z : AV} {x y : Opd} (h : cOp1 P ty op = some (.mkAt k e s b z x y)) : False := by
  cases op <;> simp only [cOp1] at h
  all_goals (repeat' split at h)
  all_goals first
    | (simp [Option.bind_eq_some_iff] at h; done)
    | (exfalso; simp_all; done)
theorem strip_plain {a : AOp} (hA : a.isAt = false) (h : a.isCall = false) (hf : ∀ t s l z ps, a ≠ .buildF t s l z ps) : a.strip = a := by
  cases a <;> first | rfl | (simp [AOp.isCall] at h; done) | (simp [AOp.isAt] at hA; done) | (exact (hf _ _ _ _ _ rfl).elim)
theorem cOp_strip {t : TypeId} {o : Op} {a : AOp} (h : cOp P t o = some a) : a.strip = a := by
  unfold cOp cOpS at h
  simp only [Option.some.injEq] at h
  split at h
  · rename_i b hb
    subst h
    rcases cOpX_plain hb with ⟨_, _, rfl⟩ | ⟨_, _, _, _, _, rfl⟩ | ⟨_, _, _, _, _, _, rfl⟩ <;> rfl
  · cases h0 : cOp0 P t o with
    | none => rw [h0] at h; subst h; rfl
    | some b =>
      rw [h0] at h
      simp only [Option.getD_some] at h
      subst h
      unfold cOp0 at h0
      split at h0
      · exact cCall_strip h0
      · rw [Option.bind_eq_some_iff] at h0
        obtain ⟨b', hb, hb'⟩ := h0
        split at hb'
        · cases hb'
        · rename_i hc; cases hb'
          exact strip_plain (by cases b <;> first | rfl | exact (cOp1_noA1 hb).elim | exact (cOp1_noA2 hb).elim | exact (cOp1_noA3 hb).elim | exact (cOp1_noA4 hb).elim | exact (cOp1_noA5 hb).elim | exact (cOp1_noA6 hb).elim | exact (cOp1_noA7 hb).elim) (by simpa using hc) (fun t s l z ps he => cOp1_noF (by rw [hb, he]))
theorem cOper_strip {ops : Array Oper} {o : Oper} {a : AOper} (h : cOper P nt ops o = some a) : a.strip = a := by
  unfold cOper at h
  split at h
  · rename_i op g hop hg
    split at h
    · cases h
      simp only [AOper.strip, cOp_strip hop]
    · cases h
  · cases h
theorem mapM_strip {f : Oper → Option AOper} (hf : ∀ o a, f o = some a → a.strip = a) : ∀ (l : List Oper) {r : List AOper}, l.mapM f = some r → r.map AOper.strip = r
  | [], r, h => by simp at h; subst h; rfl
  | o :: l, r, h => by
    simp only [List.mapM_cons, Option.bind_eq_bind, Option.pure_def, Option.bind_eq_some_iff, Option.some.injEq] at h
    obtain ⟨b, hb, bs, hbs, rfl⟩ := h
    simp only [List.map_cons, hf o b hb, mapM_strip hf l hbs]
theorem cCode_strip : ∀ (code : Code) {c : ACode}, cCode P nt code = some c → c.strip = c := by
  intro code c h
  induction c generalizing code with
  | skip => rfl
  | exit => rfl
  | ret => rfl
  | region rows ops =>
    rcases cCode_cases h with ⟨_, h⟩ | ⟨id, mops, draw, rows', aops, rfl, h, hm, hdr⟩ | ⟨_, _, _, _, _, h, _⟩ | ⟨_, _, _, _, _, _, _, h, _⟩ | ⟨_, _, _, _, h, _⟩ | ⟨_, _, _, h, _⟩ | ⟨_, _, h⟩ | ⟨_, h⟩ <;> first | (cases h; done) | skip
    cases h
    simp only [ACode.strip]
    rw [mapM_strip (fun o a h => cOper_strip h) _ hm]
  | seq a b iha ihb =>
    rcases cCode_cases h with ⟨_, h⟩ | ⟨_, _, _, _, _, _, h, _⟩ | ⟨cx, cy, ax, ay, rfl, h, hx, hy⟩ | ⟨_, _, _, _, _, _, _, h, _⟩ | ⟨_, _, _, _, h, _⟩ | ⟨_, _, _, h, _⟩ | ⟨_, _, h⟩ | ⟨_, h⟩ <;> first | (cases h; done) | skip
    cases h
    simp only [ACode.strip, iha cx hx, ihb cy hy]
  | cond o t f iht ihf =>
    rcases cCode_cases h with ⟨_, h⟩ | ⟨_, _, _, _, _, _, h, _⟩ | ⟨_, _, _, _, _, h, _⟩ | ⟨o', x, y, ao, ax, ay, rfl, h, h0, h1, h2⟩ | ⟨_, _, _, _, h, _⟩ | ⟨_, _, _, h, _⟩ | ⟨_, _, h⟩ | ⟨_, h⟩ <;> first | (cases h; done) | skip
    cases h
    simp only [ACode.strip, iht x h1, ihf y h2]
  | block id b ih =>
    rcases cCode_cases h with ⟨_, h⟩ | ⟨_, _, _, _, _, _, h, _⟩ | ⟨_, _, _, _, _, h, _⟩ | ⟨_, _, _, _, _, _, _, h, _⟩ | ⟨id', cb, ab, rfl, h, hb⟩ | ⟨_, _, _, h, _⟩ | ⟨_, _, h⟩ | ⟨_, h⟩ <;> first | (cases h; done) | skip
    cases h
    simp only [ACode.strip, ih cb hb]
  | loop b ih =>
    rcases cCode_cases h with ⟨_, h⟩ | ⟨_, _, _, _, _, _, h, _⟩ | ⟨_, _, _, _, _, h, _⟩ | ⟨_, _, _, _, _, _, _, h, _⟩ | ⟨_, _, _, _, h, _⟩ | ⟨cb, ab, rfl, h, hb⟩ | ⟨_, _, h⟩ | ⟨_, h⟩ <;> first | (cases h; done) | skip
    cases h
    simp only [ACode.strip, ih cb hb]
  | keep l c ih =>
    rcases cCode_cases h with ⟨_, h⟩ | ⟨_, _, _, _, _, _, h, _⟩ | ⟨_, _, _, _, _, h, _⟩ | ⟨_, _, _, _, _, _, _, h, _⟩ | ⟨_, _, _, _, h, _⟩ | ⟨_, _, _, h, _⟩ | ⟨_, _, h⟩ | ⟨_, h⟩ <;> cases h
  | weak c ih =>
    rcases cCode_cases h with ⟨_, h⟩ | ⟨_, _, _, _, _, _, h, _⟩ | ⟨_, _, _, _, _, h, _⟩ | ⟨_, _, _, _, _, _, _, h, _⟩ | ⟨_, _, _, _, h, _⟩ | ⟨_, _, _, h, _⟩ | ⟨_, _, h⟩ | ⟨_, h⟩ <;> cases h
  | regionW ops =>
    rcases cCode_cases h with ⟨_, h⟩ | ⟨_, _, _, _, _, _, h, _⟩ | ⟨_, _, _, _, _, h, _⟩ | ⟨_, _, _, _, _, _, _, h, _⟩ | ⟨_, _, _, _, h, _⟩ | ⟨_, _, _, h, _⟩ | ⟨_, _, h⟩ | ⟨_, h⟩ <;> cases h
end
def resSlot : ARes → Nat
  | .tmp t => t
  | .cell t _ => t
/-- a function's abstract code -/
def autoA (P : Program) (gen : Cfg) (fn : Func) : Option AFn :=
  match fn.body with
  | none => none
  | some code => match cCode P fn.ntmps code, fn.results.toList.mapM (cRes P) with
    | some c, some rs => some ⟨fn.params.size + fn.nfree, fn.ntmps, (live (uniN (rs.map resSlot) []) (setC gen c) [] []).1, rs⟩
    | _, _ => none
theorem autoA_cFn {P : Program} {f : FuncId} {fn : Func} {gen : Cfg} {A : AFn} (hf : P.funcs[f]? = some fn) (hA : autoA P gen fn = some A) (h1 : A.nargs ≤ A.nt) (h2 : (fn.name == "runtime.NumGoroutine") = false) : cFn P f A := by
  unfold autoA at hA
  split at hA
  · cases hA
  · rename_i code hcode
    split at hA
    · rename_i c rs hc hrs
      cases hA
      refine ⟨fn, code, hf, hcode, h2, rfl, h1, ?_, hrs⟩
      rw [hc]
      simp only [live_strip, setC_strip, cCode_strip code hc]
    · cases hA
/-- WHAT IS LEFT of a function: the number of its arguments, and the program -/
def leftF (P : Program) (gen : Cfg) (fn : Func) : Option (Nat × T) :=
  match autoA P gen fn with
  | some A => if A.nargs ≤ A.nt ∧ (fn.name == "runtime.NumGoroutine") = false then
      match A.left gen.fl with
      | some t => some (A.nargs, t)
      | none => none
    else none
  | none => none
/-- FROM A FUNCTION OF THE PROGRAM TO ITS CONTRACT. -/
theorem con_auto {P : Program} {f : FuncId} {fn : Func} {gen : Cfg} {n : Nat} {t : T} (hf : P.funcs[f]? = some fn) (h : leftF P gen fn = some (n, t)) {args : List AV} (hl : args.length = n) (hn : AV.norefs args = true) {res : AV}
    (hw : wpT P (fun _ _ _ => False) (fun a => a = res) t args []) : PCon P f args res := by
  unfold leftF at h
  split at h
  · rename_i A hA
    split at h
    · rename_i hc
      split at h
      · rename_i t' ht
        cases h
        exact con_of_T (autoA_cFn hf hA hc.1 hc.2) ht hl hn hw
      · cases h
    · cases h
  · cases h
end Go.Ab
/-
  THE RULES FOR WHAT IS LEFT: operations are computed; calls, branches, joins and loops wait for a word.
-/
namespace Go.Ab
section
variable (P : Program) (L : AX → SS → List AV → Prop) (R : AV → Prop)
/-- what comes behind a new name -/
def kT (t : T) (r : List AV) (S : List (List AV → Prop)) : AV → Prop := fun v => wpT P L R t (r ++ [v]) S
def goT (K : AV → Prop) (v : AV) : Prop := K v
def iteT (c : AV) (t f : T) (r : List AV) (S : List (List AV → Prop)) : Prop := match c with
  | .v (.bool b) => (b = true → wpT P L R t r S) ∧ (b = false → wpT P L R f r S)
  | _ => False
def bindT (k : Nat) (a b : T) (r : List AV) (S : List (List AV → Prop)) : Prop := wpT P L R (.bind k a b) r S
def loopT (init : List AV) (b : T) (r : List AV) (S : List (List AV → Prop)) : Prop :=
  ∃ (J : Nat → List AV → Prop) (n : Nat), J n init ∧ ∀ n vs, J n vs → vs.length = init.length → wpT P L R b (r ++ vs) ((fun vs' => ∃ m, m < n ∧ J m vs') :: S)
def retT (vs : List AV) : Prop := R (packR vs)
def jumpT (S : List (List AV → Prop)) (vs : List AV) : Prop := match S with
  | J :: _ => J vs
  | [] => False
variable (t f : T) (r : List AV) (S : List (List AV → Prop))
theorem w_op (o : PO) : wpT P L R (.op o t) r S = o.wp P r (kT P L R t r S) := nr rfl
theorem w_go (v : AV) : goT (kT P L R t r S) v = wpT P L R t (r ++ [v]) S := nr rfl
theorem w_chk (c : Chk) : wpT P L R (.chk c t) r S = c.wp r (wpT P L R t r S) := nr rfl
theorem w_ite (c : D) : wpT P L R (.ite c t f) r S = iteT P L R (c.ev r) t f r S := nr rfl
theorem w_bind (k : Nat) : wpT P L R (.bind k t f) r S = bindT P L R k t f r S := nr rfl
theorem w_loop (init : List D) : wpT P L R (.loop init t) r S = loopT P L R (D.evs r init) t r S := by
  simp only [wpT, loopT, D.evs_eq, List.length_map]
theorem w_ret (ds : List D) : wpT P L R (.ret ds) r S = retT R (D.evs r ds) := nr rfl
theorem w_jump (vs : List D) : wpT P L R (.jump vs) r S = jumpT S (D.evs r vs) := nr rfl
theorem w_esc (J : List AV → Prop) : wpT P L R (.esc t) r (J :: S) = wpT P L R t r S := nr rfl
theorem w_jumpJ (J : List AV → Prop) (vs : List AV) : jumpT (J :: S) vs = J vs := nr rfl
theorem w_true : iteT P L R (.v (.bool true)) t f r S = wpT P L R t r S := by simp [iteT]
theorem w_false : iteT P L R (.v (.bool false)) t f r S = wpT P L R f r S := by simp [iteT]
end
section
variable {P : Program} {L : AX → SS → List AV → Prop} {R : AV → Prop} {t f : T} {r : List AV} {S : List (List AV → Prop)}
theorem ite_intro {b : Bool} (h : b = true → wpT P L R t r S) (h' : b = false → wpT P L R f r S) : iteT P L R (.v (.bool b)) t f r S := ⟨h, h'⟩
theorem ite_dec {p : Prop} [Decidable p] (h : p → wpT P L R t r S) (h' : ¬ p → wpT P L R f r S) : iteT P L R (.v (.bool (decide p))) t f r S := ⟨fun q => h (of_decide_eq_true q), fun q => h' (of_decide_eq_false q)⟩
theorem ite_ndec {p : Prop} [Decidable p] (h : ¬ p → wpT P L R t r S) (h' : p → wpT P L R f r S) : iteT P L R (.v (.bool (!decide p))) t f r S :=
  ⟨fun q => h (by simpa using q), fun q => h' (by simpa using q)⟩
/-- a join, by what is handed to it -/
theorem bind_post {k : Nat} (J : List AV → Prop) (h : wpT P L R t r (J :: S)) (h' : ∀ vs, J vs → vs.length = k → wpT P L R f (r ++ vs) S) : bindT P L R k t f r S :=
  wpT_mono (fun _ _ _ h => h) (fun _ h => h) t (.cons (fun vs hv hk => h' vs hv hk) (.refl _)) h
theorem bind_cut {k : Nat} (vs : List AV) (hk : vs.length = k) (h : wpT P L R t r ((fun ws => ws = vs) :: S)) (h' : wpT P L R f (r ++ vs) S) : bindT P L R k t f r S :=
  bind_post (fun ws => ws = vs) h fun ws hw _ => by rw [hw]; exact h'
/-- what comes behind is asked at each end -/
theorem bind_push {k : Nat} (h : wpT P L R t r ((fun vs => wpT P L R f (r ++ vs) S) :: S)) : bindT P L R k t f r S := bind_post _ h fun _ hv _ => hv
/-- a loop, by a family of states -/
theorem loop_intro {ι : Type} {init : List AV} (D : ι → Prop) (σ : ι → List AV) (μ : ι → Nat) (i0 : ι) (hd : D i0) (h0 : init = σ i0)
    (hr : ∀ i, D i → wpT P L R t (r ++ σ i) ((fun vs => ∃ j, D j ∧ μ j < μ i ∧ vs = σ j) :: S)) : loopT P L R init t r S := by
  refine ⟨fun n vs => ∃ i, D i ∧ μ i = n ∧ vs = σ i, μ i0, ⟨i0, hd, rfl, h0⟩, ?_⟩
  rintro n vs ⟨i, hi, rfl, rfl⟩ _
  refine wpT_mono (fun _ _ _ h => h) (fun _ h => h) t (.cons (fun vs hv => ?_) (.refl _)) (hr i hi)
  obtain ⟨j, hj, hlt, rfl⟩ := hv
  exact ⟨μ j, hlt, j, hj, rfl, rfl⟩
theorem call_v {g : FuncId} {args : List AV} {flat : Bool} {K : AV → Prop} {x : Value} (h : PCon P g args (.v x)) (k : goT K (.v x)) : callP P g args flat K := ⟨_, h, rfl, fun _ => rfl, k⟩
theorem call_p {g : FuncId} {args : List AV} {K : AV → Prop} {res : AV} (h : PCon P g args res) (hn : res.noref = true) (k : goT K res) : callP P g args false K := ⟨_, h, hn, fun h => (by cases h), k⟩
/-- an element of a slice -/
theorem elem_intro {s : Nat} {xs : List AV} {k : IntKind} {n : Nat} {K : AV → Prop} (x : AV) (h : xs[n]? = some x) (hs : x.cells.length = s) (hk : goT K x) : elemP s (.sl xs) (.v (.int k (n : Int))) K := by
  have hlt := (List.getElem?_eq_some_iff.1 h).1
  have hx : xs.getD (Int.toNat (n : Int)) .top = x := by rw [Int.toNat_natCast]; exact getD_of' h
  refine ⟨Int.natCast_nonneg n, by exact_mod_cast hlt, by rw [hx]; exact hs, by rw [hx]; exact hk⟩
where getD_of' {l : List AV} {i : Nat} {x : AV} (h : l[i]? = some x) : l.getD i .top = x := by simp [List.getD, h]
end
theorem e_ip (r : List AV) (d : D) (f : Nat) : (D.ip d f).ev r = .iptr (d.ev r) f := nr rfl
/- names -/
section
variable (r : List AV)
theorem e_x (i : Nat) : (D.x i).ev r = r.getD i .top := nr rfl
theorem e_c (a : AV) : (D.c a).ev r = a := nr rfl
theorem e_cell (i j : Nat) : (D.cell i j).ev r = (r.getD i .top).cells.getD j .top := nr rfl
theorem e_ext (i j : Nat) : (D.ext i j).ev r = tupD (r.getD i .top) j := nr rfl
theorem e_sl (l : D) : (D.sl l).ev r = .sl (listOf (l.ev r)) := nr rfl
theorem e_agg (l : List D) : (D.agg l).ev r = .agg (D.evs r l) := nr rfl
theorem e_fn (f : FuncId) (l : List D) : (D.fn f l).ev r = .fn f (D.evs r l) := nr rfl
theorem e_nil : D.evs r [] = [] := nr rfl
theorem e_cons (d : D) (l : List D) : D.evs r (d :: l) = d.ev r :: D.evs r l := nr rfl
end
theorem listOf_eq (xs : List AV) : listOf (.sl xs) = xs := nr rfl
theorem idxOf_nat (k : IntKind) (n : Nat) : idxOf (.v (.int k (n : Int))) = n := nr (by simp [idxOf])
theorem idxOf_int (k : IntKind) (n : Int) : idxOf (.v (.int k n)) = n.toNat := nr rfl
theorem tupD_eq (vs : List AV) (j : Nat) : tupD (.tup vs) j = vs.getD j .top := nr rfl
theorem evo_none (r : List AV) : D.evo r none = none := nr rfl
theorem evo_some (r : List AV) (d : D) : D.evo r (some d) = some (d.ev r) := nr rfl
/- operations -/
section
variable (P : Program) (r : List AV) (K : AV → Prop)
def binT (op : BinOp) (a b : AV) (K : AV → Prop) : Prop := binK op a b [] fun x _ => K x
def unT (op : UnOp) (a : AV) (K : AV → Prop) : Prop := unK op a [] fun x _ => K x
def convT (k : IntKind) (a : AV) (K : AV → Prop) : Prop := convK k a [] fun x _ => K x
def pickT (c a b : AV) (K : AV → Prop) : Prop := pickK c a b [] fun x _ => K x
def fldT (off : Nat) (n : Option Nat) (a : AV) (K : AV → Prop) : Prop := fldK off n a [] fun x _ => K x
def idxT (a i : AV) (K : AV → Prop) : Prop := idxSK a i [] fun x _ => K x
def slsT (a : AV) (lo hi : Option AV) (K : AV → Prop) : Prop := sliceSK a lo hi [] fun x _ => K x
def sllT (s : Nat) (a : AV) (lo hi : Option AV) (K : AV → Prop) : Prop := sliceLK s a lo hi [] fun x _ => K x
def lensT (a : AV) (K : AV → Prop) : Prop := lenSK a [] fun x _ => K x
def lenlT (a : AV) (K : AV → Prop) : Prop := lenLK a [] fun x _ => K x
def ldpT (n : Option Nat) (a : AV) (K : AV → Prop) : Prop := ldpP n a K
def fapT (off : Nat) (a : AV) (K : AV → Prop) : Prop := fapP off a K
theorem p_val (x : D) : PO.wp P r (.val x) K = goT K (x.ev r) := nr rfl
def puT (o : PU) (xs : List AV) (K : AV → Prop) : Prop := puK o xs K
def appST (s bytes : Nat) (xs : List AV) (y : AV) (K : AV → Prop) : Prop := appSP s bytes xs y K
theorem p_pu (o : PU) (ds : List D) : PO.wp P r (.pu o ds) K = puT o (D.evs r ds) K := nr rfl
theorem p_appS (s bytes : Nat) (l y : D) : PO.wp P r (.appS s bytes l y) K = appST s bytes (listOf (l.ev r)) (y.ev r) K := nr rfl
theorem p_pick (c a b : D) : PO.wp P r (.pick c a b) K = pickT (c.ev r) (a.ev r) (b.ev r) K := nr rfl
theorem p_bin (op : BinOp) (a b : D) : PO.wp P r (.bin op a b) K = binT op (a.ev r) (b.ev r) K := nr rfl
def beqT (neg : Bool) (a b : AV) (K : AV → Prop) : Prop := beqP neg a b K
theorem p_beq (neg : Bool) (a b : D) : PO.wp P r (.beq neg a b) K = beqT neg (a.ev r) (b.ev r) K := nr rfl
theorem p_un (op : UnOp) (a : D) : PO.wp P r (.un op a) K = unT op (a.ev r) K := nr rfl
theorem p_conv (k : IntKind) (a : D) : PO.wp P r (.conv k a) K = convT k (a.ev r) K := nr rfl
theorem p_elem (s : Nat) (l i : D) : PO.wp P r (.elem s l i) K = elemP s (l.ev r) (i.ev r) K := nr rfl
theorem p_fld (off : Nat) (n : Option Nat) (a : D) : PO.wp P r (.fld off n a) K = fldT off n (a.ev r) K := nr rfl
theorem p_loadc (f m : Nat) (a : D) : PO.wp P r (.loadc f m a) K = (f + m ≤ (a.ev r).cells.length ∧ goT K (loadC (some m) (a.ev r) f)) := nr rfl
theorem p_idxS (a i : D) : PO.wp P r (.idxS a i) K = idxT (a.ev r) (i.ev r) K := nr rfl
theorem p_sliceS (a : D) (lo hi : Option D) : PO.wp P r (.sliceS a lo hi) K = slsT (a.ev r) (D.evo r lo) (D.evo r hi) K := nr rfl
theorem p_sliceL (s : Nat) (a : D) (lo hi : Option D) : PO.wp P r (.sliceL s a lo hi) K = sllT s (a.ev r) (D.evo r lo) (D.evo r hi) K := nr rfl
theorem p_lenS (a : D) : PO.wp P r (.lenS a) K = lensT (a.ev r) K := nr rfl
theorem p_lenL (a : D) : PO.wp P r (.lenL a) K = lenlT (a.ev r) K := nr rfl
theorem p_mkl (z : AV) (n : Nat) (ps : List (Nat × D)) : PO.wp P r (.mkl z n ps) K = goT K (.sl (setAll (List.replicate n z) (ps.map fun p => (p.1, p.2.ev r)))) := nr rfl
theorem p_rep (bytes : Nat) (z : AV) (n c : D) : PO.wp P r (.rep bytes z n c) K = repP bytes z (n.ev r) (c.ev r) K := nr rfl
theorem p_app (s bytes : Nat) (l y : D) : PO.wp P r (.app s bytes l y) K = appP s bytes (listOf (l.ev r)) (y.ev r) K := nr rfl
theorem p_get (l i : D) (f : Nat) (n : Option Nat) : PO.wp P r (.get l i f n) K = getP (listOf (l.ev r)) (idxOf (i.ev r)) f n K := nr rfl
theorem p_set (l i : D) (f m : Nat) (y : D) : PO.wp P r (.set l i f m y) K = setP (listOf (l.ev r)) (idxOf (i.ev r)) f m (y.ev r) K := nr rfl
theorem p_call (f : FuncId) (args : List D) (b : Bool) : PO.wp P r (.call f args b) K = callP P f (D.evs r args) b K := nr rfl
theorem p_fcall (nl : Bool) (e s : Nat) (f : FuncId) (args : List D) : PO.wp P r (.fcall nl e s f args) K = fcallP P nl e s f (D.evs r args) K := nr rfl
theorem p_scall (f : FuncId) (g : Sig) (args : List D) : PO.wp P r (.scall f g args) K = scallP P f g (D.evs r args) K := nr rfl
theorem p_callv (g : D) (args : List D) (b : Bool) : PO.wp P r (.callv g args b) K = callvP P (g.ev r) (D.evs r args) b K := nr rfl
theorem p_ldp (n : Option Nat) (a : D) : PO.wp P r (.ldp n a) K = ldpT n (a.ev r) K := nr rfl
theorem p_fap (off : Nat) (a : D) : PO.wp P r (.fap off a) K = fapT off (a.ev r) K := nr rfl
theorem callv_fn (f : FuncId) (caps args : List AV) (b : Bool) : callvP P (.fn f caps) args b K = callP P f (args ++ caps) b K := nr rfl
variable (k k' : IntKind) (a b : Int) (s u : ByteArray)
theorem l_ldp (n : Option Nat) (y : AV) (f : Nat) : ldpT n (.iptr y f) K = (f + n.getD 1 ≤ y.cells.length ∧ goT K (loadC n y f)) := nr rfl
theorem l_fap (off : Nat) (y : AV) (f : Nat) : fapT off (.iptr y f) K = goT K (.iptr y (f + off)) := nr rfl
theorem u_nilS (neg : Bool) : puT (.isNilS neg) [.nils] K = goT K (.v (.bool (neg != true))) := nr rfl
theorem u_consS (neg : Bool) (x : AV) (xs : List AV) : puT (.isNilS neg) [.sl (x :: xs)] K = goT K (.v (.bool (neg != false))) := nr rfl
theorem u_nilP (neg : Bool) : puT (.isNilP neg) [.v (.pointer none)] K = goT K (.v (.bool (neg != true))) := nr rfl
theorem u_ptrP (neg : Bool) (x : AV) (f : Nat) : puT (.isNilP neg) [.iptr x f] K = goT K (.v (.bool (neg != false))) := nr rfl
theorem u_nilI (neg : Bool) : puT (.isNilI neg) [.v .nilIface] K = goT K (.v (.bool (neg != true))) := nr rfl
theorem u_ifcI (neg : Bool) : puT (.isNilI neg) [.ifc] K = goT K (.v (.bool (neg != false))) := nr rfl
theorem u_min : puT .min [.v (.int k a), .v (.int k b)] K = goT K (.v (.int k (if b < a then b else a))) := by simp [puT, puK, puF, goT]
theorem u_max : puT .max [.v (.int k a), .v (.int k b)] K = goT K (.v (.int k (if a < b then b else a))) := by simp [puT, puK, puF, goT]
theorem u_b2s (s : ByteArray) : puT .b2s [.sl (ysS s)] K = goT K (.v (.string s)) := by
  have h : ∀ l : List UInt8, u8s (l.map fun c => AV.v (.int .u8 c.toNat)) = some l := by
    intro l
    induction l with
    | nil => rfl
    | cons c l ih => simp [u8s, ih]
  simp only [puT, puK, puF, ysS, h, Option.map_some, goT]
theorem u_b2s0 : puT .b2s [.nils] K = goT K (.v (.string ⟨#[]⟩)) := nr rfl
theorem a_appS (m bytes : Nat) (xs : List AV) (s : ByteArray) : appST m bytes xs (.v (.string s)) K = (m = 1 ∧ (xs.length + s.size) * bytes ≤ 140737488355328 ∧ xs.length + s.size ≤ 9223372036854775807 ∧ goT K (.sl (xs ++ ysS s))) := nr rfl
theorem neg_t : (true != true) = false := nr rfl
theorem neg_f : (true != false) = true := nr rfl
theorem pos_t : (false != true) = true := nr rfl
theorem pos_f : (false != false) = false := nr rfl
theorem b_add : binT .add (.v (.int k a)) (.v (.int k b)) K = goT K (.v (.int k (k.wrap (a + b)))) := by rw [binT, binK_add]; rfl
theorem b_sub : binT .sub (.v (.int k a)) (.v (.int k b)) K = goT K (.v (.int k (k.wrap (a - b)))) := by rw [binT, binK_sub]; rfl
theorem b_mul : binT .mul (.v (.int k a)) (.v (.int k b)) K = goT K (.v (.int k (k.wrap (a * b)))) := by rw [binT, binK_mul]; rfl
theorem b_and : binT .and (.v (.int k a)) (.v (.int k b)) K = goT K (.v (.int k (k.wrap (BitVec.ofInt k.bits a &&& BitVec.ofInt k.bits b).toNat))) := by rw [binT, binK_and]; rfl
theorem b_or : binT .or (.v (.int k a)) (.v (.int k b)) K = goT K (.v (.int k (k.wrap (BitVec.ofInt k.bits a ||| BitVec.ofInt k.bits b).toNat))) := by rw [binT, binK_or]; rfl
theorem b_xor : binT .xor (.v (.int k a)) (.v (.int k b)) K = goT K (.v (.int k (k.wrap (BitVec.ofInt k.bits a ^^^ BitVec.ofInt k.bits b).toNat))) := by rw [binT, binK_xor]; rfl
theorem b_quo : binT .quo (.v (.int k a)) (.v (.int k b)) K = (b ≠ 0 ∧ goT K (.v (.int k (k.wrap (a.tdiv b))))) := by rw [binT, binK_quo]; rfl
theorem b_rem : binT .rem (.v (.int k a)) (.v (.int k b)) K = (b ≠ 0 ∧ goT K (.v (.int k (a.tmod b)))) := by rw [binT, binK_rem]; rfl
theorem b_eql : binT .eql (.v (.int k a)) (.v (.int k b)) K = goT K (.v (.bool (decide (a = b)))) := by rw [binT, binK_eql]; rfl
theorem b_neq : binT .neq (.v (.int k a)) (.v (.int k b)) K = goT K (.v (.bool (!decide (a = b)))) := by rw [binT, binK_neq]; rfl
theorem b_lss : binT .lss (.v (.int k a)) (.v (.int k b)) K = goT K (.v (.bool (decide (a < b)))) := by rw [binT, binK_lss]; rfl
theorem b_leq : binT .leq (.v (.int k a)) (.v (.int k b)) K = goT K (.v (.bool (decide (a ≤ b)))) := by rw [binT, binK_leq]; rfl
theorem b_gtr : binT .gtr (.v (.int k a)) (.v (.int k b)) K = goT K (.v (.bool (decide (b < a)))) := by rw [binT, binK_gtr]; rfl
theorem b_geq : binT .geq (.v (.int k a)) (.v (.int k b)) K = goT K (.v (.bool (decide (b ≤ a)))) := by rw [binT, binK_geq]; rfl
theorem b_shl : binT .shl (.v (.int k a)) (.v (.int k' b)) K = (0 ≤ b ∧ goT K (.v (.int k (k.wrap (a * 2 ^ (min b.toNat k.bits)))))) := by rw [binT, binK_shl]; rfl
theorem b_shr : binT .shr (.v (.int k a)) (.v (.int k' b)) K = (0 ≤ b ∧ goT K (.v (.int k (a.fdiv (2 ^ (min b.toNat k.bits)))))) := by rw [binT, binK_shr]; rfl
theorem b_sadd : binT .add (.v (.string s)) (.v (.string u)) K = (((s.size + u.size : Nat) : Int) ≤ 9223372036854775807 ∧ goT K (.v (.string (s ++ u)))) := by rw [binT, binK_sadd]; rfl
theorem b_seql : binT .eql (.v (.string s)) (.v (.string u)) K = goT K (.v (.bool (decide (s = u)))) := by rw [binT, binK_seql]; rfl
theorem b_sneq : binT .neq (.v (.string s)) (.v (.string u)) K = goT K (.v (.bool (!decide (s = u)))) := by rw [binT, binK_sneq]; rfl
theorem b_beq (x y : Bool) : beqT false (.v (.bool x)) (.v (.bool y)) K = goT K (.v (.bool (x == y))) := by simp [beqT, beqP, goT]
theorem b_bne (x y : Bool) : beqT true (.v (.bool x)) (.v (.bool y)) K = goT K (.v (.bool (!(x == y)))) := by simp [beqT, beqP, goT]
theorem u_not (x : Bool) : unT .not (.v (.bool x)) K = goT K (.v (.bool (!x))) := by rw [unT, unK_not]; rfl
theorem u_neg : unT .neg (.v (.int k a)) K = goT K (.v (.int k (k.wrap (-a)))) := by rw [unT, unK_neg]; rfl
theorem v_conv : convT k (.v (.int k' a)) K = goT K (.v (.int k (k.wrap a))) := by rw [convT, convK_eq]; rfl
theorem c_pick_t (x y : AV) : pickT (.v (.bool true)) x y K = goT K x := by rw [pickT, pickK_true]; rfl
theorem c_pick_f (x y : AV) : pickT (.v (.bool false)) x y K = goT K y := by rw [pickT, pickK_false]; rfl
theorem c_pick_b (c x y : Bool) : pickT (.v (.bool c)) (.v (.bool x)) (.v (.bool y)) K = goT K (.v (.bool (if c = true then x else y))) := by rw [pickT, pickK_bool]; rfl
theorem l_fld (off : Nat) (n : Option Nat) (x : AV) : fldT off n x K = (x.isAgg = true ∧ off + n.getD 1 ≤ x.cells.length ∧ goT K (loadC n x off)) := by rw [fldT, fldK_eq]; rfl
theorem i_idx : idxT (.v (.string s)) (.v (.int k a)) K = (0 ≤ a ∧ a < s.size ∧ goT K (.v (.int .u8 (s.data.toList.getD a.toNat 0).toNat))) := by rw [idxT, idxSK_eq]; rfl
theorem s_sls (lo hi : Option AV) : slsT (.v (.string s)) lo hi K = bnd 0 lo fun l => bnd s.size hi fun h => 0 ≤ l ∧ l ≤ h ∧ h ≤ s.size ∧ goT K (.v (.string (s.extract l.toNat h.toNat))) := by rw [slsT, sliceSK_eq]; rfl
theorem s_sll (m : Nat) (xs : List AV) (lo hi : Option AV) : sllT m (.sl xs) lo hi K = bnd 0 lo fun l => bnd xs.length hi fun h => 0 ≤ l ∧ l ≤ h ∧ h ≤ xs.length ∧ (∀ y ∈ xs, y.cells.length = m) ∧ goT K (.sl ((xs.take h.toNat).drop l.toNat)) := by rw [sllT, sliceLK_eq]; rfl
theorem n_lens : lensT (.v (.string s)) K = goT K (.v (.int .i64 s.size)) := by rw [lensT, lenSK_eq]; rfl
theorem n_nils : lenlT .nils K = goT K (.v (.int .i64 0)) := by rw [lenlT, lenLK_nils]; rfl
theorem n_sl (xs : List AV) : lenlT (.sl xs) K = goT K (.v (.int .i64 xs.length)) := by rw [lenlT, lenLK_sl]; rfl
theorem a_sl (m bytes : Nat) (xs ys : List AV) : appP m bytes xs (.sl ys) K = ((∀ y ∈ ys, y.cells.length = m) ∧ (xs.length + ys.length) * bytes ≤ 140737488355328 ∧ xs.length + ys.length ≤ 9223372036854775807 ∧ goT K (.sl (xs ++ ys))) := nr rfl
theorem a_nils (m bytes : Nat) (xs : List AV) : appP m bytes xs .nils K = ((∀ y ∈ ([] : List AV), y.cells.length = m) ∧ (xs.length + ([] : List AV).length) * bytes ≤ 140737488355328 ∧ xs.length + ([] : List AV).length ≤ 9223372036854775807 ∧ goT K (.sl (xs ++ []))) := nr rfl
theorem g_get (xs : List AV) (i f : Nat) (n : Option Nat) : getP xs i f n K = (i < xs.length ∧ f + n.getD 1 ≤ (xs.getD i .top).cells.length ∧ goT K (loadC n (xs.getD i .top) f)) := nr rfl
theorem g_set (xs : List AV) (i f m : Nat) (y : AV) : setP xs i f m y K = (i < xs.length ∧ y.cells.length = m ∧ y.storable = true ∧ f + m ≤ (xs.getD i .top).cells.length ∧ goT K (.sl (xs.set i (upd (xs.getD i .top) f y)))) := nr rfl
theorem r_rep (bytes : Nat) (z : AV) : repP bytes z (.v (.int .i64 a)) (.v (.int .i64 b)) K = (0 ≤ a ∧ a ≤ b ∧ bytes * b ≤ 281474976710656 ∧ b ≤ 9223372036854775807 ∧ goT K (.sl (List.replicate a.toNat z))) := nr rfl
theorem setAll_nil (z : List AV) : setAll z [] = z := nr rfl
theorem setAll_cons (z : List AV) (i : Nat) (y : AV) (ps : List (Nat × AV)) : setAll z ((i, y) :: ps) = setAll (z.set i y) ps := nr rfl
end
section
variable (r : List AV) (K : Prop)
theorem h_cells (a : D) (m : Nat) : Chk.wp r (.cells a m) K = ((a.ev r).isAgg = true ∧ (a.ev r).cells.length = m ∧ (a.ev r).storable = true ∧ K) := nr rfl
theorem h_one (a : D) : Chk.wp r (.one a) K = ((a.ev r).cells.length = 1 ∧ (a.ev r).isCell = true ∧ K) := nr rfl
theorem h_lt (a : D) (j : Nat) : Chk.wp r (.lt a j) K = (j < (a.ev r).cells.length ∧ K) := nr rfl
theorem h_tup (a : D) (j : Nat) : Chk.wp r (.tup a j) K = tupP (a.ev r) j K := nr rfl
theorem h_idx (l i : D) : Chk.wp r (.idx l i) K = idxP (listOf (l.ev r)) (i.ev r) K := nr rfl
theorem h_isFn (a : D) : Chk.wp r (.isFn a) K = isFnP (a.ev r) K := nr rfl
theorem h_tupE (vs : List AV) (j : Nat) : tupP (.tup vs) j K = (j < vs.length ∧ K) := nr rfl
theorem h_idxE (xs : List AV) (k : IntKind) (i : Int) : idxP xs (.v (.int k i)) K = (0 ≤ i ∧ i < xs.length ∧ K) := nr rfl
theorem h_eql (a b : D) : Chk.wp r (.eql a b) K = ((listOf (a.ev r)).length = (listOf (b.ev r)).length ∧ K) := nr rfl
theorem h_no : Chk.wp r .no K = False := nr rfl
theorem h_ne (l : D) : Chk.wp r (.ne l) K = (listOf (l.ev r) ≠ [] ∧ K) := nr rfl
theorem h_isPtrE (x : AV) (f : Nat) : isFnP (.iptr x f) K = K := nr rfl
theorem h_isFnE (f : FuncId) (cs : List AV) : isFnP (.fn f cs) K = K := nr rfl
end
theorem retT_eq (x : AV) (vs : List AV) : retT (fun a => a = x) vs = (packR vs = x) := nr rfl
theorem packR_1 (x : AV) : packR [x] = x := nr rfl
theorem packR_2 (x y : AV) (l : List AV) : packR (x :: y :: l) = .tup (x :: y :: l) := nr rfl
/-- all of these rules, in few names -/
def W00 := And.intro @w_op (And.intro @w_go (And.intro @w_chk (And.intro @w_ite (And.intro @w_bind (And.intro @w_loop (And.intro @w_ret (And.intro @w_jump (And.intro @w_esc (And.intro @w_jumpJ (And.intro @w_true (And.intro @w_false (And.intro @e_x (And.intro @e_c (And.intro @e_cell (And.intro @e_ext (And.intro @e_sl (And.intro @e_agg (And.intro @e_fn (@e_ip)))))))))))))))))))
def W01 := And.intro @e_nil (And.intro @e_cons (And.intro @listOf_eq (And.intro @idxOf_nat (And.intro @idxOf_int (And.intro @tupD_eq (And.intro @evo_none (And.intro @evo_some (And.intro @p_val (And.intro @p_pick (And.intro @p_bin (And.intro @p_beq (And.intro @p_un (And.intro @p_conv (And.intro @p_elem (And.intro @p_fld (And.intro @p_loadc (And.intro @p_idxS (And.intro @p_sliceS (@p_sliceL)))))))))))))))))))
def W02 := And.intro @p_lenS (And.intro @p_lenL (And.intro @p_mkl (And.intro @p_rep (And.intro @p_app (And.intro @p_get (And.intro @p_set (And.intro @p_call (And.intro @p_callv (And.intro @p_ldp (And.intro @p_fap (And.intro @l_ldp (And.intro @l_fap (And.intro @callv_fn (And.intro @b_add (And.intro @b_sub (And.intro @b_mul (And.intro @b_and (And.intro @b_or (@b_xor)))))))))))))))))))
def W03 := And.intro @b_quo (And.intro @b_rem (And.intro @b_eql (And.intro @b_neq (And.intro @b_lss (And.intro @b_leq (And.intro @b_gtr (And.intro @b_geq (And.intro @b_shl (And.intro @b_shr (And.intro @b_sadd (And.intro @b_seql (And.intro @b_sneq (And.intro @b_beq (And.intro @b_bne (And.intro @u_not (And.intro @u_neg (And.intro @v_conv (And.intro @c_pick_t (@c_pick_f)))))))))))))))))))
def W04 := And.intro @c_pick_b (And.intro @l_fld (And.intro @n_sl (And.intro @s_sls (And.intro @s_sll (And.intro @n_lens (And.intro @n_nils (And.intro @n_sl (And.intro @a_sl (And.intro @a_nils (And.intro @g_get (And.intro @g_set (And.intro @r_rep (And.intro @setAll_nil (And.intro @setAll_cons (And.intro @h_cells (And.intro @h_one (And.intro @h_lt (And.intro @h_tup (@h_idx)))))))))))))))))))
def W05 := And.intro @h_isFn (And.intro @h_tupE (And.intro @h_idxE (And.intro @h_isFnE (And.intro @h_isPtrE (And.intro @h_ne (And.intro @retT_eq (And.intro @packR_1 (And.intro @packR_2 (And.intro @bnd_none (And.intro @bnd_some (And.intro @loadC_none (And.intro @cells_agg (And.intro @cells_v (And.intro @cells_nils (And.intro @cells_sl (And.intro @cells_fn (And.intro @isAgg_agg (And.intro @isCell_v (@isCell_nils)))))))))))))))))))
def W06 := And.intro @isCell_sl (And.intro @isCell_fn (And.intro @storable_agg (And.intro @storable_v (And.intro @storable_nils (And.intro @storable_sl (And.intro @storable_fn (And.intro @List.map_cons.{0,0} (And.intro @List.map_nil.{0,0} (And.intro @Option.map_some.{0,0} (And.intro @Option.map_none.{0,0} (And.intro @List.getD_cons_zero.{0} (And.intro @List.getD_cons_succ.{0} (And.intro @List.length_nil.{0} (And.intro @List.length_cons.{0} (And.intro @List.length_append.{0} (And.intro @List.length_set.{0} (And.intro @List.length_map.{0,0} (And.intro @List.length_replicate.{0} (@List.nil_append.{0})))))))))))))))))))
def W07 := And.intro @List.cons_append.{0} (And.intro @List.append_nil.{0} (And.intro @List.set_cons_zero.{0} (And.intro @List.set_cons_succ.{0} (And.intro @List.replicate_succ.{0} (And.intro @List.replicate_zero.{0} (And.intro @List.mem_cons.{0} (And.intro @List.not_mem_nil.{0} (And.intro @or_false (And.intro @forall_eq.{0} (And.intro @false_implies (And.intro @implies_true.{0} (And.intro @List.all_cons.{0} (And.intro @List.all_nil.{0} (And.intro @Bool.and_true (And.intro @Bool.true_and (And.intro @Bool.or_true (And.intro @Bool.true_or (And.intro @Bool.not_true (@Bool.not_false)))))))))))))))))))
def W08 := And.intro @Bool.not_not (And.intro @decide_true (And.intro @decide_false (And.intro @Option.getD_none.{0} (And.intro @Option.getD_some.{0} (And.intro @true_and (And.intro @and_true (And.intro @Nat.zero_add (And.intro @Nat.add_zero (And.intro @Nat.lt_add_one (And.intro @Nat.zero_lt_succ (And.intro @Nat.le_refl (And.intro @if_true.{1} (And.intro @if_false.{1} (And.intro @ne_eq.{1} (And.intro @not_false_eq_true (And.intro @Int.toNat_natCast (And.intro @Int.natCast_nonneg (And.intro @eq_self.{1} (@beq_self_eq_true.{0})))))))))))))))))))
def W09 := And.intro @p_pu (And.intro @p_appS (And.intro @u_nilS (And.intro @u_consS (And.intro @u_nilP (And.intro @u_nilI (And.intro @u_ifcI (And.intro @u_ptrP (And.intro @u_min (And.intro @u_max (And.intro @u_b2s (And.intro @u_b2s0 (And.intro @a_appS (And.intro @neg_t (And.intro @neg_f (And.intro @pos_t (And.intro @pos_f (And.intro @h_no (And.intro @p_fcall (And.intro @p_scall @h_eql)))))))))))))))))))
attribute [irreducible] puT appST goT kT iteT bindT loopT retT jumpT binT unT convT pickT fldT idxT slsT sllT lensT lenlT ldpT fapT beqT
def WA := And.intro W00 (And.intro W01 (And.intro W02 (And.intro W03 (And.intro W04 (And.intro W05 (And.intro W06 (And.intro W07 (And.intro W08 W09))))))))
end Go.Ab
/-
  WHAT IS LEFT OF A FUNCTION HAS ONE OUTCOME: a contract whose result is not told ahead.
-/
namespace Go.Ab
section
variable {P : Program}
/-- results that are not told ahead -/
def ex (m : Nat) (Q : List AV → Prop) : AV → Prop := fun a => ∃ outs, outs.length = m ∧ Q outs ∧ a = packR outs
end
end Go.Ab
/-
  CONTRACTS WHOSE RESULT IS NOT TOLD AHEAD: what a walk ends in can be taken out of it.
-/
namespace Go.Ab
variable {P : Program}
end Go.Ab
