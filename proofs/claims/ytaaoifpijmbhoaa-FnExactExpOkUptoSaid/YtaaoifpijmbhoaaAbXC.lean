/-
  FROM THE MODEL's CODE TO THE PROGRAM THAT IS LEFT, all of it computed.
-/
import Derived.Test.YtaaoifpijmbhoaaAbXB
set_option linter.unusedVariables false
set_option linter.unusedSimpArgs false
set_option linter.defProp false
namespace Go.Ab

def insN (x : Nat) : List Nat → List Nat
  | [] => [x]
  | y :: l => if x < y then x :: y :: l else if x = y then y :: l else y :: insN x l
def uniN (a b : List Nat) : List Nat := a.foldr insN b

def liveOps : List AOper → List Nat → List Nat
  | [], out => out
  | o :: r, out => uniN o.reads (match o.dst with | some t => (liveOps r out).filter (· != t) | none => liveOps r out)

def Opd.slot : Opd → List Nat
  | .t n => [n]
  | .c _ => []

/-- what is live (nothing depends on it but how much is remembered) -/
def live (ret : List Nat) : ACode → List Nat → List (Nat × List Nat) → ACode × List Nat
  | .skip, out, _ => (.skip, out)
  | .region rows ops, out, _ => (.keep out (.region rows ops), liveOps ops out)
  | .seq a b, out, ex =>
    let qb := live ret b out ex
    let qa := live ret a qb.2 ex
    (.seq qa.1 qb.1, qa.2)
  | .cond c t f, out, ex =>
    let qt := live ret t out ex
    let qf := live ret f out ex
    (.keep out (.cond c qt.1 qf.1), uniN c.slot (uniN qt.2 qf.2))
  | .block id b, out, ex =>
    let qb := live ret b out ((id, out) :: ex)
    (.keep out (.block id qb.1), qb.2)
  | .loop b, _, ex =>
    let l1 := (live ret b [] ex).2
    let l2 := uniN l1 (live ret b l1 ex).2
    let l3 := uniN l2 (live ret b l2 ex).2
    (.loop (live ret b l3 ex).1, l3)
  | .exit id, _, ex => (.exit id, match ex.find? (fun p => p.1 == id) with | some p => p.2 | none => [])
  | .ret, _, _ => (.ret, ret)
  | .keep l c, out, ex => let q := live ret c out ex; (.keep l q.1, q.2)
  | .weak c, out, ex => let q := live ret c out ex; (.weak q.1, q.2)
  | .regionW ops, out, _ => (.regionW ops, out)

/-- calls that touch nothing -/
def setOp (gen : List Nat) (drawn : Bool) : AOp → AOp
  | .call f as => if gen.contains f = true then .call f as else if drawn = true then .qcall f as else .pcall f as
  | .callv x as => if drawn = true then .qcallv x as else .pcallv x as
  | o => o
def setC (gen : List Nat) : ACode → ACode
  | .region rows ops => .region rows (ops.map fun o => { o with op := setOp gen rows.isSome o.op })
  | .seq a b => .seq (setC gen a) (setC gen b)
  | .cond c t f => .cond c (setC gen t) (setC gen f)
  | .block id b => .block id (setC gen b)
  | .loop b => .loop (setC gen b)
  | .keep l c => .keep l (setC gen c)
  | .weak c => .weak (setC gen c)
  | c => c

theorem live_strip (ret : List Nat) : ∀ (c : ACode) (out : List Nat) (ex : List (Nat × List Nat)), (live ret c out ex).1.strip = c.strip
  | .skip, _, _ => rfl
  | .region rows ops, _, _ => rfl
  | .seq a b, out, ex => by simp only [live, ACode.strip, live_strip ret a, live_strip ret b]
  | .cond c t f, out, ex => by simp only [live, ACode.strip, live_strip ret t, live_strip ret f]
  | .block id b, out, ex => by simp only [live, ACode.strip, live_strip ret b]
  | .loop b, out, ex => by simp only [live, ACode.strip, live_strip ret b]
  | .exit id, _, _ => rfl
  | .ret, _, _ => rfl
  | .keep l c, out, ex => by simp only [live, ACode.strip, live_strip ret c]
  | .weak c, out, ex => by simp only [live, ACode.strip, live_strip ret c]
  | .regionW ops, _, _ => rfl

theorem setOp_strip (gen : List Nat) (d : Bool) (o : AOp) : (setOp gen d o).strip = o.strip := by
  cases o <;> try rfl
  · simp only [setOp]; split
    · rfl
    · split <;> rfl
  · simp only [setOp]; split <;> rfl
theorem setC_strip (gen : List Nat) : ∀ (c : ACode), (setC gen c).strip = c.strip
  | .skip => rfl
  | .region rows ops => by
    simp only [setC, ACode.strip, List.map_map]
    congr 1
    apply List.map_congr_left
    intro o _
    simp only [Function.comp, AOper.strip, setOp_strip]
  | .seq a b => by simp only [setC, ACode.strip, setC_strip gen a, setC_strip gen b]
  | .cond c t f => by simp only [setC, ACode.strip, setC_strip gen t, setC_strip gen f]
  | .block id b => by simp only [setC, ACode.strip, setC_strip gen b]
  | .loop b => by simp only [setC, ACode.strip, setC_strip gen b]
  | .exit id => rfl
  | .ret => rfl
  | .keep l c => by simp only [setC, ACode.strip, setC_strip gen c]
  | .weak c => by simp only [setC, ACode.strip, setC_strip gen c]
  | .regionW ops => rfl

section
variable {P : Program} {nt : Nat}

theorem cCall_strip {c : Call} {a : AOp} (h : cCall P c = some a) : a.strip = a := by
  unfold cCall at h
  split at h
  · split at h
    · cases h; rfl
    · cases h; rfl
    · cases h
  · split at h
    · split at h
      · simp only [Option.map_eq_some_iff] at h; obtain ⟨_, _, rfl⟩ := h; rfl
      · simp only [Option.map_eq_some_iff] at h; obtain ⟨_, _, rfl⟩ := h; rfl
      · cases h
    · cases h
  · split at h
    · split at h
      · simp only [Option.bind_eq_bind, Option.bind_eq_some_iff, Option.some.injEq] at h
        obtain ⟨e, _, ⟨s, b, z⟩, _, x, _, y, _, rfl⟩ := h
        rfl
      · cases h
    · cases h
  · cases h
theorem strip_plain {a : AOp} (h : a.isCall = false) : a.strip = a := by
  cases a <;> first | rfl | (simp [AOp.isCall] at h)
theorem cOp_strip {t : TypeId} {o : Op} {a : AOp} (h : cOp P t o = some a) : a.strip = a := by
  have key : ∀ {x : Option AOp}, (x.bind fun a => if a.isCall = true then none else some a) = some a → a.strip = a := by
    intro x h
    rw [Option.bind_eq_some_iff] at h
    obtain ⟨b, _, hb⟩ := h
    split at hb
    · cases hb
    · rename_i hc; cases hb; exact strip_plain (by simpa using hc)
  unfold cOp at h
  split at h
  · exact cCall_strip h
  · exact key h
theorem cOper_strip {ops : Array Oper} {o : Oper} {a : AOper} (h : cOper P nt ops o = some a) : a.strip = a := by
  unfold cOper at h
  split at h
  · rename_i op g hop hg
    split at h
    · cases h
      simp only [AOper.strip, cOp_strip hop]
    · cases h
  · cases h
theorem mapM_strip {f : Oper → Option AOper} (hf : ∀ o a, f o = some a → a.strip = a) : ∀ (l : List Oper) {r : List AOper}, l.mapM f = some r → r.map AOper.strip = r
  | [], r, h => by simp at h; subst h; rfl
  | o :: l, r, h => by
    simp only [List.mapM_cons, Option.bind_eq_bind, Option.pure_def, Option.bind_eq_some_iff, Option.some.injEq] at h
    obtain ⟨b, hb, bs, hbs, rfl⟩ := h
    simp only [List.map_cons, hf o b hb, mapM_strip hf l hbs]
theorem cCode_strip : ∀ (code : Code) {c : ACode}, cCode P nt code = some c → c.strip = c := by
  intro code c h
  induction c generalizing code with
  | skip => rfl
  | exit => rfl
  | ret => rfl
  | region rows ops =>
    rcases cCode_cases h with ⟨_, h⟩ | ⟨id, mops, draw, rows', aops, rfl, h, hm, hdr⟩ | ⟨_, _, _, _, _, h, _⟩ | ⟨_, _, _, _, _, _, _, h, _⟩ | ⟨_, _, _, _, h, _⟩ | ⟨_, _, _, h, _⟩ | ⟨_, _, h⟩ | ⟨_, h⟩ <;> first | (cases h; done) | skip
    cases h
    simp only [ACode.strip]
    rw [mapM_strip (fun o a h => cOper_strip h) _ hm]
  | seq a b iha ihb =>
    rcases cCode_cases h with ⟨_, h⟩ | ⟨_, _, _, _, _, _, h, _⟩ | ⟨cx, cy, ax, ay, rfl, h, hx, hy⟩ | ⟨_, _, _, _, _, _, _, h, _⟩ | ⟨_, _, _, _, h, _⟩ | ⟨_, _, _, h, _⟩ | ⟨_, _, h⟩ | ⟨_, h⟩ <;> first | (cases h; done) | skip
    cases h
    simp only [ACode.strip, iha cx hx, ihb cy hy]
  | cond o t f iht ihf =>
    rcases cCode_cases h with ⟨_, h⟩ | ⟨_, _, _, _, _, _, h, _⟩ | ⟨_, _, _, _, _, h, _⟩ | ⟨o', x, y, ao, ax, ay, rfl, h, h0, h1, h2⟩ | ⟨_, _, _, _, h, _⟩ | ⟨_, _, _, h, _⟩ | ⟨_, _, h⟩ | ⟨_, h⟩ <;> first | (cases h; done) | skip
    cases h
    simp only [ACode.strip, iht x h1, ihf y h2]
  | block id b ih =>
    rcases cCode_cases h with ⟨_, h⟩ | ⟨_, _, _, _, _, _, h, _⟩ | ⟨_, _, _, _, _, h, _⟩ | ⟨_, _, _, _, _, _, _, h, _⟩ | ⟨id', cb, ab, rfl, h, hb⟩ | ⟨_, _, _, h, _⟩ | ⟨_, _, h⟩ | ⟨_, h⟩ <;> first | (cases h; done) | skip
    cases h
    simp only [ACode.strip, ih cb hb]
  | loop b ih =>
    rcases cCode_cases h with ⟨_, h⟩ | ⟨_, _, _, _, _, _, h, _⟩ | ⟨_, _, _, _, _, h, _⟩ | ⟨_, _, _, _, _, _, _, h, _⟩ | ⟨_, _, _, _, h, _⟩ | ⟨cb, ab, rfl, h, hb⟩ | ⟨_, _, h⟩ | ⟨_, h⟩ <;> first | (cases h; done) | skip
    cases h
    simp only [ACode.strip, ih cb hb]
  | keep l c ih =>
    rcases cCode_cases h with ⟨_, h⟩ | ⟨_, _, _, _, _, _, h, _⟩ | ⟨_, _, _, _, _, h, _⟩ | ⟨_, _, _, _, _, _, _, h, _⟩ | ⟨_, _, _, _, h, _⟩ | ⟨_, _, _, h, _⟩ | ⟨_, _, h⟩ | ⟨_, h⟩ <;> cases h
  | weak c ih =>
    rcases cCode_cases h with ⟨_, h⟩ | ⟨_, _, _, _, _, _, h, _⟩ | ⟨_, _, _, _, _, h, _⟩ | ⟨_, _, _, _, _, _, _, h, _⟩ | ⟨_, _, _, _, h, _⟩ | ⟨_, _, _, h, _⟩ | ⟨_, _, h⟩ | ⟨_, h⟩ <;> cases h
  | regionW ops =>
    rcases cCode_cases h with ⟨_, h⟩ | ⟨_, _, _, _, _, _, h, _⟩ | ⟨_, _, _, _, _, h, _⟩ | ⟨_, _, _, _, _, _, _, h, _⟩ | ⟨_, _, _, _, h, _⟩ | ⟨_, _, _, h, _⟩ | ⟨_, _, h⟩ | ⟨_, h⟩ <;> cases h

end

def resSlot : ARes → Nat
  | .tmp t => t
  | .cell t _ => t

/-- a function's abstract code -/
def autoA (P : Program) (gen : List Nat) (fn : Func) : Option AFn :=
  match fn.body with
  | none => none
  | some code => match cCode P fn.ntmps code, fn.results.toList.mapM (cRes P) with
    | some c, some rs => some ⟨fn.params.size + fn.nfree, fn.ntmps, (live (uniN (rs.map resSlot) []) (setC gen c) [] []).1, rs⟩
    | _, _ => none
/-- WHAT IS LEFT of a function: the number of its arguments, and the program -/
def leftF (P : Program) (gen fl : List Nat) (fn : Func) : Option (Nat × T) :=
  match autoA P gen fn with
  | some A => if A.code.drawsOk = true ∧ A.nargs ≤ A.nt ∧ (fn.name == "runtime.NumGoroutine") = false then
      match A.left fl with
      | some t => some (A.nargs, t)
      | none => none
    else none
  | none => none

/-- FROM A FUNCTION OF THE PROGRAM TO ITS CONTRACT. -/
theorem con_auto {P : Program} {f : FuncId} {fn : Func} {gen fl : List Nat} {n : Nat} {t : T} (hf : P.funcs[f]? = some fn) (h : leftF P gen fl fn = some (n, t)) {args : List AV} (hl : args.length = n) (hn : AV.norefs args = true) {res : AV}
    (hw : wpT P (fun _ _ _ => False) (fun a => a = res) t args []) : PCon P f args res := by
  unfold leftF at h
  split at h
  · rename_i A hA
    split at h
    · rename_i hc
      split at h
      · rename_i t' ht
        cases h
        refine con_of_T ?_ ht hl hn hw
        unfold autoA at hA
        split at hA
        · cases hA
        · rename_i code hcode
          split at hA
          · rename_i c rs h1 h2
            cases hA
            refine ⟨fn, code, hf, hcode, hc.2.2, rfl, hc.2.1, ?_, h2, hc.1⟩
            rw [h1]
            simp only [live_strip, setC_strip, cCode_strip code h1]
          · cases hA
      · cases h
    · cases h
  · cases h

end Go.Ab
