/-
  THE SYMBOLIC WALK ITSELF: operations, regions, control, loops.
-/
import Derived.Test.YtaaoifpijmbhoaaAbX1
set_option linter.unusedVariables false
set_option linter.unusedSimpArgs false
set_option linter.defProp false
namespace Go.Ab

def opd (s : SS) : Opd → SV
  | .t n => lk s.env n
  | .c a => .d (.c a)

/-- plain values of slots, without references -/
def dsOf : List SV → Option (List D)
  | [] => some []
  | .d x :: l => match dsOf l with
    | some ds => some (x :: ds)
    | none => none
  | _ :: _ => none
def etaOf (kn : List (Nat × Nat)) (ds : List D) : Option Nat :=
  match ds with
  | .cell i 0 :: _ :: _ => if kn.contains (i, ds.length) = true ∧ D.beqs ds ((List.range ds.length).map fun j => .cell i j) = true then some i else none
  | _ => none
def asD (kn : List (Nat × Nat)) : SV → Option (List Node × D)
  | .d x => some ([], x)
  | .agg cs => match dsOf cs with
    | some ds => match etaOf kn ds with
      | some i => some ([.chk (.cells (.x i) ds.length)], .x i)
      | none => some ([], .agg ds)
    | none => none
  | .ip x f => some ([], .ip x f)
  | _ => none
/-- an object that is a row, with these contents -/
def cur (s : SS) (n : Nat) (l : D) : Option (Bool × Nat × Nat) :=
  match s.objs[n]? with
  | some (.row nl e sz l') => if l'.beq l = true then some (nl, e, sz) else none
  | _ => none
def boxOf (s : SS) (n : Nat) : Option (Nat × List SV) :=
  match s.objs[n]? with
  | some (.box e cs) => some (e, cs)
  | _ => none

def nvN : Nat → List Node → Nat
  | nv, [] => nv
  | nv, .op _ :: r => nvN (nv + 1) r
  | nv, .chk _ :: r => nvN nv r
def nx (s : SS) (ns : List Node) (o : PO) : List Node × SV × SS := (ns ++ [.op o], .d (.x (nvN s.nv ns)), { s with nv := nvN s.nv ns + 1 })
def done (s : SS) (ns : List Node) (v : SV) : List Node × SV × SS := (ns, v, { s with nv := nvN s.nv ns })

def chkOf (m : Nat) (x : D) : Node := if m = 1 then .chk (.one x) else .chk (.cells x m)
def chkOnes : List SV → List Node
  | [] => []
  | .d x :: l => .chk (.one x) :: chkOnes l
  | _ :: l => chkOnes l
def noTops : List SV → Bool
  | [] => true
  | .top :: _ => false
  | .agg _ :: _ => false
  | _ :: l => noTops l
/-- the m cells of a value -/
def expand (nv m : Nat) (v : SV) : Option (List Node × List SV) :=
  if m = 1 then
    match v with
    | .d x => some ([.chk (.one x)], [.d x])
    | .agg _ => none
    | .top => none
    | v => some ([], [v])
  else
    match v with
    | .agg cs => if cs.length = m ∧ noTops cs = true then some (chkOnes cs, cs) else none
    | .d (.x i) => some ([.chk (.cells (.x i) m)], (List.range m).map fun j => .d (.cell i j))
    | .d (.agg l) => if l.length = m then some ([.chk (.cells (.agg l) m)], l.map .d) else none
    | .d (.c (.agg l)) => if l.length = m then some ([.chk (.cells (.c (.agg l)) m)], l.map fun a => .d (.c a)) else none
    | .d x => some ([.op (.val x), .chk (.cells (.x nv) m)], (List.range m).map fun j => .d (.cell nv j))
    | _ => none

def xAlloc (s : SS) (t n : Nat) (z : AV) : Option (List Node × SV × SS) :=
  if n = 1 ∧ z.isAgg = false then some ([], .ptr s.objs.length 0, { s with objs := s.objs ++ [.box t [.d (.c z)]] })
  else match z with
    | .agg cs => if n ≠ 1 ∧ cs.length = n then some ([], .ptr s.objs.length 0, { s with objs := s.objs ++ [.box t (cs.map fun a => .d (.c a))] }) else none
    | _ => none

def xBox (s : SS) (t n : Nat) (v : SV) : Option (List Node × SV × SS) :=
  match expand s.nv n v with
  | some (ns, cs) => if cs.length = n then some (ns, .ptr s.objs.length 0, { s with objs := s.objs ++ [.box t cs], nv := nvN s.nv ns }) else none
  | none => none

/-- parts of a struct -/
def xParts (s : SS) : List Node → List SV → List (Nat × Nat × Opd) → Option (List Node × List SV)
  | ns, cs, [] => some (ns, cs)
  | ns, cs, (off, size, x) :: r => match expand (nvN s.nv ns) size (opd s x) with
    | some (ms, vs) => if vs.length = size ∧ off + size ≤ cs.length then xParts s (ns ++ ms) (cs.take off ++ vs ++ cs.drop (off + size)) r else none
    | none => none
/-- a struct: plain, if all cells are -/
def norm (s : SS) (ns : List Node) (cs : List SV) : List Node × SV × SS :=
  match asD s.kn (.agg cs) with
  | some (ms, x) => done s (ns ++ ms) (.d x)
  | none => done s ns (.agg cs)
def xBuild (s : SS) (z : List AV) (ps : List (Nat × Nat × Opd)) : Option (List Node × SV × SS) :=
  match xParts s [] (z.map fun a => .d (.c a)) ps with
  | some (ns, cs) => some (norm s ns cs)
  | none => none

def xElems (s : SS) (m len : Nat) : List (Nat × Opd) → Option (List Node × List (Nat × D))
  | [] => some ([], [])
  | (i, x) :: r => match asD s.kn (opd s x), xElems s m len r with
    | some (ns, d), some (ms, ps) => if i < len then some (ns ++ chkOf m d :: ms, (i, d) :: ps) else none
    | _, _ => none
def newRow (s : SS) (t m : Nat) (q : List Node × SV × SS) : Option (List Node × SV × SS) :=
  match q with
  | (ns, .d l, s') => some (ns, .row s.objs.length l, { s' with objs := s'.objs ++ [.row false t m l] })
  | _ => none
def xBuildSlice (s : SS) (t m len : Nat) (z : AV) (ps : List (Nat × Opd)) : Option (List Node × SV × SS) :=
  match xElems s m len ps with
  | some (ns, ps) => newRow s t m (nx s ns (.mkl z len ps))
  | none => none

/-- a value is read whole -/
def whole (kn : List (Nat × Nat)) (y : D) (m : Nat) : Bool :=
  match y with
  | .x i => kn.contains (i, m)
  | .agg l => decide (l.length = m)
  | _ => false
def xLoad (s : SS) (n : Option Nat) (v : SV) : Option (List Node × SV × SS) :=
  match v with
  | .ptr k f => match boxOf s k with
    | some (_, cs) => match n with
      | none => match cs[f]? with
        | some v => if cs.length = 1 then (if noTops [v] = true then some (chkOnes [v], v, s) else none) else some ([], v, s)
        | none => none
      | some m => if cs.length ≠ 1 ∧ f + m ≤ cs.length then some (norm s [] ((cs.drop f).take m)) else none
    | none => none
  | .ip y f => match n with
    | none => match y with
      | .x i => some ([.chk (.lt y f)], .d (.cell i f), s)
      | .agg l => match l[f]? with
        | some d => some ([], .d d, s)
        | none => none
      | _ => some (.op (.val y) :: [.chk (.lt (.x s.nv) f)], .d (.cell s.nv f), { s with nv := s.nv + 1 })
    | some m => if f = 0 ∧ whole s.kn y m = true then some ([.chk (.cells y m)], .d y, s) else some (nx s [] (.loadc f m y))
  | .rp k l i f => match cur s k l with
    | some _ => some (nx s [] (.get l i f n))
    | none => none
  | .d y => some (nx s [] (.ldp n y))
  | _ => none

/-- a row's contents are written: everything that named them names the new ones -/
def SV.rew (n : Nat) (l l' : D) : SV → SV
  | .row m k => if m = n ∧ k.beq l = true then .row m l' else .row m k
  | .rp m k i f => if m = n ∧ k.beq l = true then .rp m l' i f else .rp m k i f
  | v => v
def xStore (s : SS) (m : Nat) (p y : SV) : Option (List Node × SV × SS) :=
  match p with
  | .ptr k f => match boxOf s k, expand s.nv m y with
    | some (e, cs), some (ns, vs) =>
      if vs.length = m ∧ f + m ≤ cs.length ∧ (m = 1 ∨ cs.length ≠ 1) ∧ (cs.length = 1 → noTops cs = true) then
        some ((if cs.length = 1 then chkOnes cs else []) ++ ns, .top, { s with objs := s.objs.set k (.box e (cs.take f ++ vs ++ cs.drop (f + m))), nv := nvN s.nv ns }) else none
    | _, _ => none
  | .rp k l i f => match cur s k l, asD s.kn y with
    | some (nl, e, sz), some (ns, d) =>
      let l' : D := .x (nvN s.nv (ns ++ [chkOf m d]))
      some (ns ++ [chkOf m d] ++ [.op (.set l i f m d)], .top, { s with env := s.env.map (fun p => (p.1, p.2.rew k l l')), objs := s.objs.set k (.row nl e sz l'), nv := nvN s.nv (ns ++ [chkOf m d]) + 1 })
    | _, _ => none
  | _ => none

def xFaddr (s : SS) (off : Nat) (v : SV) : Option (List Node × SV × SS) :=
  match v with
  | .ptr k f => match boxOf s k with
    | some _ => some ([], .ptr k (f + off), s)
    | none => none
  | .rp k l i f => match cur s k l with
    | some (false, _) => some ([], .rp k l i (f + off), s)
    | some (true, _) => some ([.chk (.idx l i)], .rp k l i (f + off), s)
    | none => none
  | .ip y f => some ([], .ip y (f + off), s)
  | .d y => some (nx s [] (.fap off y))
  | _ => none

def xFld (s : SS) (off : Nat) (n : Option Nat) (v : SV) : Option (List Node × SV × SS) :=
  match v with
  | .agg cs => match n with
    | none => match cs[off]? with
      | some v => some ([], v, s)
      | none => none
    | some m => if off + m ≤ cs.length then some (norm s [] ((cs.drop off).take m)) else none
  | .d (.agg l) => match n with
    | none => match l[off]? with
      | some d => some ([], .d d, s)
      | none => none
    | some _ => some (nx s [] (.fld off n (.agg l)))
  | .d x => some (nx s [] (.fld off n x))
  | _ => none

def xIaddr (s : SS) (m : Nat) (v i : SV) : Option (List Node × SV × SS) :=
  match v, i with
  | .d l, .d i => some (.op (.elem m l i) :: [], .ip (.x s.nv) 0, { s with nv := s.nv + 1 })
  | .row k l, .d i => match cur s k l with
    | some (_, _, sz) => if sz = m then some ([.chk (.idx l i)], .rp k l i 0, s) else none
    | none => none
  | _, _ => none

def xOpt (s : SS) : Option Opd → Option (Option D)
  | none => some none
  | some x => match opd s x with
    | .d d => some (some d)
    | _ => none

def xArgs (s : SS) : List Opd → Option (List Node × List D × Bool)
  | [] => some ([], [], false)
  | x :: r => match xArgs s r with
    | some (ns, ds, b) => match opd s x with
      | .row k l => match cur s k l with
        | some _ => some (ns, .sl l :: ds, true)
        | none => none
      | v => match asD s.kn v with
        | some (ms, d) => some (ms ++ ns, d :: ds, b)
        | none => none
    | none => none

def xOp (op : AOp) (s : SS) : Option (List Node × SV × SS) :=
  match op with
  | .mov a => some ([], opd s a, s)
  | .pick c a b => match opd s c with
    | .d (.c (.v (.bool t))) => some ([], if t then opd s a else opd s b, s)
    | .d c => match asD s.kn (opd s a), asD s.kn (opd s b) with
      | some (na, a), some (nb, b) => some (nx s (na ++ nb) (.pick c a b))
      | _, _ => none
    | _ => none
  | .alloc t n z => xAlloc s t n z
  | .box t n a => xBox s t n (opd s a)
  | .build z ps => xBuild s z ps
  | .buildSlice t m len z ps => xBuildSlice s t m len z ps
  | .load n a => xLoad s n (opd s a)
  | .store m a b => xStore s m (opd s a) (opd s b)
  | .bin o a b => match opd s a, opd s b with
    | .d a, .d b => some (nx s [] (.bin o a b))
    | _, _ => none
  | .beq neg a b => match opd s a, opd s b with
    | .d a, .d b => some (nx s [] (.beq neg a b))
    | _, _ => none
  | .un o a => match opd s a with
    | .d a => some (nx s [] (.un o a))
    | _ => none
  | .convInt k a => match opd s a with
    | .d a => some (nx s [] (.conv k a))
    | _ => none
  | .faddr off a => xFaddr s off (opd s a)
  | .fld off n a => xFld s off n (opd s a)
  | .iaddr m a i => xIaddr s m (opd s a) (opd s i)
  | .idxS a i => match opd s a, opd s i with
    | .d a, .d i => some (nx s [] (.idxS a i))
    | _, _ => none
  | .sliceS a lo hi => match opd s a, xOpt s lo, xOpt s hi with
    | .d a, some lo, some hi => some (nx s [] (.sliceS a lo hi))
    | _, _, _ => none
  | .sliceL m a lo hi => match opd s a, xOpt s lo, xOpt s hi with
    | .d a, some lo, some hi => some (nx s [] (.sliceL m a lo hi))
    | _, _, _ => none
  | .mk t m bytes z n c => match opd s n, opd s c with
    | .d n, .d c => newRow s t m (nx s [] (.rep bytes z n c))
    | _, _ => none
  | .lenS a => match opd s a with
    | .d a => some (nx s [] (.lenS a))
    | _ => none
  | .lenL a => match opd s a with
    | .d a => some (nx s [] (.lenL a))
    | .row k l => match cur s k l with
      | some _ => some (nx s [] (.lenL (.sl l)))
      | none => none
    | _ => none
  | .app t m bytes a b => match opd s a with
    | .row k l => match cur s k l with
      | some (nl, e, sz) => if e = t ∧ sz = m then
          match (match opd s b with
            | .d y => some y
            | .row k' l' => if (cur s k' l').isSome = true then some (.sl l') else none
            | _ => none) with
          | some y => some ([.op (.app m bytes l y)], .row k (.x s.nv), { s with objs := s.objs.set k (.row nl e sz (.x s.nv)), nv := s.nv + 1 })
          | none => none
        else none
      | none => none
    | .d (.c .nils) =>
      match (match opd s b with
        | .d y => some y
        | .row k' l' => if (cur s k' l').isSome = true then some (.sl l') else none
        | _ => none) with
      | some y => some ([.op (.app m bytes (.c (.sl [])) y), .chk (.ne (.x s.nv))], .row s.objs.length (.x s.nv), { s with objs := s.objs ++ [.row false t m (.x s.nv)], nv := s.nv + 1 })
      | none => none
    | _ => none
  | .ext a i => match opd s a with
    | .d (.x j) => some ([.chk (.tup (.x j) i)], .d (.ext j i), s)
    | _ => none
  | .nilc a => match opd s a with
    | .ptr k f => match boxOf s k with
      | some _ => some ([], .ptr k f, s)
      | none => none
    | .ip y f => some ([], .ip y f, s)
    | .d (.fn f l) => some ([], .d (.fn f l), s)
    | .d x => some ([.chk (.isFn x)], .d x, s)
    | _ => none
  | .mkfn f caps => match xArgs s caps with
    | some (ns, ds, false) => some (done s ns (.d (.fn f ds)))
    | _ => none
  | .pcall f args => match xArgs s args with
    | some (ns, ds, b) => some (nx s ns (.call f ds b))
    | none => none
  | .pcallv g args => match opd s g, xArgs s args with
    | .d (.c (.fn f [])), some (ns, ds, b) => some (nx s ns (.call f ds b))
    | .d (.fn f caps), some (ns, ds, b) => some (nx s ns (.call f (ds ++ caps) b))
    | .d g, some (ns, ds, b) => some (nx s ns (.callv g ds b))
    | _, _ => none
  | .qcall f args => match xArgs s args with
    | some (ns, ds, false) => some (nx s ns (.call f ds false))
    | _ => none
  | .qcallv g args => match opd s g, xArgs s args with
    | .d (.c (.fn f [])), some (ns, ds, false) => some (nx s ns (.call f ds false))
    | .d (.fn f caps), some (ns, ds, false) => some (nx s ns (.call f (ds ++ caps) false))
    | .d g, some (ns, ds, false) => some (nx s ns (.callv g ds false))
    | _, _ => none
  | _ => none

/- AHEAD OF AN OPERATION: what may become plain or be made a row -/

/-- a slot's nil slice becomes a row -/
def nilRow (s : SS) (t m k : Nat) : SS :=
  { s with env := s.env.map (fun p => (p.1, if p.1 = k then .row s.objs.length (.c (.sl [])) else p.2)), objs := s.objs ++ [.row true t m (.c (.sl []))] }
def SV.frz (n : Nat) (l : D) : SV → SV
  | .row m k => if m = n ∧ k.beq l = true then .d (.sl l) else .row m k
  | v => v
def SV.frzs (n : Nat) (l : D) : SV → SV
  | .agg cs => .agg (cs.map (SV.frz n l))
  | v => v.frz n l
def SO.frz (n : Nat) (l : D) : SO → SO
  | .box e cs => .box e (cs.map (SV.frz n l))
  | o => o
def frzRow (s : SS) (n : Nat) : SS :=
  match s.objs[n]? with
  | some (.row _ _ _ l) => if l.cl s.nv = true then { s with env := s.env.map (fun p => (p.1, p.2.frzs n l)), objs := (s.objs.map (SO.frz n l)).set n .dead } else s
  | _ => s
def SV.fbx (n : Nat) (a : D) : SV → SV
  | .ptr m f => if m = n then .ip a f else .ptr m f
  | v => v
def SO.fbx (n : Nat) (a : D) : SO → SO
  | .box e cs => .box e (cs.map (SV.fbx n a))
  | o => o
def mkD : List D → D
  | [d] => d
  | ds => .agg ds
def frzBox (s : SS) (n : Nat) : SS :=
  match s.objs[n]? with
  | some (.box _ cs) => match dsOf cs with
    | some ds => if D.cls s.nv ds = true then { s with env := s.env.map (fun p => (p.1, p.2.fbx n (mkD ds))), objs := (s.objs.map (SO.fbx n (mkD ds))).set n .dead } else s
    | none => s
  | _ => s
def SV.rows : SV → List Nat
  | .row n _ => [n]
  | .agg cs => cs.flatMap fun | .row n _ => [n] | _ => []
  | _ => []
def frzOf (s : SS) (v : SV) : SS := v.rows.foldl frzRow s
def frzOps (s : SS) (l : List Opd) : SS := l.foldl (fun s x => frzOf s (opd s x)) s
/-- what a closure takes along -/
def frzCap (s : SS) (x : Opd) : SS :=
  match opd s x with
  | .ptr n _ => match boxOf s n with
    | some (_, cs) => frzBox (cs.foldl frzOf s) n
    | none => s
  | v => frzOf s v

def prep (fl : List Nat) (op : AOp) (s : SS) : SS :=
  match op with
  | .app t m _ (.t k) _ => match lk s.env k with
    | .d (.c .nils) => nilRow s t m k
    | _ => s
  | .sliceL _ a _ _ => frzOf s (opd s a)
  | .buildSlice _ _ _ _ ps => frzOps s (ps.map (·.2))
  | .store _ a b => match opd s a with
    | .rp _ _ _ _ => frzOf s (opd s b)
    | _ => s
  | .mkfn _ caps => caps.foldl frzCap s
  | .pcall f args => if fl.contains f = true then s else frzOps s args
  | .pcallv _ args => frzOps s args
  | .pick _ a b => frzOps s [a, b]
  | _ => s

def PO.cl (nv : Nat) (o : PO) : Bool :=
  match o with
  | .val x => x.cl nv
  | .pick c a b => c.cl nv && a.cl nv && b.cl nv
  | .bin _ a b => a.cl nv && b.cl nv
  | .beq _ a b => a.cl nv && b.cl nv
  | .un _ a => a.cl nv
  | .conv _ a => a.cl nv
  | .elem _ l i => l.cl nv && i.cl nv
  | .fld _ _ a => a.cl nv
  | .loadc _ _ a => a.cl nv
  | .idxS a i => a.cl nv && i.cl nv
  | .sliceS a _ _ => a.cl nv
  | .sliceL _ a _ _ => a.cl nv
  | .lenS a => a.cl nv
  | .lenL a => a.cl nv
  | .mkl z _ ps => z.noref && ps.all (fun p => p.2.cl nv)
  | .rep _ z _ _ => z.noref
  | .app _ _ l y => l.cl nv && y.cl nv
  | .get l _ _ _ => l.cl nv
  | .set l _ _ _ y => l.cl nv && y.cl nv
  | .call _ as _ => D.cls nv as
  | .callv g as _ => g.cl nv && D.cls nv as
  | .ldp _ a => a.cl nv
  | .fap _ a => a.cl nv
def nodesCl : Nat → List Node → Bool
  | _, [] => true
  | nv, .op o :: r => o.cl nv && nodesCl (nv + 1) r
  | nv, .chk _ :: r => nodesCl nv r

def opdOk : Opd → Bool
  | .t _ => true
  | .c a => a.noref
/-- constants that an operation carries have no references -/
def AOp.okc : AOp → Bool
  | .box _ _ a => opdOk a
  | .build z ps => AV.norefs z && ps.all (fun p => opdOk p.2.2)
  | .store _ _ a => opdOk a
  | _ => true

def kns : Nat → List Node → List (Nat × Nat)
  | _, [] => []
  | nv, .chk (.cells (.x i) m) :: r => (i, m) :: kns nv r
  | nv, .op (.elem m _ _) :: r => (nv, m) :: kns (nv + 1) r
  | nv, .op (.loadc _ m _) :: r => (nv, m) :: kns (nv + 1) r
  | nv, .op (.fld _ (some m) _) :: r => (nv, m) :: kns (nv + 1) r
  | nv, .op _ :: r => kns (nv + 1) r
  | nv, _ :: r => kns nv r
def xStep (op : AOp) (s : SS) : Option (List Node × SV × SS) :=
  if s.cl = true ∧ op.okc = true then
    match xOp op s with
    | some (ns, v, s') => if nodesCl s.nv ns = true ∧ nvN s.nv ns = s'.nv ∧ v.cl s'.nv = true ∧ s'.cl = true then some (ns, v, { s' with kn := kns s.nv ns ++ s'.kn }) else none
    | none => none
  else none

def pre (fl : List Nat) (wk : Bool) (op : AOp) (s : SS) : SS := if wk = true then prep fl op s else s

def xOps (fl : List Nat) (wk : Bool) : List AOper → SS → Option T
  | [], s => some (.leaf .normal s)
  | o :: r, s => match o.guard with
    | none => match xStep o.op (pre fl wk o.op s) with
      | some (ns, v, s') => (xOps fl wk r (s'.setD o.dst v)).map (wrap ns)
      | none => none
    | some (g, want) => match lk s.env g with
      | .d (.c (.v (.bool b))) =>
        if b = want then
          match lk (pre fl wk o.op s).env g with
          | .d (.c (.v (.bool b'))) => if b' = want then
              match xStep o.op (pre fl wk o.op s) with
              | some (ns, v, s') => (xOps fl wk r (s'.setD o.dst v)).map (wrap ns)
              | none => none
            else none
          | _ => none
        else xOps fl wk r (s.setD o.dst un)
      | .d (.c (.tup [])) => xOps fl wk r (s.setD o.dst un)
      | .d _ => match lk (pre fl wk o.op s).env g with
        | .d c =>
          match xStep o.op ((pre fl wk o.op s).set g (.d (.c (.v (.bool want))))) with
          | some (ns, v, s') =>
            match xOps fl wk r (s'.setD o.dst v), xOps fl wk r (((pre fl wk o.op s).set g (.d (.c (.v (.bool (!want)))))).setD o.dst un) with
            | some t1, some t2 => some (if want = true then .ite c (wrap ns t1) t2 else .ite c t2 (wrap ns t1))
            | _, _ => none
          | none => none
        | _ => none
      | _ => none

/- JOINS: a state that holds for all ends; what changes gets names of its own -/

def D.inst (base : Nat) (vs : List D) : D → D
  | .x i => if i < base then .x i else vs.getD (i - base) (.c .top)
  | d => if d.cl base = true then d else .c .top
def SV.inst (base : Nat) (vs : List D) : SV → SV
  | .d x => .d (x.inst base vs)
  | .row n l => .row n (l.inst base vs)
  | .ptr n f => .ptr n f
  | .rp n l i f => .rp n (l.inst base vs) (i.inst base vs) f
  | .ip x f => .ip (x.inst base vs) f
  | .agg cs => if SV.cls base cs = true then .agg cs else .d (.c .top)
  | .top => .top
def SO.inst (base : Nat) (vs : List D) : SO → SO
  | .dead => .dead
  | .box e cs => .box e (cs.map (SV.inst base vs))
  | .row nl e s l => .row nl e s (l.inst base vs)

/-- plain: without checks -/
def D0 : SV → Option D
  | .d x => some x
  | _ => none

def findV (base j : Nat) : List (SV × SV) → Option D
  | [] => none
  | (a, b) :: r => match a with
    | .d (.x i) => if i = base + j then (match D0 b with | some d => some d | none => findV base j r) else findV base j r
    | .row _ (.x i) => if i = base + j then (match b with | .row _ l => some l | _ => findV base j r) else findV base j r
    | _ => findV base j r

def cellPairs : SO → SO → List (SV × SV)
  | .box _ cs, .box _ ds => cs.zip ds
  | .row _ _ _ l, .row _ _ _ k => [(.d l, .d k)]
  | _, _ => []

/-- objects that the target does not know any more -/
def killFor (t : List SO) : Nat → List SO → List SO
  | _, [] => []
  | k, o :: r => (match t[k]? with
    | some .dead => .dead
    | _ => o) :: killFor t (k + 1) r

/-- what is handed to a join: values for the target's new names -/
def coerce (base : Nat) (s t : SS) : Option (List D) :=
  let pairs := ((t.objs.zip s.objs).flatMap fun p => cellPairs p.1 p.2) ++ t.env.map fun p => (p.2, lk s.env p.1)
  match (List.range (t.nv - base)).mapM fun j => findV base j pairs with
  | none => none
  | some vs =>
    let objs := killFor t.objs 0 s.objs
    if base ≤ t.nv ∧ base ≤ s.nv ∧ t.objs.length ≤ objs.length ∧ D.cls s.nv vs = true ∧ t.cl = true ∧
      (t.env.all fun p => (p.2.inst base vs).beq (lk s.env p.1) && p.2.sc t.objs.length) = true ∧
      ((t.objs.zip objs).all fun p => (p.1.inst base vs).beq p.2 && p.1.sc t.objs.length) = true then some vs else none

/- the choice of a join's state (nothing depends on how it is chosen) -/
def allSame (v : SV) : List SV → Bool
  | [] => true
  | w :: l => v.beq w && allSame v l
def allD : List SV → Bool
  | [] => true
  | .d _ :: l => allD l
  | _ :: _ => false
/-- a cell or slot in all of the states; next: the next name -/
def allRow (n : Nat) : List SS → List SV → Bool
  | s :: ss, .row m l :: vs => decide (m = n) && (cur s m l).isSome && allRow n ss vs
  | [], [] => true
  | _, _ => false
def genC (L : List SS) (base next : Nat) (vs : List SV) : SV × Nat :=
  match vs with
  | .row n l :: _ => if allRow n L vs = true then (.row n (.c .top), next) else (.top, next)
  | v :: r =>
    if allSame v r = true ∧ v.cl base = true then (v, next)
    else if allD vs = true then (.d (.x next), next + 1)
    else (.top, next)
  | [] => (.top, next)
def genV (base next : Nat) (vs : List SV) : SV × Nat :=
  match vs with
  | [] => (.top, next)
  | v :: r =>
    if allSame v r = true ∧ v.cl base = true then (v, next)
    else if allD vs = true then (.d (.x next), next + 1)
    else (.top, next)
def genVs (L : List SS) (base : Nat) : Nat → List (List SV) → List SV × Nat
  | next, [] => ([], next)
  | next, vs :: r =>
    let (v, n1) := genC L base next vs
    let (l, n2) := genVs L base n1 r
    (v :: l, n2)
def nthCells (k : Nat) (l : List SO) : List SV := l.map fun | .box _ cs => cs.getD k .top | _ => .top
def genO (L : List SS) (base next : Nat) (os : List SO) : SO × Nat :=
  match os with
  | .box e cs :: r => if r.all (fun | .box e' ds => decide (e = e') && decide (ds.length = cs.length) | _ => false) = true then
      let (l, n) := genVs L base next ((List.range cs.length).map fun k => nthCells k os)
      (.box e l, n) else (.dead, next)
  | .row nl e s l :: r => if r.all (fun | .row nl' e' s' _ => decide (nl = nl') && decide (e = e') && decide (s = s') | _ => false) = true then
      (if r.all (fun | .row _ _ _ k => l.beq k | _ => false) = true ∧ l.cl base = true then (.row nl e s l, next) else (.row nl e s (.x next), next + 1)) else (.dead, next)
  | _ => (.dead, next)
def genOs (L : List SS) (base : Nat) : Nat → List (List SO) → List SO × Nat
  | next, [] => ([], next)
  | next, os :: r =>
    let (o, n1) := genO L base next os
    let (l, n2) := genOs L base n1 r
    (o :: l, n2)
def minLen : List SS → Nat
  | [] => 0
  | [s] => s.objs.length
  | s :: r => min s.objs.length (minLen r)
def isCur (s : SS) : SV → Bool
  | .row n l => (cur s n l).isSome
  | _ => false
/-- a slot: rows that are up to date in all states stay rows -/
def genE (base : Nat) (objs : List SO) (L : List SS) : Nat → List Nat → List (Nat × SV) × Nat
  | next, [] => ([], next)
  | next, t :: r =>
    let vs := L.map fun s => lk s.env t
    let q : SV × Nat := match vs with
      | .row n _ :: _ =>
        if (L.all fun s => match lk s.env t with | .row m l => decide (m = n) && (cur s m l).isSome | _ => false) = true then
          (match objs[n]? with | some (.row _ _ _ l) => (.row n l, next) | _ => (.top, next)) else (.top, next)
      | _ => genV base next vs
    let q : SV × Nat := if q.1.sc objs.length = true then q else (.top, q.2)
    let (l, n2) := genE base objs L q.2 r
    match q.1 with
    | .top => (l, n2)
    | v => ((t, v) :: l, n2)
def fixC (objs : List SO) : SV → SV
  | .row n (.c .top) => match objs[n]? with | some (.row _ _ _ l) => .row n l | _ => .top
  | v => v
def fixO (objs : List SO) : SO → SO
  | .box e cs => .box e (cs.map (fixC objs))
  | o => o
def gen (base : Nat) (L : List SS) : SS :=
  match L with
  | [] => default
  | s :: _ =>
    let (objs0, n1) := genOs L base base ((List.range (minLen L)).map fun k => L.map fun s => s.objs.getD k .dead)
    let objs := objs0.map (fixO objs0)
    let (env, n2) := genE base objs L n1 (s.env.map (·.1))
    ⟨env, objs, n2, s.kn.filter fun p => decide (p.1 < base)⟩

/-- slots (and cells of boxes) that are nil here, and rows in another state -/
def convEnv (s : SS) (t : SS) : Option (Nat × Nat × Nat) :=
  s.env.findSome? fun p => match p.2 with
    | .d (.c .nils) => match lk t.env p.1 with
      | .row n l => match cur t n l with
        | some (_, e, m) => some (p.1, e, m)
        | none => none
      | _ => none
    | _ => none
def convCell (t : SS) (k : Nat) : Nat → List SV → Option (Nat × Nat × Nat × Nat)
  | _, [] => none
  | j, v :: r => match v with
    | .d (.c .nils) => match boxOf t k with
      | some (_, ds) => match ds.getD j .top with
        | .row n l => match cur t n l with
          | some (_, e, m) => some (k, j, e, m)
          | none => convCell t k (j + 1) r
        | _ => convCell t k (j + 1) r
      | none => none
    | _ => convCell t k (j + 1) r
def convObjs (t : SS) : Nat → List SO → Option (Nat × Nat × Nat × Nat)
  | _, [] => none
  | k, o :: r => match o with
    | .box _ cs => match convCell t k 0 cs with
      | some q => some q
      | none => convObjs t (k + 1) r
    | _ => convObjs t (k + 1) r
/-- a cell's nil slice becomes a row -/
def nilCell (s : SS) (k j t m : Nat) : SS :=
  match boxOf s k with
  | some (e, cs) => { s with objs := s.objs.set k (.box e (cs.set j (.row s.objs.length (.c (.sl []))))) ++ [.row true t m (.c (.sl []))] }
  | none => s
inductive Conv where
  | slot (k t m : Nat)
  | cell (k j t m : Nat)
  | fbx (n : Nat)
  | frow (n : Nat)
/-- boxes and rows that are plain at another end -/
def convFrz (s : SS) (t : SS) : Option Conv :=
  s.env.findSome? fun p => match p.2 with
    | .ptr n _ => match lk t.env p.1 with
      | .ip _ _ => some (.fbx n)
      | _ => none
    | .row n l => match lk t.env p.1 with
      | .d _ => if (cur s n l).isSome = true then some (.frow n) else none
      | _ => none
    | _ => none
def convOf (s : SS) (L : List SS) : Option Conv :=
  match L.findSome? (convEnv s) with
  | some (k, t, m) => some (.slot k t m)
  | none => match L.findSome? (fun t => convObjs t 0 s.objs) with
    | some (k, j, t, m) => some (.cell k j t m)
    | none => L.findSome? (convFrz s)
def Conv.run (s : SS) : Conv → SS
  | .slot k t m => match lk s.env k with
    | .d (.c .nils) => nilRow s t m k
    | _ => s
  | .cell k j t m => match boxOf s k with
    | some (_, cs) => match cs[j]? with
      | some (.d (.c .nils)) => nilCell s k j t m
      | _ => s
    | none => s
  | .fbx n => match boxOf s n with
    | some (_, cs) => frzBox (cs.foldl frzOf s) n
    | none => s
  | .frow n => frzRow s n

def normals (t : T) : List SS := t.leaves.filterMap fun p => match p.1 with | .normal => some p.2 | _ => none

def sameSS (a b : SS) : Bool :=
  decide (a.nv = b.nv) && decide (a.env.length = b.env.length) && decide (a.objs.length = b.objs.length) &&
  ((a.env.zip b.env).all fun p => decide (p.1.1 = p.2.1) && p.1.2.beq p.2.2) && ((a.objs.zip b.objs).all fun p => p.1.beq p.2)

def keepS (live : List Nat) (s : SS) : SS := { s with env := live.filterMap fun t => match lk s.env t with | .top => none | v => some (t, v) }

/-- a loop's head: ends of the body are looked at until nothing new changes -/
def headOf (body : SS → Option T) : Nat → SS → SS → Option (SS × SS × T)
  | 0, _, _ => none
  | n + 1, s, h => match body h with
    | none => none
    | some t =>
      match convOf s (normals t) with
      | some c => if sameSS (c.run s) s = true then none else headOf body n (c.run s) (c.run s)
      | none =>
        if sameSS h (gen s.nv (s :: normals t)) = true then some (s, h, t) else headOf body n s (gen s.nv (s :: normals t))

def ACode.isWeak : ACode → Bool
  | .weak _ => true
  | _ => false
def ACode.isCond : ACode → Bool
  | .cond _ _ _ => true
  | _ => false
/-- slots that are nil ahead and rows at some of several ends become rows ahead -/
def convLoop (body : SS → Option T) : Nat → SS → Option (SS × T)
  | 0, _ => none
  | n + 1, s => match body s with
    | none => none
    | some t =>
      if 2 ≤ (normals t).length then
        match convOf s (normals t) with
        | some c => convLoop body n (c.run s)
        | none => some (s, t)
      else some (s, t)

def xC (fl : List Nat) : ACode → SS → Option T
  | .skip, s => some (.leaf .normal s)
  | .region _ ops, s => xOps fl false ops s
  | .regionW ops, s => xOps fl true ops s
  | .seq a b, s => match xC fl a s with
    | none => none
    | some t0 =>
      let L := normals t0
      if b.isWeak = true ∧ ((t0.joins = true ∧ 1 ≤ L.length) ∨ 2 ≤ L.length) then
        let h := gen s.nv L
        match t0.fill (fun x s' => match x with
          | .normal => (coerce s.nv s' h).map .jump
          | x => some (.esc (.leaf x s'))) 0, xC fl b h with
        | some t1, some t2 => some (.bind (h.nv - s.nv) t1 t2)
        | _, _ => none
      else t0.fill (fun x s' => match x with | .normal => xC fl b s' | x => some (.leaf x s')) 0
  | .cond c t f, s => match opd s c with
    | .d (.c (.v (.bool b))) => if b = true then xC fl t s else xC fl f s
    | .d c => match xC fl t s, xC fl f s with
      | some t1, some t2 => if s.cl = true then some (.ite c t1 t2) else none
      | _, _ => none
    | _ => none
  | .block id b, s => match xC fl b s with
    | none => none
    | some t => t.fill (fun x s' => match x with
      | .exit i => some (if i = id then .leaf .normal s' else .leaf (.exit i) s')
      | x => some (.leaf x s')) 0
  | .loop b, s => match headOf (xC fl b) 8 s s with
    | none => none
    | some (s1, h, t) => match coerce s1.nv s1 h with
      | some init => match t.fill (fun x s' => match x with
          | .normal => (coerce s1.nv s' h).map .jump
          | x => some (.esc (.leaf x s'))) 0 with
        | some t1 => some (.loop init t1)
        | none => none
      | none => none
  | .exit id, s => some (.leaf (.exit id) s)
  | .ret, s => some (.leaf .ret s)
  | .keep live c, s => match xC fl c s with
    | none => none
    | some t => t.fill (fun x s' => match x with
      | .normal => some (.leaf .normal (keepS live s'))
      | x => some (.leaf x s')) 0
  | .weak c, s => if c.isCond = true then (match convLoop (xC fl c) 6 s with
      | some q => some q.2
      | none => none) else xC fl c s

/- the code with weakenings wherever they may help -/
def ACode.weaken : ACode → ACode
  | .region none ops => .regionW ops
  | .seq a b => .seq a.weaken (.weak b.weaken)
  | .cond c t f => .weak (.cond c t.weaken f.weaken)
  | .block id b => .block id b.weaken
  | .loop b => .loop b.weaken
  | .keep l c => .keep l c.weaken
  | .weak c => .weak c.weaken
  | c => c

def resOf (s : SS) : ARes → Option SV
  | .tmp t => some (lk s.env t)
  | .cell t n => match lk s.env t with
    | .ptr k 0 => match boxOf s k with
      | some (_, cs) => match n with
        | none => none
        | some m => if cs.length = m ∧ m ≠ 1 then some (.agg cs) else none
      | none => none
    | _ => none
/-- a result: rows are not written any more -/
def finV (s : SS) : SV → Option D
  | .d x => some x
  | .row n l => if (cur s n l).isSome = true then some (.sl l) else none
  | _ => none
def finVs (s : SS) : List SV → Option (List D)
  | [] => some []
  | v :: r => match finV s v, finVs s r with
    | some d, some ds => some (d :: ds)
    | _, _ => none
def finR (s : SS) : SV → Option D
  | .agg cs => (finVs s cs).map .agg
  | v => finV s v
def finRs (s : SS) : List ARes → Option (List D)
  | [] => some []
  | r :: rs => match resOf s r with
    | some v => match finR s v, finRs s rs with
      | some d, some ds => some (d :: ds)
      | _, _ => none
    | none => none

end Go.Ab
