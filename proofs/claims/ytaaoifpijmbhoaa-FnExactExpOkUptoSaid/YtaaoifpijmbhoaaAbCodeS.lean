/-
  THE ABSTRACT WALK IS SOUND: regions without a drawn order, control, a function's contract.
-/
import Derived.Test.YtaaoifpijmbhoaaAbDraw3
import Derived.Deep.LoopGhost
set_option linter.unusedVariables false
set_option linter.unusedSimpArgs false
set_option linter.defProp false
namespace Go.Ab

structure Sat (I0 : Imm) (L0 : Nat → Loc) (O0 : List AObj) (w0 : World) (nt : Nat) (e : Env) (O : List AObj) (a : Act) (w : World) (I : Imm) (L : Nat → Loc) : Prop where
  good : Good I0 L0 O0 w0 I L O w
  env : ∀ t, R I L O (e t) (a.tmps.getD t undef)
  size : nt ≤ a.tmps.size
  defers : a.defers = []

section
variable {P : Program} {I0 : Imm} {L0 : Nat → Loc} {O0 : List AObj} {w0 : World} {nt : Nat}

theorem getD_set (tmps : Array Value) (d : Nat) (v : Value) (hd : d < tmps.size) (t : Nat) : (tmps.setIfInBounds d v).getD t undef = if t = d then v else tmps.getD t undef := by
  simp only [Array.getD_eq_getD_getElem?, Array.getElem?_setIfInBounds]
  by_cases h : d = t
  · subst h; simp [hd]
  · rw [if_neg h, if_neg (fun k => h k.symm)]

theorem Sat.put {e : Env} {O O' : List AObj} {a : Act} {w w' : World} {I I' : Imm} {L L' : Nat → Loc} (h : Sat I0 L0 O0 w0 nt e O a w I L) {d : Option Nat} (hd : d.all (· < nt) = true) {x : AV} {y : Value}
    (hg : Good I L O w I' L' O' w') (hr : R I' L' O' x y) : Sat I0 L0 O0 w0 nt (setD e d x) O' (a.put d y) w' I' L' := by
  refine ⟨h.good.trans hg, fun t => ?_, ?_, ?_⟩
  · cases d with
    | none => exact (h.env t).mono hg.ext
    | some d =>
      have hlt : d < a.tmps.size := by have := h.size; simp at hd; omega
      simp only [setD, Env.set, Act.put]
      rw [getD_set _ _ _ hlt]
      split
      · exact hr
      · exact (h.env t).mono hg.ext
  · cases d <;> simp [Act.put]; exact h.size; exact h.size
  · cases d <;> simp [Act.put]; exact h.defers; exact h.defers

theorem Sat.env_eq {e e' : Env} {O : List AObj} {a : Act} {w : World} {I : Imm} {L : Nat → Loc} (h : Sat I0 L0 O0 w0 nt e O a w I L) (he : ∀ t, R I L O (e' t) (a.tmps.getD t undef)) : Sat I0 L0 O0 w0 nt e' O a w I L :=
  ⟨h.good, he, h.size, h.defers⟩

theorem ops_sound {ops : Array Oper} {K : Env → List AObj → Prop} {Q : Exit → Act → World → Prop} (hq : ∀ e O a w I L, K e O → Sat I0 L0 O0 w0 nt e O a w I L → Q .normal a w) :
    ∀ (l : List Oper) (al : List AOper), l.mapM (cOper P nt ops) = some (al.map AOper.strip) → ∀ e O a w I L, wpOps P al e O K → Sat I0 L0 O0 w0 nt e O a w I L → wpList P ops Q l a w
  | [], al, h, e, O, a, w, I, L, hk, hs => by
    simp at h; subst h
    exact hq _ _ _ _ _ _ hk hs
  | o :: l, al, h, e, O, a, w, I, L, hk, hs => by
    simp only [List.mapM_cons, Option.bind_eq_bind, Option.pure_def, Option.bind_eq_some_iff, Option.some.injEq] at h
    obtain ⟨b, hb, bs, hbs, h⟩ := h
    cases al with
    | nil => simp at h
    | cons ao al =>
      simp only [List.map_cons, List.cons.injEq] at h
      obtain ⟨rfl, rfl⟩ := h
      have ih := ops_sound hq l al hbs
      unfold cOper at hb
      split at hb
      case h_2 => cases hb
      case h_1 op g hop hg =>
        split at hb
        case isFalse => cases hb
        case isTrue hd =>
          simp only [Option.some.injEq, AOper.strip, AOper.mk.injEq] at hb
          obtain ⟨hgu, hdst, hopp⟩ := hb
          subst hopp
          rw [hdst] at hd
          have step : ∀ e1 I1 L1, Sat I0 L0 O0 w0 nt e1 O a w I1 L1 → (wpOp P ao.op e1 O fun x O' => wpOps P al (setD e1 ao.dst x) O' K) → o.wp P a w (wpList P ops Q l) Q := by
            intro e1 I1 L1 hs1 hk1
            refine op_sound hop hs1.good.inv hs1.env hk1 fun x O' y I' L' w' hk' hg' hr' => ?_
            rw [hdst]
            exact ih _ _ _ _ _ _ hk' (hs1.put hd hg' hr')
          have skip : ∀ e1 I1 L1, Sat I0 L0 O0 w0 nt e1 O a w I1 L1 → wpOps P al (setD e1 ao.dst (.tup [])) O K → wpList P ops Q l (a.put o.dst undef) w := by
            intro e1 I1 L1 hs1 hk1
            rw [hdst]
            exact ih _ _ _ _ _ _ hk1 (hs1.put hd (.refl hs1.good.inv) (.tup [] #[] rfl (by simp)))
          simp only [wpOps] at hk
          unfold wpList
          cases hog : o.guard with
          | none =>
            rw [hog] at hg
            simp only [cGuard, Option.some.injEq] at hg
            subst hg
            rw [← hgu] at hk
            rw [if_pos (by simp [Region.wanted, hog])]
            exact .inl (step _ _ _ hs hk)
          | some jb =>
            obtain ⟨j, want⟩ := jb
            rw [hog] at hg
            simp only [cGuard] at hg
            split at hg
            case h_2 => cases hg
            case h_1 t ht =>
              split at hg
              case isFalse => cases hg
              case isTrue htn =>
                simp only [Option.some.injEq] at hg
                subst hg
                rw [← hgu] at hk
                simp only at hk
                have hlt : t < a.tmps.size := Nat.lt_of_lt_of_le htn hs.size
                have hget : a.tmps[t]? = some (a.tmps.getD t undef) := by simp [Array.getD, hlt]
                have hr := hs.env t
                have hw : Region.wanted o (yielded ops a.tmps) = (yielded ops a.tmps j == some want) := by simp [Region.wanted, hog]
                have hy : yielded ops a.tmps j = match some (a.tmps.getD t undef) with | some (.bool b) => some b | _ => none := by
                  unfold yielded
                  rw [ht]
                  simp only [Option.bind_some]
                  rw [hget]
                  cases a.tmps.getD t undef <;> rfl
                split at hk
                · rename_i b hb
                  rw [hb] at hr
                  have hv := hr.bool
                  rw [hv] at hy
                  simp only at hy
                  rw [hw, hy]
                  have hset : ∀ c, b = c → Sat I0 L0 O0 w0 nt (e.set t (.v (.bool c))) O a w I L := by
                    intro c hc
                    refine hs.env_eq fun t' => ?_
                    unfold Env.set
                    split
                    · rename_i htt; subst htt; rw [hv, hc]; exact .v _ rfl
                    · exact hs.env t'
                  by_cases hbw : b = want
                  · rw [if_pos (by simp [hbw])]
                    exact .inl (step _ _ _ (hset want hbw) (hk.1 hbw))
                  · rw [if_neg (by simpa using hbw)]
                    have hbn : b = !want := by cases b <;> cases want <;> simp_all
                    exact skip _ _ _ (hset (!want) hbn) (hk.2 hbn)
                · rename_i hb
                  rw [hb] at hr
                  have hv : a.tmps.getD t undef = .tuple #[] := by
                    generalize a.tmps.getD t undef = X at hr
                    cases hr with
                    | tup _ vs h1 _ => congr 1; exact Array.eq_empty_of_size_eq_zero h1.symm
                  rw [hv] at hy
                  simp only at hy
                  rw [hw, hy, if_neg (by simp)]
                  exact skip _ _ _ hs hk
                · exact hk.elim


def AX.to : AX → Exit
  | .normal => .normal
  | .exit id => .exit id
  | .ret => .ret

theorem keepE_R {I : Imm} {L : Nat → Loc} {O : List AObj} {e : Env} {f : Nat → Value} (h : ∀ t, R I L O (e t) (f t)) (live : List Nat) : ∀ t, R I L O (keepE live e t) (f t) := by
  intro t
  unfold keepE
  split
  · exact h t
  · exact .top _

theorem Sat.wk {e e' : Env} {O O' : List AObj} {a : Act} {w : World} {I : Imm} {L : Nat → Loc} (h : Sat I0 L0 O0 w0 nt e O a w I L) (hw : WK O0.length e O e' O') : ∃ I' L', Sat I0 L0 O0 w0 nt e' O' a w I' L' := by
  obtain ⟨I', L', hg, hr⟩ := hw I0 L0 O0 w0 I L w _ rfl h.good h.env
  exact ⟨I', L', hg, hr, h.size, h.defers⟩

theorem opsW_sound {ops : Array Oper} {K : Env → List AObj → Prop} {Q : Exit → Act → World → Prop} (hq : ∀ e O a w I L, K e O → Sat I0 L0 O0 w0 nt e O a w I L → Q .normal a w) :
    ∀ (l : List Oper) (al : List AOper), l.mapM (cOper P nt ops) = some (al.map AOper.strip) → ∀ e O a w I L, wpOpsW P O0.length al e O K → Sat I0 L0 O0 w0 nt e O a w I L → wpList P ops Q l a w
  | [], al, h, e, O, a, w, I, L, hk, hs => by
    simp at h; subst h
    obtain ⟨e', O', hw, hk⟩ := hk
    obtain ⟨I', L', hs'⟩ := hs.wk hw
    exact hq _ _ _ _ _ _ hk hs'
  | o :: l, al, h, e00, O00, a, w, I00, L00, hk, hs00 => by
    simp only [List.mapM_cons, Option.bind_eq_bind, Option.pure_def, Option.bind_eq_some_iff, Option.some.injEq] at h
    obtain ⟨b, hb, bs, hbs, h⟩ := h
    cases al with
    | nil => simp at h
    | cons ao al =>
      simp only [List.map_cons, List.cons.injEq] at h
      obtain ⟨rfl, rfl⟩ := h
      simp only [wpOpsW] at hk
      obtain ⟨e, O, hwk, hk⟩ := hk
      obtain ⟨I, L, hs⟩ := hs00.wk hwk
      have ih := opsW_sound hq l al hbs
      unfold cOper at hb
      split at hb
      case h_2 => cases hb
      case h_1 op g hop hg =>
        split at hb
        case isFalse => cases hb
        case isTrue hd =>
          simp only [Option.some.injEq, AOper.strip, AOper.mk.injEq] at hb
          obtain ⟨hgu, hdst, hopp⟩ := hb
          subst hopp
          rw [hdst] at hd
          have step : ∀ e1 I1 L1, Sat I0 L0 O0 w0 nt e1 O a w I1 L1 → (wpOp P ao.op e1 O fun x O' => wpOpsW P O0.length al (setD e1 ao.dst x) O' K) → o.wp P a w (wpList P ops Q l) Q := by
            intro e1 I1 L1 hs1 hk1
            refine op_sound hop hs1.good.inv hs1.env hk1 fun x O' y I' L' w' hk' hg' hr' => ?_
            rw [hdst]
            exact ih _ _ _ _ _ _ hk' (hs1.put hd hg' hr')
          have skip : ∀ e1 I1 L1, Sat I0 L0 O0 w0 nt e1 O a w I1 L1 → wpOpsW P O0.length al (setD e1 ao.dst (.tup [])) O K → wpList P ops Q l (a.put o.dst undef) w := by
            intro e1 I1 L1 hs1 hk1
            rw [hdst]
            exact ih _ _ _ _ _ _ hk1 (hs1.put hd (.refl hs1.good.inv) (.tup [] #[] rfl (by simp)))
          unfold wpList
          cases hog : o.guard with
          | none =>
            rw [hog] at hg
            simp only [cGuard, Option.some.injEq] at hg
            subst hg
            rw [← hgu] at hk
            rw [if_pos (by simp [Region.wanted, hog])]
            exact .inl (step _ _ _ hs hk)
          | some jb =>
            obtain ⟨j, want⟩ := jb
            rw [hog] at hg
            simp only [cGuard] at hg
            split at hg
            case h_2 => cases hg
            case h_1 t ht =>
              split at hg
              case isFalse => cases hg
              case isTrue htn =>
                simp only [Option.some.injEq] at hg
                subst hg
                rw [← hgu] at hk
                simp only at hk
                have hlt : t < a.tmps.size := Nat.lt_of_lt_of_le htn hs.size
                have hget : a.tmps[t]? = some (a.tmps.getD t undef) := by simp [Array.getD, hlt]
                have hr := hs.env t
                have hw : Region.wanted o (yielded ops a.tmps) = (yielded ops a.tmps j == some want) := by simp [Region.wanted, hog]
                have hy : yielded ops a.tmps j = match some (a.tmps.getD t undef) with | some (.bool b) => some b | _ => none := by
                  unfold yielded
                  rw [ht]
                  simp only [Option.bind_some]
                  rw [hget]
                  cases a.tmps.getD t undef <;> rfl
                split at hk
                · rename_i b hb
                  rw [hb] at hr
                  have hv := hr.bool
                  rw [hv] at hy
                  simp only at hy
                  rw [hw, hy]
                  have hset : ∀ c, b = c → Sat I0 L0 O0 w0 nt (e.set t (.v (.bool c))) O a w I L := by
                    intro c hc
                    refine hs.env_eq fun t' => ?_
                    unfold Env.set
                    split
                    · rename_i htt; subst htt; rw [hv, hc]; exact .v _ rfl
                    · exact hs.env t'
                  by_cases hbw : b = want
                  · rw [if_pos (by simp [hbw])]
                    exact .inl (step _ _ _ (hset want hbw) (hk.1 hbw))
                  · rw [if_neg (by simpa using hbw)]
                    have hbn : b = !want := by cases b <;> cases want <;> simp_all
                    exact skip _ _ _ (hset (!want) hbn) (hk.2 hbn)
                · rename_i hb
                  rw [hb] at hr
                  have hv : a.tmps.getD t undef = .tuple #[] := by
                    generalize a.tmps.getD t undef = X at hr
                    cases hr with
                    | tup _ vs h1 _ => congr 1; exact Array.eq_empty_of_size_eq_zero h1.symm
                  rw [hv] at hy
                  simp only at hy
                  rw [hw, hy, if_neg (by simp)]
                  exact skip _ _ _ hs hk
                · exact hk.elim


/-- every drawn region's order does not matter -/
def ACode.drawsOk : ACode → Bool
  | .region (some rows) ops => drawOk rows ops
  | .seq a b => a.drawsOk && b.drawsOk
  | .cond _ t f => t.drawsOk && f.drawsOk
  | .block _ b => b.drawsOk
  | .loop b => b.drawsOk
  | .keep _ c => c.drawsOk
  | .weak c => c.drawsOk
  | _ => true

theorem Sat.drawn {e : Env} {O : List AObj} {a : Act} {w : World} {I : Imm} {L : Nat → Loc} (h : Sat I0 L0 O0 w0 nt e O a w I L) (k : Nat) : Sat I0 L0 O0 w0 nt e O a { w with drawn := k } I L :=
  ⟨h.good.trans (Good.drawn h.good.inv k), h.env, h.size, h.defers⟩

/-- one operation that is carried out or left out -/
theorem step_sound {ops : Array Oper} {o : Oper} {ao : AOper} (hb : cOper P nt ops o = some ao.strip) {e e' : Env} {O O' : List AObj} (hst : Step P ao e O e' O') {a : Act} {w : World} {I : Imm} {L : Nat → Loc} (hs : Sat I0 L0 O0 w0 nt e O a w I L)
    {next : Act → World → Prop} {Q : Exit → Act → World → Prop} (hn : ∀ a w I L, Sat I0 L0 O0 w0 nt e' O' a w I L → next a w) :
    if Region.wanted o (yielded ops a.tmps) = true then o.wp P a w next Q else next (a.put o.dst undef) w := by
  unfold cOper at hb
  split at hb
  case h_2 => cases hb
  case h_1 op g hop hg =>
    split at hb
    case isFalse => cases hb
    case isTrue hd =>
      simp only [Option.some.injEq, AOper.strip, AOper.mk.injEq] at hb
      obtain ⟨hgu, hdst, hopp⟩ := hb
      subst hopp
      rw [hdst] at hd
      have hguard : ∀ t want, ao.guard = some (t, want) → ∃ j, o.guard = some (j, want) ∧ ((ops[j]?).bind (·.dst)) = some t ∧ t < nt := by
        intro t want h
        rw [h] at hgu
        subst hgu
        cases hog : o.guard with
        | none => rw [hog] at hg; simp [cGuard] at hg
        | some jb =>
          obtain ⟨j, b⟩ := jb
          rw [hog] at hg
          simp only [cGuard] at hg
          split at hg
          case h_2 => cases hg
          case h_1 t' ht' =>
            split at hg
            case isFalse => cases hg
            case isTrue htn =>
              simp only [Option.some.injEq, Prod.mk.injEq] at hg
              obtain ⟨rfl, rfl⟩ := hg
              exact ⟨j, rfl, ht', htn⟩
      have hyield : ∀ {j t}, ((ops[j]?).bind (·.dst)) = some t → t < nt → yielded ops a.tmps j = match some (a.tmps.getD t undef) with | some (.bool b) => some b | _ => none := by
        intro j t ht htn
        have hlt : t < a.tmps.size := Nat.lt_of_lt_of_le htn hs.size
        have hget : a.tmps[t]? = some (a.tmps.getD t undef) := by simp [Array.getD, hlt]
        unfold yielded
        rw [ht]
        simp only [Option.bind_some]
        rw [hget]
        cases a.tmps.getD t undef <;> rfl
      cases hst with
      | run x _ hq hx =>
        have hw : Region.wanted o (yielded ops a.tmps) = true := by
          cases hag : ao.guard with
          | none =>
            have : o.guard = none := by
              rw [hag] at hgu; subst hgu
              cases hog : o.guard with
              | none => rfl
              | some jb =>
                obtain ⟨j, b⟩ := jb
                rw [hog] at hg
                simp only [cGuard] at hg
                split at hg
                · split at hg <;> simp at hg
                · cases hg
            simp [Region.wanted, this]
          | some tw =>
            obtain ⟨t, want⟩ := tw
            obtain ⟨j, h1, h2, h3⟩ := hguard t want hag
            have hr := hs.env t
            rw [hq t want hag] at hr
            have hy := hyield h2 h3
            rw [hr.bool] at hy
            simp only at hy
            simp [Region.wanted, h1, hy]
        rw [if_pos hw]
        refine op_sound hop hs.good.inv hs.env (hx (fun x' O'' => x' = x ∧ O'' = O') ⟨rfl, rfl⟩) fun x' O'' y I' L' w' hk' hg' hr' => ?_
        obtain ⟨rfl, rfl⟩ := hk'
        rw [hdst]
        exact hn _ _ _ _ (hs.put hd hg' hr')
      | skip t want hgt hb =>
        obtain ⟨j, h1, h2, h3⟩ := hguard t want hgt
        have hr := hs.env t
        have hy := hyield h2 h3
        have hw : Region.wanted o (yielded ops a.tmps) = false := by
          rcases hb with hb | hb
          · rw [hb] at hr
            rw [hr.bool] at hy
            simp only at hy
            simp [Region.wanted, h1, hy]
          · rw [hb] at hr
            have hv : a.tmps.getD t undef = .tuple #[] := by
              generalize a.tmps.getD t undef = X at hr
              cases hr with
              | tup _ vs h1 _ => congr 1; exact Array.eq_empty_of_size_eq_zero h1.symm
            rw [hv] at hy
            simp only at hy
            simp [Region.wanted, h1, hy]
        rw [if_neg (by simp [hw])]
        rw [hdst]
        exact hn _ _ _ _ (hs.put hd (.refl hs.good.inv) (.tup [] #[] rfl (by simp)))

theorem run_sound {ops : Array Oper} {al : List AOper} (hm : ops.toList.mapM (cOper P nt ops) = some (al.map AOper.strip)) (hlen : al.length = ops.size) {e2 : Env} {O2 : List AObj} {Q : Exit → Act → World → Prop}
    (hq : ∀ a w I L, Sat I0 L0 O0 w0 nt e2 O2 a w I L → Q .normal a w) :
    ∀ (l : List Nat), (∀ i ∈ l, i < ops.size) → ∀ e O a w I L, Run P (l.map fun i => al.getD i ⟨none, none, .mov (.c .top)⟩) e O e2 O2 → Sat I0 L0 O0 w0 nt e O a w I L → Go.wpOps P ops Q l a w
  | [], _, e, O, a, w, I, L, hr, hs => by
    cases hr
    exact hq _ _ _ _ hs
  | i :: l, hl, e, O, a, w, I, L, hr, hs => by
    cases hr with
    | cons hst hr =>
      have hi := hl i (by simp)
      have ho : ops[i]? = some ops[i] := by simp [hi]
      have ha : al[i]? = some (al.getD i ⟨none, none, .mov (.c .top)⟩) := by simp [List.getD, show i < al.length by omega]
      have hc := (mapM_some hm).2 i ops[i] ((al.getD i ⟨none, none, .mov (.c .top)⟩).strip) (by simp) (by rw [List.getElem?_map, ha]; rfl)
      have := step_sound (Q := Q) hc hst hs (next := Go.wpOps P ops Q l) fun a w I L hs' => run_sound hm hlen hq l (fun j hj => hl j (by simp [hj])) _ _ a w I L hr hs'
      simp only [Go.wpOps, ho]
      split
      · rename_i hw; rw [if_pos hw] at this; exact .inl this
      · rename_i hw; rw [if_neg hw] at this; exact this

theorem cCode_cases {code : Code} {c : ACode} (h : cCode P nt code = some c) :
    (code = .skip ∧ c = .skip) ∨ (∃ id ops draw rows aops, code = .region id ops draw ∧ c = .region rows aops ∧ ops.toList.mapM (cOper P nt ops) = some aops ∧ ((draw = false ∧ rows = none) ∨ (draw = true ∧ rows = some (rowsOf ops) ∧ (Region.departs ops = false ∨ P.follows .mixedOrders = true)))) ∨
    (∃ x y ax ay, code = .seq x y ∧ c = .seq ax ay ∧ cCode P nt x = some ax ∧ cCode P nt y = some ay) ∨
    (∃ o x y ao ax ay, code = .cond o x y ∧ c = .cond ao ax ay ∧ cOpd o = some ao ∧ cCode P nt x = some ax ∧ cCode P nt y = some ay) ∨
    (∃ id b ab, code = .block id b ∧ c = .block id ab ∧ cCode P nt b = some ab) ∨ (∃ b ab, code = .loop b ∧ c = .loop ab ∧ cCode P nt b = some ab) ∨
    (∃ id, code = .exit id ∧ c = .exit id) ∨ (code = .ret ∧ c = .ret) := by
  cases code with
  | skip => simp only [cCode, Option.some.injEq] at h; exact .inl ⟨rfl, h.symm⟩
  | region id ops draw =>
    cases draw
    · simp only [cCode, Option.map_eq_some_iff] at h
      obtain ⟨aops, h1, h2⟩ := h
      exact .inr (.inl ⟨id, ops, false, _, aops, rfl, h2.symm, h1, .inl ⟨rfl, rfl⟩⟩)
    · simp only [cCode] at h
      split at h
      · cases h
      · rename_i hd
        simp only [Option.map_eq_some_iff] at h
        obtain ⟨aops, h1, h2⟩ := h
        exact .inr (.inl ⟨id, ops, true, _, aops, rfl, h2.symm, h1, .inr ⟨rfl, rfl, by
          by_cases h : Region.departs ops = true
          · exact .inr (by simpa [h] using hd)
          · exact .inl (by simpa using h)⟩⟩)
  | seq x y =>
    simp only [cCode] at h
    split at h
    · rename_i ax ay h1 h2
      simp only [Option.some.injEq] at h
      exact .inr (.inr (.inl ⟨x, y, ax, ay, rfl, h.symm, h1, h2⟩))
    · cases h
  | cond o x y =>
    simp only [cCode] at h
    split at h
    · rename_i ao ax ay h0 h1 h2
      simp only [Option.some.injEq] at h
      exact .inr (.inr (.inr (.inl ⟨o, x, y, ao, ax, ay, rfl, h.symm, h0, h1, h2⟩)))
    · cases h
  | block id b =>
    simp only [cCode, Option.map_eq_some_iff] at h
    obtain ⟨ab, h1, h2⟩ := h
    exact .inr (.inr (.inr (.inr (.inl ⟨id, b, ab, rfl, h2.symm, h1⟩))))
  | loop b =>
    simp only [cCode, Option.map_eq_some_iff] at h
    obtain ⟨ab, h1, h2⟩ := h
    exact .inr (.inr (.inr (.inr (.inr (.inl ⟨b, ab, rfl, h2.symm, h1⟩)))))
  | exit id => simp only [cCode, Option.some.injEq] at h; exact .inr (.inr (.inr (.inr (.inr (.inr (.inl ⟨id, rfl, h.symm⟩))))))
  | ret => simp only [cCode, Option.some.injEq] at h; exact .inr (.inr (.inr (.inr (.inr (.inr (.inr ⟨rfl, h.symm⟩))))))
  | _ => simp [cCode] at h

theorem code_sound (c : ACode) : ∀ (code : Code), cCode P nt code = some c.strip → c.drawsOk = true → ∀ (Q : AX → Env → List AObj → Prop) (QM : Exit → Act → World → Prop),
    (∀ x e O a w I L, Q x e O → Sat I0 L0 O0 w0 nt e O a w I L → QM x.to a w) → ∀ e O a w I L, wpC P O0.length c Q e O → Sat I0 L0 O0 w0 nt e O a w I L → code.wp P QM a w := by
  induction c with
  | skip =>
    intro code hc hok Q QM hq e O a w I L hk hs
    rcases cCode_cases hc with ⟨rfl, h⟩ | ⟨_, _, _, _, _, _, h, _⟩ | ⟨_, _, _, _, _, h, _⟩ | ⟨_, _, _, _, _, _, _, h, _⟩ | ⟨_, _, _, _, h, _⟩ | ⟨_, _, _, h, _⟩ | ⟨_, _, h⟩ | ⟨_, h⟩ <;> simp only [ACode.strip] at h <;> first | (cases h; done) | skip
    exact wp_skip (hq .normal _ _ _ _ _ _ hk hs)
  | region d ops =>
    intro code hc hok Q QM hq e O a w I L hk hs
    rcases cCode_cases hc with ⟨_, h⟩ | ⟨id, mops, draw, rows, aops, rfl, h, hm, hdr⟩ | ⟨_, _, _, _, _, h, _⟩ | ⟨_, _, _, _, _, _, _, h, _⟩ | ⟨_, _, _, _, h, _⟩ | ⟨_, _, _, h, _⟩ | ⟨_, _, h⟩ | ⟨_, h⟩ <;> simp only [ACode.strip] at h <;> first | (cases h; done) | skip
    simp only [ACode.region.injEq] at h
    obtain ⟨rfl, rfl⟩ := h
    rcases hdr with ⟨rfl, rfl⟩ | ⟨rfl, rfl, hdep⟩
    case inr =>
      obtain ⟨e2, O2, hrun, hK⟩ := run_of_wp ops hk
      refine wp_region_draw fun t => ?_
      have hlen : ops.length = mops.size := by have := (mapM_some hm).1; simpa using this
      obtain ⟨h1, h2⟩ := schedule_run hdep hlen hok hrun t
      exact run_sound hm hlen (fun a w I L hs => hq .normal _ _ _ _ _ _ hK hs) _ h2 e O a _ I L h1 (hs.drawn _)
    exact wp_region_list (ops_sound (fun e O a w I L h hs => hq .normal e O a w I L h hs) mops.toList ops hm e O a w I L hk hs)
  | seq x y ihx ihy =>
    intro code hc hok Q QM hq e O a w I L hk hs
    rcases cCode_cases hc with ⟨_, h⟩ | ⟨_, _, _, _, _, _, h, _⟩ | ⟨cx, cy, ax, ay, rfl, h, hx, hy⟩ | ⟨_, _, _, _, _, _, _, h, _⟩ | ⟨_, _, _, _, h, _⟩ | ⟨_, _, _, h, _⟩ | ⟨_, _, h⟩ | ⟨_, h⟩ <;> simp only [ACode.strip] at h <;> first | (cases h; done) | skip
    simp only [ACode.seq.injEq] at h
    obtain ⟨rfl, rfl⟩ := h
    simp only [ACode.drawsOk, Bool.and_eq_true] at hok
    refine wp_seq (ihx cx hx hok.1 _ _ ?_ e O a w I L hk hs)
    intro z e O a w I L hz hs
    cases z
    case normal => exact ihy cy hy hok.2 Q QM hq e O a w I L hz hs
    case exit id => exact hq (.exit id) _ _ _ _ _ _ hz hs
    case ret => exact hq .ret _ _ _ _ _ _ hz hs
  | cond c t f iht ihf =>
    intro code hc hok Q QM hq e O a w I L hk hs
    rcases cCode_cases hc with ⟨_, h⟩ | ⟨_, _, _, _, _, _, h, _⟩ | ⟨_, _, _, _, _, h, _⟩ | ⟨o, x, y, ao, ax, ay, rfl, h, h0, h1, h2⟩ | ⟨_, _, _, _, h, _⟩ | ⟨_, _, _, h, _⟩ | ⟨_, _, h⟩ | ⟨_, h⟩ <;> simp only [ACode.strip] at h <;> first | (cases h; done) | skip
    simp only [ACode.cond.injEq] at h
    obtain ⟨rfl, rfl, rfl⟩ := h
    have rc := cOpd_sound h0 hs.env
    simp only [ACode.drawsOk, Bool.and_eq_true] at hok
    simp only [wpC] at hk
    split at hk
    · rename_i b hb
      rw [hb] at rc
      refine wp_cond (t := b) rc.bool ?_
      cases b
      · exact ihf y h2 hok.2 Q QM hq e O a w I L (hk.2 rfl) hs
      · exact iht x h1 hok.1 Q QM hq e O a w I L (hk.1 rfl) hs
    · exact hk.elim
  | block id b ih =>
    intro code hc hok Q QM hq e O a w I L hk hs
    rcases cCode_cases hc with ⟨_, h⟩ | ⟨_, _, _, _, _, _, h, _⟩ | ⟨_, _, _, _, _, h, _⟩ | ⟨_, _, _, _, _, _, _, h, _⟩ | ⟨id', cb, ab, rfl, h, hb⟩ | ⟨_, _, _, h, _⟩ | ⟨_, _, h⟩ | ⟨_, h⟩ <;> simp only [ACode.strip] at h <;> first | (cases h; done) | skip
    simp only [ACode.block.injEq] at h
    obtain ⟨rfl, rfl⟩ := h
    refine wp_block (ih cb hb hok _ _ ?_ e O a w I L hk hs)
    intro z e O a w I L hz hs
    cases z
    case normal => exact hq .normal _ _ _ _ _ _ hz hs
    case exit i =>
      simp only [AX.to, Exit.inBlock]
      simp only at hz
      by_cases hi : i = id
      · rw [if_pos hi] at hz ⊢; exact hq .normal _ _ _ _ _ _ hz hs
      · rw [if_neg hi] at hz ⊢; exact hq (.exit i) _ _ _ _ _ _ hz hs
    case ret => exact hq .ret _ _ _ _ _ _ hz hs
  | loop b ih =>
    intro code hc hok Q QM hq e O a w I L hk hs
    rcases cCode_cases hc with ⟨_, h⟩ | ⟨_, _, _, _, _, _, h, _⟩ | ⟨_, _, _, _, _, h, _⟩ | ⟨_, _, _, _, _, _, _, h, _⟩ | ⟨_, _, _, _, h, _⟩ | ⟨cb, ab, rfl, h, hb⟩ | ⟨_, _, h⟩ | ⟨_, h⟩ <;> simp only [ACode.strip] at h <;> first | (cases h; done) | skip
    simp only [ACode.loop.injEq] at h
    subst h
    obtain ⟨J, n, ⟨e', O', hw, hJ⟩, hround⟩ := hk
    obtain ⟨I', L', hs'⟩ := hs.wk hw
    refine wp_loop_ghost (fun m a w => ∃ e O I L, J m e O ∧ Sat I0 L0 O0 w0 nt e O a w I L) n ⟨e', O', I', L', hJ, hs'⟩ ?_
    rintro m a w ⟨e1, O1, I1, L1, hJ1, hs1⟩
    refine ih cb hb hok _ _ ?_ e1 O1 a w I1 L1 (hround m e1 O1 hJ1) hs1
    intro z e2 O2 a2 w2 I2 L2 hz hs2
    cases z
    case normal =>
      obtain ⟨m', e3, O3, hlt, hw3, hJ3⟩ := hz
      obtain ⟨I3, L3, hs3⟩ := hs2.wk hw3
      exact ⟨m', hlt, e3, O3, I3, L3, hJ3, hs3⟩
    case exit id => exact hq (.exit id) _ _ _ _ _ _ hz hs2
    case ret => exact hq .ret _ _ _ _ _ _ hz hs2
  | exit id =>
    intro code hc hok Q QM hq e O a w I L hk hs
    rcases cCode_cases hc with ⟨_, h⟩ | ⟨_, _, _, _, _, _, h, _⟩ | ⟨_, _, _, _, _, h, _⟩ | ⟨_, _, _, _, _, _, _, h, _⟩ | ⟨_, _, _, _, h, _⟩ | ⟨_, _, _, h, _⟩ | ⟨i, rfl, h⟩ | ⟨_, h⟩ <;> simp only [ACode.strip] at h <;> first | (cases h; done) | skip
    simp only [ACode.exit.injEq] at h
    subst h
    exact wp_exit (hq (.exit id) _ _ _ _ _ _ hk hs)
  | ret =>
    intro code hc hok Q QM hq e O a w I L hk hs
    rcases cCode_cases hc with ⟨_, h⟩ | ⟨_, _, _, _, _, _, h, _⟩ | ⟨_, _, _, _, _, h, _⟩ | ⟨_, _, _, _, _, _, _, h, _⟩ | ⟨_, _, _, _, h, _⟩ | ⟨_, _, _, h, _⟩ | ⟨_, _, h⟩ | ⟨rfl, h⟩ <;> simp only [ACode.strip] at h <;> first | (cases h; done) | skip
    exact wp_ret (hq .ret _ _ _ _ _ _ hk hs)
  | keep live c ih =>
    intro code hc hok Q QM hq e O a w I L hk hs
    refine ih code hc hok _ QM ?_ e O a w I L hk hs
    intro x e O a w I L hx hs
    cases x
    case normal => exact hq .normal _ _ _ _ _ _ hx (hs.env_eq (keepE_R hs.env live))
    all_goals exact hq _ _ _ _ _ _ _ hx hs
  | regionW ops =>
    intro code hc hok Q QM hq e O a w I L hk hs
    rcases cCode_cases hc with ⟨_, h⟩ | ⟨id, mops, draw, rows, aops, rfl, h, hm, hdr⟩ | ⟨_, _, _, _, _, h, _⟩ | ⟨_, _, _, _, _, _, _, h, _⟩ | ⟨_, _, _, _, h, _⟩ | ⟨_, _, _, h, _⟩ | ⟨_, _, h⟩ | ⟨_, h⟩ <;> simp only [ACode.strip] at h <;> first | (cases h; done) | skip
    simp only [ACode.region.injEq] at h
    obtain ⟨rfl, rfl⟩ := h
    rcases hdr with ⟨rfl, h0⟩ | ⟨rfl, h0, hdep⟩
    case inr => cases h0
    exact wp_region_list (opsW_sound (fun e O a w I L h hs => hq .normal e O a w I L h hs) mops.toList ops hm e O a w I L hk hs)
  | weak c ih =>
    intro code hc hok Q QM hq e O a w I L hk hs
    obtain ⟨e', O', hw, hk⟩ := hk
    obtain ⟨I', L', hs'⟩ := hs.wk hw
    exact ih code hc hok Q QM hq e' O' a w I' L' hk hs'


/-- one result -/
def getR (a : Act) (r : ResultVar) : Sem Value :=
  match r with
  | .tmp t => pure (a.tmps.getD t undef)
  | .cell b t => do loadVar t (← asAddr (a.tmps.getD b undef))

theorem resK_run {e : Env} {O : List AObj} {a : Act} {w : World} {I : Imm} {L : Nat → Loc} (hi : Inv I L O w) (he : ∀ t, R I L O (e t) (a.tmps.getD t undef)) :
    ∀ (l : List ResultVar) (al : List ARes) (acc : List AV) (M : List AV → Prop), l.mapM (cRes P) = some al → resK e O al acc M →
      ∃ xs vs, M (acc.reverse ++ xs) ∧ xs.length = vs.length ∧ (∀ (i : Nat) x v, xs[i]? = some x → vs[i]? = some v → R I L O x v) ∧
        (l.mapM (getR a)).run P w = .ok vs w
  | [], al, acc, M, h, hk => by
    simp at h; subst h
    exact ⟨[], [], by simpa [resK] using hk, rfl, by simp, by simp⟩
  | r :: l, al, acc, M, h, hk => by
    simp only [List.mapM_cons, Option.bind_eq_bind, Option.pure_def, Option.bind_eq_some_iff, Option.some.injEq] at h
    obtain ⟨b, hb, bs, hbs, rfl⟩ := h
    have key : ∃ x v, resK e O bs (x :: acc) M ∧ R I L O x v ∧ (getR a r).run P w = .ok v w := by
      cases r with
      | tmp t =>
        simp only [cRes, Option.some.injEq] at hb
        subst hb
        exact ⟨_, _, hk, he t, rfl⟩
      | cell t ty =>
        simp only [cRes, Option.map_eq_some_iff] at hb
        obtain ⟨n, hn, rfl⟩ := hb
        simp only [resK, ARes.get] at hk
        split at hk
        · rename_i k hk0
          have hr := he t
          rw [hk0] at hr
          split at hk
          · rename_i t' s x hO
            obtain ⟨hl, hk⟩ := hk
            have hv := hr.ptr_live hO rfl
            obtain ⟨c, g1, g2, g3, g4, g5, g6⟩ := hi.obj k _ _ _ hO
            obtain ⟨g7, g8⟩ := g6 0 x rfl
            have hex : ∀ j, ∃ u, j < n.getD 1 → c[0 * s + j]? = some u ∧ ∀ c', x.cells[j]? = some c' → R I L O c' u := by
              intro j
              by_cases hj : j < n.getD 1
              · have hc' : x.cells[j]? = some (x.cells[j]'(by omega)) := by simp
                obtain ⟨u, hu, _, hr⟩ := g8 j _ hc'
                exact ⟨u, fun _ => ⟨hu, fun c'' h'' => by rw [hc'] at h''; cases h''; exact hr⟩⟩
              · exact ⟨undef, fun h => (hj h).elim⟩
            let vals : Nat → Value := fun j => (hex j).choose
            have hvals : ∀ j, j < n.getD 1 → c[0 * s + j]? = some (vals j) ∧ ∀ c', x.cells[j]? = some c' → R I L O c' (vals j) := fun j hj => (hex j).choose_spec hj
            have hrun := run_loadAt (P := P) (t := ty) hn (L k).blk 0 vals w (fun j hj => by
              rw [cell_cells g1]; have := (hvals j hj).1; rwa [Nat.zero_mul] at this)
            refine ⟨_, _, hk, loadC_sound (vals := vals) (by omega) fun j c' hj hlt' => (hvals j hlt').2 c' (by simpa using hj), ?_⟩
            simp only [getR, hv]
            simp [Instr.loadAt, Instr.sureAddr] at hrun
            simpa [asAddr] using hrun
          · exact hk.elim
        · exact hk.elim
    obtain ⟨x, v, hk', hr, hrun⟩ := key
    obtain ⟨xs, vs, h1, h2, h3, h4⟩ := resK_run hi he l bs (x :: acc) M hbs hk'
    refine ⟨x :: xs, v :: vs, by simpa using h1, by simp [h2], fun i y u hy hu => ?_, ?_⟩
    · cases i with
      | zero => simp at hy hu; subst hy; subst hu; exact hr
      | succ i => simp at hy hu; exact h3 i y u hy hu
    · rw [List.mapM_cons, Sem.run_bind, hrun, Result.andThen_ok, Sem.run_bind, h4]
      rfl


theorem results_run {fn : Func} {e : Env} {O O' : List AObj} {a : Act} {w : World} {I : Imm} {L : Nat → Loc} {rs : List ARes} {res : AV} {x : AX} (hm : fn.results.toList.mapM (cRes P) = some rs) (hs : Sat I0 L0 O0 w0 nt e O a w I L)
    (hk : retK O0.length rs res O' x e O) : ∃ y I' L', (results fn a.tmps).run P w = .ok y w ∧ R I' L' O' res y ∧ Good I0 L0 O0 w0 I' L' O' w := by
  have hk' : resK e O rs [] fun xs => ∃ e', WK O0.length (fun t => if t = 0 then packR xs else .top) O e' O' ∧ e' 0 = res := by
    cases x <;> first | exact hk | exact hk.elim
  obtain ⟨xs, vs, ⟨e', hw, he0⟩, h2, h3, h4⟩ := resK_run hs.good.inv hs.env _ _ _ _ hm hk'
  simp only [List.reverse_nil, List.nil_append] at hw
  let y : Value := if h : vs.toArray.size = 1 then vs.toArray[0] else .tuple vs.toArray
  have hy : R I L O (packR xs) y := by
    unfold packR
    split
    · rename_i x
      have hv : vs.length = 1 := by rw [← h2]; rfl
      have : y = vs[0]'(by omega) := by simp [y, hv]
      rw [this]
      exact h3 0 x _ rfl (by simp [hv])
    · rename_i hne
      have hv : vs.length ≠ 1 := by
        rw [← h2]; intro h1
        obtain ⟨x, hx⟩ := List.length_eq_one_iff.1 h1
        exact hne x hx
      have : y = .tuple vs.toArray := by simp [y, hv]
      rw [this]
      exact .tup _ _ (by simpa using h2) fun i c v hc hv => h3 i c v hc (by simpa using hv)
  obtain ⟨I', L', hg, hr⟩ := hw I0 L0 O0 w0 I L w (fun t => if t = 0 then y else undef) rfl hs.good (fun t => by
    by_cases ht : t = 0
    · subst ht; simpa using hy
    · simp only [if_neg ht]; exact .top _)
  refine ⟨y, I', L', ?_, ?_, hg⟩
  · have hrun : (fn.results.mapM (getR a)).run P w = .ok vs.toArray w := by
      simp [Array.mapM_eq_mapM_toList, h4]
    have hres : results fn a.tmps = (do let vs ← fn.results.mapM (getR a); pure (if h : vs.size = 1 then vs[0] else .tuple vs)) := rfl
    rw [hres, Sem.run_bind, hrun]
    rfl
  · have := hr 0
    rw [he0] at this
    simpa using this

def cFn (P : Program) (f : FuncId) (a : AFn) : Prop :=
  ∃ fn code, P.funcs[f]? = some fn ∧ fn.body = some code ∧ (fn.name == "runtime.NumGoroutine") = false ∧ fn.ntmps = a.nt ∧ a.nargs ≤ a.nt ∧
    cCode P a.nt code = some a.code.strip ∧ fn.results.toList.mapM (cRes P) = some a.res ∧ a.code.drawsOk = true

/-- FROM THE ABSTRACT WALK OF A BODY TO THE CONTRACT OF ITS CALLS. -/
theorem con_of_wp {f : FuncId} {A : AFn} (hf : cFn P f A) {args : List AV} {O O' : List AObj} {res : AV} (hl : args.length = A.nargs)
    (h : wpC P O.length A.code (retK O.length A.res res O') (entryE args) O) : Con P f args O res O' := by
  obtain ⟨fn, code, h1, h2, h3, h4, h5, h6, h7, h8⟩ := hf
  refine ⟨⟨fn, h1, by rw [h2]; rfl, h3⟩, ?_⟩
  intro I L w vs hi hr
  refine calls_of_wp h1 h2 ?_
  have hsz : vs.size = A.nargs := by rw [← hr.1, hl]
  have hsat : Sat I L O w A.nt (entryE args) O { tmps := vs ++ Array.replicate (fn.ntmps - vs.size) undef, defers := [] } w I L := by
    refine ⟨.refl hi, fun t => ?_, ?_, rfl⟩
    · unfold entryE
      by_cases ht : t < vs.size
      · have ha : args[t]? = some (args.getD t (.tup [])) := by simp [List.getD, show t < args.length by rw [hr.1]; exact ht]
        have hv : vs[t]? = some ((vs ++ Array.replicate (fn.ntmps - vs.size) undef).getD t undef) := by
          rw [Array.getD_eq_getD_getElem?, Array.getElem?_append_left ht]; simp [ht]
        exact hr.2 t _ _ ha hv
      · have ha : args.getD t (.tup []) = .tup [] := by simp [List.getD, List.getElem?_eq_none (show args.length ≤ t by rw [hr.1]; omega)]
        have hv : (vs ++ Array.replicate (fn.ntmps - vs.size) undef).getD t undef = .tuple #[] := by
          rw [Array.getD_eq_getD_getElem?, Array.getElem?_append_right (by omega)]
          by_cases h8 : t - vs.size < fn.ntmps - vs.size
          · simp [h8]; rfl
          · simp [h8]; rfl
        rw [ha, hv]
        exact .tup [] #[] rfl (by simp)
    · simp; omega
  refine code_sound A.code code h6 h8 _ _ ?_ (entryE args) O _ w I L h hsat
  intro x e O1 a w' I' L' hq hs
  obtain ⟨y, I2, L2, r1, r2, r3⟩ := results_run h7 hs hq
  cases x with
  | normal => exact ⟨hs.defers, y, r1, y, I2, L2, rfl, r2, r3⟩
  | ret => exact ⟨hs.defers, y, r1, y, I2, L2, rfl, r2, r3⟩
  | exit id => exact hq.elim

end
end Go.Ab
