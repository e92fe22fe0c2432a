/- Part of a proof: the functions that the law reaches, walked by the abstract logic of the texts Ab. -/
import Derived.Test.YtkinchcjijhmgaaDoorAbM2
import Derived.Deep.LoopGhost
import Derived.Laws.Strings
import Derived.WideKeyArgs
import Derived.ChangeSame
import Derived.OpenShut
import Derived.JoinedCond
import Derived.ChangeArms
set_option linter.unusedVariables false
set_option linter.unusedSimpArgs false
set_option linter.defProp false
/-
  THE ABSTRACT WALK IS SOUND: regions without a drawn order, control, a function's contract.
-/
namespace Go.Ab
structure Sat (I0 : Imm) (L0 : Nat → Loc) (O0 : List AObj) (w0 : World) (nt : Nat) (e : Env) (O : List AObj) (a : Act) (w : World) (I : Imm) (L : Nat → Loc) : Prop where
  good : Good I0 L0 O0 w0 I L O w
  env : ∀ t, R I L O (e t) (a.tmps.getD t undef)
  size : nt ≤ a.tmps.size
  defers : a.defers = []
section
variable {P : Program} {I0 : Imm} {L0 : Nat → Loc} {O0 : List AObj} {w0 : World} {nt : Nat}
theorem getD_set (tmps : Array Value) (d : Nat) (v : Value) (hd : d < tmps.size) (t : Nat) : (tmps.setIfInBounds d v).getD t undef = if t = d then v else tmps.getD t undef := by
  simp only [Array.getD_eq_getD_getElem?, Array.getElem?_setIfInBounds]
  by_cases h : d = t
  · subst h; simp [hd]
  · rw [if_neg h, if_neg (fun k => h k.symm)]
theorem Sat.put {e : Env} {O O' : List AObj} {a : Act} {w w' : World} {I I' : Imm} {L L' : Nat → Loc} (h : Sat I0 L0 O0 w0 nt e O a w I L) {d : Option Nat} (hd : d.all (· < nt) = true) {x : AV} {y : Value}
    (hg : Good I L O w I' L' O' w') (hr : R I' L' O' x y) : Sat I0 L0 O0 w0 nt (setD e d x) O' (a.put d y) w' I' L' := by
  refine ⟨h.good.trans hg, fun t => ?_, ?_, ?_⟩
  · cases d with
    | none => exact (h.env t).mono hg.ext
    | some d =>
      have hlt : d < a.tmps.size := by have := h.size; simp at hd; omega
      simp only [setD, Env.set, Act.put]
      rw [getD_set _ _ _ hlt]
      split
      · exact hr
      · exact (h.env t).mono hg.ext
  · cases d <;> simp [Act.put]; exact h.size; exact h.size
  · cases d <;> simp [Act.put]; exact h.defers; exact h.defers
theorem Sat.env_eq {e e' : Env} {O : List AObj} {a : Act} {w : World} {I : Imm} {L : Nat → Loc} (h : Sat I0 L0 O0 w0 nt e O a w I L) (he : ∀ t, R I L O (e' t) (a.tmps.getD t undef)) : Sat I0 L0 O0 w0 nt e' O a w I L :=
  ⟨h.good, he, h.size, h.defers⟩
theorem ops_sound {ops : Array Oper} {K : Env → List AObj → Prop} {Q : Exit → Act → World → Prop} (hq : ∀ e O a w I L, K e O → Sat I0 L0 O0 w0 nt e O a w I L → Q .normal a w) :
    ∀ (l : List Oper) (al : List AOper), l.mapM (cOper P nt ops) = some (al.map AOper.strip) → ∀ e O a w I L, wpOps P al e O K → Sat I0 L0 O0 w0 nt e O a w I L → wpList P ops Q l a w
  | [], al, h, e, O, a, w, I, L, hk, hs => by
    simp at h; subst h
    exact hq _ _ _ _ _ _ hk hs
  | o :: l, al, h, e, O, a, w, I, L, hk, hs => by
    simp only [List.mapM_cons, Option.bind_eq_bind, Option.pure_def, Option.bind_eq_some_iff, Option.some.injEq] at h
    obtain ⟨b, hb, bs, hbs, h⟩ := h
    cases al with
    | nil => simp at h
    | cons ao al =>
      simp only [List.map_cons, List.cons.injEq] at h
      obtain ⟨rfl, rfl⟩ := h
      have ih := ops_sound hq l al hbs
      unfold cOper at hb
      split at hb
      case h_2 => cases hb
      case h_1 op g hop hg =>
        split at hb
        case isFalse => cases hb
        case isTrue hd =>
          simp only [Option.some.injEq, AOper.strip, AOper.mk.injEq] at hb
          obtain ⟨hgu, hdst, hopp⟩ := hb
          subst hopp
          rw [hdst] at hd
          have step : ∀ e1 I1 L1, Sat I0 L0 O0 w0 nt e1 O a w I1 L1 → (wpOp P ao.op e1 O fun x O' => wpOps P al (setD e1 ao.dst x) O' K) → o.wp P a w (wpList P ops Q l) Q := by
            intro e1 I1 L1 hs1 hk1
            refine op_sound hop hs1.good.inv hs1.env hk1 fun x O' y I' L' w' hk' hg' hr' => ?_
            rw [hdst]
            exact ih _ _ _ _ _ _ hk' (hs1.put hd hg' hr')
          have skip : ∀ e1 I1 L1, Sat I0 L0 O0 w0 nt e1 O a w I1 L1 → wpOps P al (setD e1 ao.dst (.tup [])) O K → wpList P ops Q l (a.put o.dst undef) w := by
            intro e1 I1 L1 hs1 hk1
            rw [hdst]
            exact ih _ _ _ _ _ _ hk1 (hs1.put hd (.refl hs1.good.inv) (.tup [] #[] rfl (by simp)))
          simp only [wpOps] at hk
          unfold wpList
          cases hog : o.guard with
          | none =>
            rw [hog] at hg
            simp only [cGuard, Option.some.injEq] at hg
            subst hg
            rw [← hgu] at hk
            rw [if_pos (by simp [Region.wanted, hog])]
            exact .inl (step _ _ _ hs hk)
          | some jb =>
            obtain ⟨j, want⟩ := jb
            rw [hog] at hg
            simp only [cGuard] at hg
            split at hg
            case h_2 => cases hg
            case h_1 t ht =>
              split at hg
              case isFalse => cases hg
              case isTrue htn =>
                simp only [Option.some.injEq] at hg
                subst hg
                rw [← hgu] at hk
                simp only at hk
                have hlt : t < a.tmps.size := Nat.lt_of_lt_of_le htn hs.size
                have hget : a.tmps[t]? = some (a.tmps.getD t undef) := by simp [Array.getD, hlt]
                have hr := hs.env t
                have hw : Region.wanted o (yielded ops a.tmps) = (yielded ops a.tmps j == some want) := by simp [Region.wanted, hog]
                have hy : yielded ops a.tmps j = match some (a.tmps.getD t undef) with | some (.bool b) => some b | _ => none := by
                  unfold yielded
                  rw [ht]
                  simp only [Option.bind_some]
                  rw [hget]
                  cases a.tmps.getD t undef <;> rfl
                split at hk
                · rename_i b hb
                  rw [hb] at hr
                  have hv := hr.bool
                  rw [hv] at hy
                  simp only at hy
                  rw [hw, hy]
                  have hset : ∀ c, b = c → Sat I0 L0 O0 w0 nt (e.set t (.v (.bool c))) O a w I L := by
                    intro c hc
                    refine hs.env_eq fun t' => ?_
                    unfold Env.set
                    split
                    · rename_i htt; subst htt; rw [hv, hc]; exact .v _ rfl
                    · exact hs.env t'
                  by_cases hbw : b = want
                  · rw [if_pos (by simp [hbw])]
                    exact .inl (step _ _ _ (hset want hbw) (hk.1 hbw))
                  · rw [if_neg (by simpa using hbw)]
                    have hbn : b = !want := by cases b <;> cases want <;> simp_all
                    exact skip _ _ _ (hset (!want) hbn) (hk.2 hbn)
                · rename_i hb
                  rw [hb] at hr
                  have hv : a.tmps.getD t undef = .tuple #[] := by
                    generalize a.tmps.getD t undef = X at hr
                    cases hr with
                    | tup _ vs h1 _ => congr 1; exact Array.eq_empty_of_size_eq_zero h1.symm
                  rw [hv] at hy
                  simp only at hy
                  rw [hw, hy, if_neg (by simp)]
                  exact skip _ _ _ hs hk
                · exact hk.elim
def AX.to : AX → Exit
  | .normal => .normal
  | .exit id => .exit id
  | .ret => .ret
theorem keepE_R {I : Imm} {L : Nat → Loc} {O : List AObj} {e : Env} {f : Nat → Value} (h : ∀ t, R I L O (e t) (f t)) (live : List Nat) : ∀ t, R I L O (keepE live e t) (f t) := by
  intro t
  unfold keepE
  split
  · exact h t
  · exact .top _
theorem Sat.wk {e e' : Env} {O O' : List AObj} {a : Act} {w : World} {I : Imm} {L : Nat → Loc} (h : Sat I0 L0 O0 w0 nt e O a w I L) (hw : WK O0.length e O e' O') : ∃ I' L', Sat I0 L0 O0 w0 nt e' O' a w I' L' := by
  obtain ⟨I', L', hg, hr⟩ := hw I0 L0 O0 w0 I L w _ rfl h.good h.env
  exact ⟨I', L', hg, hr, h.size, h.defers⟩
theorem opsW_sound {ops : Array Oper} {K : Env → List AObj → Prop} {Q : Exit → Act → World → Prop} (hq : ∀ e O a w I L, K e O → Sat I0 L0 O0 w0 nt e O a w I L → Q .normal a w) :
    ∀ (l : List Oper) (al : List AOper), l.mapM (cOper P nt ops) = some (al.map AOper.strip) → ∀ e O a w I L, wpOpsW P O0.length al e O K → Sat I0 L0 O0 w0 nt e O a w I L → wpList P ops Q l a w
  | [], al, h, e, O, a, w, I, L, hk, hs => by
    simp at h; subst h
    obtain ⟨e', O', hw, hk⟩ := hk
    obtain ⟨I', L', hs'⟩ := hs.wk hw
    exact hq _ _ _ _ _ _ hk hs'
  | o :: l, al, h, e00, O00, a, w, I00, L00, hk, hs00 => by
    simp only [List.mapM_cons, Option.bind_eq_bind, Option.pure_def, Option.bind_eq_some_iff, Option.some.injEq] at h
    obtain ⟨b, hb, bs, hbs, h⟩ := h
    cases al with
    | nil => simp at h
    | cons ao al =>
      simp only [List.map_cons, List.cons.injEq] at h
      obtain ⟨rfl, rfl⟩ := h
      simp only [wpOpsW] at hk
      obtain ⟨e, O, hwk, hk⟩ := hk
      obtain ⟨I, L, hs⟩ := hs00.wk hwk
      have ih := opsW_sound hq l al hbs
      unfold cOper at hb
      split at hb
      case h_2 => cases hb
      case h_1 op g hop hg =>
        split at hb
        case isFalse => cases hb
        case isTrue hd =>
          simp only [Option.some.injEq, AOper.strip, AOper.mk.injEq] at hb
          obtain ⟨hgu, hdst, hopp⟩ := hb
          subst hopp
          rw [hdst] at hd
          have step : ∀ e1 I1 L1, Sat I0 L0 O0 w0 nt e1 O a w I1 L1 → (wpOp P ao.op e1 O fun x O' => wpOpsW P O0.length al (setD e1 ao.dst x) O' K) → o.wp P a w (wpList P ops Q l) Q := by
            intro e1 I1 L1 hs1 hk1
            refine op_sound hop hs1.good.inv hs1.env hk1 fun x O' y I' L' w' hk' hg' hr' => ?_
            rw [hdst]
            exact ih _ _ _ _ _ _ hk' (hs1.put hd hg' hr')
          have skip : ∀ e1 I1 L1, Sat I0 L0 O0 w0 nt e1 O a w I1 L1 → wpOpsW P O0.length al (setD e1 ao.dst (.tup [])) O K → wpList P ops Q l (a.put o.dst undef) w := by
            intro e1 I1 L1 hs1 hk1
            rw [hdst]
            exact ih _ _ _ _ _ _ hk1 (hs1.put hd (.refl hs1.good.inv) (.tup [] #[] rfl (by simp)))
          unfold wpList
          cases hog : o.guard with
          | none =>
            rw [hog] at hg
            simp only [cGuard, Option.some.injEq] at hg
            subst hg
            rw [← hgu] at hk
            rw [if_pos (by simp [Region.wanted, hog])]
            exact .inl (step _ _ _ hs hk)
          | some jb =>
            obtain ⟨j, want⟩ := jb
            rw [hog] at hg
            simp only [cGuard] at hg
            split at hg
            case h_2 => cases hg
            case h_1 t ht =>
              split at hg
              case isFalse => cases hg
              case isTrue htn =>
                simp only [Option.some.injEq] at hg
                subst hg
                rw [← hgu] at hk
                simp only at hk
                have hlt : t < a.tmps.size := Nat.lt_of_lt_of_le htn hs.size
                have hget : a.tmps[t]? = some (a.tmps.getD t undef) := by simp [Array.getD, hlt]
                have hr := hs.env t
                have hw : Region.wanted o (yielded ops a.tmps) = (yielded ops a.tmps j == some want) := by simp [Region.wanted, hog]
                have hy : yielded ops a.tmps j = match some (a.tmps.getD t undef) with | some (.bool b) => some b | _ => none := by
                  unfold yielded
                  rw [ht]
                  simp only [Option.bind_some]
                  rw [hget]
                  cases a.tmps.getD t undef <;> rfl
                split at hk
                · rename_i b hb
                  rw [hb] at hr
                  have hv := hr.bool
                  rw [hv] at hy
                  simp only at hy
                  rw [hw, hy]
                  have hset : ∀ c, b = c → Sat I0 L0 O0 w0 nt (e.set t (.v (.bool c))) O a w I L := by
                    intro c hc
                    refine hs.env_eq fun t' => ?_
                    unfold Env.set
                    split
                    · rename_i htt; subst htt; rw [hv, hc]; exact .v _ rfl
                    · exact hs.env t'
                  by_cases hbw : b = want
                  · rw [if_pos (by simp [hbw])]
                    exact .inl (step _ _ _ (hset want hbw) (hk.1 hbw))
                  · rw [if_neg (by simpa using hbw)]
                    have hbn : b = !want := by cases b <;> cases want <;> simp_all
                    exact skip _ _ _ (hset (!want) hbn) (hk.2 hbn)
                · rename_i hb
                  rw [hb] at hr
                  have hv : a.tmps.getD t undef = .tuple #[] := by
                    generalize a.tmps.getD t undef = X at hr
                    cases hr with
                    | tup _ vs h1 _ => congr 1; exact Array.eq_empty_of_size_eq_zero h1.symm
                  rw [hv] at hy
                  simp only at hy
                  rw [hw, hy, if_neg (by simp)]
                  exact skip _ _ _ hs hk
                · exact hk.elim
theorem Sat.drawn {e : Env} {O : List AObj} {a : Act} {w : World} {I : Imm} {L : Nat → Loc} (h : Sat I0 L0 O0 w0 nt e O a w I L) (k : Nat) : Sat I0 L0 O0 w0 nt e O a { w with drawn := k } I L :=
  ⟨h.good.trans (Good.drawn h.good.inv k), h.env, h.size, h.defers⟩
/-- one operation that is carried out or left out -/
theorem step_sound {ops : Array Oper} {o : Oper} {ao : AOper} (hb : cOper P nt ops o = some ao.strip) {e e' : Env} {O O' : List AObj} (hst : Step P ao e O e' O') {a : Act} {w : World} {I : Imm} {L : Nat → Loc} (hs : Sat I0 L0 O0 w0 nt e O a w I L)
    {next : Act → World → Prop} {Q : Exit → Act → World → Prop} (hn : ∀ a w I L, Sat I0 L0 O0 w0 nt e' O' a w I L → next a w) :
    if Region.wanted o (yielded ops a.tmps) = true then o.wp P a w next Q else next (a.put o.dst undef) w := by
  unfold cOper at hb
  split at hb
  case h_2 => cases hb
  case h_1 op g hop hg =>
    split at hb
    case isFalse => cases hb
    case isTrue hd =>
      simp only [Option.some.injEq, AOper.strip, AOper.mk.injEq] at hb
      obtain ⟨hgu, hdst, hopp⟩ := hb
      subst hopp
      rw [hdst] at hd
      have hguard : ∀ t want, ao.guard = some (t, want) → ∃ j, o.guard = some (j, want) ∧ ((ops[j]?).bind (·.dst)) = some t ∧ t < nt := by
        intro t want h
        rw [h] at hgu
        subst hgu
        cases hog : o.guard with
        | none => rw [hog] at hg; simp [cGuard] at hg
        | some jb =>
          obtain ⟨j, b⟩ := jb
          rw [hog] at hg
          simp only [cGuard] at hg
          split at hg
          case h_2 => cases hg
          case h_1 t' ht' =>
            split at hg
            case isFalse => cases hg
            case isTrue htn =>
              simp only [Option.some.injEq, Prod.mk.injEq] at hg
              obtain ⟨rfl, rfl⟩ := hg
              exact ⟨j, rfl, ht', htn⟩
      have hyield : ∀ {j t}, ((ops[j]?).bind (·.dst)) = some t → t < nt → yielded ops a.tmps j = match some (a.tmps.getD t undef) with | some (.bool b) => some b | _ => none := by
        intro j t ht htn
        have hlt : t < a.tmps.size := Nat.lt_of_lt_of_le htn hs.size
        have hget : a.tmps[t]? = some (a.tmps.getD t undef) := by simp [Array.getD, hlt]
        unfold yielded
        rw [ht]
        simp only [Option.bind_some]
        rw [hget]
        cases a.tmps.getD t undef <;> rfl
      cases hst with
      | run x _ hq hx =>
        have hw : Region.wanted o (yielded ops a.tmps) = true := by
          cases hag : ao.guard with
          | none =>
            have : o.guard = none := by
              rw [hag] at hgu; subst hgu
              cases hog : o.guard with
              | none => rfl
              | some jb =>
                obtain ⟨j, b⟩ := jb
                rw [hog] at hg
                simp only [cGuard] at hg
                split at hg
                · split at hg <;> simp at hg
                · cases hg
            simp [Region.wanted, this]
          | some tw =>
            obtain ⟨t, want⟩ := tw
            obtain ⟨j, h1, h2, h3⟩ := hguard t want hag
            have hr := hs.env t
            rw [hq t want hag] at hr
            have hy := hyield h2 h3
            rw [hr.bool] at hy
            simp only at hy
            simp [Region.wanted, h1, hy]
        rw [if_pos hw]
        refine op_sound hop hs.good.inv hs.env (hx (fun x' O'' => x' = x ∧ O'' = O') ⟨rfl, rfl⟩) fun x' O'' y I' L' w' hk' hg' hr' => ?_
        obtain ⟨rfl, rfl⟩ := hk'
        rw [hdst]
        exact hn _ _ _ _ (hs.put hd hg' hr')
      | skip t want hgt hb =>
        obtain ⟨j, h1, h2, h3⟩ := hguard t want hgt
        have hr := hs.env t
        have hy := hyield h2 h3
        have hw : Region.wanted o (yielded ops a.tmps) = false := by
          rcases hb with hb | hb
          · rw [hb] at hr
            rw [hr.bool] at hy
            simp only at hy
            simp [Region.wanted, h1, hy]
          · rw [hb] at hr
            have hv : a.tmps.getD t undef = .tuple #[] := by
              generalize a.tmps.getD t undef = X at hr
              cases hr with
              | tup _ vs h1 _ => congr 1; exact Array.eq_empty_of_size_eq_zero h1.symm
            rw [hv] at hy
            simp only at hy
            simp [Region.wanted, h1, hy]
        rw [if_neg (by simp [hw])]
        rw [hdst]
        exact hn _ _ _ _ (hs.put hd (.refl hs.good.inv) (.tup [] #[] rfl (by simp)))
theorem run_sound {ops : Array Oper} {al : List AOper} (hm : ops.toList.mapM (cOper P nt ops) = some (al.map AOper.strip)) (hlen : al.length = ops.size) {e2 : Env} {O2 : List AObj} {Q : Exit → Act → World → Prop}
    (hq : ∀ a w I L, Sat I0 L0 O0 w0 nt e2 O2 a w I L → Q .normal a w) :
    ∀ (l : List Nat), (∀ i ∈ l, i < ops.size) → ∀ e O a w I L, Run P (l.map fun i => al.getD i ⟨none, none, .mov (.c .top)⟩) e O e2 O2 → Sat I0 L0 O0 w0 nt e O a w I L → Go.wpOps P ops Q l a w
  | [], _, e, O, a, w, I, L, hr, hs => by
    cases hr
    exact hq _ _ _ _ hs
  | i :: l, hl, e, O, a, w, I, L, hr, hs => by
    cases hr with
    | cons hst hr =>
      have hi := hl i (by simp)
      have ho : ops[i]? = some ops[i] := by simp [hi]
      have ha : al[i]? = some (al.getD i ⟨none, none, .mov (.c .top)⟩) := by simp [List.getD, show i < al.length by omega]
      have hc := (mapM_some hm).2 i ops[i] ((al.getD i ⟨none, none, .mov (.c .top)⟩).strip) (by simp) (by rw [List.getElem?_map, ha]; rfl)
      have := step_sound (Q := Q) hc hst hs (next := Go.wpOps P ops Q l) fun a w I L hs' => run_sound hm hlen hq l (fun j hj => hl j (by simp [hj])) _ _ a w I L hr hs'
      simp only [Go.wpOps, ho]
      split
      · rename_i hw; rw [if_pos hw] at this; exact .inl this
      · rename_i hw; rw [if_neg hw] at this; exact this
theorem cCode_cases {code : Code} {c : ACode} (h : cCode P nt code = some c) :
    (code = .skip ∧ c = .skip) ∨ (∃ id ops draw rows aops, code = .region id ops draw ∧ c = .region rows aops ∧ ops.toList.mapM (cOper P nt ops) = some aops ∧ ((draw = false ∧ rows = none) ∨ (draw = true ∧ rows = some (rowsOf ops) ∧ (Region.departs ops = false ∨ P.follows .mixedOrders = true)))) ∨
    (∃ x y ax ay, code = .seq x y ∧ c = .seq ax ay ∧ cCode P nt x = some ax ∧ cCode P nt y = some ay) ∨
    (∃ o x y ao ax ay, code = .cond o x y ∧ c = .cond ao ax ay ∧ cOpd o = some ao ∧ cCode P nt x = some ax ∧ cCode P nt y = some ay) ∨
    (∃ id b ab, code = .block id b ∧ c = .block id ab ∧ cCode P nt b = some ab) ∨ (∃ b ab, code = .loop b ∧ c = .loop ab ∧ cCode P nt b = some ab) ∨
    (∃ id, code = .exit id ∧ c = .exit id) ∨ (code = .ret ∧ c = .ret) := by
  cases code with
  | skip => simp only [cCode, Option.some.injEq] at h; exact .inl ⟨rfl, h.symm⟩
  | region id ops draw =>
    cases draw
    · simp only [cCode, Option.map_eq_some_iff] at h
      obtain ⟨aops, h1, h2⟩ := h
      exact .inr (.inl ⟨id, ops, false, _, aops, rfl, h2.symm, h1, .inl ⟨rfl, rfl⟩⟩)
    · simp only [cCode] at h
      split at h
      · cases h
      · rename_i hd
        simp only [Option.map_eq_some_iff] at h
        obtain ⟨aops, h1, h2⟩ := h
        exact .inr (.inl ⟨id, ops, true, _, aops, rfl, h2.symm, h1, .inr ⟨rfl, rfl, by
          by_cases h : Region.departs ops = true
          · exact .inr (by simpa [h] using hd)
          · exact .inl (by simpa using h)⟩⟩)
  | seq x y =>
    simp only [cCode] at h
    split at h
    · rename_i ax ay h1 h2
      simp only [Option.some.injEq] at h
      exact .inr (.inr (.inl ⟨x, y, ax, ay, rfl, h.symm, h1, h2⟩))
    · cases h
  | cond o x y =>
    simp only [cCode] at h
    split at h
    · rename_i ao ax ay h0 h1 h2
      simp only [Option.some.injEq] at h
      exact .inr (.inr (.inr (.inl ⟨o, x, y, ao, ax, ay, rfl, h.symm, h0, h1, h2⟩)))
    · cases h
  | block id b =>
    simp only [cCode, Option.map_eq_some_iff] at h
    obtain ⟨ab, h1, h2⟩ := h
    exact .inr (.inr (.inr (.inr (.inl ⟨id, b, ab, rfl, h2.symm, h1⟩))))
  | loop b =>
    simp only [cCode, Option.map_eq_some_iff] at h
    obtain ⟨ab, h1, h2⟩ := h
    exact .inr (.inr (.inr (.inr (.inr (.inl ⟨b, ab, rfl, h2.symm, h1⟩)))))
  | exit id => simp only [cCode, Option.some.injEq] at h; exact .inr (.inr (.inr (.inr (.inr (.inr (.inl ⟨id, rfl, h.symm⟩))))))
  | ret => simp only [cCode, Option.some.injEq] at h; exact .inr (.inr (.inr (.inr (.inr (.inr (.inr ⟨rfl, h.symm⟩))))))
  | _ => simp [cCode] at h
theorem code_sound (c : ACode) : ∀ (code : Code), cCode P nt code = some c.strip → ∀ (Q : AX → Env → List AObj → Prop) (QM : Exit → Act → World → Prop),
    (∀ x e O a w I L, Q x e O → Sat I0 L0 O0 w0 nt e O a w I L → QM x.to a w) → ∀ e O a w I L, wpC P O0.length c Q e O → Sat I0 L0 O0 w0 nt e O a w I L → code.wp P QM a w := by
  induction c with
  | skip =>
    intro code hc Q QM hq e O a w I L hk hs
    rcases cCode_cases hc with ⟨rfl, h⟩ | ⟨_, _, _, _, _, _, h, _⟩ | ⟨_, _, _, _, _, h, _⟩ | ⟨_, _, _, _, _, _, _, h, _⟩ | ⟨_, _, _, _, h, _⟩ | ⟨_, _, _, h, _⟩ | ⟨_, _, h⟩ | ⟨_, h⟩ <;> simp only [ACode.strip] at h <;> first | (cases h; done) | skip
    exact wp_skip (hq .normal _ _ _ _ _ _ hk hs)
  | region d ops =>
    intro code hc Q QM hq e O a w I L hk hs
    rcases cCode_cases hc with ⟨_, h⟩ | ⟨id, mops, draw, rows, aops, rfl, h, hm, hdr⟩ | ⟨_, _, _, _, _, h, _⟩ | ⟨_, _, _, _, _, _, _, h, _⟩ | ⟨_, _, _, _, h, _⟩ | ⟨_, _, _, h, _⟩ | ⟨_, _, h⟩ | ⟨_, h⟩ <;> simp only [ACode.strip] at h <;> first | (cases h; done) | skip
    simp only [ACode.region.injEq] at h
    obtain ⟨rfl, rfl⟩ := h
    rcases hdr with ⟨rfl, rfl⟩ | ⟨rfl, rfl, hdep⟩
    case inr =>
      obtain ⟨al, hal, hk⟩ := hk
      rw [← hal] at hm
      obtain ⟨labs, e2, O2, hll, hrun, hok, hK⟩ := runL_of_wp al hk
      rw [List.nil_append] at hok
      refine wp_region_draw fun t => ?_
      have hlen : al.length = mops.size := by have := (mapM_some hm).1; simpa using this
      obtain ⟨h1, h2⟩ := schedule_run hdep (by rw [List.length_zip, hll]; omega) hok hrun t
      have h3 := h1.run
      rw [List.map_map] at h3
      have hget : ((fun x : AOper × Lab => x.1) ∘ fun i => (al.zip labs).getD i (⟨none, none, .mov (.c .top)⟩, ⟨[], .any⟩)) = fun i => al.getD i ⟨none, none, .mov (.c .top)⟩ := by
        funext i
        simp only [Function.comp, List.getD]
        by_cases hi : i < al.length
        · have hi' : i < labs.length := by omega
          have hz : i < (al.zip labs).length := by rw [List.length_zip]; omega
          rw [List.getElem?_eq_getElem hz, List.getElem?_eq_getElem hi]
          simp
        · rw [List.getElem?_eq_none (by rw [List.length_zip]; omega), List.getElem?_eq_none (by omega)]
          rfl
      rw [hget] at h3
      exact run_sound hm hlen (fun a w I L hs => hq .normal _ _ _ _ _ _ hK hs) _ h2 e O a _ I L h3 (hs.drawn _)
    exact wp_region_list (ops_sound (fun e O a w I L h hs => hq .normal e O a w I L h hs) mops.toList ops hm e O a w I L hk hs)
  | seq x y ihx ihy =>
    intro code hc Q QM hq e O a w I L hk hs
    rcases cCode_cases hc with ⟨_, h⟩ | ⟨_, _, _, _, _, _, h, _⟩ | ⟨cx, cy, ax, ay, rfl, h, hx, hy⟩ | ⟨_, _, _, _, _, _, _, h, _⟩ | ⟨_, _, _, _, h, _⟩ | ⟨_, _, _, h, _⟩ | ⟨_, _, h⟩ | ⟨_, h⟩ <;> simp only [ACode.strip] at h <;> first | (cases h; done) | skip
    simp only [ACode.seq.injEq] at h
    obtain ⟨rfl, rfl⟩ := h
    refine wp_seq (ihx cx hx _ _ ?_ e O a w I L hk hs)
    intro z e O a w I L hz hs
    cases z
    case normal => exact ihy cy hy Q QM hq e O a w I L hz hs
    case exit id => exact hq (.exit id) _ _ _ _ _ _ hz hs
    case ret => exact hq .ret _ _ _ _ _ _ hz hs
  | cond c t f iht ihf =>
    intro code hc Q QM hq e O a w I L hk hs
    rcases cCode_cases hc with ⟨_, h⟩ | ⟨_, _, _, _, _, _, h, _⟩ | ⟨_, _, _, _, _, h, _⟩ | ⟨o, x, y, ao, ax, ay, rfl, h, h0, h1, h2⟩ | ⟨_, _, _, _, h, _⟩ | ⟨_, _, _, h, _⟩ | ⟨_, _, h⟩ | ⟨_, h⟩ <;> simp only [ACode.strip] at h <;> first | (cases h; done) | skip
    simp only [ACode.cond.injEq] at h
    obtain ⟨rfl, rfl, rfl⟩ := h
    have rc := cOpd_sound h0 hs.env
    simp only [wpC] at hk
    split at hk
    · rename_i b hb
      rw [hb] at rc
      refine wp_cond (t := b) rc.bool ?_
      cases b
      · exact ihf y h2 Q QM hq e O a w I L (hk.2 rfl) hs
      · exact iht x h1 Q QM hq e O a w I L (hk.1 rfl) hs
    · exact hk.elim
  | block id b ih =>
    intro code hc Q QM hq e O a w I L hk hs
    rcases cCode_cases hc with ⟨_, h⟩ | ⟨_, _, _, _, _, _, h, _⟩ | ⟨_, _, _, _, _, h, _⟩ | ⟨_, _, _, _, _, _, _, h, _⟩ | ⟨id', cb, ab, rfl, h, hb⟩ | ⟨_, _, _, h, _⟩ | ⟨_, _, h⟩ | ⟨_, h⟩ <;> simp only [ACode.strip] at h <;> first | (cases h; done) | skip
    simp only [ACode.block.injEq] at h
    obtain ⟨rfl, rfl⟩ := h
    refine wp_block (ih cb hb _ _ ?_ e O a w I L hk hs)
    intro z e O a w I L hz hs
    cases z
    case normal => exact hq .normal _ _ _ _ _ _ hz hs
    case exit i =>
      simp only [AX.to, Exit.inBlock]
      simp only at hz
      by_cases hi : i = id
      · rw [if_pos hi] at hz ⊢; exact hq .normal _ _ _ _ _ _ hz hs
      · rw [if_neg hi] at hz ⊢; exact hq (.exit i) _ _ _ _ _ _ hz hs
    case ret => exact hq .ret _ _ _ _ _ _ hz hs
  | loop b ih =>
    intro code hc Q QM hq e O a w I L hk hs
    rcases cCode_cases hc with ⟨_, h⟩ | ⟨_, _, _, _, _, _, h, _⟩ | ⟨_, _, _, _, _, h, _⟩ | ⟨_, _, _, _, _, _, _, h, _⟩ | ⟨_, _, _, _, h, _⟩ | ⟨cb, ab, rfl, h, hb⟩ | ⟨_, _, h⟩ | ⟨_, h⟩ <;> simp only [ACode.strip] at h <;> first | (cases h; done) | skip
    simp only [ACode.loop.injEq] at h
    subst h
    obtain ⟨J, n, ⟨e', O', hw, hJ⟩, hround⟩ := hk
    obtain ⟨I', L', hs'⟩ := hs.wk hw
    refine wp_loop_ghost (fun m a w => ∃ e O I L, J m e O ∧ Sat I0 L0 O0 w0 nt e O a w I L) n ⟨e', O', I', L', hJ, hs'⟩ ?_
    rintro m a w ⟨e1, O1, I1, L1, hJ1, hs1⟩
    refine ih cb hb _ _ ?_ e1 O1 a w I1 L1 (hround m e1 O1 hJ1) hs1
    intro z e2 O2 a2 w2 I2 L2 hz hs2
    cases z
    case normal =>
      obtain ⟨m', e3, O3, hlt, hw3, hJ3⟩ := hz
      obtain ⟨I3, L3, hs3⟩ := hs2.wk hw3
      exact ⟨m', hlt, e3, O3, I3, L3, hJ3, hs3⟩
    case exit id => exact hq (.exit id) _ _ _ _ _ _ hz hs2
    case ret => exact hq .ret _ _ _ _ _ _ hz hs2
  | exit id =>
    intro code hc Q QM hq e O a w I L hk hs
    rcases cCode_cases hc with ⟨_, h⟩ | ⟨_, _, _, _, _, _, h, _⟩ | ⟨_, _, _, _, _, h, _⟩ | ⟨_, _, _, _, _, _, _, h, _⟩ | ⟨_, _, _, _, h, _⟩ | ⟨_, _, _, h, _⟩ | ⟨i, rfl, h⟩ | ⟨_, h⟩ <;> simp only [ACode.strip] at h <;> first | (cases h; done) | skip
    simp only [ACode.exit.injEq] at h
    subst h
    exact wp_exit (hq (.exit id) _ _ _ _ _ _ hk hs)
  | ret =>
    intro code hc Q QM hq e O a w I L hk hs
    rcases cCode_cases hc with ⟨_, h⟩ | ⟨_, _, _, _, _, _, h, _⟩ | ⟨_, _, _, _, _, h, _⟩ | ⟨_, _, _, _, _, _, _, h, _⟩ | ⟨_, _, _, _, h, _⟩ | ⟨_, _, _, h, _⟩ | ⟨_, _, h⟩ | ⟨rfl, h⟩ <;> simp only [ACode.strip] at h <;> first | (cases h; done) | skip
    exact wp_ret (hq .ret _ _ _ _ _ _ hk hs)
  | keep live c ih =>
    intro code hc Q QM hq e O a w I L hk hs
    refine ih code hc _ QM ?_ e O a w I L hk hs
    intro x e O a w I L hx hs
    cases x
    case normal => exact hq .normal _ _ _ _ _ _ hx (hs.env_eq (keepE_R hs.env live))
    all_goals exact hq _ _ _ _ _ _ _ hx hs
  | regionW ops =>
    intro code hc Q QM hq e O a w I L hk hs
    rcases cCode_cases hc with ⟨_, h⟩ | ⟨id, mops, draw, rows, aops, rfl, h, hm, hdr⟩ | ⟨_, _, _, _, _, h, _⟩ | ⟨_, _, _, _, _, _, _, h, _⟩ | ⟨_, _, _, _, h, _⟩ | ⟨_, _, _, h, _⟩ | ⟨_, _, h⟩ | ⟨_, h⟩ <;> simp only [ACode.strip] at h <;> first | (cases h; done) | skip
    simp only [ACode.region.injEq] at h
    obtain ⟨rfl, rfl⟩ := h
    rcases hdr with ⟨rfl, h0⟩ | ⟨rfl, h0, hdep⟩
    case inr => cases h0
    exact wp_region_list (opsW_sound (fun e O a w I L h hs => hq .normal e O a w I L h hs) mops.toList ops hm e O a w I L hk hs)
  | weak c ih =>
    intro code hc Q QM hq e O a w I L hk hs
    obtain ⟨e', O', hw, hk⟩ := hk
    obtain ⟨I', L', hs'⟩ := hs.wk hw
    exact ih code hc Q QM hq e' O' a w I' L' hk hs'
/-- one result -/
def getR (a : Act) (r : ResultVar) : Sem Value :=
  match r with
  | .tmp t => pure (a.tmps.getD t undef)
  | .cell b t => do loadVar t (← asAddr (a.tmps.getD b undef))
theorem resK_run {e : Env} {O : List AObj} {a : Act} {w : World} {I : Imm} {L : Nat → Loc} (hi : Inv I L O w) (he : ∀ t, R I L O (e t) (a.tmps.getD t undef)) :
    ∀ (l : List ResultVar) (al : List ARes) (acc : List AV) (M : List AV → Prop), l.mapM (cRes P) = some al → resK e O al acc M →
      ∃ xs vs, M (acc.reverse ++ xs) ∧ xs.length = vs.length ∧ (∀ (i : Nat) x v, xs[i]? = some x → vs[i]? = some v → R I L O x v) ∧
        (l.mapM (getR a)).run P w = .ok vs w
  | [], al, acc, M, h, hk => by
    simp at h; subst h
    exact ⟨[], [], by simpa [resK] using hk, rfl, by simp, by simp⟩
  | r :: l, al, acc, M, h, hk => by
    simp only [List.mapM_cons, Option.bind_eq_bind, Option.pure_def, Option.bind_eq_some_iff, Option.some.injEq] at h
    obtain ⟨b, hb, bs, hbs, rfl⟩ := h
    have key : ∃ x v, resK e O bs (x :: acc) M ∧ R I L O x v ∧ (getR a r).run P w = .ok v w := by
      cases r with
      | tmp t =>
        simp only [cRes, Option.some.injEq] at hb
        subst hb
        exact ⟨_, _, hk, he t, rfl⟩
      | cell t ty =>
        simp only [cRes, Option.map_eq_some_iff] at hb
        obtain ⟨n, hn, rfl⟩ := hb
        simp only [resK, ARes.get] at hk
        split at hk
        · rename_i k hk0
          have hr := he t
          rw [hk0] at hr
          split at hk
          · rename_i t' s x hO
            obtain ⟨hl, hk⟩ := hk
            have hv := hr.ptr_live hO rfl
            obtain ⟨c, ⟨m0z, g1, hm0z⟩, g2, g3, g4, g5, g6⟩ := hi.obj k _ _ _ hO
            obtain ⟨g7, g8⟩ := g6 0 x rfl
            have hex : ∀ j, ∃ u, j < n.getD 1 → c[0 * s + j]? = some u ∧ ∀ c', x.cells[j]? = some c' → R I L O c' u := by
              intro j
              by_cases hj : j < n.getD 1
              · have hc' : x.cells[j]? = some (x.cells[j]'(by omega)) := by simp
                obtain ⟨u, hu, _, hr⟩ := g8 j _ hc'
                exact ⟨u, fun _ => ⟨hu, fun c'' h'' => by rw [hc'] at h''; cases h''; exact hr⟩⟩
              · exact ⟨undef, fun h => (hj h).elim⟩
            let vals : Nat → Value := fun j => (hex j).choose
            have hvals : ∀ j, j < n.getD 1 → c[0 * s + j]? = some (vals j) ∧ ∀ c', x.cells[j]? = some c' → R I L O c' (vals j) := fun j hj => (hex j).choose_spec hj
            have hrun := run_loadAt (P := P) (t := ty) hn (L k).blk 0 vals w (fun j hj => by
              rw [cell_cells g1]; have := (hvals j hj).1; rwa [Nat.zero_mul] at this)
            refine ⟨_, _, hk, loadC_sound (vals := vals) (by omega) fun j c' hj hlt' => (hvals j hlt').2 c' (by simpa using hj), ?_⟩
            simp only [getR, hv]
            simp [Instr.loadAt, Instr.sureAddr] at hrun
            simpa [asAddr] using hrun
          · exact hk.elim
        · exact hk.elim
    obtain ⟨x, v, hk', hr, hrun⟩ := key
    obtain ⟨xs, vs, h1, h2, h3, h4⟩ := resK_run hi he l bs (x :: acc) M hbs hk'
    refine ⟨x :: xs, v :: vs, by simpa using h1, by simp [h2], fun i y u hy hu => ?_, ?_⟩
    · cases i with
      | zero => simp at hy hu; subst hy; subst hu; exact hr
      | succ i => simp at hy hu; exact h3 i y u hy hu
    · rw [List.mapM_cons, Sem.run_bind, hrun, Result.andThen_ok, Sem.run_bind, h4]
      rfl
theorem results_run {fn : Func} {e : Env} {O O' : List AObj} {a : Act} {w : World} {I : Imm} {L : Nat → Loc} {rs : List ARes} {res : AV} {x : AX} (hm : fn.results.toList.mapM (cRes P) = some rs) (hs : Sat I0 L0 O0 w0 nt e O a w I L)
    (hk : retK O0.length rs res O' x e O) : ∃ y I' L', (results fn a.tmps).run P w = .ok y w ∧ R I' L' O' res y ∧ Good I0 L0 O0 w0 I' L' O' w := by
  have hk' : resK e O rs [] fun xs => ∃ e', WK O0.length (fun t => if t = 0 then packR xs else .top) O e' O' ∧ e' 0 = res := by
    cases x <;> first | exact hk | exact hk.elim
  obtain ⟨xs, vs, ⟨e', hw, he0⟩, h2, h3, h4⟩ := resK_run hs.good.inv hs.env _ _ _ _ hm hk'
  simp only [List.reverse_nil, List.nil_append] at hw
  let y : Value := if h : vs.toArray.size = 1 then vs.toArray[0] else .tuple vs.toArray
  have hy : R I L O (packR xs) y := by
    unfold packR
    split
    · rename_i x
      have hv : vs.length = 1 := by rw [← h2]; rfl
      have : y = vs[0]'(by omega) := by simp [y, hv]
      rw [this]
      exact h3 0 x _ rfl (by simp [hv])
    · rename_i hne
      have hv : vs.length ≠ 1 := by
        rw [← h2]; intro h1
        obtain ⟨x, hx⟩ := List.length_eq_one_iff.1 h1
        exact hne x hx
      have : y = .tuple vs.toArray := by simp [y, hv]
      rw [this]
      exact .tup _ _ (by simpa using h2) fun i c v hc hv => h3 i c v hc (by simpa using hv)
  obtain ⟨I', L', hg, hr⟩ := hw I0 L0 O0 w0 I L w (fun t => if t = 0 then y else undef) rfl hs.good (fun t => by
    by_cases ht : t = 0
    · subst ht; simpa using hy
    · simp only [if_neg ht]; exact .top _)
  refine ⟨y, I', L', ?_, ?_, hg⟩
  · have hrun : (fn.results.mapM (getR a)).run P w = .ok vs.toArray w := by
      simp [Array.mapM_eq_mapM_toList, h4]
    have hres : results fn a.tmps = (do let vs ← fn.results.mapM (getR a); pure (if h : vs.size = 1 then vs[0] else .tuple vs)) := rfl
    rw [hres, Sem.run_bind, hrun]
    rfl
  · have := hr 0
    rw [he0] at this
    simpa using this
def cFn (P : Program) (f : FuncId) (a : AFn) : Prop :=
  ∃ fn code, P.funcs[f]? = some fn ∧ fn.body = some code ∧ (fn.name == "runtime.NumGoroutine") = false ∧ fn.ntmps = a.nt ∧ a.nargs ≤ a.nt ∧
    cCode P a.nt code = some a.code.strip ∧ fn.results.toList.mapM (cRes P) = some a.res
/-- FROM THE ABSTRACT WALK OF A BODY TO THE CONTRACT OF ITS CALLS. -/
theorem con_of_wp {f : FuncId} {A : AFn} (hf : cFn P f A) {args : List AV} {O O' : List AObj} {res : AV} (hl : args.length = A.nargs)
    (h : wpC P O.length A.code (retK O.length A.res res O') (entryE args) O) : Con P f args O res O' := by
  obtain ⟨fn, code, h1, h2, h3, h4, h5, h6, h7⟩ := hf
  refine ⟨⟨fn, h1, by rw [h2]; rfl, h3⟩, ?_⟩
  intro I L w vs hi hr
  refine calls_of_wp h1 h2 ?_
  have hsz : vs.size = A.nargs := by rw [← hr.1, hl]
  have hsat : Sat I L O w A.nt (entryE args) O { tmps := vs ++ Array.replicate (fn.ntmps - vs.size) undef, defers := [] } w I L := by
    refine ⟨.refl hi, fun t => ?_, ?_, rfl⟩
    · unfold entryE
      by_cases ht : t < vs.size
      · have ha : args[t]? = some (args.getD t (.tup [])) := by simp [List.getD, show t < args.length by rw [hr.1]; exact ht]
        have hv : vs[t]? = some ((vs ++ Array.replicate (fn.ntmps - vs.size) undef).getD t undef) := by
          rw [Array.getD_eq_getD_getElem?, Array.getElem?_append_left ht]; simp [ht]
        exact hr.2 t _ _ ha hv
      · have ha : args.getD t (.tup []) = .tup [] := by simp [List.getD, List.getElem?_eq_none (show args.length ≤ t by rw [hr.1]; omega)]
        have hv : (vs ++ Array.replicate (fn.ntmps - vs.size) undef).getD t undef = .tuple #[] := by
          rw [Array.getD_eq_getD_getElem?, Array.getElem?_append_right (by omega)]
          by_cases h8 : t - vs.size < fn.ntmps - vs.size
          · simp [h8]; rfl
          · simp [h8]; rfl
        rw [ha, hv]
        exact .tup [] #[] rfl (by simp)
    · simp; omega
  refine code_sound A.code code h6 _ _ ?_ (entryE args) O _ w I L h hsat
  intro x e O1 a w' I' L' hq hs
  obtain ⟨y, I2, L2, r1, r2, r3⟩ := results_run h7 hs hq
  cases x with
  | normal => exact ⟨hs.defers, y, r1, y, I2, L2, rfl, r2, r3⟩
  | ret => exact ⟨hs.defers, y, r1, y, I2, L2, rfl, r2, r3⟩
  | exit id => exact hq.elim
end
end Go.Ab
/-
  SLOTS AS LISTS; WEAKENING: what is no longer wanted is forgotten.
-/
namespace Go.Ab
universe u
/-- an equation that the walk uses as such, not by unfolding -/
theorem nr {α : Sort u} {a b : α} (h : a = b) : a = b := h
def envL : List (Nat × AV) → Env
  | [], _ => .top
  | (k, a) :: l, t => if t = k then a else envL l t
theorem set_at (e : Env) (t : Nat) (a : AV) (k : Nat) : (e.set t a) k = if k = t then a else e k := nr rfl
theorem envL_cons (k : Nat) (a : AV) (l : List (Nat × AV)) (t : Nat) : envL ((k, a) :: l) t = if t = k then a else envL l t := nr rfl
theorem entry_at (args : List AV) (t : Nat) : entryE args t = args.getD t (.tup []) := nr rfl
theorem keepE_eq (live : List Nat) (e : Env) : keepE live e = envL (live.map fun t => (t, e t)) := by
  funext t
  induction live with
  | nil => rfl
  | cons k l ih =>
    simp only [List.map_cons, envL_cons]
    unfold keepE at ih ⊢
    by_cases h : t = k
    · subst h; simp
    · rw [if_neg h, ← ih]
      simp [h]
theorem R.take {I : Imm} {L : Nat → Loc} {O : List AObj} {k : Nat} (hk : k ≤ O.length) {a : AV} {x : Value} (hr : R I L O a x) (h : a.inScope k = true) : R I L (O.take k) a x := by
  have hget : ∀ {n : Nat}, n < k → (O.take k)[n]? = O[n]? := fun {n} hn => by rw [List.getElem?_take, if_pos hn]
  have hlen : (O.take k).length = k := by simp; omega
  induction hr with
  | top x => exact .top x
  | v x hx => exact .v x hx
  | nils => exact .nils
  | ifc t x => exact .ifc t x
  | sl0 a cap => exact .sl0 a cap
  | sl xs blk off cap s vals h1 h2 h3 h4 _ ih =>
    refine .sl xs blk off cap s vals h1 h2 h3 h4 fun i x j c hi hj => ih i x j c hi hj ?_
    exact scoped_cells (scopeds_mem (by simpa [AV.inScope] using h) x (List.mem_of_getElem? hi)) c (List.mem_of_getElem? hj)
  | iptr x f blk base vals h1 _ ih =>
    refine .iptr x f blk base vals h1 fun j c hj => ih j c hj ?_
    exact scoped_cells (by simpa [AV.inScope] using h) c (List.mem_of_getElem? hj)
  | rowLive n len e s xs hn hl =>
    have hn' : n < k := by simpa [AV.inScope] using h
    exact .rowLive n len e s xs (by rw [hget hn']; exact hn) hl
  | rowNil n e s hn =>
    have hn' : n < k := by simpa [AV.inScope] using h
    exact .rowNil n e s (by rw [hget hn']; exact hn)
  | rowDead n len x hn hnn hs hx =>
    have hn' : n < k := by simpa [AV.inScope] using h
    exact .rowDead n len x (by omega) (fun e s he => hnn e s (by rwa [hget hn'] at he)) (fun e s xs hxs => hs e s xs (by rwa [hget hn'] at hxs)) hx
  | ptrLive n len i f e s xs hn hl =>
    have hn' : n < k := by simpa [AV.inScope] using h
    exact .ptrLive n len i f e s xs (by rw [hget hn']; exact hn) hl
  | ptrDead n len i f x hn hnn hs hx =>
    have hn' : n < k := by simpa [AV.inScope] using h
    exact .ptrDead n len i f x (by omega) (fun e s he => hnn e s (by rwa [hget hn'] at he)) (fun e s xs hxs => hs e s xs (by rwa [hget hn'] at hxs)) hx
  | fn f caps vs h1 _ ih => exact .fn f caps vs h1 fun i c x hi hx => ih i c x hi hx (scopeds_mem (by simpa [AV.inScope] using h) c (List.mem_of_getElem? hi))
  | agg cs vs h1 _ ih => exact .agg cs vs h1 fun i c x hi hx => ih i c x hi hx (scopeds_mem (by simpa [AV.inScope] using h) c (List.mem_of_getElem? hi))
  | tup cs vs h1 _ ih => exact .tup cs vs h1 fun i c x hi hx => ih i c x hi hx (scopeds_mem (by simpa [AV.inScope] using h) c (List.mem_of_getElem? hi))
  | ownLive n a hn h1 =>
    have hn' : n < k := by simpa [AV.inScope] using h
    exact .ownLive n a (by rw [hget hn']; exact hn) h1
  | ownGho n g hn =>
    have hn' : n < k := by simpa [AV.inScope] using h
    exact .ownGho n g (by rw [hget hn']; exact hn)
  | ownDead n x hn hno hng h1 =>
    have hn' : n < k := by simpa [AV.inScope] using h
    exact .ownDead n x (by omega) (fun a ha => hno a (by rwa [hget hn'] at ha)) (fun a ha => hng a (by rwa [hget hn'] at ha)) h1
theorem Good.take {I0 I : Imm} {L0 L : Nat → Loc} {O0 O : List AObj} {w0 w : World} (h : Good I0 L0 O0 w0 I L O w) {k : Nat} (h0 : O0.length ≤ k) (hk : k ≤ O.length) (hb : ∀ ob ∈ O.take k, ob.inScope k = true) :
    Good I0 L0 O0 w0 I L (O.take k) w := by
  have hget : ∀ {n e s xs}, (O.take k)[n]? = some (.live e s xs) → O[n]? = some (.live e s xs) ∧ n < k := by
    intro n e s xs hn
    rw [List.getElem?_take] at hn
    split at hn
    · exact ⟨hn, by assumption⟩
    · cases hn
  have hgetn : ∀ {n e s : Nat}, (O.take k)[n]? = some (AObj.nil e s) → O[n]? = some (AObj.nil e s) := by
    intro n e s hn
    rw [List.getElem?_take] at hn
    split at hn
    · exact hn
    · cases hn
  have hgeto : ∀ {n : Nat} {a : AV}, (O.take k)[n]? = some (AObj.own a) → O[n]? = some (AObj.own a) := by
    intro n a hn
    rw [List.getElem?_take] at hn
    split at hn
    · exact hn
    · cases hn
  have hgetg : ∀ {n : Nat} {a : Gho}, (O.take k)[n]? = some (AObj.gho a) → O[n]? = some (AObj.gho a) := by
    intro n a hn
    rw [List.getElem?_take] at hn
    split at hn
    · exact hn
    · cases hn
  refine ⟨⟨h.inv.imm, fun n e s xs hn => ?_, fun n m _ _ _ _ _ _ hn hm => h.inv.sep n m _ _ _ _ _ _ (hget hn).1 (hget hm).1, fun n e s xs o hn => h.inv.immSep n e s xs o (hget hn).1, h.inv.fix, h.inv.blk, h.inv.ow.same (fun n a hn => ⟨hgeto hn, rfl⟩) (fun b o v hv => .inl ⟨o, v, hv⟩) (fun m e s xs hm => .inl ⟨m, _, _, _, (hget hm).1, rfl⟩) rfl, ⟨fun n g hn => ?_, fun n m g g' hn hm hb => h.inv.gh.sep n m g g' (hgetg hn) (hgetg hm) hb⟩⟩, ⟨h.ext.imm, by simp; omega, fun n hn e s xs hx => h.ext.obj n hn e s xs (hget hx).1, fun n hn e s hx => h.ext.nil n hn e s (hgetn hx), fun n hn a hx => h.ext.own n hn a (hgeto hx), fun n hn a hx => h.ext.gho n hn a (hgetg hx)⟩, h.frm, ?_, h.immNew⟩
  · obtain ⟨c, ⟨m0z, h1, hm0z⟩, h2, h3, h4, h5, h6⟩ := h.inv.obj n e s xs (hget hn).1
    refine ⟨c, ⟨m0z, h1, hm0z⟩, h2, h3, h4, h5, fun i x hx => ⟨(h6 i x hx).1, fun j a ha => ?_⟩⟩
    obtain ⟨y, hy, ho, hr⟩ := (h6 i x hx).2 j a ha
    have hbo := hb _ (List.mem_of_getElem? hn)
    exact ⟨y, hy, ho, hr.take hk (scoped_cells (scopeds_mem hbo x (List.mem_of_getElem? hx)) a (List.mem_of_getElem? ha))⟩
  · have h1 := h.inv.gh.ok n g (hgetg hn)
    have hbo := hb _ (List.mem_of_getElem? hn)
    cases g with
    | it s p => exact h1
    | mp es =>
      obtain ⟨en, c, h2, h3, h4⟩ := h1
      refine ⟨en, c, h2, h3, fun i a v hi => ?_⟩
      obtain ⟨e, h5, h6, h7⟩ := h4 i a v hi
      have hs := List.all_eq_true.1 (show es.all (fun p => p.1.inScope k && p.2.inScope k) = true from hbo) (a, v) (List.mem_of_getElem? hi)
      simp only [Bool.and_eq_true] at hs
      exact ⟨e, h5, h6.take hk hs.1, h7.take hk hs.2⟩
  · rintro b (⟨n, e, s, xs, hn, hb⟩ | ⟨n, a, o, v, hn, hb⟩ | ⟨n, g, hn, hb⟩)
    · exact h.lb b (.inl ⟨n, e, s, xs, (hget hn).1, hb⟩)
    · exact h.lb b (.inr (.inl ⟨n, a, o, v, hgeto hn, hb⟩))
    · exact h.lb b (.inr (.inr ⟨n, g, hgetg hn, hb⟩))
/-- forget slots, and the objects from k on -/
theorem WK.forget {n0 : Nat} {e e' : Env} {O O' : List AObj} {k : Nat} (hO : O.take k = O') (h0 : n0 ≤ k) (hk : k ≤ O.length) (hb : ∀ ob ∈ O', ob.inScope k = true) (he : ∀ t, e' t = .top ∨ (e' t = e t ∧ (e' t).inScope k = true)) : WK n0 e O e' O' := by
  subst hO
  intro I0 L0 O0 w0 I L w f hl hg hr
  subst hl
  refine ⟨I, L, hg.take h0 hk hb, fun t => ?_⟩
  rcases he t with h | ⟨h, h'⟩
  · rw [h]; exact .top _
  · rw [h] at h' ⊢; exact (hr t).take hk h'
theorem wpOp_mono {P : Program} {o : AOp} {e : Env} {O : List AObj} {K K' : AV → List AObj → Prop} (hk : ∀ x O, K x O → K' x O) (h : wpOp P o e O K) : wpOp P o e O K' := by
  obtain ⟨x, O', h1, h2⟩ := exAny h
  exact h2 K' (hk x O' h1)
theorem wpOps_mono {P : Program} : ∀ (l : List AOper) {e : Env} {O : List AObj} {K K' : Env → List AObj → Prop}, (∀ e O, K e O → K' e O) → wpOps P l e O K → wpOps P l e O K'
  | [], _, _, _, _, hk, h => hk _ _ h
  | o :: l, e, O, K, K', hk, h => by
    simp only [wpOps] at h ⊢
    split at h
    · exact wpOp_mono (fun x O' h => wpOps_mono l hk h) h
    · split at h
      · exact ⟨fun hb => wpOp_mono (fun x O' h => wpOps_mono l hk h) (h.1 hb), fun hb => wpOps_mono l hk (h.2 hb)⟩
      · exact wpOps_mono l hk h
      · exact h.elim
theorem wpOpsL_mono {P : Program} : ∀ (l : List AOper) {acc : List Lab} {e : Env} {O : List AObj} {K K' : List Lab → Env → List AObj → Prop}, (∀ a e O, K a e O → K' a e O) → wpOpsL P l acc e O K → wpOpsL P l acc e O K'
  | [], _, _, _, _, _, hk, h => hk _ _ _ h
  | o :: l, acc, e, O, K, K', hk, h => by
    simp only [wpOpsL] at h ⊢
    split at h
    · exact wpOp_mono (fun x O' h => wpOpsL_mono l hk h) h
    · split at h
      · exact ⟨fun hb => wpOp_mono (fun x O' h => wpOpsL_mono l hk h) (h.1 hb), fun hb => wpOpsL_mono l hk (h.2 hb)⟩
      · exact wpOpsL_mono l hk h
      · exact h.elim
theorem wpOpsW_mono {P : Program} {n0 : Nat} : ∀ (l : List AOper) {e : Env} {O : List AObj} {K K' : Env → List AObj → Prop}, (∀ e O, K e O → K' e O) → wpOpsW P n0 l e O K → wpOpsW P n0 l e O K'
  | [], _, _, _, _, hk, ⟨e', O', hw, h⟩ => ⟨e', O', hw, hk _ _ h⟩
  | o :: l, e, O, K, K', hk, h => by
    simp only [wpOpsW] at h ⊢
    obtain ⟨e', O', hw, h⟩ := h
    refine ⟨e', O', hw, ?_⟩
    split at h
    · exact wpOp_mono (fun x O' h => wpOpsW_mono l hk h) h
    · split at h
      · exact ⟨fun hb => wpOp_mono (fun x O' h => wpOpsW_mono l hk h) (h.1 hb), fun hb => wpOpsW_mono l hk (h.2 hb)⟩
      · exact wpOpsW_mono l hk h
      · exact h.elim
theorem wpC_mono {P : Program} {n0 : Nat} (c : ACode) : ∀ {Q Q' : AX → Env → List AObj → Prop} {e : Env} {O : List AObj}, (∀ x e O, Q x e O → Q' x e O) → wpC P n0 c Q e O → wpC P n0 c Q' e O := by
  induction c with
  | skip => intro Q Q' e O hq h; exact hq _ _ _ h
  | region r ops =>
    intro Q Q' e O hq h
    cases r with
    | none => exact wpOps_mono ops (fun e O h => hq _ _ _ h) h
    | some rows => obtain ⟨al, h1, h2⟩ := h; exact ⟨al, h1, wpOpsL_mono al (fun labs e O h => ⟨h.1, hq _ _ _ h.2⟩) h2⟩
  | regionW ops => intro Q Q' e O hq h; exact wpOpsW_mono ops (fun e O h => hq _ _ _ h) h
  | seq a b iha ihb =>
    intro Q Q' e O hq h
    refine iha (fun x e O h => ?_) h
    cases x
    · exact ihb hq h
    · exact hq _ _ _ h
    · exact hq _ _ _ h
  | cond c t f iht ihf =>
    intro Q Q' e O hq h
    simp only [wpC] at h ⊢
    split at h
    · exact ⟨fun hb => iht hq (h.1 hb), fun hb => ihf hq (h.2 hb)⟩
    · exact h.elim
  | block id b ih =>
    intro Q Q' e O hq h
    refine ih (fun x e O h => ?_) h
    cases x
    · exact hq _ _ _ h
    · simp only at h ⊢
      split
      · rename_i hi; rw [if_pos hi] at h; exact hq _ _ _ h
      · rename_i hi; rw [if_neg hi] at h; exact hq _ _ _ h
    · exact hq _ _ _ h
  | loop b ih =>
    intro Q Q' e O hq h
    obtain ⟨J, n, h0, hr⟩ := h
    refine ⟨J, n, h0, fun n e O hJ => ih (fun x e O h => ?_) (hr n e O hJ)⟩
    cases x
    · exact h
    · exact hq _ _ _ h
    · exact hq _ _ _ h
  | exit id => intro Q Q' e O hq h; exact hq _ _ _ h
  | ret => intro Q Q' e O hq h; exact hq _ _ _ h
  | keep l c ih =>
    intro Q Q' e O hq h
    refine ih (fun x e O h => ?_) h
    cases x <;> exact hq _ _ _ h
  | weak c ih =>
    intro Q Q' e O hq h
    obtain ⟨e', O', hw, h⟩ := h
    exact ⟨e', O', hw, ih hq h⟩
/-- what a round of a loop must come to -/
def roundQ (n0 : Nat) {ι : Type} (D : ι → Prop) (σ : ι → Env) (τ : ι → List AObj) (μ : ι → Nat) (i : ι) (Q : AX → Env → List AObj → Prop) : AX → Env → List AObj → Prop :=
  fun x e O => match x with | .normal => ∃ j, D j ∧ μ j < μ i ∧ WK n0 e O (σ j) (τ j) | x => Q x e O
/-- A LOOP, by a family of states. -/
theorem wpC_loop {P : Program} {n0 : Nat} {b : ACode} {Q : AX → Env → List AObj → Prop} {e : Env} {O : List AObj} {ι : Type} (D : ι → Prop) (σ : ι → Env) (τ : ι → List AObj) (μ : ι → Nat) (i0 : ι)
    (hd : D i0) (h0 : WK n0 e O (σ i0) (τ i0)) (hr : ∀ i, D i → wpC P n0 b (roundQ n0 D σ τ μ i Q) (σ i) (τ i)) : wpC P n0 (.loop b) Q e O := by
  refine ⟨fun n e O => ∃ i, D i ∧ μ i = n ∧ e = σ i ∧ O = τ i, μ i0, ⟨_, _, h0, i0, hd, rfl, rfl, rfl⟩, ?_⟩
  rintro n e O ⟨i, hi, rfl, rfl, rfl⟩
  refine wpC_mono b (fun x e O h => ?_) (hr i hi)
  cases x
  · obtain ⟨j, hj, h1, h2⟩ := h
    exact ⟨μ j, _, _, h1, h2, j, hj, rfl, rfl, rfl⟩
  · exact h
  · exact h
theorem WK.of_eq {n0 : Nat} {e e' : Env} {O O' : List AObj} (he : e = e') (hO : O = O') : WK n0 e O e' O' := by subst he; subst hO; exact .refl _ _ _
/- the equations by which a walk goes on: all but those of loops and weakenings -/
section
variable (P : Program) (n0 : Nat) (Q : AX → Env → List AObj → Prop) (e : Env) (O : List AObj)
theorem wpC_skip : wpC P n0 .skip Q e O = Q .normal e O := nr rfl
theorem wpC_region (ops : List AOper) : wpC P n0 (.region none ops) Q e O = Go.Ab.wpOps P ops e O (Q .normal) := nr rfl
theorem wpC_cond (c : Opd) (t f : ACode) : wpC P n0 (.cond c t f) Q e O = match c.ev e with
    | .v (.bool b) => (b = true → wpC P n0 t Q e O) ∧ (b = false → wpC P n0 f Q e O)
    | _ => False := nr rfl
theorem wpC_exit (id : Nat) : wpC P n0 (.exit id) Q e O = Q (.exit id) e O := nr rfl
theorem wpC_ret : wpC P n0 .ret Q e O = Q .ret e O := nr rfl
theorem wpOps_nil (K : Env → List AObj → Prop) : Go.Ab.wpOps P [] e O K = K e O := nr rfl
theorem wpOps_guard (K : Env → List AObj → Prop) (t : Nat) (want : Bool) (d : Option Nat) (op : AOp) (r : List AOper) :
    Go.Ab.wpOps P (⟨some (t, want), d, op⟩ :: r) e O K = match e t with
      | .v (.bool b) =>
        (b = want → wpOp P op (e.set t (.v (.bool want))) O fun x O' => Go.Ab.wpOps P r (setD (e.set t (.v (.bool want))) d x) O' K) ∧
        (b = !want → Go.Ab.wpOps P r (setD (e.set t (.v (.bool (!want)))) d (.tup [])) O K)
      | .tup [] => Go.Ab.wpOps P r (setD e d (.tup [])) O K
      | _ => False := nr rfl
theorem setD_some (t : Nat) (a : AV) : setD e (some t) a = e.set t a := nr rfl
theorem setD_none (a : AV) : setD e none a = e := nr rfl
theorem ev_t (n : Nat) : (Opd.t n).ev e = e n := nr rfl
theorem ev_c (a : AV) : (Opd.c a).ev e = a := nr rfl
end
end Go.Ab
/-
  THE RULES BY WHICH A WALK GOES ON: operands first, then the operation; what comes behind it is not looked at till then.
-/
namespace Go.Ab
theorem data_toList (a : ByteArray) : a.toList = a.data.toList := ByteArray.toList_eq a
abbrev KT := AV → List AObj → Prop
def k1 (a : AV) (O : List AObj) (K : KT) : Prop := K a O
theorem k1_eq (a : AV) (O : List AObj) (K : KT) : k1 a O K = K a O := nr rfl
def pickK (c a b : AV) (O : List AObj) (K : KT) : Prop := match c with
  | .v (.bool t) => K (if t then a else b) O
  | _ => False
theorem pickK_true (a b : AV) (O : List AObj) (K : KT) : pickK (.v (.bool true)) a b O K = k1 a O K := nr rfl
theorem pickK_false (a b : AV) (O : List AObj) (K : KT) : pickK (.v (.bool false)) a b O K = k1 b O K := nr rfl
theorem pickK_bool (t x y : Bool) (O : List AObj) (K : KT) : pickK (.v (.bool t)) (.v (.bool x)) (.v (.bool y)) O K = k1 (.v (.bool (if t = true then x else y))) O K := by cases t <;> rfl
def boxK (t s : Nat) (a : AV) (O : List AObj) (K : KT) : Prop := a.cells.length = s ∧ a.storable = true ∧ K (.ptr O.length 1 0 0) (O ++ [.live t s [a]])
theorem boxK_eq (t s : Nat) (a : AV) (O : List AObj) (K : KT) : boxK t s a O K = (a.cells.length = s ∧ a.storable = true ∧ k1 (.ptr O.length 1 0 0) (O ++ [.live t s [a]]) K) := nr rfl
def bldK (z : List AV) (ps : List (Nat × Nat × AV)) (O : List AObj) (K : KT) : Prop := match ps with
  | [] => K (.agg z) O
  | (off, size, x) :: r => x.cells.length = size ∧ (x.isCell || x.isAgg) = true ∧ off + size ≤ z.length ∧ bldK (z.take off ++ x.cells ++ z.drop (off + size)) r O K
theorem bldK_nil (z : List AV) (O : List AObj) (K : KT) : bldK z [] O K = k1 (.agg z) O K := by simp [bldK, k1]
theorem bldK_cons (z : List AV) (off size : Nat) (x : AV) (r : List (Nat × Nat × AV)) (O : List AObj) (K : KT) :
    bldK z ((off, size, x) :: r) O K = (x.cells.length = size ∧ (x.isCell || x.isAgg) = true ∧ off + size ≤ z.length ∧ bldK (z.take off ++ x.cells ++ z.drop (off + size)) r O K) := by rw [bldK]
theorem buildK_bld {e : Env} {O : List AObj} {K : KT} : ∀ (ps : List (Nat × Nat × Opd)) (z : List AV), buildK e z ps (fun a => K a O) = bldK z (ps.map fun p => (p.1, p.2.1, p.2.2.ev e)) O K
  | [], z => by simp [buildK, bldK]
  | (off, size, x) :: r, z => by simp only [buildK, List.map_cons, bldK, buildK_bld r]
def bslK (t s : Nat) (len : Nat) (xs : List AV) (ps : List (Nat × AV)) (O : List AObj) (K : KT) : Prop := match ps with
  | [] => K (.row O.length len) (O ++ [.live t s xs])
  | (i, x) :: r => x.cells.length = s ∧ x.storable = true ∧ i < xs.length ∧ bslK t s len (xs.set i x) r O K
theorem bslK_nil (t s len : Nat) (z : List AV) (O : List AObj) (K : KT) : bslK t s len z [] O K = k1 (.row O.length len) (O ++ [.live t s z]) K := by simp [bslK, k1]
theorem bslK_cons (t s len : Nat) (z : List AV) (i : Nat) (x : AV) (r : List (Nat × AV)) (O : List AObj) (K : KT) :
    bslK t s len z ((i, x) :: r) O K = (x.cells.length = s ∧ x.storable = true ∧ i < z.length ∧ bslK t s len (z.set i x) r O K) := by rw [bslK]
theorem rowK_bsl {e : Env} {O : List AObj} {K : KT} (t s len : Nat) : ∀ (ps : List (Nat × Opd)) (z : List AV), rowK e s z ps (fun xs => K (.row O.length len) (O ++ [.live t s xs])) = bslK t s len z (ps.map fun p => (p.1, p.2.ev e)) O K
  | [], z => by simp [rowK, bslK]
  | (i, x) :: r, z => by simp only [rowK, List.map_cons, bslK, rowK_bsl t s len r]
/-- an object that is looked up -/
def objK (o : Option AObj) (M : Nat → Nat → List AV → Prop) : Prop := match o with
  | some (.live t s xs) => M t s xs
  | _ => False
/-- an object that is a slice -/
def objN (o : Option AObj) (N : Nat → Nat → Prop) (M : Nat → Nat → List AV → Prop) : Prop := match o with
  | some (.live t s xs) => M t s xs
  | some (.nil t s) => N t s
  | _ => False
theorem objN_live (t s : Nat) (xs : List AV) (N : Nat → Nat → Prop) (M : Nat → Nat → List AV → Prop) : objN (some (.live t s xs)) N M = M t s xs := nr rfl
theorem objN_nil (t s : Nat) (N : Nat → Nat → Prop) (M : Nat → Nat → List AV → Prop) : objN (some (.nil t s)) N M = N t s := nr rfl
theorem objK_live (t s : Nat) (xs : List AV) (M : Nat → Nat → List AV → Prop) : objK (some (.live t s xs)) M = M t s xs := nr rfl
def loadK (n : Option Nat) (a : AV) (O : List AObj) (K : KT) : Prop := match a with
    | .iptr y f => f + n.getD 1 ≤ y.cells.length ∧ K (loadC n y f) O
    | .ptr k len i f => objK O[k]? fun _ _ xs => xs.length = len ∧ i < len ∧ f + n.getD 1 ≤ (xs.getD i .top).cells.length ∧ K (loadC n (xs.getD i .top) f) O
    | _ => False
theorem loadK_iptr (n : Option Nat) (y : AV) (f : Nat) (O : List AObj) (K : KT) : loadK n (.iptr y f) O K = (f + n.getD 1 ≤ y.cells.length ∧ k1 (loadC n y f) O K) := nr rfl
theorem loadK_ptr (n : Option Nat) (k len i f : Nat) (O : List AObj) (K : KT) : loadK n (.ptr k len i f) O K = objK O[k]? fun _ _ xs => xs.length = len ∧ i < len ∧ f + n.getD 1 ≤ (xs.getD i .top).cells.length ∧ k1 (loadC n (xs.getD i .top) f) O K := nr rfl
def storeK (m : Nat) (a b : AV) (O : List AObj) (K : KT) : Prop := match a with
    | .ptr k len i f => objK O[k]? fun t s xs => xs.length = len ∧ i < len ∧ b.cells.length = m ∧ b.storable = true ∧ f + m ≤ (xs.getD i .top).cells.length ∧ K .top (O.set k (.live t s (xs.set i (upd (xs.getD i .top) f b))))
    | _ => False
theorem storeK_ptr (m k len i f : Nat) (b : AV) (O : List AObj) (K : KT) : storeK m (.ptr k len i f) b O K = objK O[k]? fun t s xs => xs.length = len ∧ i < len ∧ b.cells.length = m ∧ b.storable = true ∧ f + m ≤ (xs.getD i .top).cells.length ∧ k1 .top (O.set k (.live t s (xs.set i (upd (xs.getD i .top) f b)))) K := nr rfl
def binK (op : BinOp) (a b : AV) (O : List AObj) (K : KT) : Prop := match a, b with
    | .v x, .v y => match sbin op x y with
      | some z => K (.v z) O
      | none => False
    | _, _ => False
section
variable (k : IntKind) (a b : Int) (O : List AObj) (K : KT)
theorem binK_add : binK .add (.v (.int k a)) (.v (.int k b)) O K = k1 (.v (.int k (k.wrap (a + b)))) O K := by simp [binK, sbin, ibin, BinOp.isShift, k1]
theorem binK_sub : binK .sub (.v (.int k a)) (.v (.int k b)) O K = k1 (.v (.int k (k.wrap (a - b)))) O K := by simp [binK, sbin, ibin, BinOp.isShift, k1]
theorem binK_mul : binK .mul (.v (.int k a)) (.v (.int k b)) O K = k1 (.v (.int k (k.wrap (a * b)))) O K := by simp [binK, sbin, ibin, BinOp.isShift, k1]
theorem binK_and : binK .and (.v (.int k a)) (.v (.int k b)) O K = k1 (.v (.int k (k.wrap (BitVec.ofInt k.bits a &&& BitVec.ofInt k.bits b).toNat))) O K := by simp [binK, sbin, ibin, BinOp.isShift, k1]
theorem binK_or : binK .or (.v (.int k a)) (.v (.int k b)) O K = k1 (.v (.int k (k.wrap (BitVec.ofInt k.bits a ||| BitVec.ofInt k.bits b).toNat))) O K := by simp [binK, sbin, ibin, BinOp.isShift, k1]
theorem binK_xor : binK .xor (.v (.int k a)) (.v (.int k b)) O K = k1 (.v (.int k (k.wrap (BitVec.ofInt k.bits a ^^^ BitVec.ofInt k.bits b).toNat))) O K := by simp [binK, sbin, ibin, BinOp.isShift, k1]
theorem binK_quo : binK .quo (.v (.int k a)) (.v (.int k b)) O K = (b ≠ 0 ∧ k1 (.v (.int k (k.wrap (a.tdiv b)))) O K) := by
  by_cases h : b = 0 <;> simp [binK, sbin, ibin, BinOp.isShift, k1, h]
theorem binK_rem : binK .rem (.v (.int k a)) (.v (.int k b)) O K = (b ≠ 0 ∧ k1 (.v (.int k (a.tmod b))) O K) := by
  by_cases h : b = 0 <;> simp [binK, sbin, ibin, BinOp.isShift, k1, h]
theorem binK_eql : binK .eql (.v (.int k a)) (.v (.int k b)) O K = k1 (.v (.bool (decide (a = b)))) O K := by
  have : (a == b) = decide (a = b) := by by_cases h : a = b <;> simp [h]
  simp [binK, sbin, ibin, BinOp.isShift, k1, this]
theorem binK_neq : binK .neq (.v (.int k a)) (.v (.int k b)) O K = k1 (.v (.bool (!decide (a = b)))) O K := by
  have : (a != b) = !decide (a = b) := by by_cases h : a = b <;> simp [h]
  simp [binK, sbin, ibin, BinOp.isShift, k1, this]
theorem binK_lss : binK .lss (.v (.int k a)) (.v (.int k b)) O K = k1 (.v (.bool (decide (a < b)))) O K := by simp [binK, sbin, ibin, BinOp.isShift, k1]
theorem binK_leq : binK .leq (.v (.int k a)) (.v (.int k b)) O K = k1 (.v (.bool (decide (a ≤ b)))) O K := by simp [binK, sbin, ibin, BinOp.isShift, k1]
theorem binK_gtr : binK .gtr (.v (.int k a)) (.v (.int k b)) O K = k1 (.v (.bool (decide (b < a)))) O K := by simp [binK, sbin, ibin, BinOp.isShift, k1]
theorem binK_geq : binK .geq (.v (.int k a)) (.v (.int k b)) O K = k1 (.v (.bool (decide (b ≤ a)))) O K := by simp [binK, sbin, ibin, BinOp.isShift, k1]
theorem binK_shl (k' : IntKind) : binK .shl (.v (.int k a)) (.v (.int k' b)) O K = (0 ≤ b ∧ k1 (.v (.int k (k.wrap (a * 2 ^ (min b.toNat k.bits))))) O K) := by
  by_cases h : 0 ≤ b <;> simp [binK, sbin, shbin, BinOp.isShift, k1, h]
theorem binK_shr (k' : IntKind) : binK .shr (.v (.int k a)) (.v (.int k' b)) O K = (0 ≤ b ∧ k1 (.v (.int k (a.fdiv (2 ^ (min b.toNat k.bits))))) O K) := by
  by_cases h : 0 ≤ b <;> simp [binK, sbin, shbin, BinOp.isShift, k1, h]
end
theorem toList_beq (a b : ByteArray) : (a.toList == b.toList) = decide (a = b) := by
  rw [data_toList, data_toList]
  by_cases h : a = b
  · simp [h]
  · have : ¬ a.data = b.data := fun h' => h (by cases a; cases b; simpa using h')
    simp [h, this]
section
variable (a b : ByteArray) (O : List AObj) (K : KT)
theorem binK_sadd : binK .add (.v (.string a)) (.v (.string b)) O K = (((a.size + b.size : Nat) : Int) ≤ 9223372036854775807 ∧ k1 (.v (.string (a ++ b))) O K) := by
  have h3 : IntKind.i64.max = 9223372036854775807 := by decide
  by_cases h : ((a.size + b.size : Nat) : Int) ≤ 9223372036854775807
  · simp only [binK, sbin, stbin, k1, h3, if_pos h, h, if_true, true_and]
  · simp only [binK, sbin, stbin, k1, h3, if_neg h, h, if_false, false_and]
theorem binK_seql : binK .eql (.v (.string a)) (.v (.string b)) O K = k1 (.v (.bool (decide (a = b)))) O K := by simp [binK, sbin, stbin, k1, toList_beq]
theorem binK_sneq : binK .neq (.v (.string a)) (.v (.string b)) O K = k1 (.v (.bool (!decide (a = b)))) O K := by simp [binK, sbin, stbin, k1, toList_beq]
end
def unK (op : UnOp) (a : AV) (O : List AObj) (K : KT) : Prop := match a with
    | .v x => match sun op x with
      | some z => K (.v z) O
      | none => False
    | _ => False
theorem unK_not (b : Bool) (O : List AObj) (K : KT) : unK .not (.v (.bool b)) O K = k1 (.v (.bool (!b))) O K := nr rfl
theorem unK_neg (k : IntKind) (n : Int) (O : List AObj) (K : KT) : unK .neg (.v (.int k n)) O K = k1 (.v (.int k (k.wrap (-n)))) O K := by simp [unK, sun, k1]
def convK (k : IntKind) (a : AV) (O : List AObj) (K : KT) : Prop := match a with
    | .v (.int _ n) => K (.v (.int k (k.wrap n))) O
    | _ => False
theorem convK_eq (k k' : IntKind) (n : Int) (O : List AObj) (K : KT) : convK k (.v (.int k' n)) O K = k1 (.v (.int k (k.wrap n))) O K := nr rfl
def faddrK (off : Nat) (a : AV) (O : List AObj) (K : KT) : Prop := match a with
    | .iptr y f => K (.iptr y (f + off)) O
    | .ptr n len i f => objK O[n]? fun _ _ xs => xs.length = len ∧ K (.ptr n len i (f + off)) O
    | _ => False
theorem faddrK_iptr (off : Nat) (y : AV) (f : Nat) (O : List AObj) (K : KT) : faddrK off (.iptr y f) O K = k1 (.iptr y (f + off)) O K := nr rfl
theorem faddrK_ptr (off n len i f : Nat) (O : List AObj) (K : KT) : faddrK off (.ptr n len i f) O K = objK O[n]? fun _ _ xs => xs.length = len ∧ k1 (.ptr n len i (f + off)) O K := nr rfl
def fldK (off : Nat) (n : Option Nat) (a : AV) (O : List AObj) (K : KT) : Prop := a.isAgg = true ∧ off + n.getD 1 ≤ a.cells.length ∧ K (loadC n a off) O
theorem fldK_eq (off : Nat) (n : Option Nat) (a : AV) (O : List AObj) (K : KT) : fldK off n a O K = (a.isAgg = true ∧ off + n.getD 1 ≤ a.cells.length ∧ k1 (loadC n a off) O K) := nr rfl
def iaddrK (s : Nat) (a i : AV) (O : List AObj) (K : KT) : Prop := match a, i with
    | .sl xs, .v (.int _ i) => 0 ≤ i ∧ i < xs.length ∧ (xs.getD i.toNat .top).cells.length = s ∧ K (.iptr (xs.getD i.toNat .top) 0) O
    | .row n len, .v (.int _ i) => objK O[n]? fun _ s' xs => s' = s ∧ xs.length = len ∧ 0 ≤ i ∧ i < len ∧ K (.ptr n len i.toNat 0) O
    | _, _ => False
theorem iaddrK_sl (s : Nat) (xs : List AV) (k : IntKind) (i : Int) (O : List AObj) (K : KT) : iaddrK s (.sl xs) (.v (.int k i)) O K = (0 ≤ i ∧ i < xs.length ∧ (xs.getD i.toNat .top).cells.length = s ∧ k1 (.iptr (xs.getD i.toNat .top) 0) O K) := nr rfl
theorem iaddrK_row (s n len : Nat) (k : IntKind) (i : Int) (O : List AObj) (K : KT) : iaddrK s (.row n len) (.v (.int k i)) O K = objK O[n]? fun _ s' xs => s' = s ∧ xs.length = len ∧ 0 ≤ i ∧ i < len ∧ k1 (.ptr n len i.toNat 0) O K := nr rfl
def idxSK (a i : AV) (O : List AObj) (K : KT) : Prop := match a, i with
    | .v (.string s), .v (.int _ i) => 0 ≤ i ∧ i < s.size ∧ K (.v (.int .u8 (s.data.toList.getD i.toNat 0).toNat)) O
    | _, _ => False
theorem idxSK_eq (s : ByteArray) (k : IntKind) (i : Int) (O : List AObj) (K : KT) : idxSK (.v (.string s)) (.v (.int k i)) O K = (0 ≤ i ∧ i < s.size ∧ k1 (.v (.int .u8 (s.data.toList.getD i.toNat 0).toNat)) O K) := nr rfl
def bnd (d : Int) (x : Option AV) (M : Int → Prop) : Prop := match x with
  | none => M d
  | some (.v (.int _ i)) => M i
  | _ => False
theorem bnd_none (d : Int) (M : Int → Prop) : bnd d none M = M d := nr rfl
theorem bnd_some (d : Int) (k : IntKind) (i : Int) (M : Int → Prop) : bnd d (some (.v (.int k i))) M = M i := nr rfl
theorem boundK_bnd (d : Int) (e : Env) (x : Option Opd) (M : Int → Prop) : boundK d e x M = bnd d (x.map (Opd.ev e)) M := by
  cases x with
  | none => rfl
  | some o =>
    simp only [boundK, bnd, Option.map_some]
    cases o.ev e <;> try rfl
    rename_i v; cases v <;> rfl
def sliceSK (a : AV) (lo hi : Option AV) (O : List AObj) (K : KT) : Prop := match a with
    | .v (.string s) => bnd 0 lo fun l => bnd s.size hi fun h => 0 ≤ l ∧ l ≤ h ∧ h ≤ s.size ∧ K (.v (.string (s.extract l.toNat h.toNat))) O
    | _ => False
theorem sliceSK_eq (s : ByteArray) (lo hi : Option AV) (O : List AObj) (K : KT) : sliceSK (.v (.string s)) lo hi O K = bnd 0 lo fun l => bnd s.size hi fun h => 0 ≤ l ∧ l ≤ h ∧ h ≤ s.size ∧ k1 (.v (.string (s.extract l.toNat h.toNat))) O K := nr rfl
def sliceLK (s : Nat) (a : AV) (lo hi : Option AV) (O : List AObj) (K : KT) : Prop := match a with
    | .sl xs => bnd 0 lo fun l => bnd xs.length hi fun h => 0 ≤ l ∧ l ≤ h ∧ h ≤ xs.length ∧ (∀ y ∈ xs, y.cells.length = s) ∧ K (.sl ((xs.take h.toNat).drop l.toNat)) O
    | _ => False
theorem sliceLK_eq (s : Nat) (xs : List AV) (lo hi : Option AV) (O : List AObj) (K : KT) : sliceLK s (.sl xs) lo hi O K = bnd 0 lo fun l => bnd xs.length hi fun h => 0 ≤ l ∧ l ≤ h ∧ h ≤ xs.length ∧ (∀ y ∈ xs, y.cells.length = s) ∧ k1 (.sl ((xs.take h.toNat).drop l.toNat)) O K := nr rfl
def mkK (t s bytes : Nat) (z a b : AV) (O : List AObj) (K : KT) : Prop := match a, b with
    | .v (.int .i64 n), .v (.int .i64 c) => 0 ≤ n ∧ n ≤ c ∧ bytes * c ≤ 2 ^ 48 ∧ c ≤ maxLen ∧ K (.row O.length n.toNat) (O ++ [.live t s (List.replicate n.toNat z)])
    | _, _ => False
theorem mkK_eq (t s bytes : Nat) (z : AV) (n c : Int) (O : List AObj) (K : KT) : mkK t s bytes z (.v (.int .i64 n)) (.v (.int .i64 c)) O K = (0 ≤ n ∧ n ≤ c ∧ bytes * c ≤ 281474976710656 ∧ c ≤ 9223372036854775807 ∧ k1 (.row O.length n.toNat) (O ++ [.live t s (List.replicate n.toNat z)]) K) := by
  have h1 : ((2 : Int) ^ 48) = 281474976710656 := by decide
  have h2 : ((maxLen : Nat) : Int) = 9223372036854775807 := by decide
  simp only [mkK, h1, h2, k1]
def lenSK (a : AV) (O : List AObj) (K : KT) : Prop := match a with
    | .v (.string s) => K (.v (.int .i64 s.size)) O
    | _ => False
theorem lenSK_eq (s : ByteArray) (O : List AObj) (K : KT) : lenSK (.v (.string s)) O K = k1 (.v (.int .i64 s.size)) O K := nr rfl
def lenLK (a : AV) (O : List AObj) (K : KT) : Prop := match a with
    | .nils => K (.v (.int .i64 0)) O
    | .sl xs => K (.v (.int .i64 xs.length)) O
    | .row n len => objN O[n]? (fun _ _ => len = 0 ∧ K (.v (.int .i64 0)) O) fun _ _ xs => xs.length = len ∧ K (.v (.int .i64 len)) O
    | _ => False
theorem lenLK_nils (O : List AObj) (K : KT) : lenLK .nils O K = k1 (.v (.int .i64 0)) O K := nr rfl
theorem lenLK_sl (xs : List AV) (O : List AObj) (K : KT) : lenLK (.sl xs) O K = k1 (.v (.int .i64 xs.length)) O K := nr rfl
theorem lenLK_row (n len : Nat) (O : List AObj) (K : KT) : lenLK (.row n len) O K = objN O[n]? (fun _ _ => len = 0 ∧ k1 (.v (.int .i64 0)) O K) fun _ _ xs => xs.length = len ∧ k1 (.v (.int .i64 len)) O K := nr rfl
def srcOf (O : List AObj) (y : AV) (M : List AV → Prop) : Prop := match y with
  | .nils => M []
  | .sl ys => M ys
  | .row n len => objN O[n]? (fun _ _ => len = 0 ∧ M []) fun _ _ xs => xs.length = len ∧ M xs
  | _ => False
theorem srcOf_nils (O : List AObj) (M : List AV → Prop) : srcOf O .nils M = M [] := nr rfl
theorem srcOf_sl (O : List AObj) (ys : List AV) (M : List AV → Prop) : srcOf O (.sl ys) M = M ys := nr rfl
theorem srcOf_row (O : List AObj) (n len : Nat) (M : List AV → Prop) : srcOf O (.row n len) M = objN O[n]? (fun _ _ => len = 0 ∧ M []) fun _ _ xs => xs.length = len ∧ M xs := nr rfl
def ontoK (O : List AObj) (x : AV) (t s bytes : Nat) (ys : List AV) (K : KT) : Prop := match x with
  | .nils => ys.length * bytes ≤ 140737488355328 ∧ ys.length ≤ maxLen ∧ (ys = [] → K .nils O) ∧ (ys ≠ [] → K (.row O.length ys.length) (O ++ [.live t s ys]))
  | .row n len => objN O[n]? (fun t' s' => t' = t ∧ s' = s ∧ len = 0 ∧ ys.length * bytes ≤ 140737488355328 ∧ ys.length ≤ maxLen ∧ (ys = [] → K (.row n 0) O) ∧ (ys ≠ [] → K (.row n ys.length) (O.set n (.live t s ys)))) fun t' s' xs => t' = t ∧ s' = s ∧ xs.length = len ∧ (len + ys.length) * bytes ≤ 140737488355328 ∧ len + ys.length ≤ maxLen ∧
        K (.row n (len + ys.length)) (O.set n (.live t s (xs ++ ys)))
  | _ => False
theorem ontoK_nils1 (O : List AObj) (t s bytes : Nat) (y : AV) (ys : List AV) (K : KT) : ontoK O .nils t s bytes (y :: ys) K = ((y :: ys).length * bytes ≤ 140737488355328 ∧ (y :: ys).length ≤ maxLen ∧ k1 (.row O.length (y :: ys).length) (O ++ [.live t s (y :: ys)]) K) := by
  simp [ontoK, k1]
theorem ontoK_nils (O : List AObj) (t s bytes : Nat) (ys : List AV) (K : KT) : ontoK O .nils t s bytes ys K = (ys.length * bytes ≤ 140737488355328 ∧ ys.length ≤ maxLen ∧ (ys = [] → k1 .nils O K) ∧ (ys ≠ [] → k1 (.row O.length ys.length) (O ++ [.live t s ys]) K)) := nr rfl
theorem ontoK_row (O : List AObj) (n len t s bytes : Nat) (ys : List AV) (K : KT) : ontoK O (.row n len) t s bytes ys K = objN O[n]? (fun t' s' => t' = t ∧ s' = s ∧ len = 0 ∧ ys.length * bytes ≤ 140737488355328 ∧ ys.length ≤ maxLen ∧ (ys = [] → k1 (.row n 0) O K) ∧ (ys ≠ [] → k1 (.row n ys.length) (O.set n (.live t s ys)) K)) fun t' s' xs => t' = t ∧ s' = s ∧ xs.length = len ∧ (len + ys.length) * bytes ≤ 140737488355328 ∧ len + ys.length ≤ maxLen ∧
        k1 (.row n (len + ys.length)) (O.set n (.live t s (xs ++ ys))) K := nr rfl
def extK (a : AV) (i : Nat) (O : List AObj) (K : KT) : Prop := match a with
    | .tup vs => i < vs.length ∧ K (vs.getD i .top) O
    | _ => False
theorem extK_eq (vs : List AV) (i : Nat) (O : List AObj) (K : KT) : extK (.tup vs) i O K = (i < vs.length ∧ k1 (vs.getD i .top) O K) := nr rfl
def nilcK (a : AV) (O : List AObj) (K : KT) : Prop := match a with
    | .iptr y f => K (.iptr y f) O
    | .fn f caps => K (.fn f caps) O
    | .ptr n len i f => objK O[n]? fun _ _ xs => xs.length = len ∧ K (.ptr n len i f) O
    | _ => False
theorem nilcK_iptr (y : AV) (f : Nat) (O : List AObj) (K : KT) : nilcK (.iptr y f) O K = k1 (.iptr y f) O K := nr rfl
theorem nilcK_fn (f : FuncId) (cs : List AV) (O : List AObj) (K : KT) : nilcK (.fn f cs) O K = k1 (.fn f cs) O K := nr rfl
theorem nilcK_ptr (n len i f : Nat) (O : List AObj) (K : KT) : nilcK (.ptr n len i f) O K = objK O[n]? fun _ _ xs => xs.length = len ∧ k1 (.ptr n len i f) O K := nr rfl
/- calls: the walk stands still here -/
def callK (P : Program) (f : FuncId) (args : List AV) (O : List AObj) (K : KT) : Prop := ∃ res O', Con P f args O res O' ∧ K res O'
theorem callK_intro {P : Program} {f : FuncId} {args : List AV} {O : List AObj} {K : KT} (res : AV) (O' : List AObj) (h : Con P f args O res O') (k : k1 res O' K) : callK P f args O K := ⟨res, O', h, k⟩
def qcallK (P : Program) (f : FuncId) (args : List AV) (O : List AObj) (K : KT) : Prop := ∃ res, AV.norefs args = true ∧ PCon P f args res ∧ K res O
theorem qcallK_intro {P : Program} {f : FuncId} {args : List AV} {O : List AObj} {K : KT} (res : AV) (h : PCon P f args res) (hn : AV.norefs args = true) (k : k1 res O K) : qcallK P f args O K := ⟨res, hn, h, k⟩
/-- args: as they are; fargs: with what was frozen -/
def pcallK (P : Program) (f : FuncId) (fargs args : List AV) (O : List AObj) (K : KT) : Prop := ∃ res, AV.norefs fargs = true ∧ PCon P f fargs res ∧ K res (aft O args res)
theorem pcallK_intro {P : Program} {f : FuncId} {fargs args : List AV} {O : List AObj} {K : KT} (res : AV) (h : PCon P f fargs res) (hn : AV.norefs fargs = true) (k : k1 res (aft O args res) K) : pcallK P f fargs args O K := ⟨res, hn, h, k⟩
def callvK (P : Program) (x : AV) (args : List AV) (O : List AObj) (K : KT) : Prop := match x with
  | .fn f caps => callK P f (args ++ caps) O K
  | _ => False
theorem callvK_fn (P : Program) (f : FuncId) (caps args : List AV) (O : List AObj) (K : KT) : callvK P (.fn f caps) args O K = callK P f (args ++ caps) O K := nr rfl
def qcallvK (P : Program) (x : AV) (args : List AV) (O : List AObj) (K : KT) : Prop := match x with
  | .fn f caps => qcallK P f (args ++ caps) O K
  | _ => False
theorem qcallvK_fn (P : Program) (f : FuncId) (caps args : List AV) (O : List AObj) (K : KT) : qcallvK P (.fn f caps) args O K = qcallK P f (args ++ caps) O K := nr rfl
def pcallvK (P : Program) (x : AV) (fargs args : List AV) (O : List AObj) (K : KT) : Prop := match x with
  | .fn f caps => pcallK P f (fargs ++ caps) args O K
  | _ => False
theorem pcallvK_fn (P : Program) (f : FuncId) (caps fargs args : List AV) (O : List AObj) (K : KT) : pcallvK P (.fn f caps) fargs args O K = pcallK P f (fargs ++ caps) args O K := nr rfl
section
variable (P : Program) (e : Env) (O : List AObj) (K : KT)
theorem o_mov (x : Opd) : wpOp P (.mov x) e O K = k1 (x.ev e) O K := nr rfl
theorem o_pick (c a b : Opd) : wpOp P (.pick c a b) e O K = pickK (c.ev e) (a.ev e) (b.ev e) O K := nr rfl
theorem o_alloc (t s : Nat) (z : AV) : wpOp P (.alloc t s z) e O K = k1 (.ptr O.length 1 0 0) (O ++ [.live t s [z]]) K := nr rfl
theorem o_box (t s : Nat) (x : Opd) : wpOp P (.box t s x) e O K = boxK t s (x.ev e) O K := nr rfl
theorem o_build (z : List AV) (ps : List (Nat × Nat × Opd)) : wpOp P (.build z ps) e O K = bldK z (ps.map fun p => (p.1, p.2.1, p.2.2.ev e)) O K := buildK_bld ps z
theorem o_buildSlice (t s len : Nat) (z : AV) (ps : List (Nat × Opd)) : wpOp P (.buildSlice t s len z ps) e O K = bslK t s len (List.replicate len z) (ps.map fun p => (p.1, p.2.ev e)) O K := rowK_bsl t s len ps _
theorem o_load (n : Option Nat) (x : Opd) : wpOp P (.load n x) e O K = loadK n (x.ev e) O K := by
  simp only [wpOp, loadK]; cases x.ev e <;> first | rfl | (rename_i k l i f; cases O[k]? with | none => rfl | some o => cases o <;> rfl)
theorem o_store (m : Nat) (x y : Opd) : wpOp P (.store m x y) e O K = storeK m (x.ev e) (y.ev e) O K := by
  simp only [wpOp, storeK]; cases x.ev e <;> first | rfl | (rename_i k l i f; cases O[k]? with | none => rfl | some o => cases o <;> rfl)
theorem o_bin (op : BinOp) (x y : Opd) : wpOp P (.bin op x y) e O K = binK op (x.ev e) (y.ev e) O K := nr rfl
theorem o_un (op : UnOp) (x : Opd) : wpOp P (.un op x) e O K = unK op (x.ev e) O K := nr rfl
theorem o_conv (k : IntKind) (x : Opd) : wpOp P (.convInt k x) e O K = convK k (x.ev e) O K := nr rfl
theorem o_faddr (off : Nat) (x : Opd) : wpOp P (.faddr off x) e O K = faddrK off (x.ev e) O K := by
  simp only [wpOp, faddrK]; cases x.ev e <;> first | rfl | (rename_i k l i f; cases O[k]? with | none => rfl | some o => cases o <;> rfl)
theorem o_fld (off : Nat) (n : Option Nat) (x : Opd) : wpOp P (.fld off n x) e O K = fldK off n (x.ev e) O K := nr rfl
def aaddrK (m s : Nat) (a i : AV) (O : List AObj) (K : KT) : Prop := match a, i with
  | .iptr y f, .v (.int _ i) => 0 ≤ i ∧ i < m ∧ K (.iptr y (f + i.toNat * s)) O
  | .ptr n len j f, .v (.int _ i) => objK O[n]? fun _ _ xs => xs.length = len ∧ 0 ≤ i ∧ i < m ∧ K (.ptr n len j (f + i.toNat * s)) O
  | _, _ => False
theorem aaddrK_iptr (m s : Nat) (y : AV) (f : Nat) (k : IntKind) (i : Int) (O : List AObj) (K : KT) : aaddrK m s (.iptr y f) (.v (.int k i)) O K = (0 ≤ i ∧ i < m ∧ k1 (.iptr y (f + i.toNat * s)) O K) := nr rfl
theorem aaddrK_ptr (m s n len j f : Nat) (k : IntKind) (i : Int) (O : List AObj) (K : KT) : aaddrK m s (.ptr n len j f) (.v (.int k i)) O K = objK O[n]? fun _ _ xs => xs.length = len ∧ 0 ≤ i ∧ i < m ∧ k1 (.ptr n len j (f + i.toNat * s)) O K := nr rfl
theorem o_aaddr (m s : Nat) (x y : Opd) : wpOp P (.aaddr m s x y) e O K = aaddrK m s (x.ev e) (y.ev e) O K := by
  simp only [wpOp, aaddrK]; cases x.ev e <;> cases y.ev e <;> first | rfl | (rename_i v; cases v <;> first | rfl | (rename_i n len _ _ _ _; cases O[n]? with | none => rfl | some o => cases o <;> rfl))
theorem o_iaddr (s : Nat) (x y : Opd) : wpOp P (.iaddr s x y) e O K = iaddrK s (x.ev e) (y.ev e) O K := by
  simp only [wpOp, iaddrK]; cases x.ev e <;> cases y.ev e <;> first | rfl | (rename_i v; cases v <;> first | rfl | (rename_i n len _ _; cases O[n]? with | none => rfl | some o => cases o <;> rfl))
theorem o_idxS (x y : Opd) : wpOp P (.idxS x y) e O K = idxSK (x.ev e) (y.ev e) O K := nr rfl
theorem o_sliceS (x : Opd) (lo hi : Option Opd) : wpOp P (.sliceS x lo hi) e O K = sliceSK (x.ev e) (lo.map (Opd.ev e)) (hi.map (Opd.ev e)) O K := by simp only [wpOp, sliceSK, boundK_bnd]; cases x.ev e <;> first | rfl | (rename_i v; cases v <;> rfl)
theorem o_sliceL (s : Nat) (x : Opd) (lo hi : Option Opd) : wpOp P (.sliceL s x lo hi) e O K = sliceLK s (x.ev e) (lo.map (Opd.ev e)) (hi.map (Opd.ev e)) O K := by simp only [wpOp, sliceLK, boundK_bnd]; cases x.ev e <;> rfl
theorem o_mk (t s b : Nat) (z : AV) (x y : Opd) : wpOp P (.mk t s b z x y) e O K = mkK t s b z (x.ev e) (y.ev e) O K := nr rfl
theorem o_lenS (x : Opd) : wpOp P (.lenS x) e O K = lenSK (x.ev e) O K := nr rfl
theorem o_lenL (x : Opd) : wpOp P (.lenL x) e O K = lenLK (x.ev e) O K := by
  simp only [wpOp, lenLK]; cases x.ev e <;> first | rfl | (rename_i k l; cases O[k]? with | none => rfl | some o => cases o <;> rfl)
theorem o_app (t s b : Nat) (x y : Opd) : wpOp P (.app t s b x y) e O K = srcOf O (y.ev e) fun ys => (∀ y ∈ ys, y.cells.length = s) ∧ ontoK O (x.ev e) t s b ys K := by
  have h : ∀ ys, appK O (x.ev e) t s b ys K = ontoK O (x.ev e) t s b ys K := by
    intro ys; unfold appK ontoK; cases x.ev e <;> first | rfl | (rename_i k l; cases O[k]? with | none => rfl | some o => cases o <;> rfl)
  simp only [wpOp, h]
  unfold srcK srcOf; cases y.ev e <;> first | rfl | (rename_i k l; cases O[k]? with | none => rfl | some o => cases o <;> rfl)
theorem o_ext (x : Opd) (i : Nat) : wpOp P (.ext x i) e O K = extK (x.ev e) i O K := nr rfl
theorem o_nilc (x : Opd) : wpOp P (.nilc x) e O K = nilcK (x.ev e) O K := by
  simp only [wpOp, nilcK]; cases x.ev e <;> first | rfl | (rename_i k l i f; cases O[k]? with | none => rfl | some o => cases o <;> rfl)
theorem o_mkfn (f : FuncId) (cs : List Opd) : wpOp P (.mkfn f cs) e O K = k1 (.fn f (cs.map (Opd.ev e))) O K := nr rfl
theorem o_call (f : FuncId) (as : List Opd) : wpOp P (.call f as) e O K = callK P f (as.map (Opd.ev e)) O K := nr rfl
theorem o_callv (x : Opd) (as : List Opd) : wpOp P (.callv x as) e O K = callvK P (x.ev e) (as.map (Opd.ev e)) O K := nr rfl
theorem o_pcall (f : FuncId) (as : List Opd) : wpOp P (.pcall f as) e O K = pcallK P f (as.map fun x => frz O (x.ev e)) (as.map (Opd.ev e)) O K := nr rfl
theorem o_pcallv (x : Opd) (as : List Opd) : wpOp P (.pcallv x as) e O K = pcallvK P (x.ev e) (as.map fun x => frz O (x.ev e)) (as.map (Opd.ev e)) O K := nr rfl
theorem o_qcall (f : FuncId) (as : List Opd) : wpOp P (.qcall f as) e O K = qcallK P f (as.map (Opd.ev e)) O K := nr rfl
theorem o_qcallv (x : Opd) (as : List Opd) : wpOp P (.qcallv x as) e O K = qcallvK P (x.ev e) (as.map (Opd.ev e)) O K := nr rfl
end
/- what comes behind, by name: nothing of it is looked at before its time -/
def kont (P : Program) (d : Option Nat) (e : Env) (r : List AOper) (Q : Env → List AObj → Prop) : KT := fun x O' => Go.Ab.wpOps P r (setD e d x) O' Q
theorem k1_kont (P : Program) (d : Option Nat) (e : Env) (r : List AOper) (Q : Env → List AObj → Prop) (a : AV) (O : List AObj) : k1 a O (kont P d e r Q) = Go.Ab.wpOps P r (setD e d a) O Q := nr rfl
theorem wpOps_kont (P : Program) (d : Option Nat) (op : AOp) (e : Env) (O : List AObj) (r : List AOper) (Q : Env → List AObj → Prop) : Go.Ab.wpOps P (⟨none, d, op⟩ :: r) e O Q = wpOp P op e O (kont P d e r Q) := nr rfl
def gopK (P : Program) (a : AV) (want : Bool) (t : Nat) (d : Option Nat) (op : AOp) (r : List AOper) (e : Env) (O : List AObj) (Q : Env → List AObj → Prop) : Prop := match a with
  | .v (.bool b) =>
    (b = want → wpOp P op (e.set t (.v (.bool want))) O (kont P d (e.set t (.v (.bool want))) r Q)) ∧
    (b = !want → Go.Ab.wpOps P r (setD (e.set t (.v (.bool (!want)))) d (.tup [])) O Q)
  | .tup [] => Go.Ab.wpOps P r (setD e d (.tup [])) O Q
  | _ => False
section
variable (P : Program) (t : Nat) (d : Option Nat) (op : AOp) (r : List AOper) (e : Env) (O : List AObj) (Q : Env → List AObj → Prop)
theorem c_guard (want : Bool) : Go.Ab.wpOps P (⟨some (t, want), d, op⟩ :: r) e O Q = gopK P (e t) want t d op r e O Q := by
  rw [wpOps_guard]; unfold gopK; cases e t <;> try rfl
theorem gopK_tt : gopK P (.v (.bool true)) true t d op r e O Q = wpOp P op (e.set t (.v (.bool true))) O (kont P d (e.set t (.v (.bool true))) r Q) := by simp [gopK]
theorem gopK_ff : gopK P (.v (.bool false)) false t d op r e O Q = wpOp P op (e.set t (.v (.bool false))) O (kont P d (e.set t (.v (.bool false))) r Q) := by simp [gopK]
theorem gopK_tf : gopK P (.v (.bool true)) false t d op r e O Q = Go.Ab.wpOps P r (setD (e.set t (.v (.bool true))) d (.tup [])) O Q := by simp [gopK]
theorem gopK_ft : gopK P (.v (.bool false)) true t d op r e O Q = Go.Ab.wpOps P r (setD (e.set t (.v (.bool false))) d (.tup [])) O Q := by simp [gopK]
theorem gopK_skip (want : Bool) : gopK P (.tup []) want t d op r e O Q = Go.Ab.wpOps P r (setD e d (.tup [])) O Q := by simp [gopK]
variable {P t d op r e O Q}
end
def condK (P : Program) (n0 : Nat) (a : AV) (t f : ACode) (Q : AX → Env → List AObj → Prop) (e : Env) (O : List AObj) : Prop := match a with
  | .v (.bool b) => (b = true → wpC P n0 t Q e O) ∧ (b = false → wpC P n0 f Q e O)
  | _ => False
def seqQ (P : Program) (n0 : Nat) (b : ACode) (Q : AX → Env → List AObj → Prop) : AX → Env → List AObj → Prop := fun x e O => match x with | .normal => wpC P n0 b Q e O | x => Q x e O
def blockQ (id : Nat) (Q : AX → Env → List AObj → Prop) : AX → Env → List AObj → Prop := fun x e O => match x with | .exit i => if i = id then Q .normal e O else Q (.exit i) e O | x => Q x e O
def keepQ (l : List Nat) (Q : AX → Env → List AObj → Prop) : AX → Env → List AObj → Prop := fun x e O => match x with | .normal => Q .normal (keepE l e) O | x => Q x e O
section
variable (P : Program) (n0 : Nat) (Q : AX → Env → List AObj → Prop) (e : Env) (O : List AObj)
theorem c_cond (c : Opd) (t f : ACode) : wpC P n0 (.cond c t f) Q e O = condK P n0 (c.ev e) t f Q e O := nr rfl
theorem condK_true (t f : ACode) : condK P n0 (.v (.bool true)) t f Q e O = wpC P n0 t Q e O := by simp [condK]
theorem condK_false (t f : ACode) : condK P n0 (.v (.bool false)) t f Q e O = wpC P n0 f Q e O := by simp [condK]
theorem c_seq (a b : ACode) : wpC P n0 (.seq a b) Q e O = wpC P n0 a (seqQ P n0 b Q) e O := nr rfl
theorem c_block (id : Nat) (b : ACode) : wpC P n0 (.block id b) Q e O = wpC P n0 b (blockQ id Q) e O := nr rfl
theorem c_keep (l : List Nat) (c : ACode) : wpC P n0 (.keep l c) Q e O = wpC P n0 c (keepQ l Q) e O := nr rfl
theorem seqQ_n (b : ACode) : seqQ P n0 b Q .normal e O = wpC P n0 b Q e O := nr rfl
theorem seqQ_e (b : ACode) (i : Nat) : seqQ P n0 b Q (.exit i) e O = Q (.exit i) e O := nr rfl
theorem seqQ_r (b : ACode) : seqQ P n0 b Q .ret e O = Q .ret e O := nr rfl
theorem blockQ_n (id : Nat) : blockQ id Q .normal e O = Q .normal e O := nr rfl
theorem blockQ_e (id i : Nat) : blockQ id Q (.exit i) e O = if i = id then Q .normal e O else Q (.exit i) e O := nr rfl
theorem blockQ_r (id : Nat) : blockQ id Q .ret e O = Q .ret e O := nr rfl
theorem keepQ_n (l : List Nat) : keepQ l Q .normal e O = Q .normal (keepE l e) O := nr rfl
theorem keepQ_e (l : List Nat) (i : Nat) : keepQ l Q (.exit i) e O = Q (.exit i) e O := nr rfl
theorem keepQ_r (l : List Nat) : keepQ l Q .ret e O = Q .ret e O := nr rfl
variable {P n0 Q e O}
theorem condK_intro {b : Bool} {t f : ACode} (h : b = true → wpC P n0 t Q e O) (h' : b = false → wpC P n0 f Q e O) : condK P n0 (.v (.bool b)) t f Q e O := ⟨h, h'⟩
end
section
variable {ι : Type} (n0 : Nat) (D : ι → Prop) (σ : ι → Env) (τ : ι → List AObj) (μ : ι → Nat) (i : ι) (Q : AX → Env → List AObj → Prop) (e : Env) (O : List AObj)
theorem roundQ_e (k : Nat) : roundQ n0 D σ τ μ i Q (.exit k) e O = Q (.exit k) e O := nr rfl
theorem roundQ_r : roundQ n0 D σ τ μ i Q .ret e O = Q .ret e O := nr rfl
variable {n0 D σ τ μ i Q e O}
theorem roundQ_intro (j : ι) (h : D j) (h1 : μ j < μ i) (h2 : WK n0 e O (σ j) (τ j)) : roundQ n0 D σ τ μ i Q .normal e O := ⟨j, h, h1, h2⟩
end
def loopK (P : Program) (n0 : Nat) (Q : AX → Env → List AObj → Prop) (e : Env) (O : List AObj) (b : ACode) : Prop := wpC P n0 (.loop b) Q e O
theorem c_loop (P : Program) (n0 : Nat) (Q : AX → Env → List AObj → Prop) (e : Env) (O : List AObj) (b : ACode) : wpC P n0 (.loop b) Q e O = loopK P n0 Q e O b := nr rfl
theorem loopK_intro {P : Program} {n0 : Nat} {b : ACode} {Q : AX → Env → List AObj → Prop} {e : Env} {O : List AObj} {ι : Type} (D : ι → Prop) (σ : ι → Env) (τ : ι → List AObj) (μ : ι → Nat) (i0 : ι)
    (hd : D i0) (h0 : WK n0 e O (σ i0) (τ i0)) (hr : ∀ i, D i → wpC P n0 b (roundQ n0 D σ τ μ i Q) (σ i) (τ i)) : loopK P n0 Q e O b := wpC_loop D σ τ μ i0 hd h0 hr
theorem loadC_whole {m : Nat} {x : AV} (h : x.isAgg = true) (h' : x.cells.length = m) : loadC (some m) x 0 = x := by simp [loadC, h, h']
theorem loadC_none (x : AV) (f : Nat) : loadC none x f = x.cells.getD f .top := nr rfl
theorem upd_whole {x y : AV} (h : y.cells.length = x.cells.length) : upd x 0 y = y := by simp [upd, h]
theorem cells_agg (cs : List AV) : (AV.agg cs).cells = cs := nr rfl
theorem cells_v (x : Value) : (AV.v x).cells = [.v x] := nr rfl
theorem cells_nils : AV.nils.cells = [.nils] := nr rfl
theorem cells_sl (xs : List AV) : (AV.sl xs).cells = [.sl xs] := nr rfl
theorem cells_row (n l : Nat) : (AV.row n l).cells = [.row n l] := nr rfl
theorem cells_ptr (n l i f : Nat) : (AV.ptr n l i f).cells = [.ptr n l i f] := nr rfl
theorem cells_fn (f : FuncId) (cs : List AV) : (AV.fn f cs).cells = [.fn f cs] := nr rfl
theorem isAgg_agg (cs : List AV) : (AV.agg cs).isAgg = true := nr rfl
theorem isCell_v (x : Value) : (AV.v x).isCell = true := nr rfl
theorem isCell_nils : AV.nils.isCell = true := nr rfl
theorem isCell_sl (xs : List AV) : (AV.sl xs).isCell = true := nr rfl
theorem isCell_row (n l : Nat) : (AV.row n l).isCell = true := nr rfl
theorem isCell_ptr (n l i f : Nat) : (AV.ptr n l i f).isCell = true := nr rfl
theorem isCell_fn (f : FuncId) (cs : List AV) : (AV.fn f cs).isCell = true := nr rfl
theorem storable_agg (cs : List AV) : (AV.agg cs).storable = cs.all AV.isCell := nr rfl
theorem storable_v (x : Value) : (AV.v x).storable = true := nr rfl
theorem storable_nils : AV.nils.storable = true := nr rfl
theorem storable_sl (xs : List AV) : (AV.sl xs).storable = true := nr rfl
theorem storable_row (n l : Nat) : (AV.row n l).storable = true := nr rfl
theorem storable_ptr (n l i f : Nat) : (AV.ptr n l i f).storable = true := nr rfl
theorem storable_fn (f : FuncId) (cs : List AV) : (AV.fn f cs).storable = true := nr rfl
theorem frz_noref {O : List AObj} {a : AV} (h : a.noref = true) : frz O a = a := by
  cases a <;> first | rfl | (simp [AV.noref] at h; done)
theorem aft_flat {O : List AObj} {args : List AV} {res : AV} (h : res.flat = true) : aft O args res = O := by simp [aft, h]
theorem aft_norefs {O : List AObj} {args : List AV} {res : AV} (h : AV.norefs args = true) : aft O args res = O := by
  unfold aft
  split
  · rfl
  · induction args with
    | nil => rfl
    | cons a as ih =>
      simp only [AV.norefs, Bool.and_eq_true] at h
      have : killRow O a = O := by cases a <;> first | rfl | (simp [AV.noref] at h; done)
      simp only [List.foldl_cons, this]
      exact ih h.2
theorem flat_v (x : Value) : (AV.v x).flat = true := nr rfl
theorem norefs_nil : AV.norefs [] = true := nr rfl
theorem norefs_cons (x : AV) (xs : List AV) : AV.norefs (x :: xs) = (x.noref && AV.norefs xs) := nr rfl
theorem noref_v (x : Value) : (AV.v x).noref = true := nr rfl
theorem noref_sl (xs : List AV) : (AV.sl xs).noref = AV.norefs xs := nr rfl
theorem noref_agg (xs : List AV) : (AV.agg xs).noref = AV.norefs xs := nr rfl
theorem noref_tup (xs : List AV) : (AV.tup xs).noref = AV.norefs xs := nr rfl
theorem noref_nils : AV.nils.noref = true := nr rfl
theorem noref_fn (f : FuncId) (cs : List AV) : (AV.fn f cs).noref = AV.norefs cs := nr rfl
theorem wrap_id {n : Int} (h : -9223372036854775808 ≤ n) (h' : n ≤ 9223372036854775807) : IntKind.i64.wrap n = n := by
  rw [IntKind.wrap_i64]; omega
/- what a function gives back -/
section
variable (n0 : Nat) (rs : List ARes) (res : AV) (O' : List AObj) (e : Env) (O : List AObj)
end
end Go.Ab
/-
  AT THE END OF A CALL THAT TOUCHES NOTHING: what it made is not written any more: rows are read as slices.
-/
namespace Go.Ab
/-- rows as what they read, k levels deep; nil slices as empty ones -/
def fz (O : List AObj) : Nat → AV → AV
  | 0, a => a
  | k + 1, .row n len => match O[n]? with
    | some (.live _ _ xs) => if xs.length = len then .sl (xs.map (fz O k)) else .row n len
    | some (.nil _ _) => if len = 0 then .sl [] else .row n len
    | _ => .row n len
  | _ + 1, .nils => .sl []
  | k + 1, .agg cs => .agg (cs.map (fz O k))
  | k + 1, .tup vs => .tup (vs.map (fz O k))
  | _ + 1, a => a
open Classical in
noncomputable def allI (I : Imm) (L : Nat → Loc) (O : List AObj) (w : World) : Imm := fun b o => if LB L O b then w.cell? ⟨b, o, none⟩ else I b o
theorem allI_le {I : Imm} {L : Nat → Loc} {O : List AObj} {w : World} (hi : Inv I L O w) : ∀ b o x, I b o = some x → allI I L O w b o = some x := by
  intro b o x hx
  unfold allI
  split
  · exact hi.imm b o x hx
  · exact hx
theorem Good.all {I0 I : Imm} {L0 L : Nat → Loc} {O : List AObj} {w0 w : World} (h : Good I0 L0 [] w0 I L O w) : Good I0 L0 [] w0 (allI I L O w) L [] w := by
  refine ⟨⟨fun b o x hx => ?_, by simp, by simp, by simp, fun p hp => allI_le h.inv _ _ _ (h.inv.fix p hp), h.inv.blk_imm (allI_le h.inv), .no (by simp), .no (by simp)⟩, ⟨fun b o x hx => allI_le h.inv _ _ _ (h.ext.imm _ _ _ hx), by simp, by simp, by simp, by simp, by simp⟩, h.frm, ?_, fun b o x hx => ?_⟩
  · unfold allI at hx
    split at hx
    · exact hx
    · exact h.inv.imm b o x hx
  · exact fun b hb => (LB_nil hb).elim
  · unfold allI at hx
    split at hx
    · rename_i hlb
      rcases h.lb b hlb with h1 | h1
      · exact (LB_nil h1).elim
      · exact .inr (.inr h1)
    · exact h.immNew b o x hx
theorem resK_nil (e : Env) (O : List AObj) (acc : List AV) (M : List AV → Prop) : resK e O [] acc M = M acc.reverse := nr rfl
theorem resK_tmp (e : Env) (O : List AObj) (t : Nat) (rs : List ARes) (acc : List AV) (M : List AV → Prop) : resK e O (.tmp t :: rs) acc M = resK e O rs (e t :: acc) M := nr rfl
def cellOK (o : Option AObj) (n : Option Nat) (K : AV → Prop) : Prop := match o with
  | some (.live _ _ [x]) => n.getD 1 ≤ x.cells.length ∧ K (loadC n x 0)
  | _ => False
def cellK (a : AV) (O : List AObj) (n : Option Nat) (K : AV → Prop) : Prop := match a with
  | .ptr k 1 0 0 => cellOK O[k]? n K
  | _ => False
theorem resK_cell (e : Env) (O : List AObj) (t : Nat) (n : Option Nat) (rs : List ARes) (acc : List AV) (M : List AV → Prop) : resK e O (.cell t n :: rs) acc M = cellK (e t) O n fun x => resK e O rs (x :: acc) M := nr rfl
theorem cellK_ptr (k : Nat) (O : List AObj) (n : Option Nat) (K : AV → Prop) : cellK (.ptr k 1 0 0) O n K = cellOK O[k]? n K := nr rfl
theorem cellOK_live (t s : Nat) (x : AV) (n : Option Nat) (K : AV → Prop) : cellOK (some (.live t s [x])) n K = (n.getD 1 ≤ x.cells.length ∧ K (loadC n x 0)) := nr rfl
theorem packR_one (x : AV) : packR [x] = x := nr rfl
theorem packR_more (x y : AV) (l : List AV) : packR (x :: y :: l) = .tup (x :: y :: l) := nr rfl
theorem frz_v (O : List AObj) (x : Value) : frz O (.v x) = .v x := nr rfl
theorem frz_sl (O : List AObj) (xs : List AV) : frz O (.sl xs) = .sl xs := nr rfl
theorem frz_nils (O : List AObj) : frz O .nils = .nils := nr rfl
theorem frz_agg (O : List AObj) (xs : List AV) : frz O (.agg xs) = .agg xs := nr rfl
theorem frz_fn (O : List AObj) (f : FuncId) (xs : List AV) : frz O (.fn f xs) = .fn f xs := nr rfl
theorem upd_one {a b y : AV} {cs : List AV} {i : Nat} (hy : y.cells = [y]) (h : i < (a :: b :: cs).length) : upd (.agg (a :: b :: cs)) i y = .agg ((a :: b :: cs).set i y) := by
  unfold upd
  rw [hy, if_neg (by simp [AV.cells])]
  simp only [AV.cells, List.length_singleton, List.append_assoc, List.singleton_append]
  rw [List.set_eq_take_append_cons_drop, if_pos h]
theorem upd_v {a b : AV} {cs : List AV} {i : Nat} (x : Value) (h : i < (a :: b :: cs).length) : upd (.agg (a :: b :: cs)) i (.v x) = .agg ((a :: b :: cs).set i (.v x)) := upd_one rfl h
theorem upd_sl {a b : AV} {cs : List AV} {i : Nat} (x : List AV) (h : i < (a :: b :: cs).length) : upd (.agg (a :: b :: cs)) i (.sl x) = .agg ((a :: b :: cs).set i (.sl x)) := upd_one rfl h
theorem upd_nils {a b : AV} {cs : List AV} {i : Nat} (h : i < (a :: b :: cs).length) : upd (.agg (a :: b :: cs)) i .nils = .agg ((a :: b :: cs).set i .nils) := upd_one rfl h
theorem upd_row {a b : AV} {cs : List AV} {i : Nat} (n l : Nat) (h : i < (a :: b :: cs).length) : upd (.agg (a :: b :: cs)) i (.row n l) = .agg ((a :: b :: cs).set i (.row n l)) := upd_one rfl h
theorem upd_ptr {a b : AV} {cs : List AV} {i : Nat} (n l j f : Nat) (h : i < (a :: b :: cs).length) : upd (.agg (a :: b :: cs)) i (.ptr n l j f) = .agg ((a :: b :: cs).set i (.ptr n l j f)) := upd_one rfl h
theorem upd_fn {a b : AV} {cs : List AV} {i : Nat} (f : FuncId) (l : List AV) (h : i < (a :: b :: cs).length) : upd (.agg (a :: b :: cs)) i (.fn f l) = .agg ((a :: b :: cs).set i (.fn f l)) := upd_one rfl h
theorem upd_agg {cs ds : List AV} {i : Nat} (h : i ≠ 0) : upd (.agg cs) i (.agg ds) = .agg (cs.take i ++ (ds ++ cs.drop (i + ds.length))) := by
  unfold upd
  rw [if_neg (by simp [h])]
  simp [AV.cells]
theorem upd_agg0 {cs ds : List AV} (h : ds.length < cs.length) : upd (.agg cs) 0 (.agg ds) = .agg (ds ++ cs.drop ds.length) := by
  unfold upd
  rw [if_neg (by simp [AV.cells]; omega)]
  simp [AV.cells]
/-- the same slots; the objects from k on are forgotten -/
theorem WK.forgetE {n0 : Nat} {O O' : List AObj} (k : Nat) {l l' : List (Nat × AV)} (h : envL l' = envL l) (hO : O.take k = O') (h0 : n0 ≤ k) (hk : k ≤ O.length) (hb : O'.all (fun ob => ob.inScope k) = true)
    (hs : l.all (fun p => p.2.inScope k) = true) : WK n0 (envL l') O (envL l) O' := by
  rw [h]
  refine .forget hO h0 hk (fun ob ho => List.all_eq_true.1 hb ob ho) fun t => ?_
  have key : envL l t = .top ∨ (envL l t).inScope k = true := by
    clear h
    induction l with
    | nil => exact .inl rfl
    | cons p l ih =>
      obtain ⟨q, a⟩ := p
      simp only [List.all_cons, Bool.and_eq_true] at hs
      simp only [envL_cons]
      split
      · exact .inr hs.1
      · exact ih hs.2
  exact key.imp id fun h => ⟨rfl, h⟩
theorem dlt0 (n : Nat) : decide ((n : Int) < 0) = false := by simp
end Go.Ab
/-
  OBJECTS BEHIND A CALL: some are kept, under new names.
-/
namespace Go.Ab
/-- of the objects some are kept, under new names -/
theorem WK.select {e e' : Env} {O O1 : List AObj} (s : Nat → Nat) (hg : ∀ i, i < O1.length → O[s i]? = (O1[i]?).map (AObj.ren s)) (hinj : ∀ i j, i < O1.length → j < O1.length → s i = s j → i = j)
    (hsO : ∀ ob ∈ O1, ob.inScope O1.length = true) (he : ∀ t, e' t = .top ∨ (e t = (e' t).ren s ∧ (e' t).inScope O1.length = true)) : WK 0 e O e' O1 := by
  intro I0 L0 O0 w0 I L w f hl hgd hr
  obtain rfl : O0 = [] := List.eq_nil_of_length_eq_zero hl
  have hi := hgd.inv
  have live1 : ∀ {n e k ys}, O1[n]? = some (.live e k ys) → O[s n]? = some (.live e k (ys.map (AV.ren s))) := by
    intro n e k ys hn
    rw [hg n (List.getElem?_eq_some_iff.1 hn).1, hn]; rfl
  have own1 : ∀ {n : Nat} {a : AV}, O1[n]? = some (.own a) → O[s n]? = some (.own a) := by
    intro n a hn
    rw [hg n (List.getElem?_eq_some_iff.1 hn).1, hn]; rfl
  have gho1 : ∀ {n : Nat} {g : Gho}, O1[n]? = some (.gho g) → O[s n]? = some (.gho (g.ren s)) := by
    intro n a hn
    rw [hg n (List.getElem?_eq_some_iff.1 hn).1, hn]; rfl
  have un : ∀ {a : AV} {x : Value}, R I L O (a.ren s) x → a.inScope O1.length = true → R I (fun n => L (s n)) O1 a x := fun hr hsc => R.unren hg (fun _ _ => rfl) hr _ rfl hsc
  refine ⟨I, fun n => L (s n), ⟨⟨hi.imm, fun n e k ys hn => ?_, fun n n' e k ys e' k' ys' hn hn' hb => ?_, fun n e k ys o hn => hi.immSep _ _ _ _ o (live1 hn), hi.fix, hi.blk,
    ⟨fun n a hn => hi.ow.tree _ a (own1 hn), fun n a hn => hi.ow.cell _ a (own1 hn), fun n a hn => hi.ow.imm _ a (own1 hn), fun n a hn b o v hv m e k xs hm => hi.ow.live _ a (own1 hn) b o v hv _ _ _ _ (live1 hm),
      fun n m a c hn hm b o o' v v' hv hv' => hinj _ _ (List.getElem?_eq_some_iff.1 hn).1 (List.getElem?_eq_some_iff.1 hm).1 (hi.ow.sep _ _ a c (own1 hn) (own1 hm) b o o' v v' hv hv'), fun n a hn => hi.ow.deep _ a (own1 hn)⟩,
    ⟨fun n g hn => (hi.gh.ok _ _ (gho1 hn)).un (fun _ _ hr hsc => un hr hsc) (hsO _ (List.mem_of_getElem? hn)), fun n m a c hn hm hb => hinj _ _ (List.getElem?_eq_some_iff.1 hn).1 (List.getElem?_eq_some_iff.1 hm).1 (hi.gh.sep _ _ _ _ (gho1 hn) (gho1 hm) hb)⟩⟩, ⟨hgd.ext.imm, by simp, by simp, by simp, by simp, by simp⟩, hgd.frm, ?_, hgd.immNew⟩, fun t => ?_⟩
  · obtain ⟨c, ⟨m0z, q1, hm0z⟩, q2, q3, q4, q5, q6⟩ := hi.obj _ _ _ _ (live1 hn)
    refine ⟨c, ⟨m0z, q1, hm0z⟩, q2, by simpa using q3, q4, q5, fun i x hx => ?_⟩
    have hmx : (ys.map (AV.ren s))[i]? = some (x.ren s) := by rw [List.getElem?_map, hx]; rfl
    obtain ⟨r1, r2⟩ := q6 i _ hmx
    rw [cells_ren, List.length_map] at r1
    refine ⟨r1, fun j a ha => ?_⟩
    obtain ⟨y, hy, ho, hr'⟩ := r2 j (a.ren s) (by rw [cells_ren, List.getElem?_map, ha]; rfl)
    have hbo := hsO _ (List.mem_of_getElem? hn)
    exact ⟨y, hy, ho, un hr' (scoped_cells (scopeds_mem hbo x (List.mem_of_getElem? hx)) a (List.mem_of_getElem? ha))⟩
  · exact hinj _ _ (List.getElem?_eq_some_iff.1 hn).1 (List.getElem?_eq_some_iff.1 hn').1 (hi.sep _ _ _ _ _ _ _ _ (live1 hn) (live1 hn') hb)
  · rintro b (⟨n, e, k, xs, hn, hb⟩ | ⟨n, a, o, v, hn, hb⟩ | ⟨n, a, hn, hb⟩)
    · exact hgd.lb b (.inl ⟨s n, _, _, _, live1 hn, hb⟩)
    · exact hgd.lb b (.inr (.inl ⟨s n, a, o, v, own1 hn, hb⟩))
    · exact hgd.lb b (.inr (.inr ⟨s n, _, gho1 hn, hb⟩))
  · rcases he t with h | ⟨h, h'⟩
    · rw [h]; exact .top _
    · have := hr t
      rw [h] at this
      exact un this h'
end Go.Ab
/-
  FROM A CONTRACT OF A LAW TO ITS STATEMENT: what the arguments read; the law's ending.
-/
namespace Go.Ab
open Go.ChangeShapes Go.WideShapes
section
variable {H : Type} {enc : TypeId × Value → H} {P : Program}
theorem trodAll_stays (hl : laidOutB P = true) {W W' : World} {sp' : Nat → Bool} : ∀ {ts : List TypeId} {vs : List Value} {ds : List (DataW H)} {ps : List MemPlace}, (∀ t ∈ ts, P.readableRec t = true ∧ t < P.types.size) →
    DataW.TrodAll enc P W 0 (fun _ => true) true ts vs ds ps → (∀ p ∈ ps, W.sameAt W' p) → (∀ p ∈ ps, sp' p.block = true) → DataW.TrodAll enc P W' 0 sp' true ts vs ds ps
  | [], _, _, _, _, h, _, _ => by
    obtain ⟨rfl, rfl, rfl⟩ := trodAll_nil h
    exact trodAll_mk0
  | t :: ts, _, _, _, ht, h, hs, hp => by
    obtain ⟨v, vs, d, ds, p, q, rfl, rfl, rfl, h0, h1⟩ := trodAll_cons h
    obtain ⟨a, b⟩ := ht t List.mem_cons_self
    exact ⟨p, q, WideElems.Trod_stays hl a b h0 (fun x hx => hs x (List.mem_append_left _ hx)) (fun x hx => hp x (List.mem_append_left _ hx)),
      trodAll_stays hl (fun t' h' => ht t' (List.mem_cons_of_mem _ h')) h1 (fun x hx => hs x (List.mem_append_right _ hx)) (fun x hx => hp x (List.mem_append_right _ hx)), rfl⟩
/-- THE END OF A LAW: it says true, and nothing that was there has turned. -/
theorem law_post {f : Func} {s : ChangeSpec} {apart fresh handsOn again : Bool} {W W' : World} {args : Array Value} {ds gs : List (DataW H)} {before : List MemPlace} (hl : laidOutB P = true)
    (hts : ∀ t ∈ f.params.toList, P.readableRec t = true ∧ t < P.types.size) (hv : s.vars = []) (hW : DataW.Whole enc P f.params.toList s.vars apart W args.toList ds gs before) (hb : RowKit.Below W.heap.size W W')
    {t : TypeId} (hr : f.resultTypes = #[t]) (ht : P.underlying t = some .bool) (hfn : s.fn H (ds ++ gs) = { results := [.lit (.bool true)], args := ds }) :
    s.post enc P f apart fresh handsOn again W args (.bool true) W' := by
  have hlt := hW.lt
  have hold : ∀ p ∈ before, (fun b => decide (b < W.heap.size)) p.block = true := fun p hp => by simpa using hlt p hp
  have hW0 := hW
  obtain ⟨p, q, hA, hV, rfl, hz, hn⟩ := hW0
  rw [hv] at hV
  obtain ⟨rfl, rfl⟩ := trodVars_none hV
  have hst : ∀ sp : Nat → Bool, (∀ x ∈ p, sp x.block = true) → DataW.TrodAll enc P W' 0 sp true f.params.toList args.toList ds p := fun sp hsp =>
    trodAll_stays hl hts hA (fun x hx => hb.same (hlt x (List.mem_append_left _ hx))) hsp
  have hres : ∀ (b : Nat) (sp : Nat → Bool) (hd : Bool), DataW.TrodAll enc P W' b sp hd f.resultTypes.toList ((Value.bool true).resultList f.resultTypes.size) [.lit (.bool true)] [] := by
    intro b sp hd
    rw [hr]
    refine trodAll_mk1 ⟨1, ?_⟩
    simp [DataW.trod, ht, Value.cells]
  have hvars : ∀ sp : Nat → Bool, DataW.TrodVars enc P W' sp s.vars [] [] := by
    intro sp
    rw [hv]
    exact rfl
  refine ⟨ds, [], p ++ [], [], p, [], hW, by rw [hfn]; exact hres _ _ _, by rw [hfn]; exact hst _ (fun x hx => hold x (List.mem_append_left _ hx)), by rw [hfn]; exact hvars _, World.keptBut_mono (fun x hx => hx) (hb.frame _), fun _ => ?_⟩
  refine ⟨?_, [.lit (.bool true)] ++ ds, [], ([] ++ p) ++ [], ⟨[] ++ p, [], trodAll_append (hst _ (fun _ _ => rfl)) (hres _ _ _), hvars _, rfl, ?_, ?_⟩, ?_⟩
  · intro j t' r h1 h2
    rw [hr] at h1 h2
    cases j with
    | zero =>
      simp [Value.resultList] at h1 h2
      subst h1; subst h2
      exact RowKit.okWide_bool_mk ht true
    | succ j => simp at h1
  · intro b off hp
    have hp' : MemPlace.cell b off ∈ p ++ [] := by simpa using hp
    rw [hb.frozen (hlt _ hp')]
    exact hz b off hp'
  · intro ha
    have := hn ha
    simpa using this
  · intro x hx _
    simpa using hx
/- WHAT THE ARGUMENTS READ -/
mutual
/-- how many values and letters a reading holds (the statements' own count) -/
def bulk : DataW H → Nat
  | .lit (.string bytes) => bytes.length + 1
  | .lit _ => 1
  | .nil => 1
  | .ptr d => bulk d + 1
  | .slice elems spare => bulkAll elems + bulkAll spare + 1
  | .agg parts => bulkAll parts + 1
  | .iface _ d => bulk d + 1
  | .map _ => 1
  | .held _ => 1
def bulkAll : List (DataW H) → Nat
  | [] => 0
  | d :: r => bulk d + bulkAll r
end
/-- all of memory, as it stands -/
def memI (w : World) : Imm := fun b o => w.cell? ⟨b, o, none⟩
theorem memI_inv (L : Nat → Loc) (w : World) (hf : ∀ p ∈ fixedCells, w.cell? ⟨p.1, p.2.1, none⟩ = some p.2.2) (hq : ∀ q ∈ fixedBlks, blkSize w q.1 = some q.2 ∧ ∃ v, memI w q.1 0 = some v ∧ fixOk q.1 v = true) : Inv (memI w) L [] w := ⟨fun _ _ _ h => h, by simp, by simp, by simp, hf, hq, .no (by simp), .no (by simp)⟩
/-- cells and what is said of them -/
def RdC (w : World) (as : List AV) (cs : List Value) : Prop :=
  as.length = cs.length ∧ ∀ (j : Nat) c y, as[j]? = some c → cs[j]? = some y → y.oneCell' = true ∧ ∀ L, R (memI w) L [] c y
theorem RdC.nil (w : World) : RdC w [] [] := ⟨rfl, by simp⟩
theorem RdC.one {w : World} {a : AV} {y : Value} (h : y.oneCell' = true) (hr : ∀ L, R (memI w) L [] a y) : RdC w [a] [y] := by
  refine ⟨rfl, fun j c z hc hz => ?_⟩
  cases j with
  | zero => simp at hc hz; subst hc; subst hz; exact ⟨h, hr⟩
  | succ j => simp at hc
theorem RdC.append {w : World} {as bs : List AV} {cs ds : List Value} (h : RdC w as cs) (k : RdC w bs ds) : RdC w (as ++ bs) (cs ++ ds) := by
  refine ⟨by simp [h.1, k.1], fun j c y hc hy => ?_⟩
  by_cases hj : j < as.length
  · rw [List.getElem?_append_left hj] at hc
    rw [List.getElem?_append_left (by rw [← h.1]; exact hj)] at hy
    exact h.2 j c y hc hy
  · rw [List.getElem?_append_right (by omega)] at hc
    rw [List.getElem?_append_right (by rw [← h.1]; omega), ← h.1] at hy
    exact k.2 _ c y hc hy
/-- a part of the cells, and the rest -/
theorem RdC.part {w : World} {as bs : List AV} {cs : List Value} (o n : Nat) (h : RdC w as ((cs.drop o).take n)) (k : RdC w bs (cs.drop (o + n))) : RdC w (as ++ bs) (cs.drop o) := by
  have := h.append k
  rwa [← List.drop_drop, List.take_append_drop] at this
/-- EVERY READING OF TYPE t IS ONE OF OURS. -/
def Rd (enc : TypeId × Value → H) (P : Program) (w : World) (f : Nat) (t : TypeId) {α : Type} (cells : α → List AV) (wt : α → Nat) (ok : α → Prop) : Prop :=
  ∀ cs x, DataW.trod enc P w 0 (fun _ => true) true f t cs = some x → ∃ y : α, RdC w (cells y) cs ∧ wt y ≤ bulk x.1 ∧ ok y
theorem rd_int {w : World} {f : Nat} {t : TypeId} {k : IntKind} (ht : P.underlying t = some (.int k)) : Rd enc P w f t (fun n : Int => [.v (.int k n)]) (fun _ => 1) (fun n => k.min ≤ n ∧ n ≤ k.max) := by
  intro cs x h
  obtain ⟨n, rfl, rfl, hw⟩ := DataW.trod_int ht h
  exact ⟨n, .one rfl fun L => .v _ rfl, Nat.le_refl _, by simpa [Lit.wf] using hw⟩
theorem rd_string {w : World} {f : Nat} {t : TypeId} (ht : P.underlying t = some .string) : Rd enc P w f t (fun s : ByteArray => [.v (.string s)]) (fun s => s.size + 1) (fun _ => True) := by
  intro cs x h
  obtain ⟨s, rfl, rfl, _⟩ := DataW.trod_string ht h
  refine ⟨s, .one rfl fun L => .v _ rfl, ?_, trivial⟩
  simp only [bulk]
  rw [Array.length_toList]
  exact Nat.le_refl _
theorem bulk_sum {α : Type} {wt : α → Nat} : ∀ {l : List α} {ds : List (DataW H)}, l.length = ds.length → (∀ (i : Nat) a d, l[i]? = some a → ds[i]? = some d → wt a ≤ bulk d) → (l.map wt).sum ≤ bulkAll ds
  | [], [], _, _ => Nat.le_refl _
  | a :: l, d :: ds, hl, h => by
    have h0 := h 0 a d rfl rfl
    have h1 := bulk_sum (l := l) (ds := ds) (by simpa using hl) fun i a d ha hd => h (i + 1) a d ha hd
    simp only [List.map_cons, List.sum_cons, bulkAll]
    omega
  | [], _ :: _, hl, _ => by simp at hl
  | _ :: _, [], hl, _ => by simp at hl
theorem choose_list {α : Type} {n : Nat} {p : Nat → α → Prop} (h : ∀ i, i < n → ∃ a, p i a) : ∃ l : List α, l.length = n ∧ ∀ (i : Nat) a, l[i]? = some a → p i a := by
  induction n with
  | zero => exact ⟨[], rfl, by simp⟩
  | succ n ih =>
    obtain ⟨l, hl, hp⟩ := ih fun i hi => h i (Nat.lt_succ_of_lt hi)
    obtain ⟨a, ha⟩ := h n (Nat.lt_succ_self n)
    refine ⟨l ++ [a], by simp [hl], fun i b hb => ?_⟩
    by_cases hi : i < l.length
    · rw [List.getElem?_append_left hi] at hb; exact hp i b hb
    · rw [List.getElem?_append_right (by omega)] at hb
      have : i = n := by
        have := (List.getElem?_eq_some_iff.1 hb).1
        simp at this; omega
      subst this
      simp [hl] at hb
      subst hb; exact ha
/-- a slice of what is ours. av: an element as one value; its cells are 'cells'. -/
theorem rd_slice {w : World} {f : Nat} {t e : TypeId} {α : Type} {av : α → AV} {wt : α → Nat} {ok : α → Prop} (ht : P.underlying t = some (.slice e)) (hs : 0 < P.cellsOf e) (he : ∀ n, f = n + 1 → Rd enc P w n e (fun a => (av a).cells) wt ok) :
    Rd enc P w f t (fun l : List α => [.sl (l.map av)]) (fun l => (l.map wt).sum + 1) (fun l => ∀ a ∈ l, ok a) := by
  intro cs x h
  rcases DataW.trod_slice ht h with ⟨rfl, rfl⟩ | ⟨a, len, cap, elems, rest, n, rfl, rfl, rfl, hb, hl, hc, hn, hel, _, _⟩
  · exact ⟨[], .one rfl fun L => .sl0 _ _, by simp [bulk], by simp⟩
  · replace he := he n rfl
    have key : ∀ i, i < len → ∃ y : α, ∃ cs d, w.cells? 0 (a.add (i * P.cellsOf e)) (P.cellsOf e) = some cs ∧ elems[i]? = some d ∧ RdC w (av y).cells cs ∧ wt y ≤ bulk d.1 ∧ ok y := by
      intro i hi
      have h1 := hel i hi
      have h2 : elems[i]? = some elems[i] := by simp [hn, hi]
      rw [h2, Option.bind_eq_some_iff] at h1
      obtain ⟨cs, hcs, ht⟩ := h1
      obtain ⟨y, q1, q2, q3⟩ := he cs _ ht
      exact ⟨y, cs, _, hcs, h2, q1, q2, q3⟩
    obtain ⟨l, hll, hp⟩ := choose_list key
    refine ⟨l, .one rfl fun L => ?_, ?_, fun y hy => ?_⟩
    · by_cases h0 : l = []
      · subst h0
        simp at hll
        subst hll
        exact .sl0 _ _
      · obtain ⟨b, off, spot⟩ := a
        have hpos : 0 < len := by
          rw [← hll]
          exact List.length_pos_iff.2 h0
        have hspot : spot = none := by
          obtain ⟨y, cs, d, hcs, _, hr, _⟩ := key 0 hpos
          obtain ⟨_, hlen, hcell⟩ := World.cells?_some hcs
          have h1 := hcell 0 hs
          have h2 : cs[0]? = some cs[0] := by simp [hlen, hs]
          rw [h2] at h1
          simpa [Addr.add] using World.cell?_spot h1
        subst hspot
        have hget : ∀ {i : Nat} {x : AV}, (l.map av)[i]? = some x → ∃ y, l[i]? = some y ∧ x = av y := by
          intro i x hx
          simp only [List.getElem?_map, Option.map_eq_some_iff] at hx
          obtain ⟨y, hy, rfl⟩ := hx
          exact ⟨y, hy, rfl⟩
        have kk : ∀ (i : Nat) (y : α), l[i]? = some y → (av y).cells.length = P.cellsOf e ∧ ∀ (j : Nat) (c : AV), (av y).cells[j]? = some c → ∃ z, w.cell? ⟨b, off + i * P.cellsOf e + j, none⟩ = some z ∧ z.oneCell' = true ∧ ∀ L, R (memI w) L [] c z := by
          intro i y hy
          obtain ⟨cs, d, hcs, _, hr, _⟩ := hp i y hy
          obtain ⟨_, hlen, hcell⟩ := World.cells?_some hcs
          refine ⟨by rw [hr.1, hlen], fun j c hc => ?_⟩
          have hj : j < cs.length := by rw [← hr.1]; exact (List.getElem?_eq_some_iff.1 hc).1
          have h1 := hcell j (by omega)
          have h2 : cs[j]? = some cs[j] := by simp [hj]
          rw [h2] at h1
          obtain ⟨q1, q2⟩ := hr.2 j c _ hc h2
          refine ⟨_, ?_, q1, q2⟩
          rw [add_plain, add_plain] at h1
          exact h1
        rw [show len = (l.map av).length by simp [hll]]
        refine .sl (l.map av) b off cap (P.cellsOf e) (fun i j => (w.cell? ⟨b, off + i * P.cellsOf e + j, none⟩).getD undef) (by simp [hll]; exact hl) (by simpa using h0) (fun i x hx => ?_) (fun i x j c hx hc => ?_) (fun i x j c hx hc => ?_)
        · obtain ⟨y, hy, rfl⟩ := hget hx
          exact (kk i y hy).1
        · obtain ⟨y, hy, rfl⟩ := hget hx
          obtain ⟨z, hz, ho, _⟩ := (kk i y hy).2 j c hc
          unfold memI
          rw [hz]
          exact ⟨rfl, ho⟩
        · obtain ⟨y, hy, rfl⟩ := hget hx
          obtain ⟨z, hz, ho, hr⟩ := (kk i y hy).2 j c hc
          rw [hz]
          exact hr L
    · have : (l.map wt).sum ≤ bulkAll (elems.map (·.1)) := bulk_sum (by simp [hll, hn]) fun i a d ha hd => by
        obtain ⟨cs, d', _, hd', _, hw, _⟩ := hp i a ha
        simp [hd'] at hd
        subst hd; exact hw
      simp only [bulk]
      omega
    · obtain ⟨i, hi⟩ := List.getElem?_of_mem hy
      obtain ⟨_, _, _, _, _, _, h⟩ := hp i y hi
      exact h
/-- one field of a struct -/
theorem fld {w : World} {n : Nat} {cs : List Value} {fs : Array Field} {xs : List (DataW H × List MemPlace)}
    (hf : ∀ (i : Nat) (f : Field), fs[i]? = some f → DataW.trod enc P w 0 (fun _ => true) true n f.type ((cs.drop f.offset).take (P.cellsOf f.type)) = xs[i]?)
    (i : Nat) {f : Field} (h : fs[i]? = some f) {t : TypeId} {o s : Nat} (ht : f.type = t) (ho : f.offset = o) (hs : P.cellsOf t = s) : DataW.trod enc P w 0 (fun _ => true) true n t ((cs.drop o).take s) = xs[i]? := by
  have := hf i f h
  rwa [ht, ho, hs] at this
end
end Go.Ab
/-
  TREES OF ONE's OWN, made and opened: a row whose elements' slices are trees of one's own is such a tree (closes), and the other way (open).
-/
namespace Go.Ab
/-- cells of an element: its slices get names from n on -/
def sp (n : Nat) : List AV → List AV × List AObj
  | [] => ([], [])
  | .v x :: r => (.v x :: (sp n r).1, (sp n r).2)
  | a :: r => (.own n :: (sp (n + 1) r).1, .own a :: (sp (n + 1) r).2)
/-- a place among the cells: the same value, or the name of a tree -/
def Half (O : List AObj) (c d : AV) : Prop := (c = d ∧ ∃ v, d = .v v) ∨ ∃ k, c = .own k ∧ O[k]? = some (.own d)
structure Split (O : List AObj) (ys xs : List AV) : Prop where
  len : ys.length = xs.length
  cells : ∀ (i : Nat) y x, ys[i]? = some y → xs[i]? = some x → y.cells.length = x.cells.length
  half : ∀ (i : Nat) y x (j : Nat) c d, ys[i]? = some y → xs[i]? = some x → y.cells[j]? = some c → x.cells[j]? = some d → Half O c d
  inj : ∀ (i : Nat) y (j : Nat) i' y' j' k, ys[i]? = some y → y.cells[j]? = some (.own k) → ys[i']? = some y' → y'.cells[j']? = some (.own k) → i = i' ∧ j = j'
section
variable {P : Program} {I : Imm} {L : Nat → Loc} {O : List AObj} {w : World}
theorem own_tree (hi : Inv I L O w) {k : Nat} {d : AV} (hk : O[k]? = some (.own d)) {y : Value} (hr : R I L O (.own k) y) : y = (L k).val := by
  cases hr with
  | ownLive => rfl
  | ownGho _ g h => rw [hk] at h; cases h
  | ownDead _ _ _ h => exact (h _ hk).elim
open Classical in
/-- A ROW WHOSE SLICES ARE TREES OF ONE's OWN IS ONE ITSELF -/
theorem Inv.closes (hi : Inv I L O w) {k e s : Nat} {ys xs : List AV} (hk : O[k]? = some (.live e s ys)) (hs : Split O ys xs) :
    ∃ S : Nat → Prop, OT w (.sl xs) (.slice (some ⟨(L k).blk, 0, none⟩) xs.length (L k).cap) S ∧ ∀ b, S b → LB L O b := by
  obtain ⟨c, ⟨m0z, h1, hm0z⟩, h2, h3, h4, h5, h6⟩ := hi.obj k e s ys hk
  by_cases hx : xs = []
  · subst hx; exact ⟨_, .sl0 _ _, fun b h => h.elim⟩
  let vals : Nat → Nat → Value := fun i j => (c[i * s + j]?).getD undef
  let nm : Nat → Nat → Option Nat := fun i j => match ys[i]? with
    | some y => match y.cells[j]? with
      | some (.own m) => some m
      | _ => none
    | none => none
  let S : Nat → Nat → Nat → Prop := fun i j b => ∃ m, nm i j = some m ∧ ∃ o v, (L m).mem b o = some v
  have nm1 : ∀ {i j m : Nat}, nm i j = some m → ∃ y, ys[i]? = some y ∧ y.cells[j]? = some (.own m) := by
    intro i j m h
    simp only [nm] at h
    cases hy : ys[i]? with
    | none => simp [hy] at h
    | some y =>
      simp only [hy] at h
      cases hc : y.cells[j]? with
      | none => simp [hc] at h
      | some a =>
        simp only [hc] at h
        cases a <;> simp at h
        subst h
        exact ⟨y, rfl, hc⟩
  have pair : ∀ {i : Nat} {x : AV}, xs[i]? = some x → ∃ y, ys[i]? = some y := by
    intro i x h
    have := (List.getElem?_eq_some_iff.1 h).1
    exact ⟨ys[i]'(by rw [hs.len]; exact this), by simp [hs.len, this]⟩
  have pairc : ∀ {i : Nat} {x y : AV} {j : Nat} {a : AV}, xs[i]? = some x → ys[i]? = some y → x.cells[j]? = some a → ∃ b, y.cells[j]? = some b := by
    intro i x y j a h h' ha
    have := (List.getElem?_eq_some_iff.1 ha).1
    have hl := hs.cells i y x h' h
    exact ⟨y.cells[j]'(by rw [hl]; exact this), by simp [hl, this]⟩
  have pair' : ∀ {i : Nat} {y : AV}, ys[i]? = some y → ∃ x, xs[i]? = some x := by
    intro i x h
    have := (List.getElem?_eq_some_iff.1 h).1
    exact ⟨xs[i]'(by rw [← hs.len]; exact this), by simp [← hs.len, this]⟩
  have pairc' : ∀ {i : Nat} {x y : AV} {j : Nat} {a : AV}, xs[i]? = some x → ys[i]? = some y → y.cells[j]? = some a → ∃ b, x.cells[j]? = some b := by
    intro i x y j a h h' ha
    have := (List.getElem?_eq_some_iff.1 ha).1
    have hl := hs.cells i y x h' h
    exact ⟨x.cells[j]'(by rw [← hl]; exact this), by simp [← hl, this]⟩
  have half : ∀ {i : Nat} {x : AV} {j : Nat} {a : AV}, xs[i]? = some x → x.cells[j]? = some a → c[i * s + j]? = some (vals i j) ∧ (vals i j).oneCell' = true ∧
      ((nm i j = none ∧ ∃ v, a = .v v ∧ v = vals i j) ∨ ∃ m, nm i j = some m ∧ O[m]? = some (.own a) ∧ vals i j = (L m).val) := by
    intro i x j a hxi ha
    obtain ⟨y, hy⟩ := pair hxi
    obtain ⟨b, hb⟩ := pairc hxi hy ha
    obtain ⟨z, hz, ho, hr⟩ := (h6 i y hy).2 j b hb
    have hv : vals i j = z := by simp [vals, hz]
    rw [hv]
    refine ⟨hz, ho, ?_⟩
    rcases hs.half i y x j b a hy hxi hb ha with ⟨rfl, v, rfl⟩ | ⟨m, rfl, hm⟩
    · refine .inl ⟨by simp only [nm, hy, hb], v, rfl, ?_⟩
      cases hr; rfl
    · exact .inr ⟨m, by simp only [nm, hy, hb], hm, own_tree hi hm hr⟩
  have sep : ∀ {i j m : Nat} {x a : AV}, xs[i]? = some x → x.cells[j]? = some a → nm i j = some m → O[m]? = some (.own a) := by
    intro i j m x a hxi ha hm
    rcases (half hxi ha).2.2 with ⟨h, _⟩ | ⟨m', h, h', _⟩
    · rw [hm] at h; cases h
    · rw [hm] at h; cases h; exact h'
  have deep : ∀ {i j m : Nat}, nm i j = some m → ∃ x a : AV, xs[i]? = some x ∧ x.cells[j]? = some a ∧ O[m]? = some (.own a) := by
    intro i j m hm
    obtain ⟨y, hy, hc⟩ := nm1 hm
    obtain ⟨x, hx⟩ := pair' hy
    obtain ⟨a, ha⟩ := pairc' hx hy hc
    exact ⟨x, a, hx, ha, sep hx ha hm⟩
  refine ⟨fun b => b = (L k).blk ∨ ∃ i j, S i j b, .sl xs (L k).blk (L k).cap s e c vals S m0z h1 hm0z h2 (by rw [← hs.len]; exact h3) h4 h5 hx (fun i x hxi => ?_) (fun i x j a hxi ha => ⟨(half hxi ha).1, (half hxi ha).2.1⟩) (fun i x j a hxi ha => ?_)
    (fun i j b hb => ?_) (fun i j hb => ?_) (fun i j i' j' b hb hb' => ?_), ?_⟩
  · obtain ⟨y, hy⟩ := pair hxi
    rw [← hs.cells i y x hy hxi]
    exact (h6 i y hy).1
  · rcases (half hxi ha).2.2 with ⟨hn, v, rfl, hv⟩ | ⟨m, hm, hO, hv⟩
    · have : S i j = fun _ => False := by
        funext b; simp only [S, hn]; simp
      rw [this, ← hv]
      exact .v v (by have := (half hxi ha).2.1; rw [← hv] at this; exact this)
    · obtain ⟨T, t1, t2⟩ := hi.ow.deep m a hO
      have : S i j = T := by
        funext b
        simp only [S, hm, Option.some.injEq, exists_eq_left']
        exact propext (t2 b).symm
      rw [this, hv]
      exact t1
  · obtain ⟨m, hm, _⟩ := hb
    obtain ⟨x, a, h1, h2, _⟩ := deep hm
    exact ⟨x, a, h1, h2⟩
  · obtain ⟨m, hm, o, v, hv⟩ := hb
    obtain ⟨x, a, _, _, hO⟩ := deep hm
    exact hi.ow.live m a hO _ o v hv k _ _ _ hk rfl
  · obtain ⟨m, hm, o, v, hv⟩ := hb
    obtain ⟨m', hm', o', v', hv'⟩ := hb'
    obtain ⟨x, a, _, _, hO⟩ := deep hm
    obtain ⟨x', a', _, _, hO'⟩ := deep hm'
    have := hi.ow.sep m m' a a' hO hO' b o o' v v' hv hv'
    subst this
    obtain ⟨y, hy, hc⟩ := nm1 hm
    obtain ⟨y', hy', hc'⟩ := nm1 hm'
    exact hs.inj i y j i' y' j' m hy hc hy' hc'
  · rintro b (rfl | ⟨i, j, m, hm, o, v, hv⟩)
    · exact .inl ⟨k, e, s, ys, hk, rfl⟩
    · obtain ⟨x, a, _, _, hO⟩ := deep hm
      exact .inr (.inl ⟨m, a, o, v, hO, hv⟩)
open Classical in
/-- a tree of one's own alone -/
theorem Inv.one_own (hi : Inv I L O w) {a : AV} {x : Value} {S : Nat → Prop} (h : OT w a x S) (hS : ∀ b, S b → LB L O b) :
    Inv I (fun _ => ⟨0, 0, x, fun b o => if S b then w.cell? ⟨b, o, none⟩ else none⟩) [.own a] w := by
  have one : ∀ {n : Nat} {c : AV}, [AObj.own a][n]? = some (.own c) → n = 0 ∧ c = a := by
    intro n c hn
    cases n with
    | zero => simp at hn; exact ⟨rfl, hn.symm⟩
    | succ n => simp at hn
  have nol : ∀ {n e s : Nat} {xs : List AV}, [AObj.own a][n]? ≠ some (.live e s xs) := by
    intro n e s xs hn
    cases n <;> simp at hn
  have sp : ∀ {b o : Nat} {v : Value}, (if S b then w.cell? ⟨b, o, none⟩ else none) = some v → S b ∧ w.cell? ⟨b, o, none⟩ = some v := by
    intro b o v hv
    split at hv
    · rename_i hb; exact ⟨hb, hv⟩
    · cases hv
  refine ⟨hi.imm, fun n e s xs hn => (nol hn).elim, fun n m e s xs e' s' ys hn => (nol hn).elim, fun n e s xs o hn => (nol hn).elim, hi.fix, hi.blk,
    ⟨fun n c hn L' O' => ?_, fun n c hn b o v hv => (sp hv).2, fun n c hn b o v hv o' => ?_, fun n c hn b o v hv m e s xs hm => (nol hm).elim, fun n m c d hn hm b o o' v v' _ _ => ?_, fun n c hn => ?_⟩, .no (fun n g hn => by cases n <;> simp at hn)⟩
  · obtain ⟨rfl, rfl⟩ := one hn
    exact h.read _ _ _ fun b o v hb hv => by show (if S b then _ else _) = _; rw [if_pos hb]; exact hv
  · rcases hS b (sp hv).1 with ⟨n, e, s, xs, h1, h2⟩ | ⟨n, d, o2, v2, h1, h2⟩ | ⟨n, g, h1, h2⟩
    · rw [← h2]; exact hi.immSep n e s xs o' h1
    · exact hi.ow.imm n d h1 b o2 v2 h2 o'
    · cases hq : I b o' with
      | none => rfl
      | some u =>
        have h3 := (hi.gh.ok n g h1).no.cell (o := o')
        rw [h2, hi.imm _ _ _ hq] at h3
        cases h3
  · rw [(one hn).1, (one hm).1]
  · obtain ⟨rfl, rfl⟩ := one hn
    refine ⟨S, h, fun b => ⟨fun hb => ?_, fun ⟨o, v, hv⟩ => (sp hv).1⟩⟩
    obtain ⟨v, hv⟩ := (h.block b hb).2
    exact ⟨0, v, by show (if S b then _ else _) = _; rw [if_pos hb]; exact hv⟩
end
/-- A CALL THAT MAKES A ROW OF SUCH ELEMENTS MAKES A TREE OF ONE's OWN -/
theorem Con.closes {P : Program} {f : FuncId} {args : List AV} {len e s : Nat} {ys xs : List AV} {T : List AObj} (h : Con P f args [] (.row 0 len) (.live e s ys :: T)) (hl : ys.length = len) (hs : Split (.live e s ys :: T) ys xs) :
    Con P f args [] (.own 0) [.own (.sl xs)] := by
  refine ⟨h.1, fun I L w vs hi hr => (h.2 I L w vs hi hr).mono ?_⟩
  rintro x w' ⟨y, I', L', rfl, hy, hg⟩
  have hk : (AObj.live e s ys :: T)[0]? = some (.live e s ys) := rfl
  obtain ⟨S, hS, hb⟩ := hg.inv.closes hk hs
  have hyv := hy.row_live hk hl
  rw [← hl, hs.len] at hyv
  subst hyv
  have hinv := hg.inv.one_own hS hb
  refine ⟨_, I', _, rfl, .ownLive 0 (.sl xs) rfl rfl, hinv, ⟨hg.ext.imm, Nat.zero_le _, fun n hn => by simp at hn, fun n hn => by simp at hn, fun n hn => by simp at hn, fun n hn => by simp at hn⟩, hg.frm, ?_, hg.immNew⟩
  rintro b (⟨n, e', s', xs', hn, _⟩ | ⟨n, a, o, v, hn, hv⟩ | ⟨n, g, hn, _⟩)
  rotate_right
  · cases n <;> simp at hn
  · cases n <;> simp at hn
  · refine hg.lb b (hb b ?_)
    show S b
    by_cases hb' : S b
    · exact hb'
    · simp [hb'] at hv
end Go.Ab
/-
  WHAT IS OWNED IS LENT TO A CALL: it is read there as it stands, and is one's own again behind the call. What the call gives is plain, or new.
-/
namespace Go.Ab
/-- an argument, and as what the call reads it -/
inductive Frz (O : List AObj) : AV → AV → Prop
  | same (a : AV) : a.noref = true → Frz O a a
  | own (n : Nat) (b : AV) : O[n]? = some (.own b) → Frz O (.own n) b
  | row (n len e s : Nat) (xs : List AV) : O[n]? = some (.live e s xs) → xs.length = len → AV.norefs xs = true → Frz O (.row n len) (.sl xs)
  | nil (n e s : Nat) : O[n]? = some (.nil e s) → Frz O (.row n 0) (.sl [])
  | deep (n len e s : Nat) (ys xs : List AV) : O[n]? = some (.live e s ys) → ys.length = len → Split O ys xs → Frz O (.row n len) (.sl xs)
  | agg (as bs : List AV) : as.length = bs.length → (∀ (i : Nat) a b, as[i]? = some a → bs[i]? = some b → Frz O a b) → Frz O (.agg as) (.agg bs)
section
variable {P : Program} {I J : Imm} {L : Nat → Loc} {O : List AObj} {w : World}
end
end Go.Ab
/-
  LESS MAY BE KNOWN: a slice that is still nil gets an object; rows and boxes that nobody writes any more become plain values.
-/
namespace Go.Ab
/-- other knowledge of the same memory -/
theorem Good.turn {I0 I I' : Imm} {L0 L : Nat → Loc} {O0 O O' : List AObj} {w0 w : World} (h : Good I0 L0 O0 w0 I L O w) (hlen : O.length ≤ O'.length)
    (hI : ∀ b o x, I b o = some x → I' b o = some x) (hI2 : ∀ b o x, I' b o = some x → I b o = some x ∨ (w.cell? ⟨b, o, none⟩ = some x ∧ LV L O b))
    (hO : ∀ (m : Nat) e s xs', O'[m]? = some (.live e s xs') → ∃ xs, O[m]? = some (.live e s xs) ∧ xs.length = xs'.length ∧ ObjOk I' L O' w (L m) e s xs' ∧ ∀ o, I' (L m).blk o = none)
    (hnil : ∀ (m : Nat) e s, m < O.length → O'[m]? = some (.nil e s) → O[m]? = some (.nil e s))
    (hown : ∀ (m : Nat) a, O'[m]? = some (.own a) → O[m]? = some (.own a))
    (hgho : ∀ (m : Nat) g, O'[m]? = some (.gho g) → O[m]? = some (.gho g) ∧ ∀ a x, R I L O a x → R I' L O' a x) : Good I0 L0 O0 w0 I' L O' w := by
  refine ⟨⟨fun b o x hx => ?_, fun m e s xs hm => ?_, fun n m e s xs e' s' ys hn hm hb => ?_, fun m e s xs o hm => ?_, fun p hp => hI _ _ _ (h.inv.fix p hp), h.inv.blk_imm hI, h.inv.ow.same (fun m a hm => ⟨hown m a hm, rfl⟩) (fun b o v hv => by
    rcases hI2 b o v hv with h1 | ⟨_, h1⟩
    · exact .inl ⟨o, v, h1⟩
    · exact .inr (.inl h1)) (fun m e s xs hm => by
    obtain ⟨ys, h1, _⟩ := hO m e s xs hm
    exact .inl ⟨m, _, _, _, h1, rfl⟩) rfl, ⟨fun n g hn => (h.inv.gh.ok n g (hgho n g hn).1).mono rfl (hgho n g hn).2 rfl, fun n m g k hn hm hb => h.inv.gh.sep n m g k (hgho n g hn).1 (hgho m k hm).1 hb⟩⟩, ?_, h.frm, ?_, fun b o x hx => ?_⟩
  · rcases hI2 b o x hx with h1 | ⟨h1, _⟩
    · exact h.inv.imm b o x h1
    · exact h1
  · obtain ⟨_, _, _, h3, _⟩ := hO m e s xs hm
    exact h3
  · obtain ⟨_, h1, _⟩ := hO n e s xs hn
    obtain ⟨_, h2, _⟩ := hO m e' s' ys hm
    exact h.inv.sep n m _ _ _ _ _ _ h1 h2 hb
  · obtain ⟨_, _, _, _, h4⟩ := hO m e s xs hm
    exact h4 o
  · refine ⟨fun b o x hx => hI _ _ _ (h.ext.imm _ _ _ hx), Nat.le_trans h.ext.len hlen, fun n hn e s xs hx => ?_, fun n hn e s hx => h.ext.nil n hn e s (hnil n e s (Nat.lt_of_lt_of_le hn h.ext.len) hx), fun n hn a hx => h.ext.own n hn a (hown n a hx), fun n hn a hx => h.ext.gho n hn a (hgho n a hx).1⟩
    obtain ⟨ys, h1, h2, _⟩ := hO n e s xs hx
    rcases h.ext.obj n hn e s ys h1 with ⟨zs, z1, z2, z3⟩ | ⟨z1, z2⟩
    · exact .inl ⟨zs, z1, by omega, fun he => z3 (by omega)⟩
    · exact .inr ⟨z1, fun h0 => z2 (List.eq_nil_of_length_eq_zero (by simp [h2, h0]))⟩
  · rintro b (⟨n, e, s, xs, hn, hb⟩ | ⟨n, a, o, v, hn, hb⟩ | ⟨n, a, hn, hb⟩)
    · obtain ⟨ys, h1, _⟩ := hO n e s xs hn
      exact h.lb b (.inl ⟨n, e, s, ys, h1, hb⟩)
    · exact h.lb b (.inr (.inl ⟨n, a, o, v, hown n a hn, hb⟩))
    · exact h.lb b (.inr (.inr ⟨n, a, (hgho n a hn).1, hb⟩))
  · rcases hI2 b o x hx with h1 | ⟨_, h1⟩
    · exact h.immNew b o x h1
    · rcases h.lb b (.inl h1) with h2 | h2
      · exact .inr (.inl h2)
      · exact .inr (.inr h2)
/-- a nil slice gets an object -/
theorem WK.nilrow {n0 : Nat} {e e' : Env} {O : List AObj} (t s : Nat) {O' : List AObj} (hO' : O'.length = O.length + 1) (hnew : O'[O.length]? = some (.nil t s))
    (hob : ∀ m, m < O.length → O'[m]? = O[m]? ∨ ∃ ee k ys ys', O[m]? = some (.live ee k ys) ∧ O'[m]? = some (.live ee k ys') ∧ ys'.length = ys.length ∧ ∀ (i : Nat) y y', ys[i]? = some y → ys'[i]? = some y' → y'.cells.length = y.cells.length ∧
      ∀ (j : Nat) c c', y.cells[j]? = some c → y'.cells[j]? = some c' → c' = c ∨ (c = .nils ∧ c' = .row O.length 0))
    (he : ∀ t, e' t = e t ∨ (e t = .nils ∧ e' t = .row O.length 0)) : WK n0 e O e' O' := by
  intro I0 L0 O0 w0 I L w f h0 hg hr
  have hext : Ext I L O I L O' := by
    refine ⟨fun _ _ _ h => h, by omega, fun n hn ee k xs hx => ?_, fun n hn ee k hx => ?_, fun n hn a hx => ?_, fun n hn a hx => ?_⟩
    rotate_left 2
    · rcases hob n hn with h | ⟨e1, k1, ys, ys', h1, h2, h3, _⟩
      · rw [h] at hx; exact ⟨⟨a, hx⟩, rfl⟩
      · rw [h2] at hx; cases hx
    · rcases hob n hn with h | ⟨e1, k1, ys, ys', h1, h2, h3, _⟩
      · rw [h] at hx; exact ⟨⟨a, hx, rfl⟩, rfl⟩
      · rw [h2] at hx; cases hx
    · rcases hob n hn with h | ⟨e1, k1, ys, ys', h1, h2, h3, _⟩
      · exact .inl ⟨xs, by rw [← h]; exact hx, Nat.le_refl _, fun _ => rfl⟩
      · rw [h2] at hx; cases hx
        exact .inl ⟨ys, h1, by omega, fun _ => rfl⟩
    · rcases hob n hn with h | ⟨e1, k1, ys, ys', h1, h2, h3, _⟩
      · rwa [h] at hx
      · rw [h2] at hx; cases hx
  have hnils : ∀ {x : Value}, R I L O .nils x → R I L O' (.row O.length 0) x := by
    intro x hx
    cases hx
    exact .rowNil _ t s hnew
  refine ⟨I, L, hg.turn (by omega) (fun _ _ _ h => h) (fun _ _ _ h => .inl h) (fun m ee k xs hm => ?_) (fun m ee k hm hx => hext.nil m hm ee k hx) (fun m a hm => ?_) (fun m a hm => ?_), fun t => ?_⟩
  rotate_left
  rotate_left
  · refine ⟨?_, fun _ _ h => h.mono hext⟩
    by_cases hml : m < O.length
    · rcases hob m hml with h | ⟨e1, k1, ys, ys', h1, h2, _⟩
      · rwa [h] at hm
      · rw [h2] at hm; cases hm
    · have hl := (List.getElem?_eq_some_iff.1 hm).1
      rw [show m = O.length by omega, hnew] at hm; cases hm
  rotate_right
  · by_cases hml : m < O.length
    · rcases hob m hml with h | ⟨e1, k1, ys, ys', h1, h2, _⟩
      · rwa [h] at hm
      · rw [h2] at hm; cases hm
    · have hl := (List.getElem?_eq_some_iff.1 hm).1
      rw [show m = O.length by omega, hnew] at hm; cases hm
  rotate_left
  · have hlt : m < O.length := by
      have := (List.getElem?_eq_some_iff.1 hm).1
      rcases Nat.lt_or_ge m O.length with h | h
      · exact h
      · have : m = O.length := by omega
        subst this; rw [hnew] at hm; cases hm
    rcases hob m hlt with h | ⟨e1, k1, ys, ys', h1, h2, h3, h4⟩
    · rw [h] at hm
      exact ⟨xs, hm, rfl, (hg.inv.obj m _ _ _ hm).congr rfl fun _ _ h => h.mono hext, fun o => hg.inv.immSep m _ _ _ o hm⟩
    · rw [h2] at hm; cases hm
      refine ⟨ys, h1, h3.symm, ?_, fun o => hg.inv.immSep m _ _ _ o h1⟩
      obtain ⟨c, ⟨m0z, q1, hm0z⟩, q2, q3, q4, q5, q6⟩ := hg.inv.obj m _ _ _ h1
      refine ⟨c, ⟨m0z, q1, hm0z⟩, q2, by omega, q4, q5, fun i y' hy' => ?_⟩
      have hy : ys[i]? = some (ys[i]'(by have := (List.getElem?_eq_some_iff.1 hy').1; omega)) := by simp
      obtain ⟨p1, p2⟩ := h4 i _ _ hy hy'
      obtain ⟨r1, r2⟩ := q6 i _ hy
      refine ⟨by rw [p1, r1], fun j a ha => ?_⟩
      have hc := List.getElem?_eq_getElem (l := (ys[i]'(by have := (List.getElem?_eq_some_iff.1 hy').1; omega)).cells) (i := j) (by have := (List.getElem?_eq_some_iff.1 ha).1; omega)
      obtain ⟨v, hv, ho, hrv⟩ := r2 j _ hc
      refine ⟨v, hv, ho, ?_⟩
      rcases p2 j _ _ hc ha with h | ⟨h, h'⟩
      · rw [h]; exact hrv.mono hext
      · rw [h'] ; rw [h] at hrv; exact hnils hrv
  · rcases he t with h | ⟨h, h'⟩
    · rw [h]; exact (hr t).mono hext
    · rw [h']; have := hr t; rw [h] at this; exact hnils this
/-- what is owned, read as what nobody writes any more -/
inductive Fr (n : Nat) (xs : List AV) : AV → AV → Prop
  | refl (a : AV) : Fr n xs a a
  | row : Fr n xs (.row n xs.length) (.sl xs)
  | agg (cs ds : List AV) : cs.length = ds.length → (∀ (i : Nat) c d, cs[i]? = some c → ds[i]? = some d → Fr n xs c d) → Fr n xs (.agg cs) (.agg ds)
  | ptr (a : AV) (f : Nat) : xs = [a] → Fr n xs (.ptr n 1 0 f) (.iptr a f)
theorem Fr.width {n : Nat} {xs : List AV} {a b : AV} (h : Fr n xs a b) : b.cells.length = a.cells.length := by
  cases h with
  | refl => rfl
  | row => rfl
  | agg cs ds h _ => simp [AV.cells, h]
  | ptr => rfl
open Classical in
noncomputable def frI (I : Imm) (L : Nat → Loc) (O : List AObj) (w : World) (n : Nat) : Imm := fun b o =>
  if (∃ e s xs, O[n]? = some (.live e s xs)) ∧ (L n).blk = b then w.cell? ⟨b, o, none⟩ else I b o
theorem Fr.sound {I : Imm} {L : Nat → Loc} {O O' : List AObj} {w : World} (hi : Inv I L O w) {n t s : Nat} {xs : List AV} (hO : O[n]? = some (.live t s xs) ∨ (O[n]? = some (.nil t s) ∧ xs = [])) (hn : AV.norefs xs = true)
    (hext : Ext I L O (frI I L O w n) L O') {a b : AV} (h : Fr n xs a b) : ∀ {x : Value}, R I L O a x → R (frI I L O w n) L O' b x := by
  induction h with
  | refl a => intro x hr; exact hr.mono hext
  | row =>
    intro x hr
    rcases hO with hO | ⟨hO, rfl⟩
    · have := hr.row_live hO rfl
      subst this
      obtain ⟨c, ⟨m0z, h1, hm0z⟩, h2, h3, h4, h5, h6⟩ := hi.obj n t s xs hO
      by_cases hx : xs = []
      · subst hx; exact .sl0 _ _
      · refine (.sl xs (L n).blk 0 (L n).cap s (fun i j => (c[i * s + j]?).getD undef) h3 hx (fun i x hx => (h6 i x hx).1) (fun i x j d hx hj => ?_) fun i x j d hx hj => ?_)
        · obtain ⟨y, hy, ho, _⟩ := (h6 i x hx).2 j d hj
          unfold frI
          rw [if_pos ⟨⟨t, s, xs, hO⟩, rfl⟩, Nat.zero_add, cell_cells h1, hy]
          exact ⟨rfl, ho⟩
        · obtain ⟨y, hy, ho, hr'⟩ := (h6 i x hx).2 j d hj
          rw [hy]
          exact hr'.noref hext.imm (noref_cells (norefs_mem hn x (List.mem_of_getElem? hx)) d (List.mem_of_getElem? hj))
    · obtain ⟨rfl, _⟩ := hr.row_nil hO
      exact .sl0 _ _
  | agg cs ds h _ ih =>
    intro x hr
    cases hr with
    | agg _ vs hl hr =>
      refine .agg _ _ (by omega) fun i d v hd hv => ?_
      have hc : cs[i]? = some (cs[i]'(by have := (List.getElem?_eq_some_iff.1 hd).1; omega)) := by simp
      exact ih i _ _ hc hd (hr i _ v hc hv)
  | ptr a f ha =>
    subst ha
    intro x hr
    rcases hO with hO | ⟨_, h⟩
    · have := hr.ptr_live hO rfl
      subst this
      obtain ⟨c, ⟨m0z, h1, hm0z⟩, h2, h3, h4, h5, h6⟩ := hi.obj n t s _ hO
      obtain ⟨q1, q2⟩ := h6 0 a rfl
      simp only [Nat.zero_mul]
      refine .iptr a f (L n).blk 0 (fun j => (c[j]?).getD undef) (fun j d hj => ?_) fun j d hj => ?_
      · obtain ⟨y, hy, ho, _⟩ := q2 j d hj
        rw [Nat.zero_mul, Nat.zero_add] at hy
        unfold frI
        rw [if_pos ⟨⟨t, s, _, hO⟩, rfl⟩, Nat.zero_add, cell_cells h1, hy]
        exact ⟨rfl, ho⟩
      · obtain ⟨y, hy, ho, hr'⟩ := q2 j d hj
        rw [Nat.zero_mul, Nat.zero_add] at hy
        rw [hy]
        exact hr'.noref hext.imm (noref_cells (norefs_mem hn a (by simp)) d (List.mem_of_getElem? hj))
    · cases h
theorem frI_le {I : Imm} {L : Nat → Loc} {O : List AObj} {w : World} (hi : Inv I L O w) (n : Nat) : ∀ b o x, I b o = some x → frI I L O w n b o = some x := by
  intro b o x hx
  unfold frI
  split
  · exact hi.imm b o x hx
  · exact hx
/-- what an object holds is not written any more: it is no object now -/
theorem WK.frz {n0 : Nat} {e e' : Env} {O O' : List AObj} {n t s : Nat} {xs : List AV} (hO : O[n]? = some (.live t s xs) ∨ (O[n]? = some (.nil t s) ∧ xs = [])) (hn : AV.norefs xs = true) (hlen : O'.length = O.length) (hd : O'[n]? = some .dead)
    (hob : ∀ m, m ≠ n → O'[m]? = O[m]? ∨ ∃ ee k ys ys', O[m]? = some (.live ee k ys) ∧ O'[m]? = some (.live ee k ys') ∧ ys'.length = ys.length ∧ ∀ (i : Nat) y y', ys[i]? = some y → ys'[i]? = some y' → y'.cells.length = y.cells.length ∧
      ∀ (j : Nat) c c', y.cells[j]? = some c → y'.cells[j]? = some c' → Fr n xs c c')
    (he : ∀ t, Fr n xs (e t) (e' t)) : WK n0 e O e' O' := by
  intro I0 L0 O0 w0 I L w f h0 hg hr
  have hle := frI_le hg.inv n
  have hlive : ∀ {m ee k ys'}, O'[m]? = some (.live ee k ys') → m ≠ n ∧ ∃ ys, O[m]? = some (.live ee k ys) ∧ ys.length = ys'.length := by
    intro m ee k ys' hm
    have hmn : m ≠ n := by rintro rfl; rw [hd] at hm; cases hm
    refine ⟨hmn, ?_⟩
    rcases hob m hmn with h | ⟨e1, k1, ys, zs, h1, h2, h3, _⟩
    · exact ⟨ys', by rw [← h]; exact hm, rfl⟩
    · rw [h2] at hm; cases hm; exact ⟨ys, h1, h3.symm⟩
  have hnil : ∀ (m ee k : Nat), O'[m]? = some (AObj.nil ee k) → O[m]? = some (AObj.nil ee k) := by
    intro m ee k hm
    have hmn : m ≠ n := by rintro rfl; rw [hd] at hm; cases hm
    rcases hob m hmn with h | ⟨e1, k1, ys, zs, h1, h2, h3, _⟩
    · rwa [h] at hm
    · rw [h2] at hm; cases hm
  have howno : ∀ (m : Nat) (a : AV), O'[m]? = some (AObj.own a) → O[m]? = some (AObj.own a) := by
    intro m a hm
    have hmn : m ≠ n := by rintro rfl; rw [hd] at hm; cases hm
    rcases hob m hmn with h | ⟨e1, k1, ys, zs, h1, h2, _⟩
    · rwa [h] at hm
    · rw [h2] at hm; cases hm
  have hghno : ∀ (m : Nat) (a : Gho), O'[m]? = some (AObj.gho a) → O[m]? = some (AObj.gho a) := by
    intro m a hm
    have hmn : m ≠ n := by rintro rfl; rw [hd] at hm; cases hm
    rcases hob m hmn with h | ⟨e1, k1, ys, zs, h1, h2, _⟩
    · rwa [h] at hm
    · rw [h2] at hm; cases hm
  have hext : Ext I L O (frI I L O w n) L O' := by
    refine ⟨hle, by omega, fun m hm ee k zs hz => ?_, fun m _ ee k h => hnil m ee k h, fun m _ a h => ⟨⟨a, howno m a h⟩, rfl⟩, fun m _ a h => ⟨⟨a, hghno m a h, rfl⟩, rfl⟩⟩
    obtain ⟨_, ys, h1, h2⟩ := hlive hz
    exact .inl ⟨ys, h1, by omega, fun _ => rfl⟩
  have hs : ∀ {a b : AV} {x : Value}, Fr n xs a b → R I L O a x → R (frI I L O w n) L O' b x := fun h hr => h.sound hg.inv hO hn hext hr
  refine ⟨frI I L O w n, L, hg.turn (by omega) hle (fun b o x hx => ?_) (fun m ee k zs hm => ?_) (fun m ee k _ hm => hnil m ee k hm) (fun m a hm => by
    have hmn : m ≠ n := by rintro rfl; rw [hd] at hm; cases hm
    rcases hob m hmn with h | ⟨e1, k1, ys, zs, h1, h2, _⟩
    · rwa [h] at hm
    · rw [h2] at hm; cases hm) (fun m a hm => ⟨hghno m a hm, fun _ _ h => h.mono hext⟩), fun t => hs (he t) (hr t)⟩
  · unfold frI at hx
    split at hx
    · rename_i h
      obtain ⟨⟨e1, s1, x1, h1⟩, h2⟩ := h
      exact .inr ⟨hx, ⟨n, e1, s1, x1, h1, h2⟩⟩
    · exact .inl hx
  · obtain ⟨hmn, ys, h1, h2⟩ := hlive hm
    refine ⟨ys, h1, h2, ?_, fun o => ?_⟩
    · obtain ⟨c, ⟨m0z, q1, hm0z⟩, q2, q3, q4, q5, q6⟩ := hg.inv.obj m _ _ _ h1
      refine ⟨c, ⟨m0z, q1, hm0z⟩, q2, by omega, q4, q5, fun i y' hy' => ?_⟩
      have hy : ys[i]? = some (ys[i]'(by have := (List.getElem?_eq_some_iff.1 hy').1; omega)) := by simp
      obtain ⟨r1, r2⟩ := q6 i _ hy
      rcases hob m hmn with h | ⟨e1, k1, us, us', g1, g2, g3, g4⟩
      · rw [h, h1] at hm; cases hm
        have hyy := hy'
        rw [hy] at hyy
        have hyy := Option.some.inj hyy
        rw [← hyy]
        refine ⟨r1, fun j a ha => ?_⟩
        obtain ⟨v, hv, ho, hrv⟩ := r2 j _ ha
        exact ⟨v, hv, ho, hrv.mono hext⟩
      · rw [g2] at hm; cases hm
        rw [h1] at g1; cases g1
        obtain ⟨p1, p2⟩ := g4 i _ _ hy hy'
        refine ⟨by rw [p1, r1], fun j a ha => ?_⟩
        have hc := List.getElem?_eq_getElem (l := (ys[i]'(by have := (List.getElem?_eq_some_iff.1 hy').1; omega)).cells) (i := j) (by have := (List.getElem?_eq_some_iff.1 ha).1; omega)
        obtain ⟨v, hv, ho, hrv⟩ := r2 j _ hc
        exact ⟨v, hv, ho, hs (p2 j _ _ hc ha) hrv⟩
    · cases hx : frI I L O w n (L m).blk o with
      | none => rfl
      | some x =>
        unfold frI at hx
        split at hx
        · rename_i h
          obtain ⟨⟨e1, s1, x1, g1⟩, g2⟩ := h
          exact (hmn (hg.inv.sep n m _ _ _ _ _ _ g1 h1 g2).symm).elim
        · rw [hg.inv.immSep m _ _ _ o h1] at hx; cases hx
/-- slots are forgotten -/
theorem WK.env {n0 : Nat} {e e' : Env} {O : List AObj} (h : ∀ t, e' t = .top ∨ e' t = e t) : WK n0 e O e' O := by
  intro I0 L0 O0 w0 I L w f h0 hg hr
  refine ⟨I, L, hg, fun t => ?_⟩
  rcases h t with h | h
  · rw [h]; exact .top _
  · rw [h]; exact hr t
end Go.Ab
/-
  A SYMBOLIC WALK: code is run once, on values that have names only; what is left over is a small program T on plain values: no slots, no boxes, no rows.
-/
namespace Go.Ab
def listOf : AV → List AV
  | .sl xs => xs
  | _ => []
def idxOf : AV → Nat
  | .v (.int _ k) => k.toNat
  | _ => 0
def tupD (a : AV) (j : Nat) : AV :=
  match a with
  | .tup vs => vs.getD j .top
  | _ => .top
mutual
def D.ev (r : List AV) : D → AV
  | .x i => r.getD i .top
  | .c a => a
  | .cell i j => (r.getD i .top).cells.getD j .top
  | .ext i j => tupD (r.getD i .top) j
  | .sl l => .sl (listOf (l.ev r))
  | .agg l => .agg (D.evs r l)
  | .fn f l => .fn f (D.evs r l)
  | .ip d f => .iptr (d.ev r) f
def D.evs (r : List AV) : List D → List AV
  | [] => []
  | d :: l => d.ev r :: D.evs r l
end
mutual
def D.cl (n : Nat) : D → Bool
  | .x i => decide (i < n)
  | .c a => a.noref
  | .cell i _ => decide (i < n)
  | .ext i _ => decide (i < n)
  | .sl l => l.cl n
  | .agg l => D.cls n l
  | .fn _ l => D.cls n l
  | .ip d _ => d.cl n
def D.cls (n : Nat) : List D → Bool
  | [] => true
  | d :: l => d.cl n && D.cls n l
end
def AV.ceq : AV → AV → Bool
  | .v (.int k a), .v (.int k' b) => decide (k = k') && decide (a = b)
  | .v (.bool a), .v (.bool b) => decide (a = b)
  | .v (.string a), .v (.string b) => decide (a = b)
  | .nils, .nils => true
  | .sl [], .sl [] => true
  | .tup [], .tup [] => true
  | .fn f [], .fn g [] => decide (f = g)
  | _, _ => false
mutual
def D.beq : D → D → Bool
  | .x i, .x j => decide (i = j)
  | .c a, .c b => a.ceq b
  | .cell i j, .cell k l => decide (i = k) && decide (j = l)
  | .ext i j, .ext k l => decide (i = k) && decide (j = l)
  | .sl a, .sl b => a.beq b
  | .agg a, .agg b => D.beqs a b
  | .fn f a, .fn g b => decide (f = g) && D.beqs a b
  | .ip a f, .ip b g => a.beq b && decide (f = g)
  | _, _ => false
def D.beqs : List D → List D → Bool
  | [], [] => true
  | a :: as, b :: bs => a.beq b && D.beqs as bs
  | _, _ => false
end
def mkA : List AV → AV
  | [c] => c
  | cs => .agg cs
mutual
def SV.ev (r : List AV) : SV → AV
  | .d x => x.ev r
  | .row n l => .row n (listOf (l.ev r)).length
  | .ptr n f => .ptr n 1 0 f
  | .rp n l i f => .ptr n (listOf (l.ev r)).length (idxOf (i.ev r)) f
  | .ip x f => .iptr (x.ev r) f
  | .agg cs => .agg (SV.evs r cs)
  | .tup cs => .tup (SV.evs r cs)
  | .top => .top
def SV.evs (r : List AV) : List SV → List AV
  | [] => []
  | v :: l => v.ev r :: SV.evs r l
end
def SO.ev (r : List AV) : SO → AObj
  | .dead => .dead
  | .box e cs => .live e cs.length [mkA (SV.evs r cs)]
  | .row true e s l => if listOf (l.ev r) = [] then .nil e s else .live e s (listOf (l.ev r))
  | .row false e s l => .live e s (listOf (l.ev r))
mutual
def SV.cl (n : Nat) : SV → Bool
  | .d x => x.cl n
  | .row _ l => l.cl n
  | .ptr _ _ => true
  | .rp _ l i _ => l.cl n && i.cl n
  | .ip x _ => x.cl n
  | .agg cs => SV.cls n cs
  | .tup cs => SV.cls n cs
  | .top => true
def SV.cls (n : Nat) : List SV → Bool
  | [] => true
  | v :: l => v.cl n && SV.cls n l
end
def SO.cl (n : Nat) : SO → Bool
  | .dead => true
  | .box _ cs => SV.cls n cs
  | .row _ _ _ l => l.cl n
mutual
def SV.beq : SV → SV → Bool
  | .d x, .d y => x.beq y
  | .row n l, .row m k => decide (n = m) && l.beq k
  | .ptr n f, .ptr m g => decide (n = m) && decide (f = g)
  | .rp n l i f, .rp m k j g => decide (n = m) && l.beq k && i.beq j && decide (f = g)
  | .ip x f, .ip y g => x.beq y && decide (f = g)
  | .agg a, .agg b => SV.beqs a b
  | .tup a, .tup b => SV.beqs a b
  | .top, .top => true
  | _, _ => false
def SV.beqs : List SV → List SV → Bool
  | [], [] => true
  | a :: as, b :: bs => a.beq b && SV.beqs as bs
  | _, _ => false
end
def SO.beq : SO → SO → Bool
  | .dead, .dead => true
  | .box e cs, .box e' cs' => decide (e = e') && SV.beqs cs cs'
  | .row n e s l, .row n' e' s' l' => decide (n = n') && decide (e = e') && decide (s = s') && l.beq l'
  | _, _ => false
mutual
/-- only objects below k are named -/
def SV.sc (k : Nat) : SV → Bool
  | .d _ => true
  | .row n _ => decide (n < k)
  | .ptr n _ => decide (n < k)
  | .rp n _ _ _ => decide (n < k)
  | .ip _ _ => true
  | .agg cs => SV.scs k cs
  | .tup cs => SV.scs k cs
  | .top => true
def SV.scs (k : Nat) : List SV → Bool
  | [] => true
  | v :: l => v.sc k && SV.scs k l
end
def SO.sc (k : Nat) : SO → Bool
  | .dead => true
  | .box _ cs => SV.scs k cs
  | .row _ _ _ _ => true
def lk : List (Nat × SV) → Nat → SV
  | [], _ => .top
  | (k, v) :: l, t => if t = k then v else lk l t
structure SS where
  env : List (Nat × SV)
  objs : List SO
  nv : Nat
  /-- names that are aggregates of so many cells (nothing leans on it) -/
  kn : List (Nat × Nat)
instance : Inhabited SS := ⟨⟨[], [], 0, []⟩⟩
def SS.cl (s : SS) : Bool := s.env.all (fun p => p.2.cl s.nv) && s.objs.all (fun o => o.cl s.nv)
def stE (s : SS) (r : List AV) : Env := fun t => (lk s.env t).ev r
def stO (s : SS) (r : List AV) : List AObj := s.objs.map (SO.ev r)
def SS.set (s : SS) (t : Nat) (v : SV) : SS := { s with env := (t, v) :: s.env.filter (fun p => p.1 != t) }
def SS.setD (s : SS) (d : Option Nat) (v : SV) : SS :=
  match d with
  | some t => s.set t v
  | none => s
def un : SV := .d (.c (.tup []))
/- THE PROGRAM THAT IS LEFT -/
inductive PO where
  | val (x : D)
  | pick (c a b : D)
  | bin (op : BinOp) (a b : D)
  | beq (neg : Bool) (a b : D)
  | un (op : UnOp) (a : D)
  | conv (k : IntKind) (a : D)
  | elem (s : Nat) (l i : D)
  | fld (off : Nat) (n : Option Nat) (a : D)
  | loadc (f m : Nat) (a : D)
  | idxS (a i : D)
  | sliceS (a : D) (lo hi : Option D)
  | sliceL (s : Nat) (a : D) (lo hi : Option D)
  | lenS (a : D)
  | lenL (a : D)
  | mkl (z : AV) (n : Nat) (parts : List (Nat × D))
  | rep (bytes : Nat) (z : AV) (n c : D)
  | app (s bytes : Nat) (l y : D)
  | get (l i : D) (f : Nat) (n : Option Nat)
  | set (l i : D) (f m : Nat) (y : D)
  | call (f : FuncId) (args : List D) (flat : Bool)
  | callv (g : D) (args : List D) (flat : Bool)
  /-- through a pointer into what nobody writes any more -/
  | ldp (n : Option Nat) (a : D)
  | fap (off : Nat) (a : D)
  | pu (o : PU) (ds : List D)
  | appS (s bytes : Nat) (l y : D)
  /-- a call that makes one slice; nl: nil where it is empty -/
  | fcall (nl : Bool) (e s : Nat) (f : FuncId) (args : List D)
  /-- a call that reaches what is owned -/
  | scall (f : FuncId) (g : Sig) (args : List D)
inductive Chk where
  /-- an aggregate of m cells -/
  | cells (a : D) (m : Nat)
  | one (a : D)
  | lt (a : D) (j : Nat)
  | tup (a : D) (j : Nat)
  | idx (l i : D)
  | isFn (a : D)
  /-- a list that is not empty -/
  | ne (l : D)
  /-- not to be reached -/
  | no
  /-- two lists of one length -/
  | eql (a b : D)
inductive Node where
  | op (o : PO)
  | chk (c : Chk)
inductive T where
  | leaf (x : AX) (s : SS)
  | ret (ds : List D)
  | jump (vs : List D)
  | esc (t : T)
  | op (o : PO) (t : T)
  | chk (c : Chk) (t : T)
  | ite (c : D) (t f : T)
  | bind (k : Nat) (a b : T)
  | loop (init : List D) (b : T)
instance : Inhabited T := ⟨.jump []⟩
def D.evo (r : List AV) : Option D → Option AV
  | none => none
  | some d => some (d.ev r)
def callP (P : Program) (f : FuncId) (args : List AV) (flat : Bool) (K : AV → Prop) : Prop :=
  ∃ res, PCon P f args res ∧ res.noref = true ∧ (flat = true → res.flat = true) ∧ K res
def callvP (P : Program) (g : AV) (args : List AV) (flat : Bool) (K : AV → Prop) : Prop :=
  match g with
  | .fn f caps => callP P f (args ++ caps) flat K
  | _ => False
def rowOb (nl : Bool) (e s : Nat) (xs : List AV) : AObj := if nl = true ∧ xs = [] then .nil e s else .live e s xs
/-- THE CONTRACT OF A CALL THAT MAKES A SLICE of its own -/
def FCon (P : Program) (f : FuncId) (args : List AV) (nl : Bool) (e s : Nat) (xs : List AV) : Prop := Con P f args [] (.row 0 xs.length) [rowOb nl e s xs]
def fcallP (P : Program) (nl : Bool) (e s : Nat) (f : FuncId) (args : List AV) (K : AV → Prop) : Prop :=
  ∃ xs, FCon P f args nl e s xs ∧ AV.norefs xs = true ∧ K (.sl xs)
/-- THE CONTRACT OF A CALL THAT REACHES WHAT IS OWNED, by its signature -/
def SCon (P : Program) (f : FuncId) (g : Sig) (ins outs : List AV) : Prop := Con P f (SV.evs ins g.args) (g.objs.map (SO.ev ins)) (g.res.ev outs) (g.objs'.map (SO.ev outs))
def scallP (P : Program) (f : FuncId) (g : Sig) (args : List AV) (K : AV → Prop) : Prop :=
  ∃ outs, SCon P f g args outs ∧ outs.length = g.m ∧ AV.norefs outs = true ∧ K (.tup outs)
def appP (s bytes : Nat) (xs : List AV) (y : AV) (K : AV → Prop) : Prop :=
  srcOf [] y fun ys => (∀ y ∈ ys, y.cells.length = s) ∧ (xs.length + ys.length) * bytes ≤ 140737488355328 ∧ xs.length + ys.length ≤ maxLen ∧ K (.sl (xs ++ ys))
def getP (xs : List AV) (i : Nat) (f : Nat) (n : Option Nat) (K : AV → Prop) : Prop := i < xs.length ∧ f + n.getD 1 ≤ (xs.getD i .top).cells.length ∧ K (loadC n (xs.getD i .top) f)
def setP (xs : List AV) (i : Nat) (f m : Nat) (y : AV) (K : AV → Prop) : Prop :=
  i < xs.length ∧ y.cells.length = m ∧ y.storable = true ∧ f + m ≤ (xs.getD i .top).cells.length ∧ K (.sl (xs.set i (upd (xs.getD i .top) f y)))
def elemP (s : Nat) (a i : AV) (K : AV → Prop) : Prop :=
  match a, i with
  | .sl xs, .v (.int _ i) => 0 ≤ i ∧ i < xs.length ∧ (xs.getD i.toNat .top).cells.length = s ∧ K (xs.getD i.toNat .top)
  | _, _ => False
def repP (bytes : Nat) (z a b : AV) (K : AV → Prop) : Prop :=
  match a, b with
  | .v (.int .i64 n), .v (.int .i64 c) => 0 ≤ n ∧ n ≤ c ∧ bytes * c ≤ 281474976710656 ∧ c ≤ 9223372036854775807 ∧ K (.sl (List.replicate n.toNat z))
  | _, _ => False
def setAll (z : List AV) : List (Nat × AV) → List AV
  | [] => z
  | (i, y) :: r => setAll (z.set i y) r
def loadcP (f m : Nat) (a : AV) (K : AV → Prop) : Prop := f + m ≤ a.cells.length ∧ K (loadC (some m) a f)
def ldpP (n : Option Nat) (a : AV) (K : AV → Prop) : Prop :=
  match a with
  | .iptr y f => f + n.getD 1 ≤ y.cells.length ∧ K (loadC n y f)
  | _ => False
def fapP (off : Nat) (a : AV) (K : AV → Prop) : Prop :=
  match a with
  | .iptr y f => K (.iptr y (f + off))
  | _ => False
def appSP (s bytes : Nat) (xs : List AV) (y : AV) (K : AV → Prop) : Prop :=
  match y with
  | .v (.string b) => s = 1 ∧ (xs.length + b.size) * bytes ≤ 140737488355328 ∧ xs.length + b.size ≤ maxLen ∧ K (.sl (xs ++ ysS b))
  | _ => False
def beqP (neg : Bool) (a b : AV) (K : AV → Prop) : Prop :=
  match a, b with
  | .v (.bool a), .v (.bool b) => K (.v (.bool (neg != (a == b))))
  | _, _ => False
def PO.wp (P : Program) (r : List AV) (o : PO) (K : AV → Prop) : Prop :=
  match o with
  | .val x => K (x.ev r)
  | .pick c a b => pickK (c.ev r) (a.ev r) (b.ev r) [] fun x _ => K x
  | .bin op a b => binK op (a.ev r) (b.ev r) [] fun x _ => K x
  | .beq neg a b => beqP neg (a.ev r) (b.ev r) K
  | .un op a => unK op (a.ev r) [] fun x _ => K x
  | .conv k a => convK k (a.ev r) [] fun x _ => K x
  | .elem s l i => elemP s (l.ev r) (i.ev r) K
  | .fld off n a => fldK off n (a.ev r) [] fun x _ => K x
  | .loadc f m a => loadcP f m (a.ev r) K
  | .idxS a i => idxSK (a.ev r) (i.ev r) [] fun x _ => K x
  | .sliceS a lo hi => sliceSK (a.ev r) (D.evo r lo) (D.evo r hi) [] fun x _ => K x
  | .sliceL s a lo hi => sliceLK s (a.ev r) (D.evo r lo) (D.evo r hi) [] fun x _ => K x
  | .lenS a => lenSK (a.ev r) [] fun x _ => K x
  | .lenL a => lenLK (a.ev r) [] fun x _ => K x
  | .mkl z n parts => K (.sl (setAll (List.replicate n z) (parts.map fun p => (p.1, p.2.ev r))))
  | .rep bytes z n c => repP bytes z (n.ev r) (c.ev r) K
  | .app s bytes l y => appP s bytes (listOf (l.ev r)) (y.ev r) K
  | .get l i f n => getP (listOf (l.ev r)) (idxOf (i.ev r)) f n K
  | .set l i f m y => setP (listOf (l.ev r)) (idxOf (i.ev r)) f m (y.ev r) K
  | .call f args flat => callP P f (D.evs r args) flat K
  | .callv g args flat => callvP P (g.ev r) (D.evs r args) flat K
  | .ldp n a => ldpP n (a.ev r) K
  | .fap off a => fapP off (a.ev r) K
  | .pu o ds => puK o (D.evs r ds) K
  | .appS s bytes l y => appSP s bytes (listOf (l.ev r)) (y.ev r) K
  | .fcall nl e s f args => fcallP P nl e s f (D.evs r args) K
  | .scall f g args => scallP P f g (D.evs r args) K
def idxP (xs : List AV) (i : AV) (K : Prop) : Prop :=
  match i with
  | .v (.int _ i) => 0 ≤ i ∧ i < xs.length ∧ K
  | _ => False
def tupP (a : AV) (j : Nat) (K : Prop) : Prop :=
  match a with
  | .tup vs => j < vs.length ∧ K
  | _ => False
def isFnP (a : AV) (K : Prop) : Prop :=
  match a with
  | .fn _ _ => K
  | .iptr _ _ => K
  | _ => False
def Chk.wp (r : List AV) (c : Chk) (K : Prop) : Prop :=
  match c with
  | .cells a m => (a.ev r).isAgg = true ∧ (a.ev r).cells.length = m ∧ (a.ev r).storable = true ∧ K
  | .one a => (a.ev r).cells.length = 1 ∧ (a.ev r).isCell = true ∧ K
  | .lt a j => j < (a.ev r).cells.length ∧ K
  | .tup a j => tupP (a.ev r) j K
  | .idx l i => idxP (listOf (l.ev r)) (i.ev r) K
  | .isFn a => isFnP (a.ev r) K
  | .ne l => listOf (l.ev r) ≠ [] ∧ K
  | .no => False
  | .eql a b => (listOf (a.ev r)).length = (listOf (b.ev r)).length ∧ K
/-- WHAT THE PROGRAM COMES TO. L: what is asked at an open end; R: of the result; S: of what is handed to the joins around. -/
def wpT (P : Program) (L : AX → SS → List AV → Prop) (R : AV → Prop) : T → List AV → List (List AV → Prop) → Prop
  | .leaf x s, r, _ => L x s r
  | .ret ds, r, _ => R (packR (D.evs r ds))
  | .jump vs, r, S => match S with
    | J :: _ => J (D.evs r vs)
    | [] => False
  | .esc t, r, S => match S with
    | _ :: S => wpT P L R t r S
    | [] => False
  | .op o t, r, S => o.wp P r fun v => wpT P L R t (r ++ [v]) S
  | .chk c t, r, S => c.wp r (wpT P L R t r S)
  | .ite c t f, r, S => match c.ev r with
    | .v (.bool b) => (b = true → wpT P L R t r S) ∧ (b = false → wpT P L R f r S)
    | _ => False
  | .bind k a b, r, S => wpT P L R a r ((fun vs => vs.length = k → wpT P L R b (r ++ vs) S) :: S)
  | .loop init b, r, S => ∃ (J : Nat → List AV → Prop) (n : Nat), J n (D.evs r init) ∧ ∀ n vs, J n vs → vs.length = init.length → wpT P L R b (r ++ vs) ((fun vs' => ∃ m, m < n ∧ J m vs') :: S)
def escN : Nat → T → T
  | 0, t => t
  | n + 1, t => .esc (escN n t)
/-- open ends are filled; d: how many joins are around -/
def T.fill (k : AX → SS → Option T) : T → Nat → Option T
  | .leaf x s, d => (k x s).map (escN d)
  | .ret d, _ => some (.ret d)
  | .jump vs, d => if d = 0 then none else some (.jump vs)
  | .esc t, d => match d with
    | 0 => none
    | d + 1 => (t.fill k d).map .esc
  | .op o t, d => (t.fill k d).map (.op o)
  | .chk c t, d => (t.fill k d).map (.chk c)
  | .ite c t f, d => match t.fill k d, f.fill k d with
    | some t, some f => some (.ite c t f)
    | _, _ => none
  | .bind m a b, d => match a.fill k (d + 1), b.fill k d with
    | some a, some b => some (.bind m a b)
    | _, _ => none
  | .loop init b, d => (b.fill k (d + 1)).map (.loop init)
def T.leaves : T → List (AX × SS)
  | .leaf x s => [(x, s)]
  | .ret _ => []
  | .jump _ => []
  | .esc t => t.leaves
  | .op _ t => t.leaves
  | .chk _ t => t.leaves
  | .ite _ t f => t.leaves ++ f.leaves
  | .bind _ a b => a.leaves ++ b.leaves
  | .loop _ b => b.leaves
def T.joins : T → Bool
  | .leaf _ _ => false
  | .ret _ => false
  | .jump _ => false
  | .esc t => t.joins
  | .op _ t => t.joins
  | .chk _ t => t.joins
  | .ite _ t f => t.joins || f.joins
  | .bind _ _ _ => true
  | .loop _ _ => true
def wrap : List Node → T → T
  | [], t => t
  | .op o :: r, t => .op o (wrap r t)
  | .chk c :: r, t => .chk c (wrap r t)
end Go.Ab
/-
  THE SYMBOLIC WALK ITSELF: operations, regions, control, loops.
-/
namespace Go.Ab
def opd (s : SS) : Opd → SV
  | .t n => lk s.env n
  | .c a => .d (.c a)
/-- plain values of slots, without references -/
def dsOf : List SV → Option (List D)
  | [] => some []
  | .d x :: l => match dsOf l with
    | some ds => some (x :: ds)
    | none => none
  | _ :: _ => none
def etaOf (kn : List (Nat × Nat)) (ds : List D) : Option Nat :=
  match ds with
  | .cell i 0 :: _ :: _ => if kn.contains (i, ds.length) = true ∧ D.beqs ds ((List.range ds.length).map fun j => .cell i j) = true then some i else none
  | _ => none
def asD (kn : List (Nat × Nat)) : SV → Option (List Node × D)
  | .d x => some ([], x)
  | .agg cs => match dsOf cs with
    | some ds => match etaOf kn ds with
      | some i => some ([.chk (.cells (.x i) ds.length)], .x i)
      | none => some ([], .agg ds)
    | none => none
  | .ip x f => some ([], .ip x f)
  | _ => none
/-- an object that is a row, with these contents -/
def cur (s : SS) (n : Nat) (l : D) : Option (Bool × Nat × Nat) :=
  match s.objs[n]? with
  | some (.row nl e sz l') => if l'.beq l = true then some (nl, e, sz) else none
  | _ => none
def boxOf (s : SS) (n : Nat) : Option (Nat × List SV) :=
  match s.objs[n]? with
  | some (.box e cs) => some (e, cs)
  | _ => none
def nvN : Nat → List Node → Nat
  | nv, [] => nv
  | nv, .op _ :: r => nvN (nv + 1) r
  | nv, .chk _ :: r => nvN nv r
def nx (s : SS) (ns : List Node) (o : PO) : List Node × SV × SS := (ns ++ [.op o], .d (.x (nvN s.nv ns)), { s with nv := nvN s.nv ns + 1 })
def done (s : SS) (ns : List Node) (v : SV) : List Node × SV × SS := (ns, v, { s with nv := nvN s.nv ns })
def chkOf (m : Nat) (x : D) : Node := if m = 1 then .chk (.one x) else .chk (.cells x m)
def chkOnes : List SV → List Node
  | [] => []
  | .d x :: l => .chk (.one x) :: chkOnes l
  | _ :: l => chkOnes l
def noTops : List SV → Bool
  | [] => true
  | .top :: _ => false
  | .agg _ :: _ => false
  | .tup _ :: _ => false
  | _ :: l => noTops l
/-- the m cells of a value -/
def expand (nv m : Nat) (v : SV) : Option (List Node × List SV) :=
  if m = 1 then
    match v with
    | .d x => some ([.chk (.one x)], [.d x])
    | .agg _ => none
    | .tup _ => none
    | .top => none
    | v => some ([], [v])
  else
    match v with
    | .agg cs => if cs.length = m ∧ noTops cs = true then some (chkOnes cs, cs) else none
    | .d (.x i) => some ([.chk (.cells (.x i) m)], (List.range m).map fun j => .d (.cell i j))
    | .d (.agg l) => if l.length = m then some ([.chk (.cells (.agg l) m)], l.map .d) else none
    | .d (.c (.agg l)) => if l.length = m then some ([.chk (.cells (.c (.agg l)) m)], l.map fun a => .d (.c a)) else none
    | .d x => some ([.op (.val x), .chk (.cells (.x nv) m)], (List.range m).map fun j => .d (.cell nv j))
    | _ => none
def xAlloc (s : SS) (t n : Nat) (z : AV) : Option (List Node × SV × SS) :=
  if n = 1 ∧ z.isAgg = false then some ([], .ptr s.objs.length 0, { s with objs := s.objs ++ [.box t [.d (.c z)]] })
  else match z with
    | .agg cs => if n ≠ 1 ∧ cs.length = n then some ([], .ptr s.objs.length 0, { s with objs := s.objs ++ [.box t (cs.map fun a => .d (.c a))] }) else none
    | _ => none
def xBox (s : SS) (t n : Nat) (v : SV) : Option (List Node × SV × SS) :=
  match expand s.nv n v with
  | some (ns, cs) => if cs.length = n then some (ns, .ptr s.objs.length 0, { s with objs := s.objs ++ [.box t cs], nv := nvN s.nv ns }) else none
  | none => none
/-- parts of a struct -/
def xParts (s : SS) : List Node → List SV → List (Nat × Nat × Opd) → Option (List Node × List SV)
  | ns, cs, [] => some (ns, cs)
  | ns, cs, (off, size, x) :: r => match expand (nvN s.nv ns) size (opd s x) with
    | some (ms, vs) => if vs.length = size ∧ off + size ≤ cs.length then xParts s (ns ++ ms) (cs.take off ++ vs ++ cs.drop (off + size)) r else none
    | none => none
/-- a struct: plain, if all cells are -/
def norm (s : SS) (ns : List Node) (cs : List SV) : List Node × SV × SS :=
  match asD s.kn (.agg cs) with
  | some (ms, x) => done s (ns ++ ms) (.d x)
  | none => done s ns (.agg cs)
def xBuild (s : SS) (z : List AV) (ps : List (Nat × Nat × Opd)) : Option (List Node × SV × SS) :=
  match xParts s [] (z.map fun a => .d (.c a)) ps with
  | some (ns, cs) => some (norm s ns cs)
  | none => none
def xElems (s : SS) (m len : Nat) : List (Nat × Opd) → Option (List Node × List (Nat × D))
  | [] => some ([], [])
  | (i, x) :: r => match asD s.kn (opd s x), xElems s m len r with
    | some (ns, d), some (ms, ps) => if i < len then some (ns ++ chkOf m d :: ms, (i, d) :: ps) else none
    | _, _ => none
def newRow (s : SS) (t m : Nat) (q : List Node × SV × SS) : Option (List Node × SV × SS) :=
  match q with
  | (ns, .d l, s') => some (ns, .row s.objs.length l, { s' with objs := s'.objs ++ [.row false t m l] })
  | _ => none
def newRowN (s : SS) (nl : Bool) (t m : Nat) (q : List Node × SV × SS) : Option (List Node × SV × SS) :=
  match q with
  | (ns, .d l, s') => some (ns, .row s.objs.length l, { s' with objs := s'.objs ++ [.row nl t m l] })
  | _ => none
def xBuildSlice (s : SS) (t m len : Nat) (z : AV) (ps : List (Nat × Opd)) : Option (List Node × SV × SS) :=
  match xElems s m len ps with
  | some (ns, ps) => newRow s t m (nx s ns (.mkl z len ps))
  | none => none
/-- a value is read whole -/
def whole (kn : List (Nat × Nat)) (y : D) (m : Nat) : Bool :=
  match y with
  | .x i => kn.contains (i, m)
  | .agg l => decide (l.length = m)
  | _ => false
def xLoad (s : SS) (n : Option Nat) (v : SV) : Option (List Node × SV × SS) :=
  match v with
  | .ptr k f => match boxOf s k with
    | some (_, cs) => match n with
      | none => match cs[f]? with
        | some v => if cs.length = 1 then (if noTops [v] = true then some (chkOnes [v], v, s) else none) else some ([], v, s)
        | none => none
      | some m => if cs.length ≠ 1 ∧ f + m ≤ cs.length then some (norm s [] ((cs.drop f).take m)) else none
    | none => none
  | .ip y f => match n with
    | none => match y with
      | .x i => some ([.chk (.lt y f)], .d (.cell i f), s)
      | .agg l => match l[f]? with
        | some d => some ([], .d d, s)
        | none => none
      | _ => some (.op (.val y) :: [.chk (.lt (.x s.nv) f)], .d (.cell s.nv f), { s with nv := s.nv + 1 })
    | some m => if f = 0 ∧ whole s.kn y m = true then some ([.chk (.cells y m)], .d y, s) else some (nx s [] (.loadc f m y))
  | .rp k l i f => match cur s k l with
    | some _ => some (nx s [] (.get l i f n))
    | none => none
  | .d y => some (nx s [] (.ldp n y))
  | _ => none
/-- a row's contents are written: everything that named them names the new ones -/
def SV.rew (n : Nat) (l l' : D) : SV → SV
  | .row m k => if m = n ∧ k.beq l = true then .row m l' else .row m k
  | .rp m k i f => if m = n ∧ k.beq l = true then .rp m l' i f else .rp m k i f
  | v => v
def xStore (s : SS) (m : Nat) (p y : SV) : Option (List Node × SV × SS) :=
  match p with
  | .ptr k f => match boxOf s k, expand s.nv m y with
    | some (e, cs), some (ns, vs) =>
      if vs.length = m ∧ f + m ≤ cs.length ∧ (m = 1 ∨ cs.length ≠ 1) ∧ (cs.length = 1 → noTops cs = true) then
        some ((if cs.length = 1 then chkOnes cs else []) ++ ns, .top, { s with objs := s.objs.set k (.box e (cs.take f ++ vs ++ cs.drop (f + m))), nv := nvN s.nv ns }) else none
    | _, _ => none
  | .rp k l i f => match cur s k l, asD s.kn y with
    | some (nl, e, sz), some (ns, d) =>
      let l' : D := .x (nvN s.nv (ns ++ [chkOf m d]))
      some (ns ++ [chkOf m d] ++ [.op (.set l i f m d)], .top, { s with env := s.env.map (fun p => (p.1, p.2.rew k l l')), objs := s.objs.set k (.row nl e sz l'), nv := nvN s.nv (ns ++ [chkOf m d]) + 1 })
    | _, _ => none
  | _ => none
def xFaddr (s : SS) (off : Nat) (v : SV) : Option (List Node × SV × SS) :=
  match v with
  | .ptr k f => match boxOf s k with
    | some _ => some ([], .ptr k (f + off), s)
    | none => none
  | .rp k l i f => match cur s k l with
    | some (false, _) => some ([], .rp k l i (f + off), s)
    | some (true, _) => some ([.chk (.idx l i)], .rp k l i (f + off), s)
    | none => none
  | .ip y f => some ([], .ip y (f + off), s)
  | .d y => some (nx s [] (.fap off y))
  | _ => none
def xFld (s : SS) (off : Nat) (n : Option Nat) (v : SV) : Option (List Node × SV × SS) :=
  match v with
  | .agg cs => match n with
    | none => match cs[off]? with
      | some v => some ([], v, s)
      | none => none
    | some m => if off + m ≤ cs.length then some (norm s [] ((cs.drop off).take m)) else none
  | .d (.agg l) => match n with
    | none => match l[off]? with
      | some d => some ([], .d d, s)
      | none => none
    | some _ => some (nx s [] (.fld off n (.agg l)))
  | .d x => some (nx s [] (.fld off n x))
  | _ => none
def xIaddr (s : SS) (m : Nat) (v i : SV) : Option (List Node × SV × SS) :=
  match v, i with
  | .d l, .d i => some (.op (.elem m l i) :: [], .ip (.x s.nv) 0, { s with nv := s.nv + 1 })
  | .row k l, .d i => match cur s k l with
    | some (_, _, sz) => if sz = m then some ([.chk (.idx l i)], .rp k l i 0, s) else none
    | none => none
  | _, _ => none
def xOpt (s : SS) : Option Opd → Option (Option D)
  | none => some none
  | some x => match opd s x with
    | .d d => some (some d)
    | _ => none
def xArgs (s : SS) : List Opd → Option (List Node × List D × Bool)
  | [] => some ([], [], false)
  | x :: r => match xArgs s r with
    | some (ns, ds, b) => match opd s x with
      | .row k l => match cur s k l with
        | some _ => some (ns, .sl l :: ds, true)
        | none => none
      | v => match asD s.kn v with
        | some (ms, d) => some (ms ++ ns, d :: ds, b)
        | none => none
    | none => none
/-- an object that is kept for what is made -/
def kept (s : SS) (k t m : Nat) : Bool :=
  match s.objs[k]? with
  | some (.row true t' m' (.c (.sl []))) => decide (t' = t) && decide (m' = m)
  | _ => false
def xAllocAt (s : SS) (k t n : Nat) (z : AV) : Option (List Node × SV × SS) :=
  if kept s k t n = true then
    if n = 1 ∧ z.isAgg = false then some ([], .ptr k 0, { s with objs := s.objs.set k (.box t [.d (.c z)]) })
    else match z with
      | .agg cs => if n ≠ 1 ∧ cs.length = n then some ([], .ptr k 0, { s with objs := s.objs.set k (.box t (cs.map fun a => .d (.c a))) }) else none
      | _ => none
  else none
def xBoxAt (s : SS) (k t n : Nat) (v : SV) : Option (List Node × SV × SS) :=
  if kept s k t n = true then
    match expand s.nv n v with
    | some (ns, cs) => if cs.length = n then some (ns, .ptr k 0, { s with objs := s.objs.set k (.box t cs), nv := nvN s.nv ns }) else none
    | none => none
  else none
def xBuildAt (s : SS) (k t m len : Nat) (z : AV) (ps : List (Nat × Opd)) : Option (List Node × SV × SS) :=
  if kept s k t m = true then
    match xElems s m len ps with
    | some (ns, ps) => some (ns ++ [.op (.mkl z len ps), .chk (.ne (.x s.nv))], .row k (.x s.nv), { s with objs := s.objs.set k (.row false t m (.x s.nv)), nv := s.nv + 1 })
    | none => none
  else none
/- CALLS THAT REACH WHAT IS OWNED -/
/-- what a signature may say of a slot -/
def SV.pat (n k : Nat) : SV → Bool
  | .d (.x i) => decide (i < n)
  | .d (.c a) => a.noref
  | .row m (.x i) => decide (i < n) && decide (m < k)
  | .ptr m _ => decide (m < k)
  | _ => false
def SO.pat (n k : Nat) : SO → Bool
  | .dead => true
  | .box _ cs => cs.all (SV.pat n k)
  | .row _ _ _ (.x i) => decide (i < n)
  | _ => false
/-- the same with names and objects put in -/
def SV.insP (τ : List D) (σ : Nat → Nat) : SV → SV
  | .d (.x i) => .d (τ.getD i (.c .top))
  | .row m (.x i) => .row (σ m) (τ.getD i (.c .top))
  | .ptr m f => .ptr (σ m) f
  | v => v
def SO.insP (τ : List D) (σ : Nat → Nat) : SO → SO
  | .dead => .dead
  | .box e cs => .box e (cs.map (SV.insP τ σ))
  | .row nl e s (.x i) => .row nl e s (τ.getD i (.c .top))
  | o => o
def SV.patT (n k : Nat) : SV → Bool
  | .tup cs => cs.all (SV.pat n k)
  | .agg cs => cs.all (SV.pat n k)
  | v => v.pat n k
def SV.insT (τ : List D) (σ : Nat → Nat) : SV → SV
  | .tup cs => .tup (cs.map (SV.insP τ σ))
  | .agg cs => .agg (cs.map (SV.insP τ σ))
  | v => v.insP τ σ
def Sig.ok (g : Sig) : Bool :=
  g.args.all (SV.pat g.n g.objs.length) && g.objs.all (SO.pat g.n g.objs.length) && g.objs'.all (SO.pat g.m g.objs'.length) && g.res.patT g.m g.objs'.length && decide (g.objs.length ≤ g.objs'.length)
/-- how a signature fits (what is found is looked at again) -/
abbrev Mt := List (Nat × D) × List (Nat × Nat)
def matchV (kn : List (Nat × Nat)) (p v : SV) (q : Mt) : Mt :=
  match p, v with
  | .d (.x i), v => match asD kn v with
    | some (_, d) => ((i, d) :: q.1, q.2)
    | none => q
  | .row m (.x i), .row k l => ((i, l) :: q.1, (m, k) :: q.2)
  | .ptr m _, .ptr k _ => (q.1, (m, k) :: q.2)
  | _, _ => q
def matchVs (kn : List (Nat × Nat)) : List SV → List SV → Mt → Mt
  | p :: ps, v :: vs, q => matchVs kn ps vs (matchV kn p v q)
  | _, _, q => q
def asgN (l : List (Nat × Nat)) (n : Nat) : Option Nat := (l.find? fun p => p.1 == n).map (·.2)
def asgD (l : List (Nat × D)) (n : Nat) : Option D := (l.find? fun p => p.1 == n).map (·.2)
def matchO (s : SS) (q : Mt) (n : Nat) (p : SO) : Mt :=
  match asgN q.2 n with
  | none => q
  | some k => match p, s.objs[k]? with
    | .box _ cs, some (.box _ ds) => matchVs s.kn cs ds q
    | .row _ _ _ (.x i), some (.row _ _ _ l) => ((i, l) :: q.1, q.2)
    | _, _ => q
def matchOs (s : SS) : Nat → List SO → Mt → Mt
  | _, [], q => q
  | n, p :: ps, q => matchOs s (n + 1) ps (matchO s q n p)
def sigOf (objs : List SO) (σl : List Nat) : Nat → Nat := fun n => if n < σl.length then σl.getD n 0 else objs.length + (n - σl.length)
/-- an argument fits -/
def fitV (kn : List (Nat × Nat)) (τ : List D) (σ : Nat → Nat) (p v : SV) : Option (List Node) :=
  match p with
  | .d (.x i) => match asD kn v with
    | some (ns, d) => if (τ.getD i (.c .top)).beq d = true then some ns else none
    | none => none
  | p => if (p.insP τ σ).beq v = true then some [] else none
def fitVs (kn : List (Nat × Nat)) (τ : List D) (σ : Nat → Nat) : List SV → List SV → Option (List Node)
  | [], [] => some []
  | p :: ps, v :: vs => match fitV kn τ σ p v, fitVs kn τ σ ps vs with
    | some a, some b => some (a ++ b)
    | _, _ => none
  | _, _ => none
def fitOs (s : SS) (τ : List D) (σ : Nat → Nat) : Nat → List SO → Bool
  | _, [] => true
  | n, p :: ps => (match s.objs[σ n]? with
    | some o => (p.insP τ σ).beq o
    | none => false) && fitOs s τ σ (n + 1) ps
def posOf (j : Nat) : List Nat → Nat → Option Nat
  | [], _ => none
  | x :: l, i => if x = j then some i else posOf j l (i + 1)
def nodupN : List Nat → Bool
  | [] => true
  | x :: l => !l.contains x && nodupN l
/-- the names of what a call gives -/
def extD (nv m : Nat) : List D := (List.range m).map fun j => .ext nv j
def newObjs (objs : List SO) (σl : List Nat) (ps : List SO) : List SO :=
  ((List.range objs.length).map fun j => match posOf j σl 0 with
    | some n => ps.getD n .dead
    | none => objs.getD j .dead) ++ ps.drop σl.length
/-- objects whose length stays: what named them names what they hold behind -/
def keepL (g : Sig) (τ : List D) (σ : Nat → Nat) (nv : Nat) : List (Nat × D × D) := g.keep.filterMap fun (n : Nat) => match g.objs[n]?, g.objs'[n]? with
  | some (SO.row _ _ _ (D.x i)), some (SO.row _ _ _ (D.x j)) => some (σ n, τ.getD i (.c .top), .ext nv j)
  | _, _ => none
def rewL (l : List (Nat × D × D)) (v : SV) : SV := l.foldl (fun v q => v.rew q.1 q.2.1 q.2.2) v
def matchSig (s : SS) (g : Sig) (as : List SV) : Option (List D × List Nat) :=
  let q := matchOs s 0 g.objs (matchOs s 0 g.objs (matchVs s.kn g.args as ([], [])))
  match (List.range g.n).mapM (asgD q.1), (List.range g.objs.length).mapM (asgN q.2) with
  | some τ, some σl => some (τ, σl)
  | _, _ => none
def scallG (s : SS) (f : FuncId) (as : List SV) (g : Sig) : Option (List Node × SV × SS) :=
  match matchSig s g as with
  | some (τ, σl) =>
    let σ := sigOf s.objs σl
    match fitVs s.kn τ σ g.args as with
    | some ns =>
      if g.ok = true ∧ σl.length = g.objs.length ∧ nodupN σl = true ∧ σl.all (· < s.objs.length) = true ∧ τ.length = g.n ∧ fitOs s τ σ 0 g.objs = true ∧ nvN s.nv ns = s.nv then
        let e := extD s.nv g.m
        let ks := keepL g τ σ s.nv
        some (ns ++ .op (.scall f g τ) :: ks.map (fun q => .chk (.eql q.2.1 q.2.2)), g.res.insT e σ,
          { s with env := s.env.map (fun p => (p.1, rewL ks p.2)), objs := newObjs s.objs σl (g.objs'.map (SO.insP e σ)), nv := s.nv + 1 })
      else none
    | none => none
  | none => none
def SV.isR : SV → Bool
  | .row _ _ => true
  | .ptr _ _ => true
  | _ => false
/-- signatures with one object, ahead and behind, and nothing else that is owned -/
def Sig.one (g : Sig) : Bool := decide (g.objs.length = 1) && decide (g.objs'.length = 1) && g.objs.all (SO.pat g.n 0) && g.objs'.all (SO.pat g.m 0) && g.res.patT g.m 0 && decide ((g.args.filter SV.isR).length = 1)
def scallL (s : SS) (f : FuncId) (as : List SV) : List Sig → Option (List Node × SV × SS)
  | [] => none
  | g :: gs => match scallG s f as g with
    | some q => some q
    | none => scallL s f as gs
/-- a bound that is left out, or 0 -/
def zeroB (s : SS) : Option Opd → Bool
  | none => true
  | some x => match opd s x with
    | .d (.c (.v (.int _ n))) => decide (n = 0)
    | _ => false
def xCut (s : SS) (m : Nat) (v : SV) (lo hi : Option Opd) : Option (List Node × SV × SS) :=
  match v with
  | .d (.c .nils) => if zeroB s lo = true ∧ zeroB s hi = true then some ([], .d (.c .nils), s) else none
  | .row k l => match cur s k l with
    | some (nl, e, sz) => if sz = m ∧ zeroB s lo = true ∧ hi.isSome = true ∧ zeroB s hi = true then
        some (if nl = true then [.chk (.ne l)] else [], .row s.objs.length (.c (.sl [])), { s with objs := s.objs.set k .dead ++ [.row false e m (.c (.sl []))] }) else none
    | none => none
  | _ => none
def xOp (op : AOp) (s : SS) : Option (List Node × SV × SS) :=
  match op with
  | .appZ t m bytes z a b => match opd s a, opd s b with
    | .d (.c .nils), .d y => some ([.op (.rep bytes z y y), .chk (.ne (.x s.nv))], .row s.objs.length (.x s.nv), { s with objs := s.objs ++ [.row false t m (.x s.nv)], nv := s.nv + 1 })
    | _, _ => none
  | .cut m a lo hi => xCut s m (opd s a) lo hi
  | .stuck => some ([.chk .no], .d (.c .top), s)
  | .buildF _ m len z ps => match xElems s m len ps with
    | some (ns, ps) => some (nx s ns (.mkl z len ps))
    | none => none
  | .pu o args => match o, args with
    | .capN, [a] => match opd s a with
      | .d (.c .nils) => some ([], .d (.c (.v (.int .i64 0))), s)
      | _ => none
    | o, args => match xArgs s args with
      | some (ns, ds, _) => some (nx s ns (.pu o ds))
      | none => none
  | .appS t m bytes a b => match opd s a, opd s b with
    | .row k l, .d y => match cur s k l with
      | some (nl, e, sz) => if e = t ∧ sz = m then some ([.op (.appS m bytes l y)], .row k (.x s.nv), { s with objs := s.objs.set k (.row nl e sz (.x s.nv)), nv := s.nv + 1 }) else none
      | none => none
    | .d (.c .nils), .d y => some ([.op (.appS m bytes (.c (.sl [])) y), .chk (.ne (.x s.nv))], .row s.objs.length (.x s.nv), { s with objs := s.objs ++ [.row false t m (.x s.nv)], nv := s.nv + 1 })
    | _, _ => none
  | .mov a => some ([], opd s a, s)
  | .pick c a b => match opd s c with
    | .d (.c (.v (.bool t))) => some ([], if t then opd s a else opd s b, s)
    | .d c => match asD s.kn (opd s a), asD s.kn (opd s b) with
      | some (na, a), some (nb, b) => some (nx s (na ++ nb) (.pick c a b))
      | _, _ => none
    | _ => none
  | .alloc t n z => xAlloc s t n z
  | .box t n a => xBox s t n (opd s a)
  | .build z ps => xBuild s z ps
  | .allocAt k t n z => xAllocAt s k t n z
  | .boxAt k t n a => xBoxAt s k t n (opd s a)
  | .buildAt k t m len z ps => xBuildAt s k t m len z ps
  | .buildSlice t m len z ps => xBuildSlice s t m len z ps
  | .load n a => xLoad s n (opd s a)
  | .store m a b => xStore s m (opd s a) (opd s b)
  | .bin o a b => match opd s a, opd s b with
    | .d a, .d b => some (nx s [] (.bin o a b))
    | _, _ => none
  | .beq neg a b => match opd s a, opd s b with
    | .d a, .d b => some (nx s [] (.beq neg a b))
    | _, _ => none
  | .un o a => match opd s a with
    | .d a => some (nx s [] (.un o a))
    | _ => none
  | .convInt k a => match opd s a with
    | .d a => some (nx s [] (.conv k a))
    | _ => none
  | .faddr off a => xFaddr s off (opd s a)
  | .fld off n a => xFld s off n (opd s a)
  | .iaddr m a i => xIaddr s m (opd s a) (opd s i)
  | .idxS a i => match opd s a, opd s i with
    | .d a, .d i => some (nx s [] (.idxS a i))
    | _, _ => none
  | .sliceS a lo hi => match opd s a, xOpt s lo, xOpt s hi with
    | .d a, some lo, some hi => some (nx s [] (.sliceS a lo hi))
    | _, _, _ => none
  | .sliceL m a lo hi => match opd s a, xOpt s lo, xOpt s hi with
    | .d a, some lo, some hi => some (nx s [] (.sliceL m a lo hi))
    | _, _, _ => none
  | .mk t m bytes z n c => match opd s n, opd s c with
    | .d n, .d c => newRow s t m (nx s [] (.rep bytes z n c))
    | _, _ => none
  | .lenS a => match opd s a with
    | .d a => some (nx s [] (.lenS a))
    | _ => none
  | .lenL a => match opd s a with
    | .d (.c .nils) => some ([], .d (.c (.v (.int .i64 0))), s)
    | .d a => some (nx s [] (.lenL a))
    | .row k l => match cur s k l with
      | some _ => some (nx s [] (.lenL (.sl l)))
      | none => none
    | _ => none
  | .app t m bytes a b => match opd s a with
    | .row k l => match cur s k l with
      | some (nl, e, sz) => if e = t ∧ sz = m then
          match (match opd s b with
            | .d y => some y
            | .row k' l' => if (cur s k' l').isSome = true then some (.sl l') else none
            | _ => none) with
          | some y => some ([.op (.app m bytes l y)], .row k (.x s.nv), { s with objs := s.objs.set k (.row nl e sz (.x s.nv)), nv := s.nv + 1 })
          | none => none
        else none
      | none => none
    | .d (.c .nils) =>
      match (match opd s b with
        | .d y => some y
        | .row k' l' => if (cur s k' l').isSome = true then some (.sl l') else none
        | _ => none) with
      | some y => some ([.op (.app m bytes (.c (.sl [])) y), .chk (.ne (.x s.nv))], .row s.objs.length (.x s.nv), { s with objs := s.objs ++ [.row false t m (.x s.nv)], nv := s.nv + 1 })
      | none => none
    | _ => none
  | .ext a i => match opd s a with
    | .tup cs => match cs[i]? with
      | some v => some ([], v, s)
      | none => none
    | .d (.x j) => some ([.chk (.tup (.x j) i)], .d (.ext j i), s)
    | _ => none
  | .nilc a => match opd s a with
    | .ptr k f => match boxOf s k with
      | some _ => some ([], .ptr k f, s)
      | none => none
    | .ip y f => some ([], .ip y f, s)
    | .d (.fn f l) => some ([], .d (.fn f l), s)
    | .d x => some ([.chk (.isFn x)], .d x, s)
    | _ => none
  | .mkfn f caps => match xArgs s caps with
    | some (ns, ds, false) => some (done s ns (.d (.fn f ds)))
    | _ => none
  | .pcall f args => match xArgs s args with
    | some (ns, ds, b) => some (nx s ns (.call f ds b))
    | none => none
  | .pcallv g args => match opd s g, xArgs s args with
    | .d (.c (.fn f [])), some (ns, ds, b) => some (nx s ns (.call f ds b))
    | .d (.fn f caps), some (ns, ds, b) => some (nx s ns (.call f (ds ++ caps) b))
    | .d g, some (ns, ds, b) => some (nx s ns (.callv g ds b))
    | _, _ => none
  | .rcall f args => match xArgs s args with
    | some (ns, ds, _) => some (nx s ns (.call f ds true))
    | none => none
  | .fcall nl e m f args => match xArgs s args with
    | some (ns, ds, false) => newRowN s nl e m (nx s ns (.fcall nl e m f ds))
    | _ => none
  | .qcall f args => match xArgs s args with
    | some (ns, ds, false) => some (nx s ns (.call f ds false))
    | _ => none
  | .scall1 gs f args => scallL s f (args.map (opd s)) (gs.filter Sig.one)
  | .scall gs f args => match scallL s f (args.map (opd s)) gs with
    | some q => some q
    | none => match xArgs s args with
      | some (ns, ds, false) => some (nx s ns (.call f ds false))
      | _ => none
  | .qcallv g args => match opd s g, xArgs s args with
    | .d (.c (.fn f [])), some (ns, ds, false) => some (nx s ns (.call f ds false))
    | .d (.fn f caps), some (ns, ds, false) => some (nx s ns (.call f (ds ++ caps) false))
    | .d g, some (ns, ds, false) => some (nx s ns (.callv g ds false))
    | _, _ => none
  | _ => none
/- AHEAD OF AN OPERATION: what may become plain or be made a row -/
/-- a slot's nil slice becomes a row -/
def nilRow (s : SS) (t m k : Nat) : SS :=
  { s with env := s.env.map (fun p => (p.1, if p.1 = k then .row s.objs.length (.c (.sl [])) else p.2)), objs := s.objs ++ [.row true t m (.c (.sl []))] }
def SV.frz (n : Nat) (l : D) : SV → SV
  | .row m k => if m = n ∧ k.beq l = true then .d (.sl l) else .row m k
  | v => v
def SV.frzs (n : Nat) (l : D) : SV → SV
  | .agg cs => .agg (cs.map (SV.frz n l))
  | v => v.frz n l
def SO.frz (n : Nat) (l : D) : SO → SO
  | .box e cs => .box e (cs.map (SV.frz n l))
  | o => o
def frzRow (s : SS) (n : Nat) : SS :=
  match s.objs[n]? with
  | some (.row _ _ _ l) => if l.cl s.nv = true then { s with env := s.env.map (fun p => (p.1, p.2.frzs n l)), objs := (s.objs.map (SO.frz n l)).set n .dead } else s
  | _ => s
def SV.fbx (n : Nat) (a : D) : SV → SV
  | .ptr m f => if m = n then .ip a f else .ptr m f
  | v => v
def SV.fbc (n : Nat) (a : D) : SV → SV
  | .ptr m f => if m = n then .d (.ip a f) else .ptr m f
  | v => v
def SO.fbx (n : Nat) (a : D) : SO → SO
  | .box e cs => .box e (cs.map (SV.fbc n a))
  | o => o
def mkD : List D → D
  | [d] => d
  | ds => .agg ds
def frzBox (s : SS) (n : Nat) : SS :=
  match s.objs[n]? with
  | some (.box _ cs) => match dsOf cs with
    | some ds => if D.cls s.nv ds = true then { s with env := s.env.map (fun p => (p.1, p.2.fbx n (mkD ds))), objs := (s.objs.map (SO.fbx n (mkD ds))).set n .dead } else s
    | none => s
  | _ => s
def SV.rows : SV → List Nat
  | .row n _ => [n]
  | .agg cs => cs.flatMap fun | .row n _ => [n] | _ => []
  | _ => []
def frzOf (s : SS) (v : SV) : SS := v.rows.foldl frzRow s
def frzOps (s : SS) (l : List Opd) : SS := l.foldl (fun s x => frzOf s (opd s x)) s
/-- what a closure takes along -/
def frzCap (s : SS) (x : Opd) : SS :=
  match opd s x with
  | .ptr n _ => match boxOf s n with
    | some (_, cs) => frzBox (cs.foldl frzOf s) n
    | none => s
  | v => frzOf s v
/-- a box that is handed: it is not written any more -/
def frzBoxD : Nat → SS → Nat → SS
  | 0, s, _ => s
  | k + 1, s, n => match boxOf s n with
    | some (_, cs) => frzBox (cs.foldl (fun s v => match v with
      | .ptr m _ => frzBoxD k s m
      | v => frzOf s v) s) n
    | none => s
def frzPtr (s : SS) (x : Opd) : SS :=
  match opd s x with
  | .ptr n _ => frzBoxD 3 s n
  | _ => s
def frzPtrs (s : SS) (l : List Opd) : SS := l.foldl frzPtr s
/-- structs that are handed: their rows are not written any more -/
def frzAggs (s : SS) (l : List Opd) : SS := l.foldl (fun s x => match opd s x with
  | .agg cs => frzOf s (.agg cs)
  | _ => s) s
/-- of what is handed: what a signature wants plain -/
def frzSig (s : SS) (l : List (SV × Opd)) : SS := l.foldl (fun s p => match p.1 with
  | .d _ => frzPtr (frzOf s (opd s p.2)) p.2
  | _ => s) s
def prep (fl : List Nat) (op : AOp) (s : SS) : SS :=
  match op with
  | .app t m _ (.t k) _ => match lk s.env k with
    | .d (.c .nils) => nilRow s t m k
    | _ => s
  | .appS t m _ (.t k) _ => match lk s.env k with
    | .d (.c .nils) => nilRow s t m k
    | _ => s
  | .sliceL _ a _ _ => frzOf s (opd s a)
  | .buildSlice _ _ _ _ ps => frzOps s (ps.map (·.2))
  | .store _ a b => match opd s a with
    | .rp _ _ _ _ => frzOf s (opd s b)
    | _ => s
  | .mkfn _ caps => caps.foldl frzCap s
  | .pcall f args => if fl.contains f = true then frzPtrs (frzAggs s args) args else frzPtrs (frzOps s args) args
  | .pcallv _ args => frzPtrs (frzOps s args) args
  | .fcall _ _ _ _ args => frzPtrs (frzOps s args) args
  | .pick _ a b => frzOps s [a, b]
  | .scall gs f args => if (scallL s f (args.map (opd s)) gs).isSome = true then s else match gs with
    | g :: _ => frzSig s (g.args.zip args)
    | [] => s
  | _ => s
/-- ahead of a drawn region: what its operations are handed -/
def frzAll (s : SS) (l : List SV) : SS := l.foldl (fun s v => match v with
  | .ptr m _ => frzBoxD 3 s m
  | v => frzOf s v) s
def PO.cl (nv : Nat) (o : PO) : Bool :=
  match o with
  | .val x => x.cl nv
  | .pick c a b => c.cl nv && a.cl nv && b.cl nv
  | .bin _ a b => a.cl nv && b.cl nv
  | .beq _ a b => a.cl nv && b.cl nv
  | .un _ a => a.cl nv
  | .conv _ a => a.cl nv
  | .elem _ l i => l.cl nv && i.cl nv
  | .fld _ _ a => a.cl nv
  | .loadc _ _ a => a.cl nv
  | .idxS a i => a.cl nv && i.cl nv
  | .sliceS a _ _ => a.cl nv
  | .sliceL _ a _ _ => a.cl nv
  | .lenS a => a.cl nv
  | .lenL a => a.cl nv
  | .mkl z _ ps => z.noref && ps.all (fun p => p.2.cl nv)
  | .rep _ z _ _ => z.noref
  | .app _ _ l y => l.cl nv && y.cl nv
  | .get l _ _ _ => l.cl nv
  | .set l _ _ _ y => l.cl nv && y.cl nv
  | .call _ as _ => D.cls nv as
  | .callv g as _ => g.cl nv && D.cls nv as
  | .ldp _ a => a.cl nv
  | .fap _ a => a.cl nv
  | .pu _ ds => D.cls nv ds
  | .appS _ _ l y => l.cl nv && y.cl nv
  | .fcall _ _ _ _ ds => D.cls nv ds
  | .scall _ _ ds => D.cls nv ds
def nodesCl : Nat → List Node → Bool
  | _, [] => true
  | nv, .op o :: r => o.cl nv && nodesCl (nv + 1) r
  | nv, .chk _ :: r => nodesCl nv r
abbrev opdOk : Opd → Bool := Opd.okc
/-- constants that an operation carries have no references -/
def AOp.okc : AOp → Bool
  | .box _ _ a => opdOk a
  | .boxAt _ _ _ a => opdOk a
  | .allocAt _ _ _ z => z.noref
  | .buildAt _ _ _ _ z ps => z.noref && ps.all (fun p => p.2.okc)
  | .build z ps => AV.norefs z && ps.all (fun p => opdOk p.2.2)
  | .store _ _ a => opdOk a
  | _ => true
def kns : Nat → List Node → List (Nat × Nat)
  | _, [] => []
  | nv, .chk (.cells (.x i) m) :: r => (i, m) :: kns nv r
  | nv, .op (.elem m _ _) :: r => (nv, m) :: kns (nv + 1) r
  | nv, .op (.loadc _ m _) :: r => (nv, m) :: kns (nv + 1) r
  | nv, .op (.fld _ (some m) _) :: r => (nv, m) :: kns (nv + 1) r
  | nv, .op _ :: r => kns (nv + 1) r
  | nv, _ :: r => kns nv r
def xStep (op : AOp) (s : SS) : Option (List Node × SV × SS) :=
  if s.cl = true ∧ op.okc = true then
    match xOp op s with
    | some (ns, v, s') => if nodesCl s.nv ns = true ∧ nvN s.nv ns = s'.nv ∧ v.cl s'.nv = true ∧ s'.cl = true then some (ns, v, { s' with kn := kns s.nv ns ++ s'.kn }) else none
    | none => none
  else none
def pre (fl : List Nat) (wk : Bool) (op : AOp) (s : SS) : SS := if wk = true then prep fl op s else s
def xOps (fl : List Nat) (wk : Bool) : List AOper → SS → Option T
  | [], s => some (.leaf .normal s)
  | o :: r, s => match o.guard with
    | none => match xStep o.op (pre fl wk o.op s) with
      | some (ns, v, s') => (xOps fl wk r (s'.setD o.dst v)).map (wrap ns)
      | none => none
    | some (g, want) => match lk s.env g with
      | .d (.c (.v (.bool b))) =>
        if b = want then
          match lk (pre fl wk o.op s).env g with
          | .d (.c (.v (.bool b'))) => if b' = want then
              match xStep o.op (pre fl wk o.op s) with
              | some (ns, v, s') => (xOps fl wk r (s'.setD o.dst v)).map (wrap ns)
              | none => none
            else none
          | _ => none
        else xOps fl wk r (s.setD o.dst un)
      | .d (.c (.tup [])) => xOps fl wk r (s.setD o.dst un)
      | .d _ => match lk (pre fl wk o.op s).env g with
        | .d c =>
          match xStep o.op ((pre fl wk o.op s).set g (.d (.c (.v (.bool want))))) with
          | some (ns, v, s') =>
            match xOps fl wk r (s'.setD o.dst v), xOps fl wk r (((pre fl wk o.op s).set g (.d (.c (.v (.bool (!want)))))).setD o.dst un) with
            | some t1, some t2 => some (if want = true then .ite c (wrap ns t1) t2 else .ite c t2 (wrap ns t1))
            | _, _ => none
          | none => none
        | _ => none
      | _ => none
/- REGIONS THAT DRAW THEIR ORDER -/
def refsS : SV → List Nat
  | .row n _ => [n]
  | .ptr n _ => [n]
  | .rp n _ _ _ => [n]
  | _ => []
def rfS (s : SS) : Opd → List Nat
  | .t n => refsS (lk s.env n)
  | .c a => refs a
def labS (op : AOp) (s : SS) : Lab := labG op (rfS s) s.objs.length
def xOpsL (rows : List (List Nat)) (all : List AOper) : List AOper → List Lab → SS → Option T
  | [], acc, s => if drawOkL rows (all.zip acc) = true then some (.leaf .normal s) else none
  | o :: r, acc, s => match o.guard with
    | none => match xStep o.op s with
      | some (ns, v, s') => (xOpsL rows all r (acc ++ [labS o.op s]) (s'.setD o.dst v)).map (wrap ns)
      | none => none
    | some (g, want) => match lk s.env g with
      | .d (.c (.v (.bool b))) =>
        if b = want then
          match xStep o.op s with
          | some (ns, v, s') => (xOpsL rows all r (acc ++ [labS o.op s]) (s'.setD o.dst v)).map (wrap ns)
          | none => none
        else xOpsL rows all r (acc ++ [⟨[], .nop⟩]) (s.setD o.dst un)
      | .d (.c (.tup [])) => xOpsL rows all r (acc ++ [⟨[], .nop⟩]) (s.setD o.dst un)
      | .d c =>
        match xStep o.op (s.set g (.d (.c (.v (.bool want))))) with
        | some (ns, v, s') =>
          match xOpsL rows all r (acc ++ [labS o.op (s.set g (.d (.c (.v (.bool want)))))]) (s'.setD o.dst v), xOpsL rows all r (acc ++ [⟨[], .nop⟩]) ((s.set g (.d (.c (.v (.bool (!want)))))).setD o.dst un) with
          | some t1, some t2 => some (if want = true then .ite c (wrap ns t1) t2 else .ite c t2 (wrap ns t1))
          | _, _ => none
        | none => none
      | _ => none
/-- where the operations of a region stand still: what the operation there is handed (nothing depends on it) -/
def AOp.handed : AOp → List Opd
  | .qcall _ l | .rcall _ l | .fcall _ _ _ _ l | .pcall _ l | .mkfn _ l => l
  | .qcallv x l => x :: l
  | .buildF _ _ _ _ ps => ps.map (·.2)
  | .sliceL _ x _ _ => [x]
  | .pick _ a b => [a, b]
  | .store _ _ y => [y]
  | _ => []
def failAt : List AOper → SS → List SV
  | [], _ => []
  | o :: r, s => match o.guard with
    | none => match xStep o.op s with
      | some (_, v, s') => failAt r (s'.setD o.dst v)
      | none => o.op.handed.map (opd s)
    | some (g, want) => match lk s.env g with
      | .d (.c (.v (.bool b))) => if b = want then (match xStep o.op s with
          | some (_, v, s') => failAt r (s'.setD o.dst v)
          | none => o.op.handed.map (opd s)) else failAt r (s.setD o.dst un)
      | .d (.c (.tup [])) => failAt r (s.setD o.dst un)
      | .d _ => match xStep o.op (s.set g (.d (.c (.v (.bool want))))) with
        | some (_, v, s') => match failAt r (s'.setD o.dst v) with
          | [] => failAt r ((s.set g (.d (.c (.v (.bool (!want)))))).setD o.dst un)
          | l => l
        | none => o.op.handed.map (opd s)
      | _ => []
/-- what is made in a drawn region gets names that are kept for it -/
def keepFor : List AOper → SS → List AOper × SS
  | [], s => ([], s)
  | o :: r, s => match o.op with
    | .alloc t m z => let q := keepFor r { s with objs := s.objs ++ [.row true t m (.c (.sl []))] }; ({ o with op := .allocAt s.objs.length t m z } :: q.1, q.2)
    | .box t m x => let q := keepFor r { s with objs := s.objs ++ [.row true t m (.c (.sl []))] }; ({ o with op := .boxAt s.objs.length t m x } :: q.1, q.2)
    | .buildSlice t m (len + 1) z ps => let q := keepFor r { s with objs := s.objs ++ [.row true t m (.c (.sl []))] }; ({ o with op := .buildAt s.objs.length t m (len + 1) z ps } :: q.1, q.2)
    | _ => let q := keepFor r s; (o :: q.1, q.2)
/-- a drawn region: what it is handed is made plain ahead, where that is wanted -/
def draws (rows : List (List Nat)) (ops : List AOper) : Nat → SS → Option (SS × List AOper × T)
  | 0, _ => none
  | n + 1, s => match xOpsL rows ops ops [] s with
    | some t => some (s, ops, t)
    | none => match failAt ops s with
      | [] => match xOpsL rows (keepFor ops s).1 (keepFor ops s).1 [] (keepFor ops s).2 with
        | some t => some ((keepFor ops s).2, (keepFor ops s).1, t)
        | none => none
      | l => draws rows ops n (frzAll s l)
/- JOINS: a state that holds for all ends; what changes gets names of its own -/
def D.inst (base : Nat) (vs : List D) : D → D
  | .x i => if i < base then .x i else vs.getD (i - base) (.c .top)
  | d => if d.cl base = true then d else .c .top
def SV.inst (base : Nat) (vs : List D) : SV → SV
  | .d x => .d (x.inst base vs)
  | .row n l => .row n (l.inst base vs)
  | .ptr n f => .ptr n f
  | .rp n l i f => .rp n (l.inst base vs) (i.inst base vs) f
  | .ip x f => .ip (x.inst base vs) f
  | .agg cs => if SV.cls base cs = true then .agg cs else .d (.c .top)
  | .tup cs => if SV.cls base cs = true then .tup cs else .d (.c .top)
  | .top => .top
def SO.inst (base : Nat) (vs : List D) : SO → SO
  | .dead => .dead
  | .box e cs => .box e (cs.map (SV.inst base vs))
  | .row nl e s l => .row nl e s (l.inst base vs)
/-- plain: without checks -/
def D0 : SV → Option D
  | .d x => some x
  | _ => none
def findV (base j : Nat) : List (SV × SV) → Option D
  | [] => none
  | (a, b) :: r => match a with
    | .d (.x i) => if i = base + j then (match D0 b with | some d => some d | none => findV base j r) else findV base j r
    | .row _ (.x i) => if i = base + j then (match b with | .row _ l => some l | _ => findV base j r) else findV base j r
    | _ => findV base j r
def cellPairs : SO → SO → List (SV × SV)
  | .box _ cs, .box _ ds => cs.zip ds
  | .row _ _ _ l, .row _ _ _ k => [(.d l, .d k)]
  | _, _ => []
/-- cells that the target does not know any more -/
def topFor : List SV → List SV → List SV
  | .top :: ts, _ :: cs => .top :: topFor ts cs
  | _ :: ts, c :: cs => c :: topFor ts cs
  | _, cs => cs
def blurTo (o : SO) : Option SO → SO
  | some .dead => .dead
  | some (.box _ ts) => match o with
    | .box e cs => if 2 ≤ cs.length then .box e (topFor ts cs) else .box e cs
    | o => o
  | _ => o
/-- objects that the target does not know any more -/
def killFor (t : List SO) : Nat → List SO → List SO
  | _, [] => []
  | k, o :: r => blurTo o t[k]? :: killFor t (k + 1) r
/-- what is handed to a join: values for the target's new names -/
def coerce (n0 base : Nat) (s t : SS) : Option (List D) :=
  let pairs := ((t.objs.zip s.objs).flatMap fun p => cellPairs p.1 p.2) ++ t.env.map fun p => (p.2, lk s.env p.1)
  match (List.range (t.nv - base)).mapM fun j => findV base j pairs with
  | none => none
  | some vs =>
    let objs := killFor t.objs 0 s.objs
    if n0 ≤ t.objs.length ∧ base ≤ t.nv ∧ base ≤ s.nv ∧ t.objs.length ≤ objs.length ∧ D.cls s.nv vs = true ∧ t.cl = true ∧
      (t.env.all fun p => (p.2.inst base vs).beq (lk s.env p.1) && p.2.sc t.objs.length) = true ∧
      ((t.objs.zip objs).all fun p => (p.1.inst base vs).beq p.2 && p.1.sc t.objs.length) = true then some vs else none
/- the choice of a join's state (nothing depends on how it is chosen) -/
def allSame (v : SV) : List SV → Bool
  | [] => true
  | w :: l => v.beq w && allSame v l
def allD : List SV → Bool
  | [] => true
  | .d _ :: l => allD l
  | _ :: _ => false
/-- a cell or slot in all of the states; next: the next name -/
def allRow (n : Nat) : List SS → List SV → Bool
  | s :: ss, .row m l :: vs => decide (m = n) && (cur s m l).isSome && allRow n ss vs
  | [], [] => true
  | _, _ => false
def genC (L : List SS) (base next : Nat) (vs : List SV) : SV × Nat :=
  match vs with
  | .row n l :: _ => if allRow n L vs = true then (.row n (.c .top), next) else (.top, next)
  | v :: r =>
    if allSame v r = true ∧ v.cl base = true then (v, next)
    else if allD vs = true then (.d (.x next), next + 1)
    else (.top, next)
  | [] => (.top, next)
def genV (base next : Nat) (vs : List SV) : SV × Nat :=
  match vs with
  | [] => (.top, next)
  | v :: r =>
    if allSame v r = true ∧ v.cl base = true then (v, next)
    else if allD vs = true then (.d (.x next), next + 1)
    else (.top, next)
def genVs (L : List SS) (base : Nat) : Nat → List (List SV) → List SV × Nat
  | next, [] => ([], next)
  | next, vs :: r =>
    let (v, n1) := genC L base next vs
    let (l, n2) := genVs L base n1 r
    (v :: l, n2)
def nthCells (k : Nat) (l : List SO) : List SV := l.map fun | .box _ cs => cs.getD k .top | _ => .top
def genO (L : List SS) (base next : Nat) (os : List SO) : SO × Nat :=
  match os with
  | .box e cs :: r => if r.all (fun | .box e' ds => decide (e = e') && decide (ds.length = cs.length) | _ => false) = true then
      let (l, n) := genVs L base next ((List.range cs.length).map fun k => nthCells k os)
      (.box e l, n) else (.dead, next)
  | .row nl e s l :: r => if r.all (fun | .row nl' e' s' _ => decide (nl = nl') && decide (e = e') && decide (s = s') | _ => false) = true then
      (if r.all (fun | .row _ _ _ k => l.beq k | _ => false) = true ∧ l.cl base = true then (.row nl e s l, next) else (.row nl e s (.x next), next + 1)) else (.dead, next)
  | _ => (.dead, next)
def genOs (L : List SS) (base : Nat) : Nat → List (List SO) → List SO × Nat
  | next, [] => ([], next)
  | next, os :: r =>
    let (o, n1) := genO L base next os
    let (l, n2) := genOs L base n1 r
    (o :: l, n2)
def minLen : List SS → Nat
  | [] => 0
  | [s] => s.objs.length
  | s :: r => min s.objs.length (minLen r)
def isCur (s : SS) : SV → Bool
  | .row n l => (cur s n l).isSome
  | _ => false
/-- a slot: rows that are up to date in all states stay rows -/
def genE (base : Nat) (objs : List SO) (L : List SS) : Nat → List Nat → List (Nat × SV) × Nat
  | next, [] => ([], next)
  | next, t :: r =>
    let vs := L.map fun s => lk s.env t
    let q : SV × Nat := match vs with
      | .row n _ :: _ =>
        if (L.all fun s => match lk s.env t with | .row m l => decide (m = n) && (cur s m l).isSome | _ => false) = true then
          (match objs[n]? with | some (.row _ _ _ l) => (.row n l, next) | _ => (.top, next)) else (.top, next)
      | _ => genV base next vs
    let q : SV × Nat := if q.1.sc objs.length = true then q else (.top, q.2)
    let (l, n2) := genE base objs L q.2 r
    match q.1 with
    | .top => (l, n2)
    | v => ((t, v) :: l, n2)
def fixC (objs : List SO) : SV → SV
  | .row n (.c .top) => match objs[n]? with | some (.row _ _ _ l) => .row n l | _ => .top
  | v => v
def fixO (objs : List SO) : SO → SO
  | .box e cs => .box e (cs.map (fixC objs))
  | o => o
def gen (base : Nat) (L : List SS) : SS :=
  match L with
  | [] => default
  | s :: _ =>
    let (objs0, n1) := genOs L base base ((List.range (minLen L)).map fun k => L.map fun s => s.objs.getD k .dead)
    let objs := objs0.map (fixO objs0)
    let (env, n2) := genE base objs L n1 (s.env.map (·.1))
    ⟨env, objs, n2, s.kn.filter fun p => decide (p.1 < base)⟩
/-- slots (and cells of boxes) that are nil here, and rows in another state -/
def convEnv (s : SS) (t : SS) : Option (Nat × Nat × Nat) :=
  s.env.findSome? fun p => match p.2 with
    | .d (.c .nils) => match lk t.env p.1 with
      | .row n l => match cur t n l with
        | some (_, e, m) => some (p.1, e, m)
        | none => none
      | _ => none
    | _ => none
def convCell (t : SS) (k : Nat) : Nat → List SV → Option (Nat × Nat × Nat × Nat)
  | _, [] => none
  | j, v :: r => match v with
    | .d (.c .nils) => match boxOf t k with
      | some (_, ds) => match ds.getD j .top with
        | .row n l => match cur t n l with
          | some (_, e, m) => some (k, j, e, m)
          | none => convCell t k (j + 1) r
        | _ => convCell t k (j + 1) r
      | none => none
    | _ => convCell t k (j + 1) r
def convObjs (t : SS) : Nat → List SO → Option (Nat × Nat × Nat × Nat)
  | _, [] => none
  | k, o :: r => match o with
    | .box _ cs => match convCell t k 0 cs with
      | some q => some q
      | none => convObjs t (k + 1) r
    | _ => convObjs t (k + 1) r
/-- a cell's nil slice becomes a row -/
def nilCell (s : SS) (k j t m : Nat) : SS :=
  match boxOf s k with
  | some (e, cs) => { s with objs := s.objs.set k (.box e (cs.set j (.row s.objs.length (.c (.sl []))))) ++ [.row true t m (.c (.sl []))] }
  | none => s
inductive Conv where
  | slot (k t m : Nat)
  | cell (k j t m : Nat)
  | fbx (n : Nat)
  | frow (n : Nat)
/-- boxes and rows that are plain at another end -/
def convFrz (s : SS) (t : SS) : Option Conv :=
  s.env.findSome? fun p => match p.2 with
    | .ptr n _ => match lk t.env p.1 with
      | .ip _ _ => some (.fbx n)
      | _ => none
    | .row n l => match lk t.env p.1 with
      | .d _ => if (cur s n l).isSome = true then some (.frow n) else none
      | _ => none
    | _ => none
def convOf (s : SS) (L : List SS) : Option Conv :=
  match L.findSome? (convEnv s) with
  | some (k, t, m) => some (.slot k t m)
  | none => match L.findSome? (fun t => convObjs t 0 s.objs) with
    | some (k, j, t, m) => some (.cell k j t m)
    | none => L.findSome? (convFrz s)
def Conv.run (s : SS) : Conv → SS
  | .slot k t m => match lk s.env k with
    | .d (.c .nils) => nilRow s t m k
    | _ => s
  | .cell k j t m => match boxOf s k with
    | some (_, cs) => match cs[j]? with
      | some (.d (.c .nils)) => nilCell s k j t m
      | _ => s
    | none => s
  | .fbx n => match boxOf s n with
    | some (_, cs) => frzBox (cs.foldl frzOf s) n
    | none => s
  | .frow n => frzRow s n
def normals (t : T) : List SS := t.leaves.filterMap fun p => match p.1 with | .normal => some p.2 | _ => none
def sameSS (a b : SS) : Bool :=
  decide (a.nv = b.nv) && decide (a.env.length = b.env.length) && decide (a.objs.length = b.objs.length) &&
  ((a.env.zip b.env).all fun p => decide (p.1.1 = p.2.1) && p.1.2.beq p.2.2) && ((a.objs.zip b.objs).all fun p => p.1.beq p.2)
def keepS (live : List Nat) (s : SS) : SS := { s with env := live.filterMap fun t => match lk s.env t with | .top => none | v => some (t, v) }
/-- a loop's head: ends of the body are looked at until nothing new changes -/
def headOf (body : SS → Option T) : Nat → SS → SS → Option (SS × SS × T)
  | 0, _, _ => none
  | n + 1, s, h => match body h with
    | none => none
    | some t =>
      match convOf s (normals t) with
      | some c => if sameSS (c.run s) s = true then none else headOf body n (c.run s) (c.run s)
      | none =>
        if sameSS h (gen s.nv (s :: normals t)) = true then some (s, h, t) else headOf body n s (gen s.nv (s :: normals t))
def ACode.isWeak : ACode → Bool
  | .weak _ => true
  | _ => false
def ACode.drawn : ACode → Option (List (List Nat) × List AOper)
  | .region (some rows) ops => some (rows, ops)
  | _ => none
def ACode.isCond : ACode → Bool
  | .cond _ _ _ => true
  | _ => false
/-- slots that are nil ahead and rows at some of several ends become rows ahead -/
def convLoop (body : SS → Option T) : Nat → SS → Option (SS × T)
  | 0, _ => none
  | n + 1, s => match body s with
    | none => none
    | some t =>
      if 2 ≤ (normals t).length then
        match convOf s (normals t) with
        | some c => convLoop body n (c.run s)
        | none => some (s, t)
      else some (s, t)
/-- a join would forget a slot that is a row at all ends, though not the same one: then what comes behind is walked at each end -/
def lossy (L : List SS) (h : SS) : Bool :=
  match L with
  | s :: _ :: _ => s.env.any fun p => (match lk h.env p.1 with | .top => true | _ => false) && L.all fun s' => isCur s' (lk s'.env p.1)
  | _ => false
def xC (n0 : Nat) (fl : List Nat) : ACode → SS → Option T
  | .skip, s => some (.leaf .normal s)
  | .region none ops, s => xOps fl false ops s
  | .region (some rows) ops, s => xOpsL rows ops ops [] s
  | .regionW ops, s => xOps fl true ops s
  | .seq a b, s => match xC n0 fl a s with
    | none => none
    | some t0 =>
      let L := normals t0
      if b.isWeak = true ∧ ((t0.joins = true ∧ 1 ≤ L.length) ∨ 2 ≤ L.length) ∧ lossy L (gen s.nv L) = false then
        let h := gen s.nv L
        match t0.fill (fun x s' => match x with
          | .normal => (coerce n0 s.nv s' h).map .jump
          | x => some (.esc (.leaf x s'))) 0, xC n0 fl b h with
        | some t1, some t2 => some (.bind (h.nv - s.nv) t1 t2)
        | _, _ => none
      else t0.fill (fun x s' => match x with | .normal => xC n0 fl b s' | x => some (.leaf x s')) 0
  | .cond c t f, s => match opd s c with
    | .d (.c (.v (.bool b))) => if b = true then xC n0 fl t s else xC n0 fl f s
    | .d c => match xC n0 fl t s, xC n0 fl f s with
      | some t1, some t2 => if s.cl = true then some (.ite c t1 t2) else none
      | _, _ => none
    | _ => none
  | .block id b, s => match xC n0 fl b s with
    | none => none
    | some t => t.fill (fun x s' => match x with
      | .exit i => some (if i = id then .leaf .normal s' else .leaf (.exit i) s')
      | x => some (.leaf x s')) 0
  | .loop b, s => match headOf (xC n0 fl b) 8 s s with
    | none => none
    | some (s1, h, t) => match coerce n0 s1.nv s1 h with
      | some init => match t.fill (fun x s' => match x with
          | .normal => (coerce n0 s1.nv s' h).map .jump
          | x => some (.esc (.leaf x s'))) 0 with
        | some t1 => some (.loop init t1)
        | none => none
      | none => none
  | .exit id, s => some (.leaf (.exit id) s)
  | .ret, s => some (.leaf .ret s)
  | .keep live c, s => match xC n0 fl c s with
    | none => none
    | some t => t.fill (fun x s' => match x with
      | .normal => some (.leaf .normal (keepS live s'))
      | x => some (.leaf x s')) 0
  | .weak c, s => if c.isCond = true then (match convLoop (xC n0 fl c) 6 s with
      | some q => some q.2
      | none => none) else match c.drawn with
        | some q => (draws q.1 q.2 6 s).map (·.2.2)
        | none => xC n0 fl c s
/- the code with weakenings wherever they may help -/
def ACode.weaken : ACode → ACode
  | .region none ops => .regionW ops
  | .region (some rows) ops => .weak (.region (some rows) ops)
  | .seq a b => .seq a.weaken (.weak b.weaken)
  | .cond c t f => .weak (.cond c t.weaken f.weaken)
  | .block id b => .block id b.weaken
  | .loop b => .loop b.weaken
  | .keep l c => .keep l c.weaken
  | .weak c => .weak c.weaken
  | c => c
def resOf (s : SS) : ARes → Option SV
  | .tmp t => some (lk s.env t)
  | .cell t n => match lk s.env t with
    | .ptr k 0 => match boxOf s k with
      | some (_, cs) => match n with
        | none => none
        | some m => if cs.length = m ∧ m ≠ 1 then some (.agg cs) else none
      | none => none
    | _ => none
/-- a result: rows are not written any more -/
def finV (s : SS) : SV → Option D
  | .d x => some x
  | .row n l => if (cur s n l).isSome = true then some (.sl l) else none
  | _ => none
def finVs (s : SS) : List SV → Option (List D)
  | [] => some []
  | v :: r => match finV s v, finVs s r with
    | some d, some ds => some (d :: ds)
    | _, _ => none
def finR (s : SS) : SV → Option D
  | .agg cs => (finVs s cs).map .agg
  | v => finV s v
def finRs (s : SS) : List ARes → Option (List D)
  | [] => some []
  | r :: rs => match resOf s r with
    | some v => match finR s v, finRs s rs with
      | some d, some ds => some (d :: ds)
      | _, _ => none
    | none => none
/- a function that reaches what is owned, by its signature -/
end Go.Ab
