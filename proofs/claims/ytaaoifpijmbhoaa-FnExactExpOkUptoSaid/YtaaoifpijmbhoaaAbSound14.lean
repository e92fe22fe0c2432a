/-
  ONE OPERATION IN THE MODEL's WALK.
-/
import Derived.Test.YtaaoifpijmbhoaaAbSound13
set_option linter.unusedVariables false
set_option linter.unusedSimpArgs false
set_option linter.defProp false
namespace Go.Ab

def AOp.strip : AOp → AOp
  | .pcall f args => .call f args
  | .pcallv x args => .callv x args
  | .qcall f args => .call f args
  | .qcallv x args => .callv x args
  | o => o

section
variable {P : Program} {I : Imm} {L : Nat → Loc} {O : List AObj} {w : World} {K : AV → List AObj → Prop} {e : Env} {a : Act}

theorem Ran.wp {o : Oper} (h : Ran P I L O w (execOp a.eval o) K) {next : Act → World → Prop} {Q : Exit → Act → World → Prop}
    (hn : ∀ x O' y I' L' w', K x O' → Good I L O w I' L' O' w' → R I' L' O' x y → next (a.put o.dst y) w') : o.wp P a w next Q := by
  obtain ⟨x, O', y, I', L', w', hk, hg, hr, h | ⟨h, rfl⟩⟩ := h
  · unfold Oper.wp; rw [h]; exact hn _ _ _ _ _ _ hk hg hr
  · unfold Oper.wp; rw [h]; exact hn _ _ _ _ _ _ hk hg hr

theorem call_wp {o : Oper} {f : FuncId} {vs : Array Value} {next : Act → World → Prop} {Q : Exit → Act → World → Prop} {M : Value → World → Prop}
    (hrun : (execOp a.eval o).run P w = .ok (.enter f vs) w) (hc : Calls P f vs w fun e w' => ∃ y, e = .returned y ∧ M y w') (hn : ∀ y w', M y w' → next (a.put o.dst y) w') : o.wp P a w next Q := by
  unfold Oper.wp
  rw [hrun]
  show Calls P f vs w _
  refine hc.mono fun e w' ⟨y, he, hm⟩ => ?_
  subst he
  exact hn y w' hm

theorem run_callFunc {f : FuncId} (h : Enters P f) (vs : Array Value) (w : World) : (callFunc f vs).run P w = .ok (.enter f vs) w := by
  obtain ⟨fn, h1, h2, h3⟩ := h
  obtain ⟨b, hb⟩ := Option.isSome_iff_exists.1 h2
  have h4 : ¬ fn.name = "runtime.NumGoroutine" := by simpa using h3
  simp [callFunc, h1, h4, hb]

theorem run_callOp {c : Call} {fv : Operand} (hcal : c.callee = .value fv) {f : FuncId} {caps : Array Value} (hfv : a.eval fv = .func (.func f) #[] caps) (he : Enters P f) {d : Option Tmp} {ty : TypeId} {pos : String} {af : Array Edge} {g : Option (Nat × Bool)} :
    (execOp a.eval ⟨d, .call c, ty, pos, af, g⟩).run P w = .ok (.enter f (c.args.map a.eval ++ caps)) w := by
  simp only [execOp, resolve, hcal, hfv, Deferred.ofValue]
  simp [invoke, run_callFunc he]

theorem strip_eq {ao b : AOp} (h : b = ao.strip) (hb : b.isCall = false) : ao = b := by
  subst h
  cases ao <;> first | rfl | (simp [AOp.strip, AOp.isCall] at hb; done)

theorem op1_ran {d : Option Tmp} {op : Op} {ty : TypeId} {pos : String} {af : Array Edge} {g : Option (Nat × Bool)} {ao : AOp} (hc : cOp1 P ty op = some ao) (hi : Inv I L O w) (he : ∀ t, R I L O (e t) (a.tmps.getD t undef)) (hk : wpOp P ao e O K) :
    Ran P I L O w (execOp a.eval ⟨d, op, ty, pos, af, g⟩) K := by
  cases op
  case move => exact ran_mov hi he hc hk
  case assign => exact ran_assign hi he hc hk
  case pick => exact ran_pick hi he hc hk
  case alloc => exact ran_alloc hi hc hk
  case box => exact ran_box hi he hc hk
  case build => exact ran_build hi he hc hk
  case buildSlice => exact ran_buildSlice hi he hc hk
  case load => exact ran_load hi he hc hk
  case store => exact ran_store hi he hc hk
  case nilCheck => exact ran_nilc hi he hc hk
  case binOp => exact ran_bin hi he hc hk
  case unOp => exact ran_un hi he hc hk
  case convert => exact ran_convert hi he hc hk
  case fieldAddr => exact ran_faddr hi he hc hk
  case field => exact ran_fld hi he hc hk
  case indexAddr => exact ran_iaddr hi he hc hk
  case index => exact ran_index hi he hc hk
  case slice => exact ran_slice hi he hc hk
  case makeSlice => exact ran_makeSlice hi he hc hk
  case extract => exact ran_ext hi he hc hk
  case makeFunc => exact ran_mkfn hi he hc hk
  all_goals cases hc

theorem aft_nil (O : List AObj) (res : AV) : aft O [] res = O := by simp [aft]

theorem callop_sound {c : Call} {ao : AOp} {d : Option Tmp} {ty : TypeId} {pos : String} {af : Array Edge} {g : Option (Nat × Bool)} (hc : cCall P c = some ao.strip) (hi : Inv I L O w) (he : ∀ t, R I L O (e t) (a.tmps.getD t undef)) (hk : wpOp P ao e O K) {next : Act → World → Prop} {Q : Exit → Act → World → Prop}
    (hn : ∀ x O' y I' L' w', K x O' → Good I L O w I' L' O' w' → R I' L' O' x y → next (a.put d y) w') : Oper.wp P ⟨d, .call c, ty, pos, af, g⟩ a w next Q := by
  unfold cCall at hc
  split at hc
  · rename_i fv hcal
    have hrl : ∀ {args}, cOpds c.args = some args → RL I L O (args.map (Opd.ev e)) (c.args.map a.eval) := by
      intro args h
      have := cOpds_sound (I := I) (L := L) (O := O) (e := e) (a := a) h he
      have h2 : (List.map a.eval c.args.toList).toArray = Array.map a.eval c.args := by apply Array.ext'; simp
      rwa [h2] at this
    split at hc
    · rename_i f args hf hargs
      have rf := cOpd_sound hf he
      have hv : a.eval fv = .func (.func f) #[] #[] := by
        generalize a.eval fv = X at rf
        cases rf with
        | fn _ _ vs h1 h2 => congr 1; exact (Array.eq_empty_of_size_eq_zero h1.symm)
      have hra := hrl hargs
      simp only [Option.some.injEq] at hc
      cases ao <;> simp only [AOp.strip] at hc <;> first | (cases hc; done) | skip
      case call f' args' =>
        cases hc
        obtain ⟨res, O', hcon, hk⟩ := hk
        refine call_wp (a := a) (run_callOp hcal hv hcon.1) (M := fun y w' => ∃ I' L', R I' L' O' res y ∧ Good I L O w I' L' O' w') ?_ fun y w' ⟨I', L', h1, h2⟩ => hn _ _ _ _ _ _ hk h2 h1
        refine (hcon.2 I L w _ hi (by simpa using hra)).mono ?_
        rintro e' w' ⟨y, I', L', rfl, h1, h2⟩
        exact ⟨y, rfl, I', L', h1, h2⟩
      case pcall f' args' =>
        cases hc
        obtain ⟨res, hnr, hcon, hk⟩ := hk
        have := pcall_sound (as := args.map (Opd.ev e)) (caps := []) (vs := c.args.map a.eval) hi (by simpa using hra) (by simpa [Function.comp_def] using hnr) (by simpa [Function.comp_def] using hcon)
        refine call_wp (a := a) (run_callOp hcal hv hcon.1) (M := fun y w' => ∃ I' L', R I' L' (aft O (args.map (Opd.ev e)) res) res y ∧ Good I L O w I' L' (aft O (args.map (Opd.ev e)) res) w') ?_ fun y w' ⟨I', L', h1, h2⟩ => hn _ _ _ _ _ _ hk h2 h1
        simp only [Array.append_empty]
        refine this.mono ?_
        rintro e' w' ⟨y, I', L', rfl, h1, h2⟩
        exact ⟨y, rfl, I', L', h1, h2⟩
      case qcall f' args' =>
        cases hc
        obtain ⟨res, hnr, hcon, hk⟩ := hk
        have := pcall_sound (as := []) (caps := args.map (Opd.ev e)) (vs := c.args.map a.eval) hi (by simpa using hra) (by simpa using hnr) (by simpa using hcon)
        rw [aft_nil] at this
        refine call_wp (a := a) (run_callOp hcal hv hcon.1) (M := fun y w' => ∃ I' L', R I' L' O res y ∧ Good I L O w I' L' O w') ?_ fun y w' ⟨I', L', h1, h2⟩ => hn _ _ _ _ _ _ hk h2 h1
        simp only [Array.append_empty]
        refine this.mono ?_
        rintro e' w' ⟨y, I', L', rfl, h1, h2⟩
        exact ⟨y, rfl, I', L', h1, h2⟩
    · rename_i x args hne hf hargs
      have rf := cOpd_sound hf he
      have hra := hrl hargs
      simp only [Option.some.injEq] at hc
      cases ao <;> simp only [AOp.strip] at hc <;> first | (cases hc; done) | skip
      case callv x' args' =>
        cases hc
        simp only [wpOp] at hk
        generalize hA : x.ev e = A at rf hk
        cases A <;> simp only at hk
        rename_i f caps
        obtain ⟨res, O', hcon, hk⟩ := hk
        generalize hX : a.eval fv = X at rf
        cases rf with
        | fn _ _ vs h1 h2 =>
          refine call_wp (a := a) (run_callOp hcal hX hcon.1) (M := fun y w' => ∃ I' L', R I' L' O' res y ∧ Good I L O w I' L' O' w') ?_ fun y w' ⟨I', L', h1, h2⟩ => hn _ _ _ _ _ _ hk h2 h1
          refine (hcon.2 I L w _ hi ?_).mono ?_
          · refine ⟨by simp only [List.length_append, Array.size_append, h1, hra.1], fun i b y hb hy => ?_⟩
            by_cases hlt : i < (args.map (Opd.ev e)).length
            · rw [List.getElem?_append_left hlt] at hb
              rw [Array.getElem?_append_left (by rw [← hra.1]; exact hlt)] at hy
              exact hra.2 i b y hb hy
            · rw [List.getElem?_append_right (by omega)] at hb
              rw [Array.getElem?_append_right (by rw [← hra.1]; omega), ← hra.1] at hy
              exact h2 _ b y hb hy
          · rintro e' w' ⟨y, I', L', rfl, h1, h2⟩
            exact ⟨y, rfl, I', L', h1, h2⟩
      case pcallv x' args' =>
        cases hc
        simp only [wpOp] at hk
        generalize hA : x.ev e = A at rf hk
        cases A <;> simp only at hk
        rename_i f caps
        obtain ⟨res, hnr, hcon, hk⟩ := hk
        generalize hX : a.eval fv = X at rf
        cases rf with
        | fn _ _ vs h1 h2 =>
          have := pcall_sound (as := args.map (Opd.ev e)) (caps := caps) (vs := c.args.map a.eval ++ vs) hi (by
            refine ⟨by simp only [List.length_append, Array.size_append, h1, hra.1], fun i b y hb hy => ?_⟩
            by_cases hlt : i < (args.map (Opd.ev e)).length
            · rw [List.getElem?_append_left hlt] at hb
              rw [Array.getElem?_append_left (by rw [← hra.1]; exact hlt)] at hy
              exact hra.2 i b y hb hy
            · rw [List.getElem?_append_right (by omega)] at hb
              rw [Array.getElem?_append_right (by rw [← hra.1]; omega), ← hra.1] at hy
              exact h2 _ b y hb hy) (by simpa [Function.comp_def] using hnr) (by simpa [Function.comp_def] using hcon)
          refine call_wp (a := a) (run_callOp hcal hX hcon.1) (M := fun y w' => ∃ I' L', R I' L' (aft O (args.map (Opd.ev e)) res) res y ∧ Good I L O w I' L' (aft O (args.map (Opd.ev e)) res) w') ?_ fun y w' ⟨I', L', h1, h2⟩ => hn _ _ _ _ _ _ hk h2 h1
          refine this.mono ?_
          rintro e' w' ⟨y, I', L', rfl, h1, h2⟩
          exact ⟨y, rfl, I', L', h1, h2⟩
      case qcallv x' args' =>
        cases hc
        simp only [wpOp] at hk
        generalize hA : x.ev e = A at rf hk
        cases A <;> simp only at hk
        rename_i f caps
        obtain ⟨res, hnr, hcon, hk⟩ := hk
        generalize hX : a.eval fv = X at rf
        cases rf with
        | fn _ _ vs h1 h2 =>
          have := pcall_sound (as := []) (caps := args.map (Opd.ev e) ++ caps) (vs := c.args.map a.eval ++ vs) hi (by
            refine ⟨by simp only [List.nil_append, List.length_append, Array.size_append, h1, hra.1], fun i b y hb hy => ?_⟩
            rw [List.nil_append] at hb
            by_cases hlt : i < (args.map (Opd.ev e)).length
            · rw [List.getElem?_append_left hlt] at hb
              rw [Array.getElem?_append_left (by rw [← hra.1]; exact hlt)] at hy
              exact hra.2 i b y hb hy
            · rw [List.getElem?_append_right (by omega)] at hb
              rw [Array.getElem?_append_right (by rw [← hra.1]; omega), ← hra.1] at hy
              exact h2 _ b y hb hy) (by simpa using hnr) (by simpa using hcon)
          rw [aft_nil] at this
          refine call_wp (a := a) (run_callOp hcal hX hcon.1) (M := fun y w' => ∃ I' L', R I' L' O res y ∧ Good I L O w I' L' O w') ?_ fun y w' ⟨I', L', h1, h2⟩ => hn _ _ _ _ _ _ hk h2 h1
          refine this.mono ?_
          rintro e' w' ⟨y, I', L', rfl, h1, h2⟩
          exact ⟨y, rfl, I', L', h1, h2⟩
    · cases hc
  · rename_i hcal
    split at hc
    · rename_i t x hts has
      have hat : c.argTypes = #[t] := by apply Array.ext'; simpa using hts
      have haa : c.args = #[x] := by apply Array.ext'; simpa using has
      split at hc
      · rename_i ht
        simp only [Option.map_eq_some_iff] at hc
        obtain ⟨ax, hx, hc⟩ := hc
        have := strip_eq hc rfl
        subst this
        obtain ⟨x', y, h1, h2, h3⟩ := ran_lenS (ty := ty) hi he ht hx hk
        refine Ran.wp (Ran.same hi h1 h2 ?_) hn
        simp only [execOp, resolve, hcal, hat, haa]
        simp [invoke, builtin, h3]
      · rename_i el ht
        simp only [Option.map_eq_some_iff] at hc
        obtain ⟨ax, hx, hc⟩ := hc
        have := strip_eq hc rfl
        subst this
        obtain ⟨x', y, h1, h2, h3⟩ := ran_lenL (ty := ty) hi he ht hx hk
        refine Ran.wp (Ran.same hi h1 h2 ?_) hn
        simp only [execOp, resolve, hcal, hat, haa]
        simp [invoke, builtin, h3]
      · cases hc
    · cases hc
  · rename_i hcal
    split at hc
    · rename_i t u x y hts has
      split at hc
      · rename_i htu
        subst htu
        have hat : c.argTypes = #[t, t] := by apply Array.ext'; simpa using hts
        have haa : c.args = #[x, y] := by apply Array.ext'; simpa using has
        simp only [Option.bind_eq_bind, Option.bind_eq_some_iff, Option.some.injEq] at hc
        obtain ⟨el, hel, ⟨s, b, z⟩, hz, ax, hx, ay, hy, hc⟩ := hc
        have := strip_eq hc rfl
        subst this
        obtain ⟨x', O', y', I', L', w', h1, h2, h3, h4⟩ := app_ran (ty := ty) (cSlice_inv hel) hz hi (cOpd_sound hx he) (cOpd_sound hy he) hk
        refine Ran.wp ⟨x', O', y', I', L', w', h1, h2, h3, .inl ?_⟩ hn
        simp only [execOp, resolve, hcal, hat, haa]
        simp [invoke, builtin, h4]
      · cases hc
    · cases hc
  · cases hc

theorem op_sound {o : Oper} {ao : AOp} (hc : cOp P o.type o.op = some ao.strip) (hi : Inv I L O w) (he : ∀ t, R I L O (e t) (a.tmps.getD t undef)) (hk : wpOp P ao e O K) {next : Act → World → Prop} {Q : Exit → Act → World → Prop}
    (hn : ∀ x O' y I' L' w', K x O' → Good I L O w I' L' O' w' → R I' L' O' x y → next (a.put o.dst y) w') : o.wp P a w next Q := by
  obtain ⟨dst, op, ty, pos, af, g⟩ := o
  unfold cOp at hc
  simp only at hc
  split at hc
  · exact callop_sound hc hi he hk hn
  · simp only [Option.bind_eq_some_iff] at hc
    obtain ⟨b, hb, hc⟩ := hc
    split at hc
    · cases hc
    · rename_i hnc
      simp only [Option.some.injEq] at hc
      have := strip_eq hc (by simpa using hnc)
      subst this
      exact (op1_ran hb hi he hk).wp hn

end
end Go.Ab
