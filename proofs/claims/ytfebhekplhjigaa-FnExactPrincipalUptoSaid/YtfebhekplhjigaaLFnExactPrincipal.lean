/- laws.FnExactPrincipal says true of all arguments whose readings are of bulk at most 1048576; what they read is as it was. -/
import Derived.Test.YtfebhekplhjigaaRD
import Derived.Test.YtfebhekplhjigaaKFnExactPrincipal
set_option linter.unusedVariables false
set_option linter.unusedSimpArgs false
set_option linter.defProp false
namespace Go.Proofs.Ytfebhekplhjigaa.fnExactPrincipal
open Go.Proofs.Ab Go.Ab Go.ChangeShapes Go.WideShapes Go.ChangeAt Go.RowKit
set_option maxRecDepth 100000
theorem contract (H : Type) (enc : TypeId × Value → H) (W : World) (base : Nat) (args : Array Value) (ds gs : List (DataW H)) (before : List MemPlace)
    (hval : ∀ (j : Nat) t v, Try.f3.params[j]? = some t → args[j]? = some v → Value.okWide Try.prog W .any base t v)
    (hW : DataW.Whole enc Try.prog Try.f3.params.toList Rows.fnExactPrincipalSpec.vars false W args.toList ds gs before) (hk : Rows.uptoSmall H (ds ++ gs) = true) :
    Calls Try.prog 3 args W fun e W' => ∃ v, e = .returned v ∧ Rows.fnExactPrincipalSpec.post enc Try.prog Try.f3 false true false false W args v W' := by
  have hW' := hW
  obtain ⟨p, q, hA0, hV, rfl, hfz, hnd⟩ := hW
  have hA : DataW.TrodAll enc Try.prog W 0 (fun _ => true) true Try.f3.params.toList args.toList ds p := hA0
  rw [Try.params3] at hA hval
  obtain ⟨v0, vs0, d0, ds0, p0, q0, hargs, rfl, rfl, h0, r0⟩ := trodAll_cons hA
  obtain ⟨v1, vs1, d1, ds1, p1, q1, rfl, rfl, rfl, h1, r1⟩ := trodAll_cons r0
  obtain ⟨rfl, rfl, rfl⟩ := trodAll_nil r1
  obtain rfl : args = #[v0, v1] := by cases args; simp_all
  obtain ⟨rfl, rfl⟩ := trodVars_none hV
  obtain ⟨u0, rfl, hsz0⟩ := okWide_struct Try.underlying24 (hval 0 24 v0 rfl rfl)
  obtain ⟨f0, h0⟩ := h0
  obtain ⟨x0, hc0, hw0, ho0⟩ := rd_Ty W f0 _ _ h0
  have hw0' : 1 + x0.wt ≤ bulk d0 := hw0
  have hb0 := bulk_eq d0
  obtain ⟨u1, rfl, hsz1⟩ := okWide_struct Try.underlying24 (hval 1 24 v1 rfl rfl)
  obtain ⟨f1, h1⟩ := h1
  obtain ⟨x1, hc1, hw1, ho1⟩ := rd_Ty W f1 _ _ h1
  have hw1' : 1 + x1.wt ≤ bulk d1 := hw1
  have hb1 := bulk_eq d1
  have hb : x0.wt + x1.wt ≤ 1048576 := by
    have h2 : Rows.uptoBulkAll [d0, d1] ≤ 1048576 := of_decide_eq_true hk
    simp only [Rows.uptoBulkAll] at h2
    omega
  obtain ⟨_, hcon⟩ := law_FnExactPrincipal x0 x1 hb ho0 ho1
  refine (hcon (memI W) (fun _ => Loc.at 0 0) W #[.agg u0, .agg u1] (memI_inv _ _ (noFix rfl _) (noBlk rfl _)) ⟨rfl, ?_⟩).mono ?_
  · intro i a x ha hx
    match i, ha, hx with
    | 0, ha, hx =>
      simp at ha hx
      subst ha; subst hx
      exact .agg _ _ hc0.1 fun i c x h1 h2 => (hc0.2 i c x h1 (by simpa [Value.cells] using h2)).2 _
    | 1, ha, hx =>
      simp at ha hx
      subst ha; subst hx
      exact .agg _ _ hc1.1 fun i c x h1 h2 => (hc1.2 i c x h1 (by simpa [Value.cells] using h2)).2 _
    | k + 2, ha, hx => simp at ha
  · rintro e W' ⟨y, I', L', rfl, hy, hg⟩
    cases hy
    exact ⟨_, rfl, law_post laid (fun t ht => by
      obtain rfl : t = 24 := by simpa [Try.params3] using ht
      exact ⟨by kernel_rfl, of_decide_eq_true (by kernel_rfl)⟩) rfl hW' (Frm.below ⟨hg.frm.os, hg.frm.tape, hg.frm.output, hg.frm.size, fun b hb _ => hg.frm.block b hb LB_nil⟩) (t := 4) rfl Try.underlying4 rfl⟩
theorem lifted (os : Os) (started : os.Started) (H : Type) (enc : TypeId × Value → H) (F : Stop.Interp) :
    ReturnsInHanded {} Try.checked os 3 .any ((Rows.OpenSpec.upto Rows.fnExactPrincipalSpec).pre6 enc Try.prog Try.f3 Rows.fnExactPrincipalUptoRow.domain false) (((Rows.OpenSpec.upto Rows.fnExactPrincipalSpec).at F).post enc Try.prog Try.f3 false true false false) := by
  refine returnsInHanded_of_cond (C := Try.checked) (s := Rows.OpenSpec.upto Rows.fnExactPrincipalSpec) (k := Rows.uptoSmall) rfl own started (by kernel_rfl) Try.func3
    (OpenSpec.witness (enc := enc) (C := Try.checked) (s := Rows.OpenSpec.upto Rows.fnExactPrincipalSpec) (k := Rows.uptoSmall) rfl false ⟨#[], #[.agg #[.int .i64 0, .int .i64 0, .string ⟨#[]⟩, .slice none 0 0], .agg #[.int .i64 0, .int .i64 0, .string ⟨#[]⟩, .slice none 0 0]], []⟩ 8 (by kernel_rfl) (by kernel_rfl) (by kernel_rfl)
      (x := ([.agg [.lit (.int .i64 0), .lit (.int .i64 0), .lit (.string []), .nil], .agg [.lit (.int .i64 0), .lit (.int .i64 0), .lit (.string []), .nil]], [], [])) (by kernel_rfl) rfl (by kernel_rfl)) ?_
  intro W base args ds gs before hval hW _ hk _
  exact contract H enc W base args ds gs before hval hW hk
theorem over : Rows.fnExactPrincipalUptoRow.holds Try.pinned (Rows.OpenSpec.upto Rows.fnExactPrincipalSpec) :=
  OpenClaim.holds_of_cond 3 Try.f3 rfl rfl rfl rfl rfl rfl rfl ⟨rfl, rfl, rfl, rfl, rfl⟩ rfl rfl rfl rfl rfl (by kernel_rfl) Try.func3 (by kernel_rfl)
    (of_decide_eq_true (by kernel_rfl)) (by unfold Func.isWrapper; first | (rw [if_pos (by decide +kernel)]; kernel_rfl) | (rw [if_neg (by decide +kernel)]; exact ⟨rfl, rfl⟩))
    (fun os started H enc _ F => lifted os started H enc F)
theorem proved : Rows.FnExactPrincipalUptoSaid :=
  over
end Go.Proofs.Ytfebhekplhjigaa.fnExactPrincipal
