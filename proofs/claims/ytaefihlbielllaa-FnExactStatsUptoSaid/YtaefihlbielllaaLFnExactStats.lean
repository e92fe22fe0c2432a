/- laws.FnExactStats says true of all arguments whose readings are of bulk at most 1048576; what they read is as it was. -/
import Derived.Test.YtaefihlbielllaaRD
import Derived.Test.YtaefihlbielllaaKFnExactStats
set_option linter.unusedVariables false
set_option linter.unusedSimpArgs false
set_option linter.defProp false
namespace Go.Proofs.Ytaefihlbielllaa.fnExactStats
open Go.Proofs.Ab Go.Ab Go.ChangeShapes Go.WideShapes Go.ChangeAt Go.RowKit
set_option maxRecDepth 100000
theorem contract (H : Type) (enc : TypeId × Value → H) (W : World) (base : Nat) (args : Array Value) (ds gs : List (DataW H)) (before : List MemPlace)
    (hval : ∀ (j : Nat) t v, Try.f3.params[j]? = some t → args[j]? = some v → Value.okWide Try.prog W .any base t v)
    (hW : DataW.Whole enc Try.prog Try.f3.params.toList Rows.fnExactStatsSpec.vars false W args.toList ds gs before) (hk : Rows.uptoSmall H (ds ++ gs) = true) :
    Calls Try.prog 3 args W fun e W' => ∃ v, e = .returned v ∧ Rows.fnExactStatsSpec.post enc Try.prog Try.f3 false true false false W args v W' := by
  have hW' := hW
  obtain ⟨p, q, hA0, hV, rfl, hfz, hnd⟩ := hW
  have hA : DataW.TrodAll enc Try.prog W 0 (fun _ => true) true Try.f3.params.toList args.toList ds p := hA0
  rw [Try.params3] at hA hval
  obtain ⟨v0, vs0, d0, ds0, p0, q0, hargs, rfl, rfl, h0, r0⟩ := trodAll_cons hA
  obtain ⟨rfl, rfl, rfl⟩ := trodAll_nil r0
  obtain rfl : args = #[v0] := by cases args; simp_all
  obtain ⟨rfl, rfl⟩ := trodVars_none hV
  obtain ⟨u0, rfl, hsz0⟩ := okWide_struct Try.underlying25 (hval 0 25 v0 rfl rfl)
  obtain ⟨f0, h0⟩ := h0
  obtain ⟨x0, hc0, hw0, ho0⟩ := rd_Code W f0 _ _ h0
  have hw0' : 1 + x0.wt ≤ bulk d0 := hw0
  have hb0 := bulk_eq d0
  have hb : x0.wt ≤ 1048576 := by
    have h2 : Rows.uptoBulkAll [d0] ≤ 1048576 := of_decide_eq_true hk
    simp only [Rows.uptoBulkAll] at h2
    omega
  obtain ⟨_, hcon⟩ := law_FnExactStats x0 hb ho0
  refine (hcon (memI W) (fun _ => Loc.at 0 0) W #[.agg u0] (memI_inv _ _ (noFix rfl _) (noBlk rfl _)) ⟨rfl, ?_⟩).mono ?_
  · intro i a x ha hx
    match i, ha, hx with
    | 0, ha, hx =>
      simp at ha hx
      subst ha; subst hx
      exact .agg _ _ hc0.1 fun i c x h1 h2 => (hc0.2 i c x h1 (by simpa [Value.cells] using h2)).2 _
    | k + 1, ha, hx => simp at ha
  · rintro e W' ⟨y, I', L', rfl, hy, hg⟩
    cases hy
    exact ⟨_, rfl, law_post laid (fun t ht => by
      obtain rfl : t = 25 := by simpa [Try.params3] using ht
      exact ⟨by kernel_rfl, of_decide_eq_true (by kernel_rfl)⟩) rfl hW' (Frm.below ⟨hg.frm.os, hg.frm.tape, hg.frm.output, hg.frm.size, fun b hb _ => hg.frm.block b hb LB_nil⟩) (t := 4) rfl Try.underlying4 rfl⟩
theorem lifted (os : Os) (started : os.Started) (H : Type) (enc : TypeId × Value → H) (F : Stop.Interp) :
    ReturnsInHanded {} Try.checked os 3 .any ((Rows.OpenSpec.upto Rows.fnExactStatsSpec).pre6 enc Try.prog Try.f3 Rows.fnExactStatsUptoRow.domain false) (((Rows.OpenSpec.upto Rows.fnExactStatsSpec).at F).post enc Try.prog Try.f3 false true false false) := by
  refine returnsInHanded_of_cond (C := Try.checked) (s := Rows.OpenSpec.upto Rows.fnExactStatsSpec) (k := Rows.uptoSmall) rfl own started (by kernel_rfl) Try.func3
    (OpenSpec.witness (enc := enc) (C := Try.checked) (s := Rows.OpenSpec.upto Rows.fnExactStatsSpec) (k := Rows.uptoSmall) rfl false ⟨#[], #[.agg #[.slice none 0 0, .slice none 0 0]], []⟩ 8 (by kernel_rfl) (by kernel_rfl) (by kernel_rfl)
      (x := ([.agg [.nil, .nil]], [], [])) (by kernel_rfl) rfl (by kernel_rfl)) ?_
  intro W base args ds gs before hval hW _ hk _
  exact contract H enc W base args ds gs before hval hW hk
theorem over : Rows.fnExactStatsUptoRow.holds Try.pinned (Rows.OpenSpec.upto Rows.fnExactStatsSpec) :=
  OpenClaim.holds_of_cond 3 Try.f3 rfl rfl rfl rfl rfl rfl rfl ⟨rfl, rfl, rfl, rfl, rfl⟩ rfl rfl rfl rfl rfl (by kernel_rfl) Try.func3 (by kernel_rfl)
    (of_decide_eq_true (by kernel_rfl)) (by unfold Func.isWrapper; first | (rw [if_pos (by decide +kernel)]; kernel_rfl) | (rw [if_neg (by decide +kernel)]; exact ⟨rfl, rfl⟩))
    (fun os started H enc _ F => lifted os started H enc F)
theorem proved : Rows.FnExactStatsUptoSaid :=
  over
end Go.Proofs.Ytaefihlbielllaa.fnExactStats
