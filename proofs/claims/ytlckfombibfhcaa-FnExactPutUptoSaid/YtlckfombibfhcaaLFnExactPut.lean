/- laws.FnExactPut says true of all arguments whose readings are of bulk at most 1048576; what they read is as it was. -/
import Derived.Test.YtlckfombibfhcaaRD
import Derived.Test.YtlckfombibfhcaaWFnExactPut
set_option linter.unusedVariables false
set_option linter.unusedSimpArgs false
set_option linter.defProp false
namespace Go.Proofs.Ytlckfombibfhcaa.fnExactPut
open Go.Proofs.Ab Go.Ab Go.ChangeShapes Go.WideShapes Go.ChangeAt Go.RowKit
set_option maxRecDepth 100000
theorem contract (H : Type) (enc : TypeId × Value → H) (W : World) (base : Nat) (args : Array Value) (ds gs : List (DataW H)) (before : List MemPlace)
    (hval : ∀ (j : Nat) t v, Try.f5.params[j]? = some t → args[j]? = some v → Value.okWide Try.prog W .any base t v)
    (hW : DataW.Whole enc Try.prog Try.f5.params.toList Rows.fnExactPutSpec.vars false W args.toList ds gs before) (hk : Rows.uptoSmall H (ds ++ gs) = true) :
    Calls Try.prog 5 args W fun e W' => ∃ v, e = .returned v ∧ Rows.fnExactPutSpec.post enc Try.prog Try.f5 false true false false W args v W' := by
  have hW' := hW
  obtain ⟨p, q, hA0, hV, rfl, hfz, hnd⟩ := hW
  have hA : DataW.TrodAll enc Try.prog W 0 (fun _ => true) true Try.f5.params.toList args.toList ds p := hA0
  rw [Try.params5] at hA hval
  obtain ⟨v0, vs0, d0, ds0, p0, q0, hargs, rfl, rfl, h0, r0⟩ := trodAll_cons hA
  obtain ⟨v1, vs1, d1, ds1, p1, q1, rfl, rfl, rfl, h1, r1⟩ := trodAll_cons r0
  obtain ⟨v2, vs2, d2, ds2, p2, q2, rfl, rfl, rfl, h2, r2⟩ := trodAll_cons r1
  obtain ⟨rfl, rfl, rfl⟩ := trodAll_nil r2
  obtain rfl : args = #[v0, v1, v2] := by cases args; simp_all
  obtain ⟨rfl, rfl⟩ := trodVars_none hV
  obtain ⟨u0, rfl, hsz0⟩ := okWide_struct Try.underlying38 (hval 0 38 v0 rfl rfl)
  obtain ⟨f0, h0⟩ := h0
  obtain ⟨x0, hc0, hw0, ho0⟩ := rd_Ty W f0 _ _ h0
  have hw0' : 1 + x0.wt ≤ bulk d0 := hw0
  have hb0 := bulk_eq d0
  obtain ⟨u1, rfl⟩ := okWide_int Try.underlying3 (hval 1 3 v1 rfl rfl)
  obtain ⟨f1, h1⟩ := h1
  obtain ⟨x1, hc1, hw1, ho1⟩ := rd_int Try.underlying3 _ _ h1
  have hb1 := bulk_eq d1
  obtain ⟨ua2, ul2, uc2, rfl⟩ := okWide_slice Try.underlying36 (hval 2 36 v2 rfl rfl)
  obtain ⟨f2, h2⟩ := h2
  have ce2 : Try.prog.cellsOf 38 = 4 := by kernel_rfl
  obtain ⟨x2, hc2, hw2, ho2⟩ := rd_slice (av := VTy.av) Try.underlying36 (by rw [ce2]; omega) (fun j _ => rd_Ty W j) _ _ h2
  have hw2' : (x2.map fun t => 1 + VTy.wt t).sum + 1 ≤ bulk d2 := hw2
  rw [sum1] at hw2'
  have hb2 := bulk_eq d2
  have hb : x0.wt + (x2.length + (x2.map VTy.wt).sum) ≤ 1048576 := by
    have h2 : Rows.uptoBulkAll [d0, d1, d2] ≤ 1048576 := of_decide_eq_true hk
    simp only [Rows.uptoBulkAll] at h2
    omega
  obtain ⟨_, hcon⟩ := law_FnExactPut x0 x1 x2 hb ho0 (inR_of ho1) ho2
  refine (hcon (memI W) (fun _ => Loc.at 0 0) W #[.agg u0, .int .i64 u1, .slice ua2 ul2 uc2] (memI_inv _ _ (noFix rfl _) (noBlk rfl _)) ⟨rfl, ?_⟩).mono ?_
  · intro i a x ha hx
    match i, ha, hx with
    | 0, ha, hx =>
      simp at ha hx
      subst ha; subst hx
      exact .agg _ _ hc0.1 fun i c x h1 h2 => (hc0.2 i c x h1 (by simpa [Value.cells] using h2)).2 _
    | 1, ha, hx =>
      simp at ha hx
      subst ha; subst hx
      exact (hc1.2 0 _ _ rfl rfl).2 _
    | 2, ha, hx =>
      simp at ha hx
      subst ha; subst hx
      exact (hc2.2 0 _ _ rfl rfl).2 _
    | k + 3, ha, hx => simp at ha
  · rintro e W' ⟨y, I', L', rfl, hy, hg⟩
    cases hy
    exact ⟨_, rfl, law_post laid (fun t ht => by
      have h : t = 38 ∨ t = 3 ∨ t = 36 := by simpa [Try.params5] using ht
      rcases h with rfl | rfl | rfl <;> exact ⟨by kernel_rfl, of_decide_eq_true (by kernel_rfl)⟩) rfl hW' (Frm.below ⟨hg.frm.os, hg.frm.tape, hg.frm.output, hg.frm.size, fun b hb _ => hg.frm.block b hb LB_nil⟩) (t := 4) rfl Try.underlying4 rfl⟩
theorem lifted (os : Os) (started : os.Started) (H : Type) (enc : TypeId × Value → H) (F : Stop.Interp) :
    ReturnsInHanded {} Try.checked os 5 .any ((Rows.OpenSpec.upto Rows.fnExactPutSpec).pre6 enc Try.prog Try.f5 Rows.fnExactPutUptoRow.domain false) (((Rows.OpenSpec.upto Rows.fnExactPutSpec).at F).post enc Try.prog Try.f5 false true false false) := by
  refine returnsInHanded_of_cond (C := Try.checked) (s := Rows.OpenSpec.upto Rows.fnExactPutSpec) (k := Rows.uptoSmall) rfl own started (by kernel_rfl) Try.func5
    (OpenSpec.witness (enc := enc) (C := Try.checked) (s := Rows.OpenSpec.upto Rows.fnExactPutSpec) (k := Rows.uptoSmall) rfl false ⟨#[], #[.agg #[.int .i64 0, .int .i64 0, .string ⟨#[]⟩, .slice none 0 0], .int .i64 0, .slice none 0 0], []⟩ 8 (by kernel_rfl) (by kernel_rfl) (by kernel_rfl)
      (x := ([.agg [.lit (.int .i64 0), .lit (.int .i64 0), .lit (.string []), .nil], .lit (.int .i64 0), .nil], [], [])) (by kernel_rfl) rfl (by kernel_rfl)) ?_
  intro W base args ds gs before hval hW _ hk _
  exact contract H enc W base args ds gs before hval hW hk
theorem over : Rows.fnExactPutUptoRow.holds Try.pinned (Rows.OpenSpec.upto Rows.fnExactPutSpec) :=
  OpenClaim.holds_of_cond 5 Try.f5 rfl rfl rfl rfl rfl rfl rfl ⟨rfl, rfl, rfl, rfl, rfl⟩ rfl rfl rfl rfl rfl (by kernel_rfl) Try.func5 (by kernel_rfl)
    (of_decide_eq_true (by kernel_rfl)) (by unfold Func.isWrapper; first | (rw [if_pos (by decide +kernel)]; kernel_rfl) | (rw [if_neg (by decide +kernel)]; exact ⟨rfl, rfl⟩))
    (fun os started H enc _ F => lifted os started H enc F)
theorem proved : Rows.FnExactPutUptoSaid :=
  over
end Go.Proofs.Ytlckfombibfhcaa.fnExactPut
