/- laws.FnExactGetShort says true of all arguments whose readings are of bulk at most 1048576; what they read is as it was. -/
import Derived.Test.YtjklngbcegdjhaaRD
import Derived.Test.YtjklngbcegdjhaaKFnExactGetShort

set_option linter.unusedVariables false
set_option linter.unusedSimpArgs false
set_option linter.defProp false
namespace Go.Proofs.Ytjklngbcegdjhaa.fnExactGetShort
open Go.Proofs.Ab Go.Ab Go.ChangeShapes Go.WideShapes Go.ChangeAt Go.RowKit
set_option maxRecDepth 100000

theorem contract (H : Type) (enc : TypeId × Value → H) (W : World) (base : Nat) (args : Array Value) (ds gs : List (DataW H)) (before : List MemPlace)
    (hval : ∀ (j : Nat) t v, Try.f5.params[j]? = some t → args[j]? = some v → Value.okWide Try.prog W .any base t v)
    (hW : DataW.Whole enc Try.prog Try.f5.params.toList Rows.fnExactGetShortSpec.vars false W args.toList ds gs before) (hk : Rows.uptoSmall H (ds ++ gs) = true) :
    Calls Try.prog 5 args W fun e W' => ∃ v, e = .returned v ∧ Rows.fnExactGetShortSpec.post enc Try.prog Try.f5 false true false false W args v W' := by
  have hW' := hW
  obtain ⟨p, q, hA0, hV, rfl, hfz, hnd⟩ := hW
  have hA : DataW.TrodAll enc Try.prog W 0 (fun _ => true) true Try.f5.params.toList args.toList ds p := hA0
  rw [Try.params5] at hA hval
  obtain ⟨v0, vs0, d0, ds0, p0, q0, hargs, rfl, rfl, h0, r0⟩ := trodAll_cons hA
  obtain ⟨v1, vs1, d1, ds1, p1, q1, rfl, rfl, rfl, h1, r1⟩ := trodAll_cons r0
  obtain ⟨rfl, rfl, rfl⟩ := trodAll_nil r1
  obtain rfl : args = #[v0, v1] := by cases args; simp_all
  obtain ⟨rfl, rfl⟩ := trodVars_none hV
  obtain ⟨ua0, ul0, uc0, rfl⟩ := okWide_slice Try.underlying22 (hval 0 22 v0 rfl rfl)
  obtain ⟨f0, h0⟩ := h0
  have ce0 : Try.prog.cellsOf 5 = 1 := by kernel_rfl
  obtain ⟨x0, hc0, hw0, ho0⟩ := rd_slice (av := fun y => .v (.int .u8 y)) Try.underlying22 (by rw [ce0]; omega) (fun _ _ => rd_int Try.underlying5) _ _ h0
  have hw0' : (x0.map fun _ : Int => 1).sum + 1 ≤ bulk d0 := hw0
  rw [sum3] at hw0'
  have hb0 := bulk_eq d0
  obtain ⟨u1, rfl⟩ := okWide_int Try.underlying3 (hval 1 3 v1 rfl rfl)
  obtain ⟨f1, h1⟩ := h1
  obtain ⟨x1, hc1, hw1, ho1⟩ := rd_int Try.underlying3 _ _ h1
  have hb1 := bulk_eq d1
  have hb : x0.length ≤ 1048576 := by
    have h2 : Rows.uptoBulkAll [d0, d1] ≤ 1048576 := of_decide_eq_true hk
    simp only [Rows.uptoBulkAll] at h2
    omega
  obtain ⟨_, hcon⟩ := law_FnExactGetShort x0 x1 hb (fun y hy => inY_of (ho0 y hy)) (inR_of ho1)
  refine (hcon (memI W) (fun _ => ⟨0, 0⟩) W #[.slice ua0 ul0 uc0, .int .i64 u1] (memI_inv _ _) ⟨rfl, ?_⟩).mono ?_
  · intro i a x ha hx
    match i, ha, hx with
    | 0, ha, hx =>
      simp at ha hx
      subst ha; subst hx
      exact (hc0.2 0 _ _ rfl rfl).2 _
    | 1, ha, hx =>
      simp at ha hx
      subst ha; subst hx
      exact (hc1.2 0 _ _ rfl rfl).2 _
    | k + 2, ha, hx => simp at ha
  · rintro e W' ⟨y, I', L', rfl, hy, hg⟩
    cases hy
    exact ⟨_, rfl, law_post laid (fun t ht => by
      have h : t = 22 ∨ t = 3 := by simpa [Try.params5] using ht
      rcases h with rfl | rfl <;> exact ⟨by kernel_rfl, of_decide_eq_true (by kernel_rfl)⟩) rfl hW' (Frm.below ⟨hg.frm.os, hg.frm.tape, hg.frm.output, hg.frm.size, fun b hb _ => hg.frm.block b hb (by rintro ⟨n, e, s, xs, hn, _⟩; simp at hn)⟩) (t := 4) rfl Try.underlying4 rfl⟩

theorem lifted (os : Os) (started : os.Started) (H : Type) (enc : TypeId × Value → H) (F : Stop.Interp) :
    ReturnsInHanded {} Try.checked os 5 .any ((Rows.OpenSpec.upto Rows.fnExactGetShortSpec).pre6 enc Try.prog Try.f5 Rows.fnExactGetShortUptoRow.domain false) (((Rows.OpenSpec.upto Rows.fnExactGetShortSpec).at F).post enc Try.prog Try.f5 false true false false) := by
  refine returnsInHanded_of_cond (C := Try.checked) (s := Rows.OpenSpec.upto Rows.fnExactGetShortSpec) (k := Rows.uptoSmall) rfl own started (by kernel_rfl) Try.func5
    (OpenSpec.witness (enc := enc) (C := Try.checked) (s := Rows.OpenSpec.upto Rows.fnExactGetShortSpec) (k := Rows.uptoSmall) rfl false ⟨#[], #[.slice none 0 0, .int .i64 0], []⟩ 8 (by kernel_rfl) (by kernel_rfl) (by kernel_rfl)
      (x := ([.nil, .lit (.int .i64 0)], [], [])) (by kernel_rfl) rfl (by kernel_rfl)) ?_
  intro W base args ds gs before hval hW _ hk _
  exact contract H enc W base args ds gs before hval hW hk

theorem over : Rows.fnExactGetShortUptoRow.holds Try.pinned (Rows.OpenSpec.upto Rows.fnExactGetShortSpec) :=
  OpenClaim.holds_of_cond 5 Try.f5 rfl rfl rfl rfl rfl rfl rfl ⟨rfl, rfl, rfl, rfl, rfl⟩ rfl rfl rfl rfl rfl (by kernel_rfl) Try.func5 (by kernel_rfl)
    (of_decide_eq_true (by kernel_rfl)) (by unfold Func.isWrapper; first | (rw [if_pos (by decide +kernel)]; kernel_rfl) | (rw [if_neg (by decide +kernel)]; exact ⟨rfl, rfl⟩))
    (fun os started H enc _ F => lifted os started H enc F)

theorem proved : Rows.FnExactGetShortUptoSaid :=
  over
end Go.Proofs.Ytjklngbcegdjhaa.fnExactGetShort
