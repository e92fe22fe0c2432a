/- laws.FnExactTySize says true of every type tree whose reading is of bulk at most 1048576; what the argument reads is as it was. -/
import Derived.Test.YtnkpfblgkonpoaaRows
import Derived.Test.YtnkpfblgkonpoaaAbLaw
import Derived.Test.YtnkpfblgkonpoaaWTySize
import Derived.WalkKit
import Derived.ProofKit
set_option linter.unusedVariables false
set_option linter.unusedSimpArgs false
namespace Go.Proofs.Ytnkpfblgkonpoaa
open Go.Proofs.Ab Go.Ab Go.ChangeShapes Go.WideShapes Go.ChangeAt Go.RowKit

theorem own : ownKnob Try.prog.godebug = none := by kernel_rfl
theorem laid : laidOutB Try.prog = true := by kernel_rfl

mutual
theorem bulk_eq {H : Type} : ∀ d : DataW H, bulk d ≤ Rows.uptoBulk d
  | .lit (.string _) => Nat.le_refl _
  | .lit (.bool _) => Nat.le_refl _
  | .lit (.int _ _) => Nat.le_refl _
  | .lit (.float _ _) => Nat.le_refl _
  | .lit .nil => Nat.le_refl _
  | .nil => Nat.le_refl _
  | .ptr d => by have := bulk_eq d; simp only [bulk, Rows.uptoBulk]; omega
  | .slice es sp => by have := bulkAll_eq es; have := bulkAll_eq sp; simp only [bulk, Rows.uptoBulk]; omega
  | .agg ps => by have := bulkAll_eq ps; simp only [bulk, Rows.uptoBulk]; omega
  | .iface _ d => by have := bulk_eq d; simp only [bulk, Rows.uptoBulk]; omega
  | .map _ => by simp only [bulk, Rows.uptoBulk]; omega
  | .held _ => Nat.le_refl _
theorem bulkAll_eq {H : Type} : ∀ l : List (DataW H), bulkAll l ≤ Rows.uptoBulkAll l
  | [] => Nat.le_refl _
  | d :: r => by have := bulk_eq d; have := bulkAll_eq r; simp only [bulkAll, Rows.uptoBulkAll]; omega
end

theorem rd_Ty {H : Type} {enc : TypeId × Value → H} (w : World) (f : Nat) : Rd enc Try.prog w f 34 (fun t : Ty => t.av.cells) (fun t => 1 + t.wt) (fun _ => True) := by
  induction f using Nat.strongRecOn with
  | _ f ih =>
    intro cs x h
    obtain ⟨xs, n, rfl, rfl, hl, hlen, hf⟩ := DataW.trod_struct Try.underlying34 h
    have c3 : Try.prog.cellsOf 3 = 1 := by kernel_rfl
    have c9 : Try.prog.cellsOf 9 = 1 := by kernel_rfl
    have c32 : Try.prog.cellsOf 32 = 1 := by kernel_rfl
    have c34 : Try.prog.cellsOf 34 = 4 := by kernel_rfl
    rw [c34] at hl
    match xs, hlen with
    | [y0, y1, y2, y3], _ =>
      have h0 := fld hf 0 rfl (t := 3) (o := 0) rfl rfl c3
      have h1 := fld hf 1 rfl (t := 3) (o := 1) rfl rfl c3
      have h2 := fld hf 2 rfl (t := 9) (o := 2) rfl rfl c9
      have h3 := fld hf 3 rfl (t := 32) (o := 3) rfl rfl c32
      obtain ⟨k, r0, _, _⟩ := rd_int Try.underlying3 _ _ h0
      obtain ⟨m, r1, _, _⟩ := rd_int Try.underlying3 _ _ h1
      obtain ⟨s, r2, w2, _⟩ := rd_string Try.underlying9 _ _ h2
      obtain ⟨ks, r3, w3, _⟩ := rd_slice Try.underlying32 (by rw [c34]; omega) (fun j hj => ih j (by omega)) _ _ h3
      refine ⟨.mk k m s ks, ?_, ?_, trivial⟩
      · have := RdC.part 0 1 r0 (RdC.part 1 1 r1 (RdC.part 2 1 r2 (RdC.part 3 1 r3 (bs := []) (by rw [List.drop_of_length_le (by omega)]; exact .nil w))))
        simp only [Ty.av, Ty.avs_eq, AV.cells]
        simpa using this
      · have w3' : (ks.map fun t => 1 + t.wt).sum + 1 ≤ bulk y3.1 := w3
        have w2' : s.size + 1 ≤ bulk y2.1 := w2
        rw [Ty.sum1] at w3'
        simp only [Ty.wt, bulk, bulkAll, List.map_cons, List.map_nil]
        omega

theorem contract (H : Type) (enc : TypeId × Value → H) (W : World) (base : Nat) (args : Array Value) (ds gs : List (DataW H)) (before : List MemPlace)
    (hval : ∀ (j : Nat) t v, Try.f6.params[j]? = some t → args[j]? = some v → Value.okWide Try.prog W .any base t v)
    (hW : DataW.Whole enc Try.prog Try.f6.params.toList Rows.fnExactTySizeSpec.vars false W args.toList ds gs before) (hk : Rows.uptoSmall H (ds ++ gs) = true) :
    Calls Try.prog 6 args W fun e W' => ∃ v, e = .returned v ∧ Rows.fnExactTySizeSpec.post enc Try.prog Try.f6 false true false false W args v W' := by
  have hW' := hW
  obtain ⟨p, q, hA0, hV, rfl, hfz, hnd⟩ := hW
  have hA : DataW.TrodAll enc Try.prog W 0 (fun _ => true) true Try.f6.params.toList args.toList ds p := hA0
  rw [Try.params6] at hA hval
  obtain ⟨v0, vs0, d0, ds0, p0, q0, hargs, rfl, rfl, h0, r0⟩ := trodAll_cons hA
  obtain ⟨rfl, rfl, rfl⟩ := trodAll_nil r0
  obtain rfl : args = #[v0] := by cases args; simp_all
  obtain ⟨rfl, rfl⟩ := trodVars_none hV
  obtain ⟨vs, rfl, hsz⟩ := okWide_struct Try.underlying34 (hval 0 34 v0 rfl rfl)
  obtain ⟨f, h0⟩ := h0
  obtain ⟨t, hc, hw, _⟩ := rd_Ty W f _ _ h0
  have hb : t.wt ≤ 1048576 := by
    have h1 := bulk_eq d0
    have h2 : Rows.uptoBulkAll [d0] ≤ 1048576 := of_decide_eq_true hk
    simp only [Rows.uptoBulkAll] at h2
    simp only at hw
    omega
  obtain ⟨_, hcon⟩ := law_con t hb
  refine (hcon (memI W) (fun _ => ⟨0, 0⟩) W #[.agg vs] (memI_inv _ _) ⟨rfl, ?_⟩).mono ?_
  · intro i a x ha hx
    cases i with
    | succ i => simp at ha
    | zero =>
      simp at ha hx
      subst ha; subst hx
      obtain ⟨k, m, s, ks⟩ := t
      exact .agg _ _ hc.1 fun i c x h1 h2 => (hc.2 i c x h1 (by simpa [Value.cells] using h2)).2 _
  · rintro e W' ⟨y, I', L', rfl, hy, hg⟩
    cases hy
    exact ⟨_, rfl, law_post laid (fun t ht => by
      obtain rfl : t = 34 := by simpa [Try.params6] using ht
      exact ⟨by kernel_rfl, of_decide_eq_true (by kernel_rfl)⟩) rfl hW' (Frm.below ⟨hg.frm.os, hg.frm.tape, hg.frm.output, hg.frm.size, fun b hb _ => hg.frm.block b hb (by rintro ⟨n, e, s, xs, hn, _⟩; simp at hn)⟩) (t := 4) rfl Try.underlying4 rfl⟩

set_option maxRecDepth 100000 in
theorem lifted (os : Os) (started : os.Started) (H : Type) (enc : TypeId × Value → H) (F : Stop.Interp) :
    ReturnsInHanded {} Try.checked os 6 .any ((Rows.OpenSpec.upto Rows.fnExactTySizeSpec).pre6 enc Try.prog Try.f6 Rows.fnExactTySizeUptoRow.domain false) (((Rows.OpenSpec.upto Rows.fnExactTySizeSpec).at F).post enc Try.prog Try.f6 false true false false) := by
  refine returnsInHanded_of_cond (C := Try.checked) (s := Rows.OpenSpec.upto Rows.fnExactTySizeSpec) (k := Rows.uptoSmall) rfl own started (by kernel_rfl) Try.func6
    (OpenSpec.witness (enc := enc) (C := Try.checked) (s := Rows.OpenSpec.upto Rows.fnExactTySizeSpec) (k := Rows.uptoSmall) rfl false ⟨#[], #[.agg #[.int .i64 0, .int .i64 0, .string ⟨#[]⟩, .slice none 0 0]], []⟩ 8 (by kernel_rfl) (by kernel_rfl) (by kernel_rfl)
      (x := ([.agg [.lit (.int .i64 0), .lit (.int .i64 0), .lit (.string []), .nil]], [], [])) (by kernel_rfl) rfl (by kernel_rfl)) ?_
  intro W base args ds gs before hval hW _ hk _
  exact contract H enc W base args ds gs before hval hW hk

theorem over : Rows.fnExactTySizeUptoRow.holds Try.pinned (Rows.OpenSpec.upto Rows.fnExactTySizeSpec) :=
  OpenClaim.holds_of_cond 6 Try.f6 rfl rfl rfl rfl rfl rfl rfl ⟨rfl, rfl, rfl, rfl, rfl⟩ rfl rfl rfl rfl rfl (by kernel_rfl) Try.func6 (by kernel_rfl)
    (of_decide_eq_true (by kernel_rfl)) (by unfold Func.isWrapper; first | (rw [if_pos (by decide +kernel)]; kernel_rfl) | (rw [if_neg (by decide +kernel)]; exact ⟨rfl, rfl⟩))
    (fun os started H enc _ F => lifted os started H enc F)

theorem proved : Rows.FnExactTySizeUptoSaid :=
  over
end Go.Proofs.Ytnkpfblgkonpoaa
