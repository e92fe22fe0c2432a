/- Part of a proof: the functions that the law reaches, walked by the abstract logic of the texts Ab. -/
import Derived.Test.YtfebhekplhjigaaLB
import Derived.Test.YtfebhekplhjigaaGM
set_option linter.unusedVariables false
set_option linter.unusedSimpArgs false
set_option linter.defProp false
namespace Go.Proofs.Ytfebhekplhjigaa
open Go.Ab Go.ChangeShapes Go.WideShapes Go.ChangeAt Go.RowKit
set_option maxRecDepth 100000
theorem sum1 {α : Type} (w : α → Nat) (l : List α) : (l.map fun t => 1 + w t).sum = l.length + (l.map w).sum := by
  induction l with
  | nil => rfl
  | cons t l ih => simp only [List.map_cons, List.sum_cons, ih, List.length_cons]; omega
theorem inR_of {n : Int} (h : IntKind.i64.min ≤ n ∧ n ≤ IntKind.i64.max) : inR n := by
  have h1 : IntKind.i64.min = -9223372036854775808 := by decide
  have h2 : IntKind.i64.max = 9223372036854775807 := by decide
  unfold inR; omega
theorem rd_Ty {H : Type} {enc : TypeId × Value → H} (w : World) (f : Nat) : Rd enc Try.prog w f 24 (fun t : VTy => t.av.cells) (fun t => 1 + t.wt) (fun t => t.ok) := by
  induction f using Nat.strongRecOn with
  | _ f ih =>
    have c3 : Try.prog.cellsOf 3 = 1 := by kernel_rfl
    have c9 : Try.prog.cellsOf 9 = 1 := by kernel_rfl
    have c22 : Try.prog.cellsOf 22 = 1 := by kernel_rfl
    have c24 : Try.prog.cellsOf 24 = 4 := by kernel_rfl
    intro cs x h
    obtain ⟨xs, n, rfl, rfl, hl, hlen, hf⟩ := DataW.trod_struct Try.underlying24 h
    rw [c24] at hl
    match xs, hlen with
    | [y0, y1, y2, y3], _ =>
      have h0 := fld hf 0 rfl (t := 3) (o := 0) rfl rfl c3
      have h1 := fld hf 1 rfl (t := 3) (o := 1) rfl rfl c3
      have h2 := fld hf 2 rfl (t := 9) (o := 2) rfl rfl c9
      have h3 := fld hf 3 rfl (t := 22) (o := 3) rfl rfl c22
      obtain ⟨a0, r0, w0, k0⟩ := rd_int Try.underlying3 _ _ h0
      have w0' : 1 ≤ bulk y0.1 := w0
      obtain ⟨a1, r1, w1, k1⟩ := rd_int Try.underlying3 _ _ h1
      have w1' : 1 ≤ bulk y1.1 := w1
      obtain ⟨a2, r2, w2, k2⟩ := rd_string Try.underlying9 _ _ h2
      have w2' : a2.size + 1 ≤ bulk y2.1 := w2
      obtain ⟨a3, r3, w3, k3⟩ := rd_slice (av := VTy.av) Try.underlying22 (by rw [c24]; omega) (fun j hj => (ih j (by omega))) _ _ h3
      have w3' : (a3.map fun t => 1 + VTy.wt t).sum + 1 ≤ bulk y3.1 := w3
      rw [sum1] at w3'
      refine ⟨.mk a0 a1 a2 a3, ?_, ?_, (VTy.ok_iff _).2 ⟨inR_of k0, inR_of k1, k3⟩⟩
      · have := RdC.part 0 1 r0 (RdC.part 1 1 r1 (RdC.part 2 1 r2 (RdC.part 3 1 r3 (bs := []) (by rw [List.drop_of_length_le (by omega)]; exact .nil w))))
        show RdC w (VTy.mk a0 a1 a2 a3).av.cells cs
        rw [VTy.cells]
        simpa [VTy.Kind, VTy.N, VTy.Name, VTy.Kids] using this
      · show 1 + (VTy.mk a0 a1 a2 a3).wt ≤ _
        rw [VTy.wt_eq]
        simp only [VTy.Kind, VTy.N, VTy.Name, VTy.Kids, bulk, bulkAll, List.map_cons, List.map_nil]
        omega
end Go.Proofs.Ytfebhekplhjigaa
