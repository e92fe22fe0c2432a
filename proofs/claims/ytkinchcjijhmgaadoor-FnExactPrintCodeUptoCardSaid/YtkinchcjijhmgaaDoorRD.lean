/- Part of a proof: the functions that the law reaches, walked by the abstract logic of the texts Ab. -/
import Derived.Test.YtkinchcjijhmgaaDoorLB
import Derived.Test.YtkinchcjijhmgaaDoorGM
set_option linter.unusedVariables false
set_option linter.unusedSimpArgs false
set_option linter.defProp false
namespace Go.Proofs.YtkinchcjijhmgaaDoor
open Go.Ab Go.ChangeShapes Go.WideShapes Go.ChangeAt Go.RowKit
set_option maxRecDepth 100000
theorem sum1 {α : Type} (w : α → Nat) (l : List α) : (l.map fun t => 1 + w t).sum = l.length + (l.map w).sum := by
  induction l with
  | nil => rfl
  | cons t l ih => simp only [List.map_cons, List.sum_cons, ih, List.length_cons]; omega
theorem sum3 (l : List Int) : (l.map fun _ : Int => 1).sum = l.length := by
  induction l with
  | nil => rfl
  | cons t l ih => simp only [List.map_cons, List.sum_cons, ih, List.length_cons]; omega
theorem inR_of {n : Int} (h : IntKind.i64.min ≤ n ∧ n ≤ IntKind.i64.max) : inR n := by
  have h1 : IntKind.i64.min = -9223372036854775808 := by decide
  have h2 : IntKind.i64.max = 9223372036854775807 := by decide
  unfold inR; omega
theorem rd_Instr {H : Type} {enc : TypeId × Value → H} (w : World) (f : Nat) : Rd enc Tryd.prog w f 47 (fun t : VInstr => t.av.cells) (fun t => 1 + t.wt) (fun t => t.ok) := by
  induction f using Nat.strongRecOn with
  | _ f ih =>
    have c3 : Tryd.prog.cellsOf 3 = 1 := by kernel_rfl
    have c9 : Tryd.prog.cellsOf 9 = 1 := by kernel_rfl
    have c47 : Tryd.prog.cellsOf 47 = 6 := by kernel_rfl
    intro cs x h
    obtain ⟨xs, n, rfl, rfl, hl, hlen, hf⟩ := DataW.trod_struct Tryd.underlying47 h
    rw [c47] at hl
    match xs, hlen with
    | [y0, y1, y2, y3, y4, y5], _ =>
      have h0 := fld hf 0 rfl (t := 3) (o := 0) rfl rfl c3
      have h1 := fld hf 1 rfl (t := 3) (o := 1) rfl rfl c3
      have h2 := fld hf 2 rfl (t := 3) (o := 2) rfl rfl c3
      have h3 := fld hf 3 rfl (t := 3) (o := 3) rfl rfl c3
      have h4 := fld hf 4 rfl (t := 3) (o := 4) rfl rfl c3
      have h5 := fld hf 5 rfl (t := 9) (o := 5) rfl rfl c9
      obtain ⟨a0, r0, w0, k0⟩ := rd_int Tryd.underlying3 _ _ h0
      have w0' : 1 ≤ bulk y0.1 := w0
      obtain ⟨a1, r1, w1, k1⟩ := rd_int Tryd.underlying3 _ _ h1
      have w1' : 1 ≤ bulk y1.1 := w1
      obtain ⟨a2, r2, w2, k2⟩ := rd_int Tryd.underlying3 _ _ h2
      have w2' : 1 ≤ bulk y2.1 := w2
      obtain ⟨a3, r3, w3, k3⟩ := rd_int Tryd.underlying3 _ _ h3
      have w3' : 1 ≤ bulk y3.1 := w3
      obtain ⟨a4, r4, w4, k4⟩ := rd_int Tryd.underlying3 _ _ h4
      have w4' : 1 ≤ bulk y4.1 := w4
      obtain ⟨a5, r5, w5, k5⟩ := rd_string Tryd.underlying9 _ _ h5
      have w5' : a5.size + 1 ≤ bulk y5.1 := w5
      refine ⟨.mk a0 a1 a2 a3 a4 a5, ?_, ?_, (VInstr.ok_iff _).2 ⟨inR_of k0, inR_of k1, inR_of k2, inR_of k3, inR_of k4⟩⟩
      · have := RdC.part 0 1 r0 (RdC.part 1 1 r1 (RdC.part 2 1 r2 (RdC.part 3 1 r3 (RdC.part 4 1 r4 (RdC.part 5 1 r5 (bs := []) (by rw [List.drop_of_length_le (by omega)]; exact .nil w))))))
        show RdC w (VInstr.mk a0 a1 a2 a3 a4 a5).av.cells cs
        rw [VInstr.cells]
        simpa [VInstr.Op, VInstr.A, VInstr.B, VInstr.C, VInstr.N, VInstr.Text] using this
      · show 1 + (VInstr.mk a0 a1 a2 a3 a4 a5).wt ≤ _
        rw [VInstr.wt_eq]
        simp only [VInstr.Op, VInstr.A, VInstr.B, VInstr.C, VInstr.N, VInstr.Text, bulk, bulkAll, List.map_cons, List.map_nil]
        omega
theorem rd_Code {H : Type} {enc : TypeId × Value → H} (w : World) (f : Nat) : Rd enc Tryd.prog w f 25 (fun t : VCode => t.av.cells) (fun t => 1 + t.wt) (fun t => t.ok) := by
  induction f using Nat.strongRecOn with
  | _ f ih =>
    have c3 : Tryd.prog.cellsOf 3 = 1 := by kernel_rfl
    have c22 : Tryd.prog.cellsOf 22 = 1 := by kernel_rfl
    have c23 : Tryd.prog.cellsOf 23 = 1 := by kernel_rfl
    have c25 : Tryd.prog.cellsOf 25 = 2 := by kernel_rfl
    have c47 : Tryd.prog.cellsOf 47 = 6 := by kernel_rfl
    intro cs x h
    obtain ⟨xs, n, rfl, rfl, hl, hlen, hf⟩ := DataW.trod_struct Tryd.underlying25 h
    rw [c25] at hl
    match xs, hlen with
    | [y0, y1], _ =>
      have h0 := fld hf 0 rfl (t := 22) (o := 0) rfl rfl c22
      have h1 := fld hf 1 rfl (t := 23) (o := 1) rfl rfl c23
      obtain ⟨a0, r0, w0, k0⟩ := rd_slice (av := VInstr.av) Tryd.underlying22 (by rw [c47]; omega) (fun j _ => rd_Instr w j) _ _ h0
      have w0' : (a0.map fun t => 1 + VInstr.wt t).sum + 1 ≤ bulk y0.1 := w0
      rw [sum1] at w0'
      obtain ⟨a1, r1, w1, k1⟩ := rd_slice (av := fun y => .v (.int .i64 y)) Tryd.underlying23 (by rw [c3]; omega) (fun _ _ => rd_int Tryd.underlying3) _ _ h1
      have w1' : (a1.map fun _ : Int => 1).sum + 1 ≤ bulk y1.1 := w1
      rw [sum3] at w1'
      refine ⟨.mk a0 a1, ?_, ?_, (VCode.ok_iff _).2 ⟨k0, (fun y hy => inR_of (k1 y hy))⟩⟩
      · have := RdC.part 0 1 r0 (RdC.part 1 1 r1 (bs := []) (by rw [List.drop_of_length_le (by omega)]; exact .nil w))
        show RdC w (VCode.mk a0 a1).av.cells cs
        rw [VCode.cells]
        simpa [VCode.Instrs, VCode.Starts] using this
      · show 1 + (VCode.mk a0 a1).wt ≤ _
        rw [VCode.wt_eq]
        simp only [VCode.Instrs, VCode.Starts, bulk, bulkAll, List.map_cons, List.map_nil]
        omega
end Go.Proofs.YtkinchcjijhmgaaDoor
