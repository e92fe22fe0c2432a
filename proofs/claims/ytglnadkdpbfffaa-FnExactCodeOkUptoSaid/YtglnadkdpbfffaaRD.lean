/- Part of a proof: the functions that the law reaches, walked by the abstract logic of the texts Ab. -/
import Derived.Test.YtglnadkdpbfffaaLB
import Derived.Test.YtglnadkdpbfffaaGM

set_option linter.unusedVariables false
set_option linter.unusedSimpArgs false
set_option linter.defProp false
namespace Go.Proofs.Ytglnadkdpbfffaa
open Go.Ab Go.ChangeShapes Go.WideShapes Go.ChangeAt Go.RowKit
set_option maxRecDepth 100000

theorem sum1 {α : Type} (w : α → Nat) (l : List α) : (l.map fun t => 1 + w t).sum = l.length + (l.map w).sum := by
  induction l with
  | nil => rfl
  | cons t l ih => simp only [List.map_cons, List.sum_cons, ih, List.length_cons]; omega
theorem sum2 (l : List ByteArray) : (l.map fun t : ByteArray => t.size + 1).sum = l.length + (l.map fun t => t.size).sum := by
  induction l with
  | nil => rfl
  | cons t l ih => simp only [List.map_cons, List.sum_cons, ih, List.length_cons]; omega
theorem sum3 (l : List Int) : (l.map fun _ : Int => 1).sum = l.length := by
  induction l with
  | nil => rfl
  | cons t l ih => simp only [List.map_cons, List.sum_cons, ih, List.length_cons]; omega
theorem inR_of {n : Int} (h : IntKind.i64.min ≤ n ∧ n ≤ IntKind.i64.max) : inR n := by
  have h1 : IntKind.i64.min = -9223372036854775808 := by decide
  have h2 : IntKind.i64.max = 9223372036854775807 := by decide
  unfold inR; omega
theorem rd_Ty {H : Type} {enc : TypeId × Value → H} (w : World) (f : Nat) : Rd enc Try.prog w f 47 (fun t : VTy => t.av.cells) (fun t => 1 + t.wt) (fun t => t.ok) := by
  induction f using Nat.strongRecOn with
  | _ f ih =>
    have c3 : Try.prog.cellsOf 3 = 1 := by kernel_rfl
    have c9 : Try.prog.cellsOf 9 = 1 := by kernel_rfl
    have c45 : Try.prog.cellsOf 45 = 1 := by kernel_rfl
    have c47 : Try.prog.cellsOf 47 = 4 := by kernel_rfl
    intro cs x h
    obtain ⟨xs, n, rfl, rfl, hl, hlen, hf⟩ := DataW.trod_struct Try.underlying47 h
    rw [c47] at hl
    match xs, hlen with
    | [y0, y1, y2, y3], _ =>
      have h0 := fld hf 0 rfl (t := 3) (o := 0) rfl rfl c3
      have h1 := fld hf 1 rfl (t := 3) (o := 1) rfl rfl c3
      have h2 := fld hf 2 rfl (t := 9) (o := 2) rfl rfl c9
      have h3 := fld hf 3 rfl (t := 45) (o := 3) rfl rfl c45
      obtain ⟨a0, r0, w0, k0⟩ := rd_int Try.underlying3 _ _ h0
      have w0' : 1 ≤ bulk y0.1 := w0
      obtain ⟨a1, r1, w1, k1⟩ := rd_int Try.underlying3 _ _ h1
      have w1' : 1 ≤ bulk y1.1 := w1
      obtain ⟨a2, r2, w2, k2⟩ := rd_string Try.underlying9 _ _ h2
      have w2' : a2.size + 1 ≤ bulk y2.1 := w2
      obtain ⟨a3, r3, w3, k3⟩ := rd_slice (av := VTy.av) Try.underlying45 (by rw [c47]; omega) (fun j hj => (ih j (by omega))) _ _ h3
      have w3' : (a3.map fun t => 1 + VTy.wt t).sum + 1 ≤ bulk y3.1 := w3
      rw [sum1] at w3'
      refine ⟨.mk a0 a1 a2 a3, ?_, ?_, (VTy.ok_iff _).2 ⟨inR_of k0, inR_of k1, k3⟩⟩
      · have := RdC.part 0 1 r0 (RdC.part 1 1 r1 (RdC.part 2 1 r2 (RdC.part 3 1 r3 (bs := []) (by rw [List.drop_of_length_le (by omega)]; exact .nil w))))
        show RdC w (VTy.mk a0 a1 a2 a3).av.cells cs
        rw [VTy.cells]
        simpa [VTy.Kind, VTy.N, VTy.Name, VTy.Kids] using this
      · show 1 + (VTy.mk a0 a1 a2 a3).wt ≤ _
        rw [VTy.wt_eq]
        simp only [VTy.Kind, VTy.N, VTy.Name, VTy.Kids, bulk, bulkAll, List.map_cons, List.map_nil]
        omega
theorem rd_KVal {H : Type} {enc : TypeId × Value → H} (w : World) (f : Nat) : Rd enc Try.prog w f 163 (fun t : VKVal => t.av.cells) (fun t => 1 + t.wt) (fun t => t.ok) := by
  induction f using Nat.strongRecOn with
  | _ f ih =>
    have c3 : Try.prog.cellsOf 3 = 1 := by kernel_rfl
    have c9 : Try.prog.cellsOf 9 = 1 := by kernel_rfl
    have c163 : Try.prog.cellsOf 163 = 4 := by kernel_rfl
    intro cs x h
    obtain ⟨xs, n, rfl, rfl, hl, hlen, hf⟩ := DataW.trod_struct Try.underlying163 h
    rw [c163] at hl
    match xs, hlen with
    | [y0, y1, y2, y3], _ =>
      have h0 := fld hf 0 rfl (t := 3) (o := 0) rfl rfl c3
      have h1 := fld hf 1 rfl (t := 3) (o := 1) rfl rfl c3
      have h2 := fld hf 2 rfl (t := 3) (o := 2) rfl rfl c3
      have h3 := fld hf 3 rfl (t := 9) (o := 3) rfl rfl c9
      obtain ⟨a0, r0, w0, k0⟩ := rd_int Try.underlying3 _ _ h0
      have w0' : 1 ≤ bulk y0.1 := w0
      obtain ⟨a1, r1, w1, k1⟩ := rd_int Try.underlying3 _ _ h1
      have w1' : 1 ≤ bulk y1.1 := w1
      obtain ⟨a2, r2, w2, k2⟩ := rd_int Try.underlying3 _ _ h2
      have w2' : 1 ≤ bulk y2.1 := w2
      obtain ⟨a3, r3, w3, k3⟩ := rd_string Try.underlying9 _ _ h3
      have w3' : a3.size + 1 ≤ bulk y3.1 := w3
      refine ⟨.mk a0 a1 a2 a3, ?_, ?_, (VKVal.ok_iff _).2 ⟨inR_of k0, inR_of k1, inR_of k2⟩⟩
      · have := RdC.part 0 1 r0 (RdC.part 1 1 r1 (RdC.part 2 1 r2 (RdC.part 3 1 r3 (bs := []) (by rw [List.drop_of_length_le (by omega)]; exact .nil w))))
        show RdC w (VKVal.mk a0 a1 a2 a3).av.cells cs
        rw [VKVal.cells]
        simpa [VKVal.Kind, VKVal.N, VKVal.Num, VKVal.Text] using this
      · show 1 + (VKVal.mk a0 a1 a2 a3).wt ≤ _
        rw [VKVal.wt_eq]
        simp only [VKVal.Kind, VKVal.N, VKVal.Num, VKVal.Text, bulk, bulkAll, List.map_cons, List.map_nil]
        omega
theorem rd_KTerm {H : Type} {enc : TypeId × Value → H} (w : World) (f : Nat) : Rd enc Try.prog w f 70 (fun t : VKTerm => t.av.cells) (fun t => 1 + t.wt) (fun t => t.ok) := by
  induction f using Nat.strongRecOn with
  | _ f ih =>
    have c3 : Try.prog.cellsOf 3 = 1 := by kernel_rfl
    have c9 : Try.prog.cellsOf 9 = 1 := by kernel_rfl
    have c45 : Try.prog.cellsOf 45 = 1 := by kernel_rfl
    have c47 : Try.prog.cellsOf 47 = 4 := by kernel_rfl
    have c67 : Try.prog.cellsOf 67 = 1 := by kernel_rfl
    have c68 : Try.prog.cellsOf 68 = 1 := by kernel_rfl
    have c70 : Try.prog.cellsOf 70 = 11 := by kernel_rfl
    have c163 : Try.prog.cellsOf 163 = 4 := by kernel_rfl
    intro cs x h
    obtain ⟨xs, n, rfl, rfl, hl, hlen, hf⟩ := DataW.trod_struct Try.underlying70 h
    rw [c70] at hl
    match xs, hlen with
    | [y0, y1, y2, y3, y4, y5, y6, y7], _ =>
      have h0 := fld hf 0 rfl (t := 3) (o := 0) rfl rfl c3
      have h1 := fld hf 1 rfl (t := 9) (o := 1) rfl rfl c9
      have h2 := fld hf 2 rfl (t := 3) (o := 2) rfl rfl c3
      have h3 := fld hf 3 rfl (t := 3) (o := 3) rfl rfl c3
      have h4 := fld hf 4 rfl (t := 47) (o := 4) rfl rfl c47
      have h5 := fld hf 5 rfl (t := 45) (o := 8) rfl rfl c45
      have h6 := fld hf 6 rfl (t := 67) (o := 9) rfl rfl c67
      have h7 := fld hf 7 rfl (t := 68) (o := 10) rfl rfl c68
      obtain ⟨a0, r0, w0, k0⟩ := rd_int Try.underlying3 _ _ h0
      have w0' : 1 ≤ bulk y0.1 := w0
      obtain ⟨a1, r1, w1, k1⟩ := rd_string Try.underlying9 _ _ h1
      have w1' : a1.size + 1 ≤ bulk y1.1 := w1
      obtain ⟨a2, r2, w2, k2⟩ := rd_int Try.underlying3 _ _ h2
      have w2' : 1 ≤ bulk y2.1 := w2
      obtain ⟨a3, r3, w3, k3⟩ := rd_int Try.underlying3 _ _ h3
      have w3' : 1 ≤ bulk y3.1 := w3
      obtain ⟨a4, r4, w4, k4⟩ := rd_Ty w n _ _ h4
      have w4' : 1 + a4.wt ≤ bulk y4.1 := w4
      obtain ⟨a5, r5, w5, k5⟩ := rd_slice (av := VTy.av) Try.underlying45 (by rw [c47]; omega) (fun j _ => rd_Ty w j) _ _ h5
      have w5' : (a5.map fun t => 1 + VTy.wt t).sum + 1 ≤ bulk y5.1 := w5
      rw [sum1] at w5'
      obtain ⟨a6, r6, w6, k6⟩ := rd_slice (av := VKVal.av) Try.underlying67 (by rw [c163]; omega) (fun j _ => rd_KVal w j) _ _ h6
      have w6' : (a6.map fun t => 1 + VKVal.wt t).sum + 1 ≤ bulk y6.1 := w6
      rw [sum1] at w6'
      obtain ⟨a7, r7, w7, k7⟩ := rd_slice (av := VKTerm.av) Try.underlying68 (by rw [c70]; omega) (fun j hj => (ih j (by omega))) _ _ h7
      have w7' : (a7.map fun t => 1 + VKTerm.wt t).sum + 1 ≤ bulk y7.1 := w7
      rw [sum1] at w7'
      refine ⟨.mk a0 a1 a2 a3 a4 a5 a6 a7, ?_, ?_, (VKTerm.ok_iff _).2 ⟨inR_of k0, inR_of k2, inR_of k3, k4, k5, k6, k7⟩⟩
      · have := RdC.part 0 1 r0 (RdC.part 1 1 r1 (RdC.part 2 1 r2 (RdC.part 3 1 r3 (RdC.part 4 4 r4 (RdC.part 8 1 r5 (RdC.part 9 1 r6 (RdC.part 10 1 r7 (bs := []) (by rw [List.drop_of_length_le (by omega)]; exact .nil w))))))))
        show RdC w (VKTerm.mk a0 a1 a2 a3 a4 a5 a6 a7).av.cells cs
        rw [VKTerm.cells]
        simpa [VKTerm.Kind, VKTerm.Name, VKTerm.N, VKTerm.Num, VKTerm.T, VKTerm.Ts, VKTerm.Vs, VKTerm.Kids, VTy.cells] using this
      · show 1 + (VKTerm.mk a0 a1 a2 a3 a4 a5 a6 a7).wt ≤ _
        rw [VKTerm.wt_eq]
        simp only [VKTerm.Kind, VKTerm.Name, VKTerm.N, VKTerm.Num, VKTerm.T, VKTerm.Ts, VKTerm.Vs, VKTerm.Kids, bulk, bulkAll, List.map_cons, List.map_nil]
        omega
theorem rd_Instr {H : Type} {enc : TypeId × Value → H} (w : World) (f : Nat) : Rd enc Try.prog w f 147 (fun t : VInstr => t.av.cells) (fun t => 1 + t.wt) (fun t => t.ok) := by
  induction f using Nat.strongRecOn with
  | _ f ih =>
    have c3 : Try.prog.cellsOf 3 = 1 := by kernel_rfl
    have c9 : Try.prog.cellsOf 9 = 1 := by kernel_rfl
    have c147 : Try.prog.cellsOf 147 = 6 := by kernel_rfl
    intro cs x h
    obtain ⟨xs, n, rfl, rfl, hl, hlen, hf⟩ := DataW.trod_struct Try.underlying147 h
    rw [c147] at hl
    match xs, hlen with
    | [y0, y1, y2, y3, y4, y5], _ =>
      have h0 := fld hf 0 rfl (t := 3) (o := 0) rfl rfl c3
      have h1 := fld hf 1 rfl (t := 3) (o := 1) rfl rfl c3
      have h2 := fld hf 2 rfl (t := 3) (o := 2) rfl rfl c3
      have h3 := fld hf 3 rfl (t := 3) (o := 3) rfl rfl c3
      have h4 := fld hf 4 rfl (t := 3) (o := 4) rfl rfl c3
      have h5 := fld hf 5 rfl (t := 9) (o := 5) rfl rfl c9
      obtain ⟨a0, r0, w0, k0⟩ := rd_int Try.underlying3 _ _ h0
      have w0' : 1 ≤ bulk y0.1 := w0
      obtain ⟨a1, r1, w1, k1⟩ := rd_int Try.underlying3 _ _ h1
      have w1' : 1 ≤ bulk y1.1 := w1
      obtain ⟨a2, r2, w2, k2⟩ := rd_int Try.underlying3 _ _ h2
      have w2' : 1 ≤ bulk y2.1 := w2
      obtain ⟨a3, r3, w3, k3⟩ := rd_int Try.underlying3 _ _ h3
      have w3' : 1 ≤ bulk y3.1 := w3
      obtain ⟨a4, r4, w4, k4⟩ := rd_int Try.underlying3 _ _ h4
      have w4' : 1 ≤ bulk y4.1 := w4
      obtain ⟨a5, r5, w5, k5⟩ := rd_string Try.underlying9 _ _ h5
      have w5' : a5.size + 1 ≤ bulk y5.1 := w5
      refine ⟨.mk a0 a1 a2 a3 a4 a5, ?_, ?_, (VInstr.ok_iff _).2 ⟨inR_of k0, inR_of k1, inR_of k2, inR_of k3, inR_of k4⟩⟩
      · have := RdC.part 0 1 r0 (RdC.part 1 1 r1 (RdC.part 2 1 r2 (RdC.part 3 1 r3 (RdC.part 4 1 r4 (RdC.part 5 1 r5 (bs := []) (by rw [List.drop_of_length_le (by omega)]; exact .nil w))))))
        show RdC w (VInstr.mk a0 a1 a2 a3 a4 a5).av.cells cs
        rw [VInstr.cells]
        simpa [VInstr.Op, VInstr.A, VInstr.B, VInstr.C, VInstr.N, VInstr.Text] using this
      · show 1 + (VInstr.mk a0 a1 a2 a3 a4 a5).wt ≤ _
        rw [VInstr.wt_eq]
        simp only [VInstr.Op, VInstr.A, VInstr.B, VInstr.C, VInstr.N, VInstr.Text, bulk, bulkAll, List.map_cons, List.map_nil]
        omega
theorem rd_Code {H : Type} {enc : TypeId × Value → H} (w : World) (f : Nat) : Rd enc Try.prog w f 34 (fun t : VCode => t.av.cells) (fun t => 1 + t.wt) (fun t => t.ok) := by
  induction f using Nat.strongRecOn with
  | _ f ih =>
    have c3 : Try.prog.cellsOf 3 = 1 := by kernel_rfl
    have c31 : Try.prog.cellsOf 31 = 1 := by kernel_rfl
    have c32 : Try.prog.cellsOf 32 = 1 := by kernel_rfl
    have c34 : Try.prog.cellsOf 34 = 2 := by kernel_rfl
    have c147 : Try.prog.cellsOf 147 = 6 := by kernel_rfl
    intro cs x h
    obtain ⟨xs, n, rfl, rfl, hl, hlen, hf⟩ := DataW.trod_struct Try.underlying34 h
    rw [c34] at hl
    match xs, hlen with
    | [y0, y1], _ =>
      have h0 := fld hf 0 rfl (t := 31) (o := 0) rfl rfl c31
      have h1 := fld hf 1 rfl (t := 32) (o := 1) rfl rfl c32
      obtain ⟨a0, r0, w0, k0⟩ := rd_slice (av := VInstr.av) Try.underlying31 (by rw [c147]; omega) (fun j _ => rd_Instr w j) _ _ h0
      have w0' : (a0.map fun t => 1 + VInstr.wt t).sum + 1 ≤ bulk y0.1 := w0
      rw [sum1] at w0'
      obtain ⟨a1, r1, w1, k1⟩ := rd_slice (av := fun y => .v (.int .i64 y)) Try.underlying32 (by rw [c3]; omega) (fun _ _ => rd_int Try.underlying3) _ _ h1
      have w1' : (a1.map fun _ : Int => 1).sum + 1 ≤ bulk y1.1 := w1
      rw [sum3] at w1'
      refine ⟨.mk a0 a1, ?_, ?_, (VCode.ok_iff _).2 ⟨k0, (fun y hy => inR_of (k1 y hy))⟩⟩
      · have := RdC.part 0 1 r0 (RdC.part 1 1 r1 (bs := []) (by rw [List.drop_of_length_le (by omega)]; exact .nil w))
        show RdC w (VCode.mk a0 a1).av.cells cs
        rw [VCode.cells]
        simpa [VCode.Instrs, VCode.Starts] using this
      · show 1 + (VCode.mk a0 a1).wt ≤ _
        rw [VCode.wt_eq]
        simp only [VCode.Instrs, VCode.Starts, bulk, bulkAll, List.map_cons, List.map_nil]
        omega
end Go.Proofs.Ytglnadkdpbfffaa
