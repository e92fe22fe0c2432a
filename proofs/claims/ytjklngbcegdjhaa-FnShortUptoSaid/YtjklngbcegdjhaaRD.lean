/- Part of a proof: the functions that the law reaches, walked by the abstract logic of the texts Ab. -/
import Derived.Test.YtjklngbcegdjhaaLB
import Derived.Test.YtjklngbcegdjhaaGM

set_option linter.unusedVariables false
set_option linter.unusedSimpArgs false
set_option linter.defProp false
namespace Go.Proofs.Ytjklngbcegdjhaa
open Go.Ab Go.ChangeShapes Go.WideShapes Go.ChangeAt Go.RowKit
set_option maxRecDepth 100000

theorem sum1 {α : Type} (w : α → Nat) (l : List α) : (l.map fun t => 1 + w t).sum = l.length + (l.map w).sum := by
  induction l with
  | nil => rfl
  | cons t l ih => simp only [List.map_cons, List.sum_cons, ih, List.length_cons]; omega
theorem sum2 (l : List ByteArray) : (l.map fun t : ByteArray => t.size + 1).sum = l.length + (l.map fun t => t.size).sum := by
  induction l with
  | nil => rfl
  | cons t l ih => simp only [List.map_cons, List.sum_cons, ih, List.length_cons]; omega
theorem sum3 (l : List Int) : (l.map fun _ : Int => 1).sum = l.length := by
  induction l with
  | nil => rfl
  | cons t l ih => simp only [List.map_cons, List.sum_cons, ih, List.length_cons]; omega
theorem inR_of {n : Int} (h : IntKind.i64.min ≤ n ∧ n ≤ IntKind.i64.max) : inR n := by
  have h1 : IntKind.i64.min = -9223372036854775808 := by decide
  have h2 : IntKind.i64.max = 9223372036854775807 := by decide
  unfold inR; omega
theorem inY_of {n : Int} (h : IntKind.u8.min ≤ n ∧ n ≤ IntKind.u8.max) : 0 ≤ n ∧ n < 256 := by
  have h1 : IntKind.u8.min = 0 := by decide
  have h2 : IntKind.u8.max = 255 := by decide
  omega
theorem rd_Pat {H : Type} {enc : TypeId × Value → H} (w : World) (f : Nat) : Rd enc Try.prog w f 190 (fun t : VPat => t.av.cells) (fun t => 1 + t.wt) (fun t => t.ok) := by
  induction f using Nat.strongRecOn with
  | _ f ih =>
    have c3 : Try.prog.cellsOf 3 = 1 := by kernel_rfl
    have c9 : Try.prog.cellsOf 9 = 1 := by kernel_rfl
    have c188 : Try.prog.cellsOf 188 = 1 := by kernel_rfl
    have c190 : Try.prog.cellsOf 190 = 5 := by kernel_rfl
    intro cs x h
    obtain ⟨xs, n, rfl, rfl, hl, hlen, hf⟩ := DataW.trod_struct Try.underlying190 h
    rw [c190] at hl
    match xs, hlen with
    | [y0, y1, y2, y3, y4], _ =>
      have h0 := fld hf 0 rfl (t := 3) (o := 0) rfl rfl c3
      have h1 := fld hf 1 rfl (t := 9) (o := 1) rfl rfl c9
      have h2 := fld hf 2 rfl (t := 3) (o := 2) rfl rfl c3
      have h3 := fld hf 3 rfl (t := 3) (o := 3) rfl rfl c3
      have h4 := fld hf 4 rfl (t := 188) (o := 4) rfl rfl c188
      obtain ⟨a0, r0, w0, k0⟩ := rd_int Try.underlying3 _ _ h0
      have w0' : 1 ≤ bulk y0.1 := w0
      obtain ⟨a1, r1, w1, k1⟩ := rd_string Try.underlying9 _ _ h1
      have w1' : a1.size + 1 ≤ bulk y1.1 := w1
      obtain ⟨a2, r2, w2, k2⟩ := rd_int Try.underlying3 _ _ h2
      have w2' : 1 ≤ bulk y2.1 := w2
      obtain ⟨a3, r3, w3, k3⟩ := rd_int Try.underlying3 _ _ h3
      have w3' : 1 ≤ bulk y3.1 := w3
      obtain ⟨a4, r4, w4, k4⟩ := rd_slice (av := VPat.av) Try.underlying188 (by rw [c190]; omega) (fun j hj => (ih j (by omega))) _ _ h4
      have w4' : (a4.map fun t => 1 + VPat.wt t).sum + 1 ≤ bulk y4.1 := w4
      rw [sum1] at w4'
      refine ⟨.mk a0 a1 a2 a3 a4, ?_, ?_, (VPat.ok_iff _).2 ⟨inR_of k0, inR_of k2, inR_of k3, k4⟩⟩
      · have := RdC.part 0 1 r0 (RdC.part 1 1 r1 (RdC.part 2 1 r2 (RdC.part 3 1 r3 (RdC.part 4 1 r4 (bs := []) (by rw [List.drop_of_length_le (by omega)]; exact .nil w)))))
        show RdC w (VPat.mk a0 a1 a2 a3 a4).av.cells cs
        rw [VPat.cells]
        simpa [VPat.Kind, VPat.Name, VPat.Num, VPat.Pos, VPat.Kids] using this
      · show 1 + (VPat.mk a0 a1 a2 a3 a4).wt ≤ _
        rw [VPat.wt_eq]
        simp only [VPat.Kind, VPat.Name, VPat.Num, VPat.Pos, VPat.Kids, bulk, bulkAll, List.map_cons, List.map_nil]
        omega
theorem rd_ExpArm {H : Type} {enc : TypeId × Value → H} (w : World) (f : Nat) : (Rd enc Try.prog w f 76 (fun t : VExp => t.av.cells) (fun t => 1 + t.wt) (fun t => t.ok)) ∧ (Rd enc Try.prog w f 192 (fun t : VArm => t.av.cells) (fun t => 1 + t.wt) (fun t => t.ok)) := by
  induction f using Nat.strongRecOn with
  | _ f ih =>
    have c3 : Try.prog.cellsOf 3 = 1 := by kernel_rfl
    have c9 : Try.prog.cellsOf 9 = 1 := by kernel_rfl
    have c73 : Try.prog.cellsOf 73 = 1 := by kernel_rfl
    have c74 : Try.prog.cellsOf 74 = 1 := by kernel_rfl
    have c76 : Try.prog.cellsOf 76 = 7 := by kernel_rfl
    have c190 : Try.prog.cellsOf 190 = 5 := by kernel_rfl
    have c192 : Try.prog.cellsOf 192 = 12 := by kernel_rfl
    refine ⟨?_, ?_⟩
    · intro cs x h
      obtain ⟨xs, n, rfl, rfl, hl, hlen, hf⟩ := DataW.trod_struct Try.underlying76 h
      rw [c76] at hl
      match xs, hlen with
      | [y0, y1, y2, y3, y4, y5, y6], _ =>
        have h0 := fld hf 0 rfl (t := 3) (o := 0) rfl rfl c3
        have h1 := fld hf 1 rfl (t := 9) (o := 1) rfl rfl c9
        have h2 := fld hf 2 rfl (t := 3) (o := 2) rfl rfl c3
        have h3 := fld hf 3 rfl (t := 9) (o := 3) rfl rfl c9
        have h4 := fld hf 4 rfl (t := 3) (o := 4) rfl rfl c3
        have h5 := fld hf 5 rfl (t := 73) (o := 5) rfl rfl c73
        have h6 := fld hf 6 rfl (t := 74) (o := 6) rfl rfl c74
        obtain ⟨a0, r0, w0, k0⟩ := rd_int Try.underlying3 _ _ h0
        have w0' : 1 ≤ bulk y0.1 := w0
        obtain ⟨a1, r1, w1, k1⟩ := rd_string Try.underlying9 _ _ h1
        have w1' : a1.size + 1 ≤ bulk y1.1 := w1
        obtain ⟨a2, r2, w2, k2⟩ := rd_int Try.underlying3 _ _ h2
        have w2' : 1 ≤ bulk y2.1 := w2
        obtain ⟨a3, r3, w3, k3⟩ := rd_string Try.underlying9 _ _ h3
        have w3' : a3.size + 1 ≤ bulk y3.1 := w3
        obtain ⟨a4, r4, w4, k4⟩ := rd_int Try.underlying3 _ _ h4
        have w4' : 1 ≤ bulk y4.1 := w4
        obtain ⟨a5, r5, w5, k5⟩ := rd_slice (av := VExp.av) Try.underlying73 (by rw [c76]; omega) (fun j hj => (ih j (by omega)).1) _ _ h5
        have w5' : (a5.map fun t => 1 + VExp.wt t).sum + 1 ≤ bulk y5.1 := w5
        rw [sum1] at w5'
        obtain ⟨a6, r6, w6, k6⟩ := rd_slice (av := VArm.av) Try.underlying74 (by rw [c192]; omega) (fun j hj => (ih j (by omega)).2) _ _ h6
        have w6' : (a6.map fun t => 1 + VArm.wt t).sum + 1 ≤ bulk y6.1 := w6
        rw [sum1] at w6'
        refine ⟨.mk a0 a1 a2 a3 a4 a5 a6, ?_, ?_, (VExp.ok_iff _).2 ⟨inR_of k0, inR_of k2, inR_of k4, k5, k6⟩⟩
        · have := RdC.part 0 1 r0 (RdC.part 1 1 r1 (RdC.part 2 1 r2 (RdC.part 3 1 r3 (RdC.part 4 1 r4 (RdC.part 5 1 r5 (RdC.part 6 1 r6 (bs := []) (by rw [List.drop_of_length_le (by omega)]; exact .nil w)))))))
          show RdC w (VExp.mk a0 a1 a2 a3 a4 a5 a6).av.cells cs
          rw [VExp.cells]
          simpa [VExp.Kind, VExp.Name, VExp.Num, VExp.Text, VExp.Pos, VExp.Kids, VExp.Arms] using this
        · show 1 + (VExp.mk a0 a1 a2 a3 a4 a5 a6).wt ≤ _
          rw [VExp.wt_eq]
          simp only [VExp.Kind, VExp.Name, VExp.Num, VExp.Text, VExp.Pos, VExp.Kids, VExp.Arms, bulk, bulkAll, List.map_cons, List.map_nil]
          omega
    · intro cs x h
      obtain ⟨xs, n, rfl, rfl, hl, hlen, hf⟩ := DataW.trod_struct Try.underlying192 h
      rw [c192] at hl
      match xs, hlen with
      | [y0, y1], _ =>
        have h0 := fld hf 0 rfl (t := 190) (o := 0) rfl rfl c190
        have h1 := fld hf 1 rfl (t := 76) (o := 5) rfl rfl c76
        obtain ⟨a0, r0, w0, k0⟩ := rd_Pat w n _ _ h0
        have w0' : 1 + a0.wt ≤ bulk y0.1 := w0
        obtain ⟨a1, r1, w1, k1⟩ := (ih n (by omega)).1 _ _ h1
        have w1' : 1 + a1.wt ≤ bulk y1.1 := w1
        refine ⟨.mk a0 a1, ?_, ?_, (VArm.ok_iff _).2 ⟨k0, k1⟩⟩
        · have := RdC.part 0 5 r0 (RdC.part 5 7 r1 (bs := []) (by rw [List.drop_of_length_le (by omega)]; exact .nil w))
          show RdC w (VArm.mk a0 a1).av.cells cs
          rw [VArm.cells]
          simpa [VArm.P, VArm.E, VPat.cells, VExp.cells] using this
        · show 1 + (VArm.mk a0 a1).wt ≤ _
          rw [VArm.wt_eq]
          simp only [VArm.P, VArm.E, bulk, bulkAll, List.map_cons, List.map_nil]
          omega
theorem rd_Exp {H : Type} {enc : TypeId × Value → H} (w : World) (f : Nat) : Rd enc Try.prog w f 76 (fun t : VExp => t.av.cells) (fun t => 1 + t.wt) (fun t => t.ok) := (rd_ExpArm w f).1
theorem rd_Arm {H : Type} {enc : TypeId × Value → H} (w : World) (f : Nat) : Rd enc Try.prog w f 192 (fun t : VArm => t.av.cells) (fun t => 1 + t.wt) (fun t => t.ok) := (rd_ExpArm w f).2
theorem rd_Ty {H : Type} {enc : TypeId × Value → H} (w : World) (f : Nat) : Rd enc Try.prog w f 55 (fun t : VTy => t.av.cells) (fun t => 1 + t.wt) (fun t => t.ok) := by
  induction f using Nat.strongRecOn with
  | _ f ih =>
    have c3 : Try.prog.cellsOf 3 = 1 := by kernel_rfl
    have c9 : Try.prog.cellsOf 9 = 1 := by kernel_rfl
    have c53 : Try.prog.cellsOf 53 = 1 := by kernel_rfl
    have c55 : Try.prog.cellsOf 55 = 4 := by kernel_rfl
    intro cs x h
    obtain ⟨xs, n, rfl, rfl, hl, hlen, hf⟩ := DataW.trod_struct Try.underlying55 h
    rw [c55] at hl
    match xs, hlen with
    | [y0, y1, y2, y3], _ =>
      have h0 := fld hf 0 rfl (t := 3) (o := 0) rfl rfl c3
      have h1 := fld hf 1 rfl (t := 3) (o := 1) rfl rfl c3
      have h2 := fld hf 2 rfl (t := 9) (o := 2) rfl rfl c9
      have h3 := fld hf 3 rfl (t := 53) (o := 3) rfl rfl c53
      obtain ⟨a0, r0, w0, k0⟩ := rd_int Try.underlying3 _ _ h0
      have w0' : 1 ≤ bulk y0.1 := w0
      obtain ⟨a1, r1, w1, k1⟩ := rd_int Try.underlying3 _ _ h1
      have w1' : 1 ≤ bulk y1.1 := w1
      obtain ⟨a2, r2, w2, k2⟩ := rd_string Try.underlying9 _ _ h2
      have w2' : a2.size + 1 ≤ bulk y2.1 := w2
      obtain ⟨a3, r3, w3, k3⟩ := rd_slice (av := VTy.av) Try.underlying53 (by rw [c55]; omega) (fun j hj => (ih j (by omega))) _ _ h3
      have w3' : (a3.map fun t => 1 + VTy.wt t).sum + 1 ≤ bulk y3.1 := w3
      rw [sum1] at w3'
      refine ⟨.mk a0 a1 a2 a3, ?_, ?_, (VTy.ok_iff _).2 ⟨inR_of k0, inR_of k1, k3⟩⟩
      · have := RdC.part 0 1 r0 (RdC.part 1 1 r1 (RdC.part 2 1 r2 (RdC.part 3 1 r3 (bs := []) (by rw [List.drop_of_length_le (by omega)]; exact .nil w))))
        show RdC w (VTy.mk a0 a1 a2 a3).av.cells cs
        rw [VTy.cells]
        simpa [VTy.Kind, VTy.N, VTy.Name, VTy.Kids] using this
      · show 1 + (VTy.mk a0 a1 a2 a3).wt ≤ _
        rw [VTy.wt_eq]
        simp only [VTy.Kind, VTy.N, VTy.Name, VTy.Kids, bulk, bulkAll, List.map_cons, List.map_nil]
        omega
theorem rd_KVal {H : Type} {enc : TypeId × Value → H} (w : World) (f : Nat) : Rd enc Try.prog w f 201 (fun t : VKVal => t.av.cells) (fun t => 1 + t.wt) (fun t => t.ok) := by
  induction f using Nat.strongRecOn with
  | _ f ih =>
    have c3 : Try.prog.cellsOf 3 = 1 := by kernel_rfl
    have c9 : Try.prog.cellsOf 9 = 1 := by kernel_rfl
    have c201 : Try.prog.cellsOf 201 = 4 := by kernel_rfl
    intro cs x h
    obtain ⟨xs, n, rfl, rfl, hl, hlen, hf⟩ := DataW.trod_struct Try.underlying201 h
    rw [c201] at hl
    match xs, hlen with
    | [y0, y1, y2, y3], _ =>
      have h0 := fld hf 0 rfl (t := 3) (o := 0) rfl rfl c3
      have h1 := fld hf 1 rfl (t := 3) (o := 1) rfl rfl c3
      have h2 := fld hf 2 rfl (t := 3) (o := 2) rfl rfl c3
      have h3 := fld hf 3 rfl (t := 9) (o := 3) rfl rfl c9
      obtain ⟨a0, r0, w0, k0⟩ := rd_int Try.underlying3 _ _ h0
      have w0' : 1 ≤ bulk y0.1 := w0
      obtain ⟨a1, r1, w1, k1⟩ := rd_int Try.underlying3 _ _ h1
      have w1' : 1 ≤ bulk y1.1 := w1
      obtain ⟨a2, r2, w2, k2⟩ := rd_int Try.underlying3 _ _ h2
      have w2' : 1 ≤ bulk y2.1 := w2
      obtain ⟨a3, r3, w3, k3⟩ := rd_string Try.underlying9 _ _ h3
      have w3' : a3.size + 1 ≤ bulk y3.1 := w3
      refine ⟨.mk a0 a1 a2 a3, ?_, ?_, (VKVal.ok_iff _).2 ⟨inR_of k0, inR_of k1, inR_of k2⟩⟩
      · have := RdC.part 0 1 r0 (RdC.part 1 1 r1 (RdC.part 2 1 r2 (RdC.part 3 1 r3 (bs := []) (by rw [List.drop_of_length_le (by omega)]; exact .nil w))))
        show RdC w (VKVal.mk a0 a1 a2 a3).av.cells cs
        rw [VKVal.cells]
        simpa [VKVal.Kind, VKVal.N, VKVal.Num, VKVal.Text] using this
      · show 1 + (VKVal.mk a0 a1 a2 a3).wt ≤ _
        rw [VKVal.wt_eq]
        simp only [VKVal.Kind, VKVal.N, VKVal.Num, VKVal.Text, bulk, bulkAll, List.map_cons, List.map_nil]
        omega
theorem rd_KTerm {H : Type} {enc : TypeId × Value → H} (w : World) (f : Nat) : Rd enc Try.prog w f 83 (fun t : VKTerm => t.av.cells) (fun t => 1 + t.wt) (fun t => t.ok) := by
  induction f using Nat.strongRecOn with
  | _ f ih =>
    have c3 : Try.prog.cellsOf 3 = 1 := by kernel_rfl
    have c9 : Try.prog.cellsOf 9 = 1 := by kernel_rfl
    have c53 : Try.prog.cellsOf 53 = 1 := by kernel_rfl
    have c55 : Try.prog.cellsOf 55 = 4 := by kernel_rfl
    have c80 : Try.prog.cellsOf 80 = 1 := by kernel_rfl
    have c81 : Try.prog.cellsOf 81 = 1 := by kernel_rfl
    have c83 : Try.prog.cellsOf 83 = 11 := by kernel_rfl
    have c201 : Try.prog.cellsOf 201 = 4 := by kernel_rfl
    intro cs x h
    obtain ⟨xs, n, rfl, rfl, hl, hlen, hf⟩ := DataW.trod_struct Try.underlying83 h
    rw [c83] at hl
    match xs, hlen with
    | [y0, y1, y2, y3, y4, y5, y6, y7], _ =>
      have h0 := fld hf 0 rfl (t := 3) (o := 0) rfl rfl c3
      have h1 := fld hf 1 rfl (t := 9) (o := 1) rfl rfl c9
      have h2 := fld hf 2 rfl (t := 3) (o := 2) rfl rfl c3
      have h3 := fld hf 3 rfl (t := 3) (o := 3) rfl rfl c3
      have h4 := fld hf 4 rfl (t := 55) (o := 4) rfl rfl c55
      have h5 := fld hf 5 rfl (t := 53) (o := 8) rfl rfl c53
      have h6 := fld hf 6 rfl (t := 80) (o := 9) rfl rfl c80
      have h7 := fld hf 7 rfl (t := 81) (o := 10) rfl rfl c81
      obtain ⟨a0, r0, w0, k0⟩ := rd_int Try.underlying3 _ _ h0
      have w0' : 1 ≤ bulk y0.1 := w0
      obtain ⟨a1, r1, w1, k1⟩ := rd_string Try.underlying9 _ _ h1
      have w1' : a1.size + 1 ≤ bulk y1.1 := w1
      obtain ⟨a2, r2, w2, k2⟩ := rd_int Try.underlying3 _ _ h2
      have w2' : 1 ≤ bulk y2.1 := w2
      obtain ⟨a3, r3, w3, k3⟩ := rd_int Try.underlying3 _ _ h3
      have w3' : 1 ≤ bulk y3.1 := w3
      obtain ⟨a4, r4, w4, k4⟩ := rd_Ty w n _ _ h4
      have w4' : 1 + a4.wt ≤ bulk y4.1 := w4
      obtain ⟨a5, r5, w5, k5⟩ := rd_slice (av := VTy.av) Try.underlying53 (by rw [c55]; omega) (fun j _ => rd_Ty w j) _ _ h5
      have w5' : (a5.map fun t => 1 + VTy.wt t).sum + 1 ≤ bulk y5.1 := w5
      rw [sum1] at w5'
      obtain ⟨a6, r6, w6, k6⟩ := rd_slice (av := VKVal.av) Try.underlying80 (by rw [c201]; omega) (fun j _ => rd_KVal w j) _ _ h6
      have w6' : (a6.map fun t => 1 + VKVal.wt t).sum + 1 ≤ bulk y6.1 := w6
      rw [sum1] at w6'
      obtain ⟨a7, r7, w7, k7⟩ := rd_slice (av := VKTerm.av) Try.underlying81 (by rw [c83]; omega) (fun j hj => (ih j (by omega))) _ _ h7
      have w7' : (a7.map fun t => 1 + VKTerm.wt t).sum + 1 ≤ bulk y7.1 := w7
      rw [sum1] at w7'
      refine ⟨.mk a0 a1 a2 a3 a4 a5 a6 a7, ?_, ?_, (VKTerm.ok_iff _).2 ⟨inR_of k0, inR_of k2, inR_of k3, k4, k5, k6, k7⟩⟩
      · have := RdC.part 0 1 r0 (RdC.part 1 1 r1 (RdC.part 2 1 r2 (RdC.part 3 1 r3 (RdC.part 4 4 r4 (RdC.part 8 1 r5 (RdC.part 9 1 r6 (RdC.part 10 1 r7 (bs := []) (by rw [List.drop_of_length_le (by omega)]; exact .nil w))))))))
        show RdC w (VKTerm.mk a0 a1 a2 a3 a4 a5 a6 a7).av.cells cs
        rw [VKTerm.cells]
        simpa [VKTerm.Kind, VKTerm.Name, VKTerm.N, VKTerm.Num, VKTerm.T, VKTerm.Ts, VKTerm.Vs, VKTerm.Kids, VTy.cells] using this
      · show 1 + (VKTerm.mk a0 a1 a2 a3 a4 a5 a6 a7).wt ≤ _
        rw [VKTerm.wt_eq]
        simp only [VKTerm.Kind, VKTerm.Name, VKTerm.N, VKTerm.Num, VKTerm.T, VKTerm.Ts, VKTerm.Vs, VKTerm.Kids, bulk, bulkAll, List.map_cons, List.map_nil]
        omega
theorem rd_Instr {H : Type} {enc : TypeId × Value → H} (w : World) (f : Nat) : Rd enc Try.prog w f 170 (fun t : VInstr => t.av.cells) (fun t => 1 + t.wt) (fun t => t.ok) := by
  induction f using Nat.strongRecOn with
  | _ f ih =>
    have c3 : Try.prog.cellsOf 3 = 1 := by kernel_rfl
    have c9 : Try.prog.cellsOf 9 = 1 := by kernel_rfl
    have c170 : Try.prog.cellsOf 170 = 6 := by kernel_rfl
    intro cs x h
    obtain ⟨xs, n, rfl, rfl, hl, hlen, hf⟩ := DataW.trod_struct Try.underlying170 h
    rw [c170] at hl
    match xs, hlen with
    | [y0, y1, y2, y3, y4, y5], _ =>
      have h0 := fld hf 0 rfl (t := 3) (o := 0) rfl rfl c3
      have h1 := fld hf 1 rfl (t := 3) (o := 1) rfl rfl c3
      have h2 := fld hf 2 rfl (t := 3) (o := 2) rfl rfl c3
      have h3 := fld hf 3 rfl (t := 3) (o := 3) rfl rfl c3
      have h4 := fld hf 4 rfl (t := 3) (o := 4) rfl rfl c3
      have h5 := fld hf 5 rfl (t := 9) (o := 5) rfl rfl c9
      obtain ⟨a0, r0, w0, k0⟩ := rd_int Try.underlying3 _ _ h0
      have w0' : 1 ≤ bulk y0.1 := w0
      obtain ⟨a1, r1, w1, k1⟩ := rd_int Try.underlying3 _ _ h1
      have w1' : 1 ≤ bulk y1.1 := w1
      obtain ⟨a2, r2, w2, k2⟩ := rd_int Try.underlying3 _ _ h2
      have w2' : 1 ≤ bulk y2.1 := w2
      obtain ⟨a3, r3, w3, k3⟩ := rd_int Try.underlying3 _ _ h3
      have w3' : 1 ≤ bulk y3.1 := w3
      obtain ⟨a4, r4, w4, k4⟩ := rd_int Try.underlying3 _ _ h4
      have w4' : 1 ≤ bulk y4.1 := w4
      obtain ⟨a5, r5, w5, k5⟩ := rd_string Try.underlying9 _ _ h5
      have w5' : a5.size + 1 ≤ bulk y5.1 := w5
      refine ⟨.mk a0 a1 a2 a3 a4 a5, ?_, ?_, (VInstr.ok_iff _).2 ⟨inR_of k0, inR_of k1, inR_of k2, inR_of k3, inR_of k4⟩⟩
      · have := RdC.part 0 1 r0 (RdC.part 1 1 r1 (RdC.part 2 1 r2 (RdC.part 3 1 r3 (RdC.part 4 1 r4 (RdC.part 5 1 r5 (bs := []) (by rw [List.drop_of_length_le (by omega)]; exact .nil w))))))
        show RdC w (VInstr.mk a0 a1 a2 a3 a4 a5).av.cells cs
        rw [VInstr.cells]
        simpa [VInstr.Op, VInstr.A, VInstr.B, VInstr.C, VInstr.N, VInstr.Text] using this
      · show 1 + (VInstr.mk a0 a1 a2 a3 a4 a5).wt ≤ _
        rw [VInstr.wt_eq]
        simp only [VInstr.Op, VInstr.A, VInstr.B, VInstr.C, VInstr.N, VInstr.Text, bulk, bulkAll, List.map_cons, List.map_nil]
        omega
theorem rd_Code {H : Type} {enc : TypeId × Value → H} (w : World) (f : Nat) : Rd enc Try.prog w f 36 (fun t : VCode => t.av.cells) (fun t => 1 + t.wt) (fun t => t.ok) := by
  induction f using Nat.strongRecOn with
  | _ f ih =>
    have c3 : Try.prog.cellsOf 3 = 1 := by kernel_rfl
    have c33 : Try.prog.cellsOf 33 = 1 := by kernel_rfl
    have c34 : Try.prog.cellsOf 34 = 1 := by kernel_rfl
    have c36 : Try.prog.cellsOf 36 = 2 := by kernel_rfl
    have c170 : Try.prog.cellsOf 170 = 6 := by kernel_rfl
    intro cs x h
    obtain ⟨xs, n, rfl, rfl, hl, hlen, hf⟩ := DataW.trod_struct Try.underlying36 h
    rw [c36] at hl
    match xs, hlen with
    | [y0, y1], _ =>
      have h0 := fld hf 0 rfl (t := 33) (o := 0) rfl rfl c33
      have h1 := fld hf 1 rfl (t := 34) (o := 1) rfl rfl c34
      obtain ⟨a0, r0, w0, k0⟩ := rd_slice (av := VInstr.av) Try.underlying33 (by rw [c170]; omega) (fun j _ => rd_Instr w j) _ _ h0
      have w0' : (a0.map fun t => 1 + VInstr.wt t).sum + 1 ≤ bulk y0.1 := w0
      rw [sum1] at w0'
      obtain ⟨a1, r1, w1, k1⟩ := rd_slice (av := fun y => .v (.int .i64 y)) Try.underlying34 (by rw [c3]; omega) (fun _ _ => rd_int Try.underlying3) _ _ h1
      have w1' : (a1.map fun _ : Int => 1).sum + 1 ≤ bulk y1.1 := w1
      rw [sum3] at w1'
      refine ⟨.mk a0 a1, ?_, ?_, (VCode.ok_iff _).2 ⟨k0, (fun y hy => inR_of (k1 y hy))⟩⟩
      · have := RdC.part 0 1 r0 (RdC.part 1 1 r1 (bs := []) (by rw [List.drop_of_length_le (by omega)]; exact .nil w))
        show RdC w (VCode.mk a0 a1).av.cells cs
        rw [VCode.cells]
        simpa [VCode.Instrs, VCode.Starts] using this
      · show 1 + (VCode.mk a0 a1).wt ≤ _
        rw [VCode.wt_eq]
        simp only [VCode.Instrs, VCode.Starts, bulk, bulkAll, List.map_cons, List.map_nil]
        omega
end Go.Proofs.Ytjklngbcegdjhaa
