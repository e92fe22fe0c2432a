/- Part of a proof: the functions that the law reaches, walked by the abstract logic of the texts Ab. -/
import Derived.Test.YtnmljeojillkpaaLB
import Derived.Test.YtnmljeojillkpaaVT
set_option linter.unusedVariables false
set_option linter.unusedSimpArgs false
set_option linter.defProp false
namespace Go.Proofs.Ytnmljeojillkpaa
open Go.Ab Go.ChangeShapes Go.WideShapes Go.ChangeAt Go.RowKit
set_option maxRecDepth 100000

theorem sum1 {α : Type} (w : α → Nat) (l : List α) : (l.map fun t => 1 + w t).sum = l.length + (l.map w).sum := by
  induction l with
  | nil => rfl
  | cons t l ih => simp only [List.map_cons, List.sum_cons, ih, List.length_cons]; omega
theorem sum2 (l : List ByteArray) : (l.map fun t : ByteArray => t.size + 1).sum = l.length + (l.map fun t => t.size).sum := by
  induction l with
  | nil => rfl
  | cons t l ih => simp only [List.map_cons, List.sum_cons, ih, List.length_cons]; omega
theorem sum3 (l : List Int) : (l.map fun _ : Int => 1).sum = l.length := by
  induction l with
  | nil => rfl
  | cons t l ih => simp only [List.map_cons, List.sum_cons, ih, List.length_cons]; omega
theorem inR_of {n : Int} (h : IntKind.i64.min ≤ n ∧ n ≤ IntKind.i64.max) : inR n := by
  have h1 : IntKind.i64.min = -9223372036854775808 := by decide
  have h2 : IntKind.i64.max = 9223372036854775807 := by decide
  unfold inR; omega
theorem rd_Token {H : Type} {enc : TypeId × Value → H} (w : World) (f : Nat) : Rd enc Try.prog w f 23 (fun t : VToken => t.av.cells) (fun t => 1 + t.wt) (fun t => t.ok) := by
  induction f using Nat.strongRecOn with
  | _ f ih =>
    have c3 : Try.prog.cellsOf 3 = 1 := by kernel_rfl
    have c9 : Try.prog.cellsOf 9 = 1 := by kernel_rfl
    have c23 : Try.prog.cellsOf 23 = 4 := by kernel_rfl
    intro cs x h
    obtain ⟨xs, n, rfl, rfl, hl, hlen, hf⟩ := DataW.trod_struct Try.underlying23 h
    rw [c23] at hl
    match xs, hlen with
    | [y0, y1, y2, y3], _ =>
      have h0 := fld hf 0 rfl (t := 3) (o := 0) rfl rfl c3
      have h1 := fld hf 1 rfl (t := 9) (o := 1) rfl rfl c9
      have h2 := fld hf 2 rfl (t := 3) (o := 2) rfl rfl c3
      have h3 := fld hf 3 rfl (t := 3) (o := 3) rfl rfl c3
      obtain ⟨a0, r0, w0, k0⟩ := rd_int Try.underlying3 _ _ h0
      have w0' : 1 ≤ bulk y0.1 := w0
      obtain ⟨a1, r1, w1, k1⟩ := rd_string Try.underlying9 _ _ h1
      have w1' : a1.size + 1 ≤ bulk y1.1 := w1
      obtain ⟨a2, r2, w2, k2⟩ := rd_int Try.underlying3 _ _ h2
      have w2' : 1 ≤ bulk y2.1 := w2
      obtain ⟨a3, r3, w3, k3⟩ := rd_int Try.underlying3 _ _ h3
      have w3' : 1 ≤ bulk y3.1 := w3
      refine ⟨.mk a0 a1 a2 a3, ?_, ?_, (VToken.ok_iff _).2 ⟨inR_of k0, inR_of k2, inR_of k3⟩⟩
      · have := RdC.part 0 1 r0 (RdC.part 1 1 r1 (RdC.part 2 1 r2 (RdC.part 3 1 r3 (bs := []) (by rw [List.drop_of_length_le (by omega)]; exact .nil w))))
        show RdC w (VToken.mk a0 a1 a2 a3).av.cells cs
        rw [VToken.cells]
        simpa [VToken.Kind, VToken.Text, VToken.Num, VToken.Pos] using this
      · show 1 + (VToken.mk a0 a1 a2 a3).wt ≤ _
        rw [VToken.wt_eq]
        simp only [VToken.Kind, VToken.Text, VToken.Num, VToken.Pos, bulk, bulkAll, List.map_cons, List.map_nil]
        omega
theorem rd_Pat {H : Type} {enc : TypeId × Value → H} (w : World) (f : Nat) : Rd enc Try.prog w f 213 (fun t : VPat => t.av.cells) (fun t => 1 + t.wt) (fun t => t.ok) := by
  induction f using Nat.strongRecOn with
  | _ f ih =>
    have c3 : Try.prog.cellsOf 3 = 1 := by kernel_rfl
    have c9 : Try.prog.cellsOf 9 = 1 := by kernel_rfl
    have c211 : Try.prog.cellsOf 211 = 1 := by kernel_rfl
    have c213 : Try.prog.cellsOf 213 = 5 := by kernel_rfl
    intro cs x h
    obtain ⟨xs, n, rfl, rfl, hl, hlen, hf⟩ := DataW.trod_struct Try.underlying213 h
    rw [c213] at hl
    match xs, hlen with
    | [y0, y1, y2, y3, y4], _ =>
      have h0 := fld hf 0 rfl (t := 3) (o := 0) rfl rfl c3
      have h1 := fld hf 1 rfl (t := 9) (o := 1) rfl rfl c9
      have h2 := fld hf 2 rfl (t := 3) (o := 2) rfl rfl c3
      have h3 := fld hf 3 rfl (t := 3) (o := 3) rfl rfl c3
      have h4 := fld hf 4 rfl (t := 211) (o := 4) rfl rfl c211
      obtain ⟨a0, r0, w0, k0⟩ := rd_int Try.underlying3 _ _ h0
      have w0' : 1 ≤ bulk y0.1 := w0
      obtain ⟨a1, r1, w1, k1⟩ := rd_string Try.underlying9 _ _ h1
      have w1' : a1.size + 1 ≤ bulk y1.1 := w1
      obtain ⟨a2, r2, w2, k2⟩ := rd_int Try.underlying3 _ _ h2
      have w2' : 1 ≤ bulk y2.1 := w2
      obtain ⟨a3, r3, w3, k3⟩ := rd_int Try.underlying3 _ _ h3
      have w3' : 1 ≤ bulk y3.1 := w3
      obtain ⟨a4, r4, w4, k4⟩ := rd_slice (av := VPat.av) Try.underlying211 (by rw [c213]; omega) (fun j hj => (ih j (by omega))) _ _ h4
      have w4' : (a4.map fun t => 1 + VPat.wt t).sum + 1 ≤ bulk y4.1 := w4
      rw [sum1] at w4'
      refine ⟨.mk a0 a1 a2 a3 a4, ?_, ?_, (VPat.ok_iff _).2 ⟨inR_of k0, inR_of k2, inR_of k3, k4⟩⟩
      · have := RdC.part 0 1 r0 (RdC.part 1 1 r1 (RdC.part 2 1 r2 (RdC.part 3 1 r3 (RdC.part 4 1 r4 (bs := []) (by rw [List.drop_of_length_le (by omega)]; exact .nil w)))))
        show RdC w (VPat.mk a0 a1 a2 a3 a4).av.cells cs
        rw [VPat.cells]
        simpa [VPat.Kind, VPat.Name, VPat.Num, VPat.Pos, VPat.Kids] using this
      · show 1 + (VPat.mk a0 a1 a2 a3 a4).wt ≤ _
        rw [VPat.wt_eq]
        simp only [VPat.Kind, VPat.Name, VPat.Num, VPat.Pos, VPat.Kids, bulk, bulkAll, List.map_cons, List.map_nil]
        omega
theorem rd_ExpArm {H : Type} {enc : TypeId × Value → H} (w : World) (f : Nat) : (Rd enc Try.prog w f 87 (fun t : VExp => t.av.cells) (fun t => 1 + t.wt) (fun t => t.ok)) ∧ (Rd enc Try.prog w f 215 (fun t : VArm => t.av.cells) (fun t => 1 + t.wt) (fun t => t.ok)) := by
  induction f using Nat.strongRecOn with
  | _ f ih =>
    have c3 : Try.prog.cellsOf 3 = 1 := by kernel_rfl
    have c9 : Try.prog.cellsOf 9 = 1 := by kernel_rfl
    have c84 : Try.prog.cellsOf 84 = 1 := by kernel_rfl
    have c85 : Try.prog.cellsOf 85 = 1 := by kernel_rfl
    have c87 : Try.prog.cellsOf 87 = 7 := by kernel_rfl
    have c213 : Try.prog.cellsOf 213 = 5 := by kernel_rfl
    have c215 : Try.prog.cellsOf 215 = 12 := by kernel_rfl
    refine ⟨?_, ?_⟩
    · intro cs x h
      obtain ⟨xs, n, rfl, rfl, hl, hlen, hf⟩ := DataW.trod_struct Try.underlying87 h
      rw [c87] at hl
      match xs, hlen with
      | [y0, y1, y2, y3, y4, y5, y6], _ =>
        have h0 := fld hf 0 rfl (t := 3) (o := 0) rfl rfl c3
        have h1 := fld hf 1 rfl (t := 9) (o := 1) rfl rfl c9
        have h2 := fld hf 2 rfl (t := 3) (o := 2) rfl rfl c3
        have h3 := fld hf 3 rfl (t := 9) (o := 3) rfl rfl c9
        have h4 := fld hf 4 rfl (t := 3) (o := 4) rfl rfl c3
        have h5 := fld hf 5 rfl (t := 84) (o := 5) rfl rfl c84
        have h6 := fld hf 6 rfl (t := 85) (o := 6) rfl rfl c85
        obtain ⟨a0, r0, w0, k0⟩ := rd_int Try.underlying3 _ _ h0
        have w0' : 1 ≤ bulk y0.1 := w0
        obtain ⟨a1, r1, w1, k1⟩ := rd_string Try.underlying9 _ _ h1
        have w1' : a1.size + 1 ≤ bulk y1.1 := w1
        obtain ⟨a2, r2, w2, k2⟩ := rd_int Try.underlying3 _ _ h2
        have w2' : 1 ≤ bulk y2.1 := w2
        obtain ⟨a3, r3, w3, k3⟩ := rd_string Try.underlying9 _ _ h3
        have w3' : a3.size + 1 ≤ bulk y3.1 := w3
        obtain ⟨a4, r4, w4, k4⟩ := rd_int Try.underlying3 _ _ h4
        have w4' : 1 ≤ bulk y4.1 := w4
        obtain ⟨a5, r5, w5, k5⟩ := rd_slice (av := VExp.av) Try.underlying84 (by rw [c87]; omega) (fun j hj => (ih j (by omega)).1) _ _ h5
        have w5' : (a5.map fun t => 1 + VExp.wt t).sum + 1 ≤ bulk y5.1 := w5
        rw [sum1] at w5'
        obtain ⟨a6, r6, w6, k6⟩ := rd_slice (av := VArm.av) Try.underlying85 (by rw [c215]; omega) (fun j hj => (ih j (by omega)).2) _ _ h6
        have w6' : (a6.map fun t => 1 + VArm.wt t).sum + 1 ≤ bulk y6.1 := w6
        rw [sum1] at w6'
        refine ⟨.mk a0 a1 a2 a3 a4 a5 a6, ?_, ?_, (VExp.ok_iff _).2 ⟨inR_of k0, inR_of k2, inR_of k4, k5, k6⟩⟩
        · have := RdC.part 0 1 r0 (RdC.part 1 1 r1 (RdC.part 2 1 r2 (RdC.part 3 1 r3 (RdC.part 4 1 r4 (RdC.part 5 1 r5 (RdC.part 6 1 r6 (bs := []) (by rw [List.drop_of_length_le (by omega)]; exact .nil w)))))))
          show RdC w (VExp.mk a0 a1 a2 a3 a4 a5 a6).av.cells cs
          rw [VExp.cells]
          simpa [VExp.Kind, VExp.Name, VExp.Num, VExp.Text, VExp.Pos, VExp.Kids, VExp.Arms] using this
        · show 1 + (VExp.mk a0 a1 a2 a3 a4 a5 a6).wt ≤ _
          rw [VExp.wt_eq]
          simp only [VExp.Kind, VExp.Name, VExp.Num, VExp.Text, VExp.Pos, VExp.Kids, VExp.Arms, bulk, bulkAll, List.map_cons, List.map_nil]
          omega
    · intro cs x h
      obtain ⟨xs, n, rfl, rfl, hl, hlen, hf⟩ := DataW.trod_struct Try.underlying215 h
      rw [c215] at hl
      match xs, hlen with
      | [y0, y1], _ =>
        have h0 := fld hf 0 rfl (t := 213) (o := 0) rfl rfl c213
        have h1 := fld hf 1 rfl (t := 87) (o := 5) rfl rfl c87
        obtain ⟨a0, r0, w0, k0⟩ := rd_Pat w n _ _ h0
        have w0' : 1 + a0.wt ≤ bulk y0.1 := w0
        obtain ⟨a1, r1, w1, k1⟩ := (ih n (by omega)).1 _ _ h1
        have w1' : 1 + a1.wt ≤ bulk y1.1 := w1
        refine ⟨.mk a0 a1, ?_, ?_, (VArm.ok_iff _).2 ⟨k0, k1⟩⟩
        · have := RdC.part 0 5 r0 (RdC.part 5 7 r1 (bs := []) (by rw [List.drop_of_length_le (by omega)]; exact .nil w))
          show RdC w (VArm.mk a0 a1).av.cells cs
          rw [VArm.cells]
          simpa [VArm.P, VArm.E, VPat.cells, VExp.cells] using this
        · show 1 + (VArm.mk a0 a1).wt ≤ _
          rw [VArm.wt_eq]
          simp only [VArm.P, VArm.E, bulk, bulkAll, List.map_cons, List.map_nil]
          omega
theorem rd_Exp {H : Type} {enc : TypeId × Value → H} (w : World) (f : Nat) : Rd enc Try.prog w f 87 (fun t : VExp => t.av.cells) (fun t => 1 + t.wt) (fun t => t.ok) := (rd_ExpArm w f).1
theorem rd_Arm {H : Type} {enc : TypeId × Value → H} (w : World) (f : Nat) : Rd enc Try.prog w f 215 (fun t : VArm => t.av.cells) (fun t => 1 + t.wt) (fun t => t.ok) := (rd_ExpArm w f).2
theorem rd_Ty {H : Type} {enc : TypeId × Value → H} (w : World) (f : Nat) : Rd enc Try.prog w f 45 (fun t : VTy => t.av.cells) (fun t => 1 + t.wt) (fun t => t.ok) := by
  induction f using Nat.strongRecOn with
  | _ f ih =>
    have c3 : Try.prog.cellsOf 3 = 1 := by kernel_rfl
    have c9 : Try.prog.cellsOf 9 = 1 := by kernel_rfl
    have c43 : Try.prog.cellsOf 43 = 1 := by kernel_rfl
    have c45 : Try.prog.cellsOf 45 = 4 := by kernel_rfl
    intro cs x h
    obtain ⟨xs, n, rfl, rfl, hl, hlen, hf⟩ := DataW.trod_struct Try.underlying45 h
    rw [c45] at hl
    match xs, hlen with
    | [y0, y1, y2, y3], _ =>
      have h0 := fld hf 0 rfl (t := 3) (o := 0) rfl rfl c3
      have h1 := fld hf 1 rfl (t := 3) (o := 1) rfl rfl c3
      have h2 := fld hf 2 rfl (t := 9) (o := 2) rfl rfl c9
      have h3 := fld hf 3 rfl (t := 43) (o := 3) rfl rfl c43
      obtain ⟨a0, r0, w0, k0⟩ := rd_int Try.underlying3 _ _ h0
      have w0' : 1 ≤ bulk y0.1 := w0
      obtain ⟨a1, r1, w1, k1⟩ := rd_int Try.underlying3 _ _ h1
      have w1' : 1 ≤ bulk y1.1 := w1
      obtain ⟨a2, r2, w2, k2⟩ := rd_string Try.underlying9 _ _ h2
      have w2' : a2.size + 1 ≤ bulk y2.1 := w2
      obtain ⟨a3, r3, w3, k3⟩ := rd_slice (av := VTy.av) Try.underlying43 (by rw [c45]; omega) (fun j hj => (ih j (by omega))) _ _ h3
      have w3' : (a3.map fun t => 1 + VTy.wt t).sum + 1 ≤ bulk y3.1 := w3
      rw [sum1] at w3'
      refine ⟨.mk a0 a1 a2 a3, ?_, ?_, (VTy.ok_iff _).2 ⟨inR_of k0, inR_of k1, k3⟩⟩
      · have := RdC.part 0 1 r0 (RdC.part 1 1 r1 (RdC.part 2 1 r2 (RdC.part 3 1 r3 (bs := []) (by rw [List.drop_of_length_le (by omega)]; exact .nil w))))
        show RdC w (VTy.mk a0 a1 a2 a3).av.cells cs
        rw [VTy.cells]
        simpa [VTy.Kind, VTy.N, VTy.Name, VTy.Kids] using this
      · show 1 + (VTy.mk a0 a1 a2 a3).wt ≤ _
        rw [VTy.wt_eq]
        simp only [VTy.Kind, VTy.N, VTy.Name, VTy.Kids, bulk, bulkAll, List.map_cons, List.map_nil]
        omega
theorem rd_CtorInfo {H : Type} {enc : TypeId × Value → H} (w : World) (f : Nat) : Rd enc Try.prog w f 231 (fun t : VCtorInfo => t.av.cells) (fun t => 1 + t.wt) (fun t => t.ok) := by
  induction f using Nat.strongRecOn with
  | _ f ih =>
    have c4 : Try.prog.cellsOf 4 = 1 := by kernel_rfl
    have c9 : Try.prog.cellsOf 9 = 1 := by kernel_rfl
    have c45 : Try.prog.cellsOf 45 = 4 := by kernel_rfl
    have c231 : Try.prog.cellsOf 231 = 6 := by kernel_rfl
    intro cs x h
    obtain ⟨xs, n, rfl, rfl, hl, hlen, hf⟩ := DataW.trod_struct Try.underlying231 h
    rw [c231] at hl
    match xs, hlen with
    | [y0, y1, y2], _ =>
      have h0 := fld hf 0 rfl (t := 9) (o := 0) rfl rfl c9
      have h1 := fld hf 1 rfl (t := 4) (o := 1) rfl rfl c4
      have h2 := fld hf 2 rfl (t := 45) (o := 2) rfl rfl c45
      obtain ⟨a0, r0, w0, k0⟩ := rd_string Try.underlying9 _ _ h0
      have w0' : a0.size + 1 ≤ bulk y0.1 := w0
      obtain ⟨a1, r1, w1, k1⟩ := rd_bool Try.underlying4 _ _ h1
      have w1' : 1 ≤ bulk y1.1 := w1
      obtain ⟨a2, r2, w2, k2⟩ := rd_Ty w n _ _ h2
      have w2' : 1 + a2.wt ≤ bulk y2.1 := w2
      refine ⟨.mk a0 a1 a2, ?_, ?_, (VCtorInfo.ok_iff _).2 k2⟩
      · have := RdC.part 0 1 r0 (RdC.part 1 1 r1 (RdC.part 2 4 r2 (bs := []) (by rw [List.drop_of_length_le (by omega)]; exact .nil w)))
        show RdC w (VCtorInfo.mk a0 a1 a2).av.cells cs
        rw [VCtorInfo.cells]
        simpa [VCtorInfo.Name, VCtorInfo.Has, VCtorInfo.Arg, VTy.cells] using this
      · show 1 + (VCtorInfo.mk a0 a1 a2).wt ≤ _
        rw [VCtorInfo.wt_eq]
        simp only [VCtorInfo.Name, VCtorInfo.Has, VCtorInfo.Arg, bulk, bulkAll, List.map_cons, List.map_nil]
        omega
theorem rd_DataInfo {H : Type} {enc : TypeId × Value → H} (w : World) (f : Nat) : Rd enc Try.prog w f 135 (fun t : VDataInfo => t.av.cells) (fun t => 1 + t.wt) (fun t => t.ok) := by
  induction f using Nat.strongRecOn with
  | _ f ih =>
    have c3 : Try.prog.cellsOf 3 = 1 := by kernel_rfl
    have c9 : Try.prog.cellsOf 9 = 1 := by kernel_rfl
    have c133 : Try.prog.cellsOf 133 = 1 := by kernel_rfl
    have c135 : Try.prog.cellsOf 135 = 3 := by kernel_rfl
    have c231 : Try.prog.cellsOf 231 = 6 := by kernel_rfl
    intro cs x h
    obtain ⟨xs, n, rfl, rfl, hl, hlen, hf⟩ := DataW.trod_struct Try.underlying135 h
    rw [c135] at hl
    match xs, hlen with
    | [y0, y1, y2], _ =>
      have h0 := fld hf 0 rfl (t := 9) (o := 0) rfl rfl c9
      have h1 := fld hf 1 rfl (t := 3) (o := 1) rfl rfl c3
      have h2 := fld hf 2 rfl (t := 133) (o := 2) rfl rfl c133
      obtain ⟨a0, r0, w0, k0⟩ := rd_string Try.underlying9 _ _ h0
      have w0' : a0.size + 1 ≤ bulk y0.1 := w0
      obtain ⟨a1, r1, w1, k1⟩ := rd_int Try.underlying3 _ _ h1
      have w1' : 1 ≤ bulk y1.1 := w1
      obtain ⟨a2, r2, w2, k2⟩ := rd_slice (av := VCtorInfo.av) Try.underlying133 (by rw [c231]; omega) (fun j _ => rd_CtorInfo w j) _ _ h2
      have w2' : (a2.map fun t => 1 + VCtorInfo.wt t).sum + 1 ≤ bulk y2.1 := w2
      rw [sum1] at w2'
      refine ⟨.mk a0 a1 a2, ?_, ?_, (VDataInfo.ok_iff _).2 ⟨inR_of k1, k2⟩⟩
      · have := RdC.part 0 1 r0 (RdC.part 1 1 r1 (RdC.part 2 1 r2 (bs := []) (by rw [List.drop_of_length_le (by omega)]; exact .nil w)))
        show RdC w (VDataInfo.mk a0 a1 a2).av.cells cs
        rw [VDataInfo.cells]
        simpa [VDataInfo.Name, VDataInfo.Vars, VDataInfo.Ctors] using this
      · show 1 + (VDataInfo.mk a0 a1 a2).wt ≤ _
        rw [VDataInfo.wt_eq]
        simp only [VDataInfo.Name, VDataInfo.Vars, VDataInfo.Ctors, bulk, bulkAll, List.map_cons, List.map_nil]
        omega
theorem rd_CPat {H : Type} {enc : TypeId × Value → H} (w : World) (f : Nat) : Rd enc Try.prog w f 223 (fun t : VCPat => t.av.cells) (fun t => 1 + t.wt) (fun t => t.ok) := by
  induction f using Nat.strongRecOn with
  | _ f ih =>
    have c3 : Try.prog.cellsOf 3 = 1 := by kernel_rfl
    have c9 : Try.prog.cellsOf 9 = 1 := by kernel_rfl
    have c45 : Try.prog.cellsOf 45 = 4 := by kernel_rfl
    have c221 : Try.prog.cellsOf 221 = 1 := by kernel_rfl
    have c223 : Try.prog.cellsOf 223 = 8 := by kernel_rfl
    intro cs x h
    obtain ⟨xs, n, rfl, rfl, hl, hlen, hf⟩ := DataW.trod_struct Try.underlying223 h
    rw [c223] at hl
    match xs, hlen with
    | [y0, y1, y2, y3, y4], _ =>
      have h0 := fld hf 0 rfl (t := 3) (o := 0) rfl rfl c3
      have h1 := fld hf 1 rfl (t := 3) (o := 1) rfl rfl c3
      have h2 := fld hf 2 rfl (t := 9) (o := 2) rfl rfl c9
      have h3 := fld hf 3 rfl (t := 45) (o := 3) rfl rfl c45
      have h4 := fld hf 4 rfl (t := 221) (o := 7) rfl rfl c221
      obtain ⟨a0, r0, w0, k0⟩ := rd_int Try.underlying3 _ _ h0
      have w0' : 1 ≤ bulk y0.1 := w0
      obtain ⟨a1, r1, w1, k1⟩ := rd_int Try.underlying3 _ _ h1
      have w1' : 1 ≤ bulk y1.1 := w1
      obtain ⟨a2, r2, w2, k2⟩ := rd_string Try.underlying9 _ _ h2
      have w2' : a2.size + 1 ≤ bulk y2.1 := w2
      obtain ⟨a3, r3, w3, k3⟩ := rd_Ty w n _ _ h3
      have w3' : 1 + a3.wt ≤ bulk y3.1 := w3
      obtain ⟨a4, r4, w4, k4⟩ := rd_slice (av := VCPat.av) Try.underlying221 (by rw [c223]; omega) (fun j hj => (ih j (by omega))) _ _ h4
      have w4' : (a4.map fun t => 1 + VCPat.wt t).sum + 1 ≤ bulk y4.1 := w4
      rw [sum1] at w4'
      refine ⟨.mk a0 a1 a2 a3 a4, ?_, ?_, (VCPat.ok_iff _).2 ⟨inR_of k0, inR_of k1, k3, k4⟩⟩
      · have := RdC.part 0 1 r0 (RdC.part 1 1 r1 (RdC.part 2 1 r2 (RdC.part 3 4 r3 (RdC.part 7 1 r4 (bs := []) (by rw [List.drop_of_length_le (by omega)]; exact .nil w)))))
        show RdC w (VCPat.mk a0 a1 a2 a3 a4).av.cells cs
        rw [VCPat.cells]
        simpa [VCPat.Kind, VCPat.Num, VCPat.Name, VCPat.T, VCPat.Kids, VTy.cells] using this
      · show 1 + (VCPat.mk a0 a1 a2 a3 a4).wt ≤ _
        rw [VCPat.wt_eq]
        simp only [VCPat.Kind, VCPat.Num, VCPat.Name, VCPat.T, VCPat.Kids, bulk, bulkAll, List.map_cons, List.map_nil]
        omega
theorem rd_CoreCArm {H : Type} {enc : TypeId × Value → H} (w : World) (f : Nat) : (Rd enc Try.prog w f 107 (fun t : VCore => t.av.cells) (fun t => 1 + t.wt) (fun t => t.ok)) ∧ (Rd enc Try.prog w f 225 (fun t : VCArm => t.av.cells) (fun t => 1 + t.wt) (fun t => t.ok)) := by
  induction f using Nat.strongRecOn with
  | _ f ih =>
    have c3 : Try.prog.cellsOf 3 = 1 := by kernel_rfl
    have c9 : Try.prog.cellsOf 9 = 1 := by kernel_rfl
    have c43 : Try.prog.cellsOf 43 = 1 := by kernel_rfl
    have c45 : Try.prog.cellsOf 45 = 4 := by kernel_rfl
    have c104 : Try.prog.cellsOf 104 = 1 := by kernel_rfl
    have c105 : Try.prog.cellsOf 105 = 1 := by kernel_rfl
    have c107 : Try.prog.cellsOf 107 = 12 := by kernel_rfl
    have c223 : Try.prog.cellsOf 223 = 8 := by kernel_rfl
    have c225 : Try.prog.cellsOf 225 = 20 := by kernel_rfl
    refine ⟨?_, ?_⟩
    · intro cs x h
      obtain ⟨xs, n, rfl, rfl, hl, hlen, hf⟩ := DataW.trod_struct Try.underlying107 h
      rw [c107] at hl
      match xs, hlen with
      | [y0, y1, y2, y3, y4, y5, y6, y7, y8], _ =>
        have h0 := fld hf 0 rfl (t := 3) (o := 0) rfl rfl c3
        have h1 := fld hf 1 rfl (t := 3) (o := 1) rfl rfl c3
        have h2 := fld hf 2 rfl (t := 3) (o := 2) rfl rfl c3
        have h3 := fld hf 3 rfl (t := 9) (o := 3) rfl rfl c9
        have h4 := fld hf 4 rfl (t := 9) (o := 4) rfl rfl c9
        have h5 := fld hf 5 rfl (t := 45) (o := 5) rfl rfl c45
        have h6 := fld hf 6 rfl (t := 43) (o := 9) rfl rfl c43
        have h7 := fld hf 7 rfl (t := 104) (o := 10) rfl rfl c104
        have h8 := fld hf 8 rfl (t := 105) (o := 11) rfl rfl c105
        obtain ⟨a0, r0, w0, k0⟩ := rd_int Try.underlying3 _ _ h0
        have w0' : 1 ≤ bulk y0.1 := w0
        obtain ⟨a1, r1, w1, k1⟩ := rd_int Try.underlying3 _ _ h1
        have w1' : 1 ≤ bulk y1.1 := w1
        obtain ⟨a2, r2, w2, k2⟩ := rd_int Try.underlying3 _ _ h2
        have w2' : 1 ≤ bulk y2.1 := w2
        obtain ⟨a3, r3, w3, k3⟩ := rd_string Try.underlying9 _ _ h3
        have w3' : a3.size + 1 ≤ bulk y3.1 := w3
        obtain ⟨a4, r4, w4, k4⟩ := rd_string Try.underlying9 _ _ h4
        have w4' : a4.size + 1 ≤ bulk y4.1 := w4
        obtain ⟨a5, r5, w5, k5⟩ := rd_Ty w n _ _ h5
        have w5' : 1 + a5.wt ≤ bulk y5.1 := w5
        obtain ⟨a6, r6, w6, k6⟩ := rd_slice (av := VTy.av) Try.underlying43 (by rw [c45]; omega) (fun j _ => rd_Ty w j) _ _ h6
        have w6' : (a6.map fun t => 1 + VTy.wt t).sum + 1 ≤ bulk y6.1 := w6
        rw [sum1] at w6'
        obtain ⟨a7, r7, w7, k7⟩ := rd_slice (av := VCore.av) Try.underlying104 (by rw [c107]; omega) (fun j hj => (ih j (by omega)).1) _ _ h7
        have w7' : (a7.map fun t => 1 + VCore.wt t).sum + 1 ≤ bulk y7.1 := w7
        rw [sum1] at w7'
        obtain ⟨a8, r8, w8, k8⟩ := rd_slice (av := VCArm.av) Try.underlying105 (by rw [c225]; omega) (fun j hj => (ih j (by omega)).2) _ _ h8
        have w8' : (a8.map fun t => 1 + VCArm.wt t).sum + 1 ≤ bulk y8.1 := w8
        rw [sum1] at w8'
        refine ⟨.mk a0 a1 a2 a3 a4 a5 a6 a7 a8, ?_, ?_, (VCore.ok_iff _).2 ⟨inR_of k0, inR_of k1, inR_of k2, k5, k6, k7, k8⟩⟩
        · have := RdC.part 0 1 r0 (RdC.part 1 1 r1 (RdC.part 2 1 r2 (RdC.part 3 1 r3 (RdC.part 4 1 r4 (RdC.part 5 4 r5 (RdC.part 9 1 r6 (RdC.part 10 1 r7 (RdC.part 11 1 r8 (bs := []) (by rw [List.drop_of_length_le (by omega)]; exact .nil w)))))))))
          show RdC w (VCore.mk a0 a1 a2 a3 a4 a5 a6 a7 a8).av.cells cs
          rw [VCore.cells]
          simpa [VCore.Kind, VCore.N, VCore.Num, VCore.Text, VCore.Name, VCore.T, VCore.Ts, VCore.Kids, VCore.Arms, VTy.cells] using this
        · show 1 + (VCore.mk a0 a1 a2 a3 a4 a5 a6 a7 a8).wt ≤ _
          rw [VCore.wt_eq]
          simp only [VCore.Kind, VCore.N, VCore.Num, VCore.Text, VCore.Name, VCore.T, VCore.Ts, VCore.Kids, VCore.Arms, bulk, bulkAll, List.map_cons, List.map_nil]
          omega
    · intro cs x h
      obtain ⟨xs, n, rfl, rfl, hl, hlen, hf⟩ := DataW.trod_struct Try.underlying225 h
      rw [c225] at hl
      match xs, hlen with
      | [y0, y1], _ =>
        have h0 := fld hf 0 rfl (t := 223) (o := 0) rfl rfl c223
        have h1 := fld hf 1 rfl (t := 107) (o := 8) rfl rfl c107
        obtain ⟨a0, r0, w0, k0⟩ := rd_CPat w n _ _ h0
        have w0' : 1 + a0.wt ≤ bulk y0.1 := w0
        obtain ⟨a1, r1, w1, k1⟩ := (ih n (by omega)).1 _ _ h1
        have w1' : 1 + a1.wt ≤ bulk y1.1 := w1
        refine ⟨.mk a0 a1, ?_, ?_, (VCArm.ok_iff _).2 ⟨k0, k1⟩⟩
        · have := RdC.part 0 8 r0 (RdC.part 8 12 r1 (bs := []) (by rw [List.drop_of_length_le (by omega)]; exact .nil w))
          show RdC w (VCArm.mk a0 a1).av.cells cs
          rw [VCArm.cells]
          simpa [VCArm.P, VCArm.E, VCPat.cells, VCore.cells] using this
        · show 1 + (VCArm.mk a0 a1).wt ≤ _
          rw [VCArm.wt_eq]
          simp only [VCArm.P, VCArm.E, bulk, bulkAll, List.map_cons, List.map_nil]
          omega
theorem rd_Core {H : Type} {enc : TypeId × Value → H} (w : World) (f : Nat) : Rd enc Try.prog w f 107 (fun t : VCore => t.av.cells) (fun t => 1 + t.wt) (fun t => t.ok) := (rd_CoreCArm w f).1
theorem rd_CArm {H : Type} {enc : TypeId × Value → H} (w : World) (f : Nat) : Rd enc Try.prog w f 225 (fun t : VCArm => t.av.cells) (fun t => 1 + t.wt) (fun t => t.ok) := (rd_CoreCArm w f).2
theorem rd_KVal {H : Type} {enc : TypeId × Value → H} (w : World) (f : Nat) : Rd enc Try.prog w f 199 (fun t : VKVal => t.av.cells) (fun t => 1 + t.wt) (fun t => t.ok) := by
  induction f using Nat.strongRecOn with
  | _ f ih =>
    have c3 : Try.prog.cellsOf 3 = 1 := by kernel_rfl
    have c9 : Try.prog.cellsOf 9 = 1 := by kernel_rfl
    have c199 : Try.prog.cellsOf 199 = 4 := by kernel_rfl
    intro cs x h
    obtain ⟨xs, n, rfl, rfl, hl, hlen, hf⟩ := DataW.trod_struct Try.underlying199 h
    rw [c199] at hl
    match xs, hlen with
    | [y0, y1, y2, y3], _ =>
      have h0 := fld hf 0 rfl (t := 3) (o := 0) rfl rfl c3
      have h1 := fld hf 1 rfl (t := 3) (o := 1) rfl rfl c3
      have h2 := fld hf 2 rfl (t := 3) (o := 2) rfl rfl c3
      have h3 := fld hf 3 rfl (t := 9) (o := 3) rfl rfl c9
      obtain ⟨a0, r0, w0, k0⟩ := rd_int Try.underlying3 _ _ h0
      have w0' : 1 ≤ bulk y0.1 := w0
      obtain ⟨a1, r1, w1, k1⟩ := rd_int Try.underlying3 _ _ h1
      have w1' : 1 ≤ bulk y1.1 := w1
      obtain ⟨a2, r2, w2, k2⟩ := rd_int Try.underlying3 _ _ h2
      have w2' : 1 ≤ bulk y2.1 := w2
      obtain ⟨a3, r3, w3, k3⟩ := rd_string Try.underlying9 _ _ h3
      have w3' : a3.size + 1 ≤ bulk y3.1 := w3
      refine ⟨.mk a0 a1 a2 a3, ?_, ?_, (VKVal.ok_iff _).2 ⟨inR_of k0, inR_of k1, inR_of k2⟩⟩
      · have := RdC.part 0 1 r0 (RdC.part 1 1 r1 (RdC.part 2 1 r2 (RdC.part 3 1 r3 (bs := []) (by rw [List.drop_of_length_le (by omega)]; exact .nil w))))
        show RdC w (VKVal.mk a0 a1 a2 a3).av.cells cs
        rw [VKVal.cells]
        simpa [VKVal.Kind, VKVal.N, VKVal.Num, VKVal.Text] using this
      · show 1 + (VKVal.mk a0 a1 a2 a3).wt ≤ _
        rw [VKVal.wt_eq]
        simp only [VKVal.Kind, VKVal.N, VKVal.Num, VKVal.Text, bulk, bulkAll, List.map_cons, List.map_nil]
        omega
theorem rd_KTerm {H : Type} {enc : TypeId × Value → H} (w : World) (f : Nat) : Rd enc Try.prog w f 65 (fun t : VKTerm => t.av.cells) (fun t => 1 + t.wt) (fun t => t.ok) := by
  induction f using Nat.strongRecOn with
  | _ f ih =>
    have c3 : Try.prog.cellsOf 3 = 1 := by kernel_rfl
    have c9 : Try.prog.cellsOf 9 = 1 := by kernel_rfl
    have c43 : Try.prog.cellsOf 43 = 1 := by kernel_rfl
    have c45 : Try.prog.cellsOf 45 = 4 := by kernel_rfl
    have c62 : Try.prog.cellsOf 62 = 1 := by kernel_rfl
    have c63 : Try.prog.cellsOf 63 = 1 := by kernel_rfl
    have c65 : Try.prog.cellsOf 65 = 11 := by kernel_rfl
    have c199 : Try.prog.cellsOf 199 = 4 := by kernel_rfl
    intro cs x h
    obtain ⟨xs, n, rfl, rfl, hl, hlen, hf⟩ := DataW.trod_struct Try.underlying65 h
    rw [c65] at hl
    match xs, hlen with
    | [y0, y1, y2, y3, y4, y5, y6, y7], _ =>
      have h0 := fld hf 0 rfl (t := 3) (o := 0) rfl rfl c3
      have h1 := fld hf 1 rfl (t := 9) (o := 1) rfl rfl c9
      have h2 := fld hf 2 rfl (t := 3) (o := 2) rfl rfl c3
      have h3 := fld hf 3 rfl (t := 3) (o := 3) rfl rfl c3
      have h4 := fld hf 4 rfl (t := 45) (o := 4) rfl rfl c45
      have h5 := fld hf 5 rfl (t := 43) (o := 8) rfl rfl c43
      have h6 := fld hf 6 rfl (t := 62) (o := 9) rfl rfl c62
      have h7 := fld hf 7 rfl (t := 63) (o := 10) rfl rfl c63
      obtain ⟨a0, r0, w0, k0⟩ := rd_int Try.underlying3 _ _ h0
      have w0' : 1 ≤ bulk y0.1 := w0
      obtain ⟨a1, r1, w1, k1⟩ := rd_string Try.underlying9 _ _ h1
      have w1' : a1.size + 1 ≤ bulk y1.1 := w1
      obtain ⟨a2, r2, w2, k2⟩ := rd_int Try.underlying3 _ _ h2
      have w2' : 1 ≤ bulk y2.1 := w2
      obtain ⟨a3, r3, w3, k3⟩ := rd_int Try.underlying3 _ _ h3
      have w3' : 1 ≤ bulk y3.1 := w3
      obtain ⟨a4, r4, w4, k4⟩ := rd_Ty w n _ _ h4
      have w4' : 1 + a4.wt ≤ bulk y4.1 := w4
      obtain ⟨a5, r5, w5, k5⟩ := rd_slice (av := VTy.av) Try.underlying43 (by rw [c45]; omega) (fun j _ => rd_Ty w j) _ _ h5
      have w5' : (a5.map fun t => 1 + VTy.wt t).sum + 1 ≤ bulk y5.1 := w5
      rw [sum1] at w5'
      obtain ⟨a6, r6, w6, k6⟩ := rd_slice (av := VKVal.av) Try.underlying62 (by rw [c199]; omega) (fun j _ => rd_KVal w j) _ _ h6
      have w6' : (a6.map fun t => 1 + VKVal.wt t).sum + 1 ≤ bulk y6.1 := w6
      rw [sum1] at w6'
      obtain ⟨a7, r7, w7, k7⟩ := rd_slice (av := VKTerm.av) Try.underlying63 (by rw [c65]; omega) (fun j hj => (ih j (by omega))) _ _ h7
      have w7' : (a7.map fun t => 1 + VKTerm.wt t).sum + 1 ≤ bulk y7.1 := w7
      rw [sum1] at w7'
      refine ⟨.mk a0 a1 a2 a3 a4 a5 a6 a7, ?_, ?_, (VKTerm.ok_iff _).2 ⟨inR_of k0, inR_of k2, inR_of k3, k4, k5, k6, k7⟩⟩
      · have := RdC.part 0 1 r0 (RdC.part 1 1 r1 (RdC.part 2 1 r2 (RdC.part 3 1 r3 (RdC.part 4 4 r4 (RdC.part 8 1 r5 (RdC.part 9 1 r6 (RdC.part 10 1 r7 (bs := []) (by rw [List.drop_of_length_le (by omega)]; exact .nil w))))))))
        show RdC w (VKTerm.mk a0 a1 a2 a3 a4 a5 a6 a7).av.cells cs
        rw [VKTerm.cells]
        simpa [VKTerm.Kind, VKTerm.Name, VKTerm.N, VKTerm.Num, VKTerm.T, VKTerm.Ts, VKTerm.Vs, VKTerm.Kids, VTy.cells] using this
      · show 1 + (VKTerm.mk a0 a1 a2 a3 a4 a5 a6 a7).wt ≤ _
        rw [VKTerm.wt_eq]
        simp only [VKTerm.Kind, VKTerm.Name, VKTerm.N, VKTerm.Num, VKTerm.T, VKTerm.Ts, VKTerm.Vs, VKTerm.Kids, bulk, bulkAll, List.map_cons, List.map_nil]
        omega
theorem rd_Instr {H : Type} {enc : TypeId × Value → H} (w : World) (f : Nat) : Rd enc Try.prog w f 190 (fun t : VInstr => t.av.cells) (fun t => 1 + t.wt) (fun t => t.ok) := by
  induction f using Nat.strongRecOn with
  | _ f ih =>
    have c3 : Try.prog.cellsOf 3 = 1 := by kernel_rfl
    have c9 : Try.prog.cellsOf 9 = 1 := by kernel_rfl
    have c190 : Try.prog.cellsOf 190 = 6 := by kernel_rfl
    intro cs x h
    obtain ⟨xs, n, rfl, rfl, hl, hlen, hf⟩ := DataW.trod_struct Try.underlying190 h
    rw [c190] at hl
    match xs, hlen with
    | [y0, y1, y2, y3, y4, y5], _ =>
      have h0 := fld hf 0 rfl (t := 3) (o := 0) rfl rfl c3
      have h1 := fld hf 1 rfl (t := 3) (o := 1) rfl rfl c3
      have h2 := fld hf 2 rfl (t := 3) (o := 2) rfl rfl c3
      have h3 := fld hf 3 rfl (t := 3) (o := 3) rfl rfl c3
      have h4 := fld hf 4 rfl (t := 3) (o := 4) rfl rfl c3
      have h5 := fld hf 5 rfl (t := 9) (o := 5) rfl rfl c9
      obtain ⟨a0, r0, w0, k0⟩ := rd_int Try.underlying3 _ _ h0
      have w0' : 1 ≤ bulk y0.1 := w0
      obtain ⟨a1, r1, w1, k1⟩ := rd_int Try.underlying3 _ _ h1
      have w1' : 1 ≤ bulk y1.1 := w1
      obtain ⟨a2, r2, w2, k2⟩ := rd_int Try.underlying3 _ _ h2
      have w2' : 1 ≤ bulk y2.1 := w2
      obtain ⟨a3, r3, w3, k3⟩ := rd_int Try.underlying3 _ _ h3
      have w3' : 1 ≤ bulk y3.1 := w3
      obtain ⟨a4, r4, w4, k4⟩ := rd_int Try.underlying3 _ _ h4
      have w4' : 1 ≤ bulk y4.1 := w4
      obtain ⟨a5, r5, w5, k5⟩ := rd_string Try.underlying9 _ _ h5
      have w5' : a5.size + 1 ≤ bulk y5.1 := w5
      refine ⟨.mk a0 a1 a2 a3 a4 a5, ?_, ?_, (VInstr.ok_iff _).2 ⟨inR_of k0, inR_of k1, inR_of k2, inR_of k3, inR_of k4⟩⟩
      · have := RdC.part 0 1 r0 (RdC.part 1 1 r1 (RdC.part 2 1 r2 (RdC.part 3 1 r3 (RdC.part 4 1 r4 (RdC.part 5 1 r5 (bs := []) (by rw [List.drop_of_length_le (by omega)]; exact .nil w))))))
        show RdC w (VInstr.mk a0 a1 a2 a3 a4 a5).av.cells cs
        rw [VInstr.cells]
        simpa [VInstr.Op, VInstr.A, VInstr.B, VInstr.C, VInstr.N, VInstr.Text] using this
      · show 1 + (VInstr.mk a0 a1 a2 a3 a4 a5).wt ≤ _
        rw [VInstr.wt_eq]
        simp only [VInstr.Op, VInstr.A, VInstr.B, VInstr.C, VInstr.N, VInstr.Text, bulk, bulkAll, List.map_cons, List.map_nil]
        omega
theorem rd_Code {H : Type} {enc : TypeId × Value → H} (w : World) (f : Nat) : Rd enc Try.prog w f 32 (fun t : VCode => t.av.cells) (fun t => 1 + t.wt) (fun t => t.ok) := by
  induction f using Nat.strongRecOn with
  | _ f ih =>
    have c3 : Try.prog.cellsOf 3 = 1 := by kernel_rfl
    have c29 : Try.prog.cellsOf 29 = 1 := by kernel_rfl
    have c30 : Try.prog.cellsOf 30 = 1 := by kernel_rfl
    have c32 : Try.prog.cellsOf 32 = 2 := by kernel_rfl
    have c190 : Try.prog.cellsOf 190 = 6 := by kernel_rfl
    intro cs x h
    obtain ⟨xs, n, rfl, rfl, hl, hlen, hf⟩ := DataW.trod_struct Try.underlying32 h
    rw [c32] at hl
    match xs, hlen with
    | [y0, y1], _ =>
      have h0 := fld hf 0 rfl (t := 29) (o := 0) rfl rfl c29
      have h1 := fld hf 1 rfl (t := 30) (o := 1) rfl rfl c30
      obtain ⟨a0, r0, w0, k0⟩ := rd_slice (av := VInstr.av) Try.underlying29 (by rw [c190]; omega) (fun j _ => rd_Instr w j) _ _ h0
      have w0' : (a0.map fun t => 1 + VInstr.wt t).sum + 1 ≤ bulk y0.1 := w0
      rw [sum1] at w0'
      obtain ⟨a1, r1, w1, k1⟩ := rd_slice (av := fun y => .v (.int .i64 y)) Try.underlying30 (by rw [c3]; omega) (fun _ _ => rd_int Try.underlying3) _ _ h1
      have w1' : (a1.map fun _ : Int => 1).sum + 1 ≤ bulk y1.1 := w1
      rw [sum3] at w1'
      refine ⟨.mk a0 a1, ?_, ?_, (VCode.ok_iff _).2 ⟨k0, (fun y hy => inR_of (k1 y hy))⟩⟩
      · have := RdC.part 0 1 r0 (RdC.part 1 1 r1 (bs := []) (by rw [List.drop_of_length_le (by omega)]; exact .nil w))
        show RdC w (VCode.mk a0 a1).av.cells cs
        rw [VCode.cells]
        simpa [VCode.Instrs, VCode.Starts] using this
      · show 1 + (VCode.mk a0 a1).wt ≤ _
        rw [VCode.wt_eq]
        simp only [VCode.Instrs, VCode.Starts, bulk, bulkAll, List.map_cons, List.map_nil]
        omega
end Go.Proofs.Ytnmljeojillkpaa
