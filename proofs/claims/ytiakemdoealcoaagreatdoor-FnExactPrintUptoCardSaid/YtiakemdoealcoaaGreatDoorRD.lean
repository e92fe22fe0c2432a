/- Part of a proof: the functions that the law reaches, walked by the abstract logic of the texts Ab. -/
import Derived.Test.YtiakemdoealcoaaGreatDoorLB
import Derived.Test.YtiakemdoealcoaaGreatDoorGM
set_option linter.unusedVariables false
set_option linter.unusedSimpArgs false
set_option linter.defProp false
namespace Go.Proofs.YtiakemdoealcoaaGreatDoor
open Go.Ab Go.ChangeShapes Go.WideShapes Go.ChangeAt Go.RowKit
set_option maxRecDepth 100000
theorem sum1 {α : Type} (w : α → Nat) (l : List α) : (l.map fun t => 1 + w t).sum = l.length + (l.map w).sum := by
  induction l with
  | nil => rfl
  | cons t l ih => simp only [List.map_cons, List.sum_cons, ih, List.length_cons]; omega
theorem sum2 (l : List ByteArray) : (l.map fun t : ByteArray => t.size + 1).sum = l.length + (l.map fun t => t.size).sum := by
  induction l with
  | nil => rfl
  | cons t l ih => simp only [List.map_cons, List.sum_cons, ih, List.length_cons]; omega
theorem inR_of {n : Int} (h : IntKind.i64.min ≤ n ∧ n ≤ IntKind.i64.max) : inR n := by
  have h1 : IntKind.i64.min = -9223372036854775808 := by decide
  have h2 : IntKind.i64.max = 9223372036854775807 := by decide
  unfold inR; omega
theorem rd_Pat {H : Type} {enc : TypeId × Value → H} (w : World) (f : Nat) : Rd enc Tryz.prog w f 72 (fun t : VPat => t.av.cells) (fun t => 1 + t.wt) (fun t => t.ok) := by
  induction f using Nat.strongRecOn with
  | _ f ih =>
    have c3 : Tryz.prog.cellsOf 3 = 1 := by kernel_rfl
    have c9 : Tryz.prog.cellsOf 9 = 1 := by kernel_rfl
    have c70 : Tryz.prog.cellsOf 70 = 1 := by kernel_rfl
    have c72 : Tryz.prog.cellsOf 72 = 5 := by kernel_rfl
    intro cs x h
    obtain ⟨xs, n, rfl, rfl, hl, hlen, hf⟩ := DataW.trod_struct Tryz.underlying72 h
    rw [c72] at hl
    match xs, hlen with
    | [y0, y1, y2, y3, y4], _ =>
      have h0 := fld hf 0 rfl (t := 3) (o := 0) rfl rfl c3
      have h1 := fld hf 1 rfl (t := 9) (o := 1) rfl rfl c9
      have h2 := fld hf 2 rfl (t := 3) (o := 2) rfl rfl c3
      have h3 := fld hf 3 rfl (t := 3) (o := 3) rfl rfl c3
      have h4 := fld hf 4 rfl (t := 70) (o := 4) rfl rfl c70
      obtain ⟨a0, r0, w0, k0⟩ := rd_int Tryz.underlying3 _ _ h0
      have w0' : 1 ≤ bulk y0.1 := w0
      obtain ⟨a1, r1, w1, k1⟩ := rd_string Tryz.underlying9 _ _ h1
      have w1' : a1.size + 1 ≤ bulk y1.1 := w1
      obtain ⟨a2, r2, w2, k2⟩ := rd_int Tryz.underlying3 _ _ h2
      have w2' : 1 ≤ bulk y2.1 := w2
      obtain ⟨a3, r3, w3, k3⟩ := rd_int Tryz.underlying3 _ _ h3
      have w3' : 1 ≤ bulk y3.1 := w3
      obtain ⟨a4, r4, w4, k4⟩ := rd_slice (av := VPat.av) Tryz.underlying70 (by rw [c72]; omega) (fun j hj => (ih j (by omega))) _ _ h4
      have w4' : (a4.map fun t => 1 + VPat.wt t).sum + 1 ≤ bulk y4.1 := w4
      rw [sum1] at w4'
      refine ⟨.mk a0 a1 a2 a3 a4, ?_, ?_, (VPat.ok_iff _).2 ⟨inR_of k0, inR_of k2, inR_of k3, k4⟩⟩
      · have := RdC.part 0 1 r0 (RdC.part 1 1 r1 (RdC.part 2 1 r2 (RdC.part 3 1 r3 (RdC.part 4 1 r4 (bs := []) (by rw [List.drop_of_length_le (by omega)]; exact .nil w)))))
        show RdC w (VPat.mk a0 a1 a2 a3 a4).av.cells cs
        rw [VPat.cells]
        simpa [VPat.Kind, VPat.Name, VPat.Num, VPat.Pos, VPat.Kids] using this
      · show 1 + (VPat.mk a0 a1 a2 a3 a4).wt ≤ _
        rw [VPat.wt_eq]
        simp only [VPat.Kind, VPat.Name, VPat.Num, VPat.Pos, VPat.Kids, bulk, bulkAll, List.map_cons, List.map_nil]
        omega
theorem rd_ExpArm {H : Type} {enc : TypeId × Value → H} (w : World) (f : Nat) : (Rd enc Tryz.prog w f 25 (fun t : VExp => t.av.cells) (fun t => 1 + t.wt) (fun t => t.ok)) ∧ (Rd enc Tryz.prog w f 74 (fun t : VArm => t.av.cells) (fun t => 1 + t.wt) (fun t => t.ok)) := by
  induction f using Nat.strongRecOn with
  | _ f ih =>
    have c3 : Tryz.prog.cellsOf 3 = 1 := by kernel_rfl
    have c9 : Tryz.prog.cellsOf 9 = 1 := by kernel_rfl
    have c22 : Tryz.prog.cellsOf 22 = 1 := by kernel_rfl
    have c23 : Tryz.prog.cellsOf 23 = 1 := by kernel_rfl
    have c25 : Tryz.prog.cellsOf 25 = 7 := by kernel_rfl
    have c72 : Tryz.prog.cellsOf 72 = 5 := by kernel_rfl
    have c74 : Tryz.prog.cellsOf 74 = 12 := by kernel_rfl
    refine ⟨?_, ?_⟩
    · intro cs x h
      obtain ⟨xs, n, rfl, rfl, hl, hlen, hf⟩ := DataW.trod_struct Tryz.underlying25 h
      rw [c25] at hl
      match xs, hlen with
      | [y0, y1, y2, y3, y4, y5, y6], _ =>
        have h0 := fld hf 0 rfl (t := 3) (o := 0) rfl rfl c3
        have h1 := fld hf 1 rfl (t := 9) (o := 1) rfl rfl c9
        have h2 := fld hf 2 rfl (t := 3) (o := 2) rfl rfl c3
        have h3 := fld hf 3 rfl (t := 9) (o := 3) rfl rfl c9
        have h4 := fld hf 4 rfl (t := 3) (o := 4) rfl rfl c3
        have h5 := fld hf 5 rfl (t := 22) (o := 5) rfl rfl c22
        have h6 := fld hf 6 rfl (t := 23) (o := 6) rfl rfl c23
        obtain ⟨a0, r0, w0, k0⟩ := rd_int Tryz.underlying3 _ _ h0
        have w0' : 1 ≤ bulk y0.1 := w0
        obtain ⟨a1, r1, w1, k1⟩ := rd_string Tryz.underlying9 _ _ h1
        have w1' : a1.size + 1 ≤ bulk y1.1 := w1
        obtain ⟨a2, r2, w2, k2⟩ := rd_int Tryz.underlying3 _ _ h2
        have w2' : 1 ≤ bulk y2.1 := w2
        obtain ⟨a3, r3, w3, k3⟩ := rd_string Tryz.underlying9 _ _ h3
        have w3' : a3.size + 1 ≤ bulk y3.1 := w3
        obtain ⟨a4, r4, w4, k4⟩ := rd_int Tryz.underlying3 _ _ h4
        have w4' : 1 ≤ bulk y4.1 := w4
        obtain ⟨a5, r5, w5, k5⟩ := rd_slice (av := VExp.av) Tryz.underlying22 (by rw [c25]; omega) (fun j hj => (ih j (by omega)).1) _ _ h5
        have w5' : (a5.map fun t => 1 + VExp.wt t).sum + 1 ≤ bulk y5.1 := w5
        rw [sum1] at w5'
        obtain ⟨a6, r6, w6, k6⟩ := rd_slice (av := VArm.av) Tryz.underlying23 (by rw [c74]; omega) (fun j hj => (ih j (by omega)).2) _ _ h6
        have w6' : (a6.map fun t => 1 + VArm.wt t).sum + 1 ≤ bulk y6.1 := w6
        rw [sum1] at w6'
        refine ⟨.mk a0 a1 a2 a3 a4 a5 a6, ?_, ?_, (VExp.ok_iff _).2 ⟨inR_of k0, inR_of k2, inR_of k4, k5, k6⟩⟩
        · have := RdC.part 0 1 r0 (RdC.part 1 1 r1 (RdC.part 2 1 r2 (RdC.part 3 1 r3 (RdC.part 4 1 r4 (RdC.part 5 1 r5 (RdC.part 6 1 r6 (bs := []) (by rw [List.drop_of_length_le (by omega)]; exact .nil w)))))))
          show RdC w (VExp.mk a0 a1 a2 a3 a4 a5 a6).av.cells cs
          rw [VExp.cells]
          simpa [VExp.Kind, VExp.Name, VExp.Num, VExp.Text, VExp.Pos, VExp.Kids, VExp.Arms] using this
        · show 1 + (VExp.mk a0 a1 a2 a3 a4 a5 a6).wt ≤ _
          rw [VExp.wt_eq]
          simp only [VExp.Kind, VExp.Name, VExp.Num, VExp.Text, VExp.Pos, VExp.Kids, VExp.Arms, bulk, bulkAll, List.map_cons, List.map_nil]
          omega
    · intro cs x h
      obtain ⟨xs, n, rfl, rfl, hl, hlen, hf⟩ := DataW.trod_struct Tryz.underlying74 h
      rw [c74] at hl
      match xs, hlen with
      | [y0, y1], _ =>
        have h0 := fld hf 0 rfl (t := 72) (o := 0) rfl rfl c72
        have h1 := fld hf 1 rfl (t := 25) (o := 5) rfl rfl c25
        obtain ⟨a0, r0, w0, k0⟩ := rd_Pat w n _ _ h0
        have w0' : 1 + a0.wt ≤ bulk y0.1 := w0
        obtain ⟨a1, r1, w1, k1⟩ := (ih n (by omega)).1 _ _ h1
        have w1' : 1 + a1.wt ≤ bulk y1.1 := w1
        refine ⟨.mk a0 a1, ?_, ?_, (VArm.ok_iff _).2 ⟨k0, k1⟩⟩
        · have := RdC.part 0 5 r0 (RdC.part 5 7 r1 (bs := []) (by rw [List.drop_of_length_le (by omega)]; exact .nil w))
          show RdC w (VArm.mk a0 a1).av.cells cs
          rw [VArm.cells]
          simpa [VArm.P, VArm.E, VPat.cells, VExp.cells] using this
        · show 1 + (VArm.mk a0 a1).wt ≤ _
          rw [VArm.wt_eq]
          simp only [VArm.P, VArm.E, bulk, bulkAll, List.map_cons, List.map_nil]
          omega
theorem rd_Exp {H : Type} {enc : TypeId × Value → H} (w : World) (f : Nat) : Rd enc Tryz.prog w f 25 (fun t : VExp => t.av.cells) (fun t => 1 + t.wt) (fun t => t.ok) := (rd_ExpArm w f).1
theorem rd_TypeExp {H : Type} {enc : TypeId × Value → H} (w : World) (f : Nat) : Rd enc Tryz.prog w f 144 (fun t : VTypeExp => t.av.cells) (fun t => 1 + t.wt) (fun t => t.ok) := by
  induction f using Nat.strongRecOn with
  | _ f ih =>
    have c3 : Tryz.prog.cellsOf 3 = 1 := by kernel_rfl
    have c9 : Tryz.prog.cellsOf 9 = 1 := by kernel_rfl
    have c142 : Tryz.prog.cellsOf 142 = 1 := by kernel_rfl
    have c144 : Tryz.prog.cellsOf 144 = 4 := by kernel_rfl
    intro cs x h
    obtain ⟨xs, n, rfl, rfl, hl, hlen, hf⟩ := DataW.trod_struct Tryz.underlying144 h
    rw [c144] at hl
    match xs, hlen with
    | [y0, y1, y2, y3], _ =>
      have h0 := fld hf 0 rfl (t := 3) (o := 0) rfl rfl c3
      have h1 := fld hf 1 rfl (t := 9) (o := 1) rfl rfl c9
      have h2 := fld hf 2 rfl (t := 3) (o := 2) rfl rfl c3
      have h3 := fld hf 3 rfl (t := 142) (o := 3) rfl rfl c142
      obtain ⟨a0, r0, w0, k0⟩ := rd_int Tryz.underlying3 _ _ h0
      have w0' : 1 ≤ bulk y0.1 := w0
      obtain ⟨a1, r1, w1, k1⟩ := rd_string Tryz.underlying9 _ _ h1
      have w1' : a1.size + 1 ≤ bulk y1.1 := w1
      obtain ⟨a2, r2, w2, k2⟩ := rd_int Tryz.underlying3 _ _ h2
      have w2' : 1 ≤ bulk y2.1 := w2
      obtain ⟨a3, r3, w3, k3⟩ := rd_slice (av := VTypeExp.av) Tryz.underlying142 (by rw [c144]; omega) (fun j hj => (ih j (by omega))) _ _ h3
      have w3' : (a3.map fun t => 1 + VTypeExp.wt t).sum + 1 ≤ bulk y3.1 := w3
      rw [sum1] at w3'
      refine ⟨.mk a0 a1 a2 a3, ?_, ?_, (VTypeExp.ok_iff _).2 ⟨inR_of k0, inR_of k2, k3⟩⟩
      · have := RdC.part 0 1 r0 (RdC.part 1 1 r1 (RdC.part 2 1 r2 (RdC.part 3 1 r3 (bs := []) (by rw [List.drop_of_length_le (by omega)]; exact .nil w))))
        show RdC w (VTypeExp.mk a0 a1 a2 a3).av.cells cs
        rw [VTypeExp.cells]
        simpa [VTypeExp.Kind, VTypeExp.Name, VTypeExp.Pos, VTypeExp.Kids] using this
      · show 1 + (VTypeExp.mk a0 a1 a2 a3).wt ≤ _
        rw [VTypeExp.wt_eq]
        simp only [VTypeExp.Kind, VTypeExp.Name, VTypeExp.Pos, VTypeExp.Kids, bulk, bulkAll, List.map_cons, List.map_nil]
        omega
theorem rd_Ctor {H : Type} {enc : TypeId × Value → H} (w : World) (f : Nat) : Rd enc Tryz.prog w f 146 (fun t : VCtor => t.av.cells) (fun t => 1 + t.wt) (fun t => t.ok) := by
  induction f using Nat.strongRecOn with
  | _ f ih =>
    have c3 : Tryz.prog.cellsOf 3 = 1 := by kernel_rfl
    have c4 : Tryz.prog.cellsOf 4 = 1 := by kernel_rfl
    have c9 : Tryz.prog.cellsOf 9 = 1 := by kernel_rfl
    have c144 : Tryz.prog.cellsOf 144 = 4 := by kernel_rfl
    have c146 : Tryz.prog.cellsOf 146 = 7 := by kernel_rfl
    intro cs x h
    obtain ⟨xs, n, rfl, rfl, hl, hlen, hf⟩ := DataW.trod_struct Tryz.underlying146 h
    rw [c146] at hl
    match xs, hlen with
    | [y0, y1, y2, y3], _ =>
      have h0 := fld hf 0 rfl (t := 9) (o := 0) rfl rfl c9
      have h1 := fld hf 1 rfl (t := 4) (o := 1) rfl rfl c4
      have h2 := fld hf 2 rfl (t := 144) (o := 2) rfl rfl c144
      have h3 := fld hf 3 rfl (t := 3) (o := 6) rfl rfl c3
      obtain ⟨a0, r0, w0, k0⟩ := rd_string Tryz.underlying9 _ _ h0
      have w0' : a0.size + 1 ≤ bulk y0.1 := w0
      obtain ⟨a1, r1, w1, k1⟩ := rd_bool Tryz.underlying4 _ _ h1
      have w1' : 1 ≤ bulk y1.1 := w1
      obtain ⟨a2, r2, w2, k2⟩ := rd_TypeExp w n _ _ h2
      have w2' : 1 + a2.wt ≤ bulk y2.1 := w2
      obtain ⟨a3, r3, w3, k3⟩ := rd_int Tryz.underlying3 _ _ h3
      have w3' : 1 ≤ bulk y3.1 := w3
      refine ⟨.mk a0 a1 a2 a3, ?_, ?_, (VCtor.ok_iff _).2 ⟨k2, inR_of k3⟩⟩
      · have := RdC.part 0 1 r0 (RdC.part 1 1 r1 (RdC.part 2 4 r2 (RdC.part 6 1 r3 (bs := []) (by rw [List.drop_of_length_le (by omega)]; exact .nil w))))
        show RdC w (VCtor.mk a0 a1 a2 a3).av.cells cs
        rw [VCtor.cells]
        simpa [VCtor.Name, VCtor.Has, VCtor.Arg, VCtor.Pos, VTypeExp.cells] using this
      · show 1 + (VCtor.mk a0 a1 a2 a3).wt ≤ _
        rw [VCtor.wt_eq]
        simp only [VCtor.Name, VCtor.Has, VCtor.Arg, VCtor.Pos, bulk, bulkAll, List.map_cons, List.map_nil]
        omega
theorem rd_Data {H : Type} {enc : TypeId × Value → H} (w : World) (f : Nat) : Rd enc Tryz.prog w f 93 (fun t : VData => t.av.cells) (fun t => 1 + t.wt) (fun t => t.ok) := by
  induction f using Nat.strongRecOn with
  | _ f ih =>
    have c3 : Tryz.prog.cellsOf 3 = 1 := by kernel_rfl
    have c9 : Tryz.prog.cellsOf 9 = 1 := by kernel_rfl
    have c56 : Tryz.prog.cellsOf 56 = 1 := by kernel_rfl
    have c91 : Tryz.prog.cellsOf 91 = 1 := by kernel_rfl
    have c93 : Tryz.prog.cellsOf 93 = 4 := by kernel_rfl
    have c146 : Tryz.prog.cellsOf 146 = 7 := by kernel_rfl
    intro cs x h
    obtain ⟨xs, n, rfl, rfl, hl, hlen, hf⟩ := DataW.trod_struct Tryz.underlying93 h
    rw [c93] at hl
    match xs, hlen with
    | [y0, y1, y2, y3], _ =>
      have h0 := fld hf 0 rfl (t := 9) (o := 0) rfl rfl c9
      have h1 := fld hf 1 rfl (t := 56) (o := 1) rfl rfl c56
      have h2 := fld hf 2 rfl (t := 91) (o := 2) rfl rfl c91
      have h3 := fld hf 3 rfl (t := 3) (o := 3) rfl rfl c3
      obtain ⟨a0, r0, w0, k0⟩ := rd_string Tryz.underlying9 _ _ h0
      have w0' : a0.size + 1 ≤ bulk y0.1 := w0
      obtain ⟨a1, r1, w1, k1⟩ := rd_slice (av := fun y => .v (.string y)) Tryz.underlying56 (by rw [c9]; omega) (fun _ _ => rd_string Tryz.underlying9) _ _ h1
      have w1' : (a1.map fun t : ByteArray => t.size + 1).sum + 1 ≤ bulk y1.1 := w1
      rw [sum2] at w1'
      obtain ⟨a2, r2, w2, k2⟩ := rd_slice (av := VCtor.av) Tryz.underlying91 (by rw [c146]; omega) (fun j _ => rd_Ctor w j) _ _ h2
      have w2' : (a2.map fun t => 1 + VCtor.wt t).sum + 1 ≤ bulk y2.1 := w2
      rw [sum1] at w2'
      obtain ⟨a3, r3, w3, k3⟩ := rd_int Tryz.underlying3 _ _ h3
      have w3' : 1 ≤ bulk y3.1 := w3
      refine ⟨.mk a0 a1 a2 a3, ?_, ?_, (VData.ok_iff _).2 ⟨k2, inR_of k3⟩⟩
      · have := RdC.part 0 1 r0 (RdC.part 1 1 r1 (RdC.part 2 1 r2 (RdC.part 3 1 r3 (bs := []) (by rw [List.drop_of_length_le (by omega)]; exact .nil w))))
        show RdC w (VData.mk a0 a1 a2 a3).av.cells cs
        rw [VData.cells]
        simpa [VData.Name, VData.Vars, VData.Ctors, VData.Pos] using this
      · show 1 + (VData.mk a0 a1 a2 a3).wt ≤ _
        rw [VData.wt_eq]
        simp only [VData.Name, VData.Vars, VData.Ctors, VData.Pos, bulk, bulkAll, List.map_cons, List.map_nil]
        omega
theorem rd_Prog {H : Type} {enc : TypeId × Value → H} (w : World) (f : Nat) : Rd enc Tryz.prog w f 37 (fun t : VProg => t.av.cells) (fun t => 1 + t.wt) (fun t => t.ok) := by
  induction f using Nat.strongRecOn with
  | _ f ih =>
    have c25 : Tryz.prog.cellsOf 25 = 7 := by kernel_rfl
    have c35 : Tryz.prog.cellsOf 35 = 1 := by kernel_rfl
    have c37 : Tryz.prog.cellsOf 37 = 8 := by kernel_rfl
    have c93 : Tryz.prog.cellsOf 93 = 4 := by kernel_rfl
    intro cs x h
    obtain ⟨xs, n, rfl, rfl, hl, hlen, hf⟩ := DataW.trod_struct Tryz.underlying37 h
    rw [c37] at hl
    match xs, hlen with
    | [y0, y1], _ =>
      have h0 := fld hf 0 rfl (t := 35) (o := 0) rfl rfl c35
      have h1 := fld hf 1 rfl (t := 25) (o := 1) rfl rfl c25
      obtain ⟨a0, r0, w0, k0⟩ := rd_slice (av := VData.av) Tryz.underlying35 (by rw [c93]; omega) (fun j _ => rd_Data w j) _ _ h0
      have w0' : (a0.map fun t => 1 + VData.wt t).sum + 1 ≤ bulk y0.1 := w0
      rw [sum1] at w0'
      obtain ⟨a1, r1, w1, k1⟩ := rd_Exp w n _ _ h1
      have w1' : 1 + a1.wt ≤ bulk y1.1 := w1
      refine ⟨.mk a0 a1, ?_, ?_, (VProg.ok_iff _).2 ⟨k0, k1⟩⟩
      · have := RdC.part 0 1 r0 (RdC.part 1 7 r1 (bs := []) (by rw [List.drop_of_length_le (by omega)]; exact .nil w))
        show RdC w (VProg.mk a0 a1).av.cells cs
        rw [VProg.cells]
        simpa [VProg.Types, VProg.Body, VExp.cells] using this
      · show 1 + (VProg.mk a0 a1).wt ≤ _
        rw [VProg.wt_eq]
        simp only [VProg.Types, VProg.Body, bulk, bulkAll, List.map_cons, List.map_nil]
        omega
end Go.Proofs.YtiakemdoealcoaaGreatDoor
