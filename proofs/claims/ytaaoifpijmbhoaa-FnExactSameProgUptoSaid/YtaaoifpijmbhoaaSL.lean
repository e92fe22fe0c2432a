/-
  THE FUNCTIONS OF PACKAGE slices that are reached (printed by wip/tool/slib.py).
-/
import Derived.Test.YtaaoifpijmbhoaaST
import Derived.Test.YtaaoifpijmbhoaaGM

set_option linter.unusedVariables false
set_option linter.unusedSimpArgs false
set_option linter.defProp false

namespace Go.Proofs.Ab
open Go.Ab
set_option maxRecDepth 100000

theorem idxF_Instr (l : List VInstr) (g : FuncId) (caps : List AV) (p : VInstr → Bool) (hl : l.length ≤ 1073741824) (hcaps : AV.norefs caps = true) (hc : ∀ x ∈ l, PCon Try.prog g (VInstr.av x :: caps) (.v (.bool (p x)))) : PCon Try.prog F.slices_IndexFunc__impl_Instr_impl_Instr [.sl (l.map VInstr.av), .fn g caps] (.v (.int .i64 (idxR p l 0))) :=
  T.slices_IndexFunc__impl_Instr_impl_Instr_con rfl (by simp [AV.norefs, AV.noref, (norefsM (f := VInstr.av) (l := l) VInstr.noref), hcaps]) (idxF_T p VInstr.shape hl hc)
theorem idxF_Data (l : List VData) (g : FuncId) (caps : List AV) (p : VData → Bool) (hl : l.length ≤ 1073741824) (hcaps : AV.norefs caps = true) (hc : ∀ x ∈ l, PCon Try.prog g (VData.av x :: caps) (.v (.bool (p x)))) : PCon Try.prog F.slices_IndexFunc__impl_Data_impl_Data [.sl (l.map VData.av), .fn g caps] (.v (.int .i64 (idxR p l 0))) :=
  T.slices_IndexFunc__impl_Data_impl_Data_con rfl (by simp [AV.norefs, AV.noref, (norefsM (f := VData.av) (l := l) VData.noref), hcaps]) (idxF_T p VData.shape hl hc)
theorem idxF_Pat (l : List VPat) (g : FuncId) (caps : List AV) (p : VPat → Bool) (hl : l.length ≤ 1073741824) (hcaps : AV.norefs caps = true) (hc : ∀ x ∈ l, PCon Try.prog g (VPat.av x :: caps) (.v (.bool (p x)))) : PCon Try.prog F.slices_IndexFunc__impl_Pat_impl_Pat [.sl (l.map VPat.av), .fn g caps] (.v (.int .i64 (idxR p l 0))) :=
  T.slices_IndexFunc__impl_Pat_impl_Pat_con rfl (by simp [AV.norefs, AV.noref, (norefsM (f := VPat.av) (l := l) VPat.noref), hcaps]) (idxF_T p VPat.shape hl hc)
theorem idxE_string (l : List ByteArray) (s) (hl : l.length ≤ 1073741824) : PCon Try.prog F.slices_Index__string_string [.sl (l.map avB), avB s] (.v (.int .i64 (idxR (fun y => decide (s = y)) l 0))) :=
  T.slices_Index__string_string_con rfl (by simp [AV.norefs, AV.noref, (norefsM (f := avB) (l := l) fun _ => rfl)]) (idxE_T (g := fun y => .string y) (fun x y K h => eqlS x y K h) (by omega))
theorem idxF_TypeExp (l : List VTypeExp) (g : FuncId) (caps : List AV) (p : VTypeExp → Bool) (hl : l.length ≤ 1073741824) (hcaps : AV.norefs caps = true) (hc : ∀ x ∈ l, PCon Try.prog g (VTypeExp.av x :: caps) (.v (.bool (p x)))) : PCon Try.prog F.slices_IndexFunc__impl_TypeExp_impl_TypeExp [.sl (l.map VTypeExp.av), .fn g caps] (.v (.int .i64 (idxR p l 0))) :=
  T.slices_IndexFunc__impl_TypeExp_impl_TypeExp_con rfl (by simp [AV.norefs, AV.noref, (norefsM (f := VTypeExp.av) (l := l) VTypeExp.noref), hcaps]) (idxF_T p VTypeExp.shape hl hc)
theorem anyF_Instr (l : List VInstr) (g : FuncId) (caps : List AV) (p : VInstr → Bool) (hl : l.length ≤ 1073741824) (hcaps : AV.norefs caps = true) (hc : ∀ x ∈ l, PCon Try.prog g (VInstr.av x :: caps) (.v (.bool (p x)))) : PCon Try.prog F.slices_ContainsFunc__impl_Instr_impl_Instr [.sl (l.map VInstr.av), .fn g caps] (.v (.bool (l.any p))) :=
  T.slices_ContainsFunc__impl_Instr_impl_Instr_con rfl (by simp [AV.norefs, AV.noref, (norefsM (f := VInstr.av) (l := l) VInstr.noref), hcaps]) (anyF_T (idxF_Instr l g caps p hl hcaps hc))
theorem eqF_Ctor (l m : List VCtor) (g : FuncId) (caps : List AV) (p : VCtor → VCtor → Bool) (hl : l.length ≤ 1073741824) (hcaps : AV.norefs caps = true) (hc : ∀ x ∈ l, ∀ y ∈ m, PCon Try.prog g (VCtor.av x :: VCtor.av y :: caps) (.v (.bool (p x y)))) : PCon Try.prog F.slices_EqualFunc__impl_Ctor__impl_Ctor_impl_Ctor_impl_Ctor [.sl (l.map VCtor.av), .sl (m.map VCtor.av), .fn g caps] (.v (.bool (all2 p l m))) :=
  T.slices_EqualFunc__impl_Ctor__impl_Ctor_impl_Ctor_impl_Ctor_con rfl (by simp [AV.norefs, AV.noref, (norefsM (f := VCtor.av) (l := l) VCtor.noref), (norefsM (f := VCtor.av) (l := m) VCtor.noref), hcaps]) (eqF_T p VCtor.shape hl hc)
theorem eqF_Data (l m : List VData) (g : FuncId) (caps : List AV) (p : VData → VData → Bool) (hl : l.length ≤ 1073741824) (hcaps : AV.norefs caps = true) (hc : ∀ x ∈ l, ∀ y ∈ m, PCon Try.prog g (VData.av x :: VData.av y :: caps) (.v (.bool (p x y)))) : PCon Try.prog F.slices_EqualFunc__impl_Data__impl_Data_impl_Data_impl_Data [.sl (l.map VData.av), .sl (m.map VData.av), .fn g caps] (.v (.bool (all2 p l m))) :=
  T.slices_EqualFunc__impl_Data__impl_Data_impl_Data_impl_Data_con rfl (by simp [AV.norefs, AV.noref, (norefsM (f := VData.av) (l := l) VData.noref), (norefsM (f := VData.av) (l := m) VData.noref), hcaps]) (eqF_T p VData.shape hl hc)
theorem anyF_Data (l : List VData) (g : FuncId) (caps : List AV) (p : VData → Bool) (hl : l.length ≤ 1073741824) (hcaps : AV.norefs caps = true) (hc : ∀ x ∈ l, PCon Try.prog g (VData.av x :: caps) (.v (.bool (p x)))) : PCon Try.prog F.slices_ContainsFunc__impl_Data_impl_Data [.sl (l.map VData.av), .fn g caps] (.v (.bool (l.any p))) :=
  T.slices_ContainsFunc__impl_Data_impl_Data_con rfl (by simp [AV.norefs, AV.noref, (norefsM (f := VData.av) (l := l) VData.noref), hcaps]) (anyF_T (idxF_Data l g caps p hl hcaps hc))
theorem anyF_Pat (l : List VPat) (g : FuncId) (caps : List AV) (p : VPat → Bool) (hl : l.length ≤ 1073741824) (hcaps : AV.norefs caps = true) (hc : ∀ x ∈ l, PCon Try.prog g (VPat.av x :: caps) (.v (.bool (p x)))) : PCon Try.prog F.slices_ContainsFunc__impl_Pat_impl_Pat [.sl (l.map VPat.av), .fn g caps] (.v (.bool (l.any p))) :=
  T.slices_ContainsFunc__impl_Pat_impl_Pat_con rfl (by simp [AV.norefs, AV.noref, (norefsM (f := VPat.av) (l := l) VPat.noref), hcaps]) (anyF_T (idxF_Pat l g caps p hl hcaps hc))
theorem eqF_TypeExp (l m : List VTypeExp) (g : FuncId) (caps : List AV) (p : VTypeExp → VTypeExp → Bool) (hl : l.length ≤ 1073741824) (hcaps : AV.norefs caps = true) (hc : ∀ x ∈ l, ∀ y ∈ m, PCon Try.prog g (VTypeExp.av x :: VTypeExp.av y :: caps) (.v (.bool (p x y)))) : PCon Try.prog F.slices_EqualFunc__impl_TypeExp__impl_TypeExp_impl_TypeExp_impl_TypeExp [.sl (l.map VTypeExp.av), .sl (m.map VTypeExp.av), .fn g caps] (.v (.bool (all2 p l m))) :=
  T.slices_EqualFunc__impl_TypeExp__impl_TypeExp_impl_TypeExp_impl_TypeExp_con rfl (by simp [AV.norefs, AV.noref, (norefsM (f := VTypeExp.av) (l := l) VTypeExp.noref), (norefsM (f := VTypeExp.av) (l := m) VTypeExp.noref), hcaps]) (eqF_T p VTypeExp.shape hl hc)
theorem eqF_Exp (l m : List VExp) (g : FuncId) (caps : List AV) (p : VExp → VExp → Bool) (hl : l.length ≤ 1073741824) (hcaps : AV.norefs caps = true) (hc : ∀ x ∈ l, ∀ y ∈ m, PCon Try.prog g (VExp.av x :: VExp.av y :: caps) (.v (.bool (p x y)))) : PCon Try.prog F.slices_EqualFunc__impl_Exp__impl_Exp_impl_Exp_impl_Exp [.sl (l.map VExp.av), .sl (m.map VExp.av), .fn g caps] (.v (.bool (all2 p l m))) :=
  T.slices_EqualFunc__impl_Exp__impl_Exp_impl_Exp_impl_Exp_con rfl (by simp [AV.norefs, AV.noref, (norefsM (f := VExp.av) (l := l) VExp.noref), (norefsM (f := VExp.av) (l := m) VExp.noref), hcaps]) (eqF_T p VExp.shape hl hc)
theorem eqF_Arm (l m : List VArm) (g : FuncId) (caps : List AV) (p : VArm → VArm → Bool) (hl : l.length ≤ 1073741824) (hcaps : AV.norefs caps = true) (hc : ∀ x ∈ l, ∀ y ∈ m, PCon Try.prog g (VArm.av x :: VArm.av y :: caps) (.v (.bool (p x y)))) : PCon Try.prog F.slices_EqualFunc__impl_Arm__impl_Arm_impl_Arm_impl_Arm [.sl (l.map VArm.av), .sl (m.map VArm.av), .fn g caps] (.v (.bool (all2 p l m))) :=
  T.slices_EqualFunc__impl_Arm__impl_Arm_impl_Arm_impl_Arm_con rfl (by simp [AV.norefs, AV.noref, (norefsM (f := VArm.av) (l := l) VArm.noref), (norefsM (f := VArm.av) (l := m) VArm.noref), hcaps]) (eqF_T p VArm.shape hl hc)
theorem contE_string (l : List ByteArray) (s) (hl : l.length ≤ 1073741824) : PCon Try.prog F.slices_Contains__string_string [.sl (l.map avB), avB s] (.v (.bool (l.any fun y => decide (s = y)))) :=
  T.slices_Contains__string_string_con rfl (by simp [AV.norefs, AV.noref, (norefsM (f := avB) (l := l) fun _ => rfl)]) (anyF_T (idxE_string l s hl))
theorem eqF_Pat (l m : List VPat) (g : FuncId) (caps : List AV) (p : VPat → VPat → Bool) (hl : l.length ≤ 1073741824) (hcaps : AV.norefs caps = true) (hc : ∀ x ∈ l, ∀ y ∈ m, PCon Try.prog g (VPat.av x :: VPat.av y :: caps) (.v (.bool (p x y)))) : PCon Try.prog F.slices_EqualFunc__impl_Pat__impl_Pat_impl_Pat_impl_Pat [.sl (l.map VPat.av), .sl (m.map VPat.av), .fn g caps] (.v (.bool (all2 p l m))) :=
  T.slices_EqualFunc__impl_Pat__impl_Pat_impl_Pat_impl_Pat_con rfl (by simp [AV.norefs, AV.noref, (norefsM (f := VPat.av) (l := l) VPat.noref), (norefsM (f := VPat.av) (l := m) VPat.noref), hcaps]) (eqF_T p VPat.shape hl hc)
theorem anyF_TypeExp (l : List VTypeExp) (g : FuncId) (caps : List AV) (p : VTypeExp → Bool) (hl : l.length ≤ 1073741824) (hcaps : AV.norefs caps = true) (hc : ∀ x ∈ l, PCon Try.prog g (VTypeExp.av x :: caps) (.v (.bool (p x)))) : PCon Try.prog F.slices_ContainsFunc__impl_TypeExp_impl_TypeExp [.sl (l.map VTypeExp.av), .fn g caps] (.v (.bool (l.any p))) :=
  T.slices_ContainsFunc__impl_TypeExp_impl_TypeExp_con rfl (by simp [AV.norefs, AV.noref, (norefsM (f := VTypeExp.av) (l := l) VTypeExp.noref), hcaps]) (anyF_T (idxF_TypeExp l g caps p hl hcaps hc))
end Go.Proofs.Ab
