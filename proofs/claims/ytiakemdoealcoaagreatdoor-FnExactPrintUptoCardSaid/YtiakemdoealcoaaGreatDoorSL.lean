/-
  THE FUNCTIONS OF PACKAGE slices that are reached (printed by wip/tool/slib.py).
-/
import Derived.Test.YtiakemdoealcoaaGreatDoorST
import Derived.Test.YtiakemdoealcoaaGreatDoorGM
set_option linter.unusedVariables false
set_option linter.unusedSimpArgs false
set_option linter.defProp false
namespace Go.Proofs.Ab
open Go.Ab
set_option maxRecDepth 100000
theorem idxF_Data (l : List VData) (g : FuncId) (caps : List AV) (p : VData → Bool) (hl : l.length ≤ 1073741824) (hcaps : AV.norefs caps = true) (hc : ∀ x ∈ l, PCon Tryz.prog g (VData.av x :: caps) (.v (.bool (p x)))) : PCon Tryz.prog F.slices_IndexFunc__impl_Data_impl_Data [.sl (l.map VData.av), .fn g caps] (.v (.int .i64 (idxR p l 0))) :=
  T.slices_IndexFunc__impl_Data_impl_Data_con rfl (by simp [AV.norefs, AV.noref, (norefsM (f := VData.av) (l := l) VData.noref), hcaps]) (idxF_T p VData.shape hl hc)
theorem idxF_Pat (l : List VPat) (g : FuncId) (caps : List AV) (p : VPat → Bool) (hl : l.length ≤ 1073741824) (hcaps : AV.norefs caps = true) (hc : ∀ x ∈ l, PCon Tryz.prog g (VPat.av x :: caps) (.v (.bool (p x)))) : PCon Tryz.prog F.slices_IndexFunc__impl_Pat_impl_Pat [.sl (l.map VPat.av), .fn g caps] (.v (.int .i64 (idxR p l 0))) :=
  T.slices_IndexFunc__impl_Pat_impl_Pat_con rfl (by simp [AV.norefs, AV.noref, (norefsM (f := VPat.av) (l := l) VPat.noref), hcaps]) (idxF_T p VPat.shape hl hc)
theorem idxE_string (l : List ByteArray) (s) (hl : l.length ≤ 1073741824) : PCon Tryz.prog F.slices_Index__string_string [.sl (l.map avB), avB s] (.v (.int .i64 (idxR (fun y => decide (s = y)) l 0))) :=
  T.slices_Index__string_string_con rfl (by simp [AV.norefs, AV.noref, (norefsM (f := avB) (l := l) fun _ => rfl)]) (idxE_T (g := fun y => .string y) (fun x y K h => eqlS x y K h) (by omega))
theorem idxF_TypeExp (l : List VTypeExp) (g : FuncId) (caps : List AV) (p : VTypeExp → Bool) (hl : l.length ≤ 1073741824) (hcaps : AV.norefs caps = true) (hc : ∀ x ∈ l, PCon Tryz.prog g (VTypeExp.av x :: caps) (.v (.bool (p x)))) : PCon Tryz.prog F.slices_IndexFunc__impl_TypeExp_impl_TypeExp [.sl (l.map VTypeExp.av), .fn g caps] (.v (.int .i64 (idxR p l 0))) :=
  T.slices_IndexFunc__impl_TypeExp_impl_TypeExp_con rfl (by simp [AV.norefs, AV.noref, (norefsM (f := VTypeExp.av) (l := l) VTypeExp.noref), hcaps]) (idxF_T p VTypeExp.shape hl hc)
theorem anyF_Data (l : List VData) (g : FuncId) (caps : List AV) (p : VData → Bool) (hl : l.length ≤ 1073741824) (hcaps : AV.norefs caps = true) (hc : ∀ x ∈ l, PCon Tryz.prog g (VData.av x :: caps) (.v (.bool (p x)))) : PCon Tryz.prog F.slices_ContainsFunc__impl_Data_impl_Data [.sl (l.map VData.av), .fn g caps] (.v (.bool (l.any p))) :=
  T.slices_ContainsFunc__impl_Data_impl_Data_con rfl (by simp [AV.norefs, AV.noref, (norefsM (f := VData.av) (l := l) VData.noref), hcaps]) (anyF_T (idxF_Data l g caps p hl hcaps hc))
theorem anyF_Pat (l : List VPat) (g : FuncId) (caps : List AV) (p : VPat → Bool) (hl : l.length ≤ 1073741824) (hcaps : AV.norefs caps = true) (hc : ∀ x ∈ l, PCon Tryz.prog g (VPat.av x :: caps) (.v (.bool (p x)))) : PCon Tryz.prog F.slices_ContainsFunc__impl_Pat_impl_Pat [.sl (l.map VPat.av), .fn g caps] (.v (.bool (l.any p))) :=
  T.slices_ContainsFunc__impl_Pat_impl_Pat_con rfl (by simp [AV.norefs, AV.noref, (norefsM (f := VPat.av) (l := l) VPat.noref), hcaps]) (anyF_T (idxF_Pat l g caps p hl hcaps hc))
theorem contE_string (l : List ByteArray) (s) (hl : l.length ≤ 1073741824) : PCon Tryz.prog F.slices_Contains__string_string [.sl (l.map avB), avB s] (.v (.bool (l.any fun y => decide (s = y)))) :=
  T.slices_Contains__string_string_con rfl (by simp [AV.norefs, AV.noref, (norefsM (f := avB) (l := l) fun _ => rfl)]) (anyF_T (idxE_string l s hl))
theorem anyF_TypeExp (l : List VTypeExp) (g : FuncId) (caps : List AV) (p : VTypeExp → Bool) (hl : l.length ≤ 1073741824) (hcaps : AV.norefs caps = true) (hc : ∀ x ∈ l, PCon Tryz.prog g (VTypeExp.av x :: caps) (.v (.bool (p x)))) : PCon Tryz.prog F.slices_ContainsFunc__impl_TypeExp_impl_TypeExp [.sl (l.map VTypeExp.av), .fn g caps] (.v (.bool (l.any p))) :=
  T.slices_ContainsFunc__impl_TypeExp_impl_TypeExp_con rfl (by simp [AV.norefs, AV.noref, (norefsM (f := VTypeExp.av) (l := l) VTypeExp.noref), hcaps]) (anyF_T (idxF_TypeExp l g caps p hl hcaps hc))
end Go.Proofs.Ab
