/-
  THE FUNCTIONS OF PACKAGE slices that are reached (printed by wip/tool/slib.py).
-/
import Derived.Test.YtfebhekplhjigaaST
import Derived.Test.YtfebhekplhjigaaGM
set_option linter.unusedSimpArgs false
set_option linter.unusedVariables false
namespace Go.Proofs.Ab
open Go.Ab
set_option maxRecDepth 100000
theorem arx(l:List aa)(g:FuncId)(aX:List AV)(p:aa->Bool)(hl:l.length<=1073741824)(ab6:AV.ae aX=true)(hc:∀x∈l,a7 Try.prog g (aa.av x::aX) (.v (.bool (p x)))):a7 Try.prog F.bp [.sl (l.map aa.av),.fn g aX] (.v (.int .i64 (mW p l 0))):=
 T.iz rfl (by simp[AV.ae,AV.ag,(bA (f:=aa.av) (l:=l) aa.ag),ab6]) (auW p aa.shape hl hc)
theorem anX(l:List Int)(s)(hl:l.length<=1073741824):a7 Try.prog F.cQ [.sl (l.map au),au s] (.v (.int .i64 (mW (λ y=>decide (s=y)) l 0))):=
 T.nf rfl (by simp[AV.ae,AV.ag,(bA (f:=au) (l:=l) λ _=>rfl)]) (anY (g:=λ y=> .int .i64 y) (λ x y K h=>aCW _ x y K h) (by omega))
theorem afw(l:List ByteArray)(s)(hl:l.length<=1073741824):a7 Try.prog F.b6 [.sl (l.map bZ),bZ s] (.v (.int .i64 (mW (λ y=>decide (s=y)) l 0))):=
 T.kj rfl (by simp[AV.ae,AV.ag,(bA (f:=bZ) (l:=l) λ _=>rfl)]) (anY (g:=λ y=> .string y) (λ x y K h=>aCV x y K h) (by omega))
theorem avY(l m:List aa)(g:FuncId)(aX:List AV)(p:aa->aa->Bool)(hl:l.length<=1073741824)(ab6:AV.ae aX=true)(hc:∀x∈l,∀y∈m,a7 Try.prog g (aa.av x::aa.av y::aX) (.v (.bool (p x y)))):a7 Try.prog F.aJ [.sl (l.map aa.av),.sl (m.map aa.av),.fn g aX] (.v (.bool (oE p l m))):=
 T.eg rfl (by simp[AV.ae,AV.ag,(bA (f:=aa.av) (l:=l) aa.ag),(bA (f:=aa.av) (l:=m) aa.ag),ab6]) (azy p aa.shape hl hc)
theorem asq(l:List aa)(g:FuncId)(aX:List AV)(p:aa->Bool)(hl:l.length<=1073741824)(ab6:AV.ae aX=true)(hc:∀x∈l,a7 Try.prog g (aa.av x::aX) (.v (.bool (p x)))):a7 Try.prog F.bg [.sl (l.map aa.av),.fn g aX] (.v (.bool (l.any p))):=
 T.gV rfl (by simp[AV.ae,AV.ag,(bA (f:=aa.av) (l:=l) aa.ag),ab6]) (aiG (arx l g aX p hl ab6 hc))
theorem alo(l:List Int)(s)(hl:l.length<=1073741824):a7 Try.prog F.cn [.sl (l.map au),au s] (.v (.bool (l.any λ y=>decide (s=y)))):=
 T.lz rfl (by simp[AV.ae,AV.ag,(bA (f:=au) (l:=l) λ _=>rfl)]) (aiG (anX l s hl))
theorem ad2(l:List ByteArray)(s)(hl:l.length<=1073741824):a7 Try.prog F.bG [.sl (l.map bZ),bZ s] (.v (.bool (l.any λ y=>decide (s=y)))):=
 T.jj rfl (by simp[AV.ae,AV.ag,(bA (f:=bZ) (l:=l) λ _=>rfl)]) (aiG (afw l s hl))
end Go.Proofs.Ab
