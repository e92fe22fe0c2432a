/-
  THE FUNCTIONS OF PACKAGE slices that are reached (printed by wip/tool/slib.py).
-/
import Derived.Test.YtkinchcjijhmgaaGreatDoorST
import Derived.Test.YtkinchcjijhmgaaGreatDoorGM
set_option linter.unusedVariables false
set_option linter.unusedSimpArgs false
namespace Go.Proofs.Ab
open Go.Ab
set_option maxRecDepth 100000
theorem afE(l:List aa)(g:FuncId)(aX:List AV)(p:aa->Bool)(hl:l.length<=1073741824)(so:AV.ad aX=true)(hc:∀x∈l,aI Tryz.prog g (aa.av x::aX) (.v (.bool (p x)))):aI Tryz.prog F.a7 [.sl (l.map aa.av),.fn g aX] (.v (.int .i64 (lr p l 0))):=
 T.fR rfl (by simp[AV.ad,AV.ag,(bu (f:=aa.av) (l:=l) aa.ag),so]) (arJ p aa.shape hl hc)
theorem agd(l:List aa)(g:FuncId)(aX:List AV)(p:aa->Bool)(hl:l.length<=1073741824)(so:AV.ad aX=true)(hc:∀x∈l,aI Tryz.prog g (aa.av x::aX) (.v (.bool (p x)))):aI Tryz.prog F.aV [.sl (l.map aa.av),.fn g aX] (.v (.bool (l.any p))):=
 T.fh rfl (by simp[AV.ad,AV.ag,(bu (f:=aa.av) (l:=l) aa.ag),so]) (amT (afE l g aX p hl so hc))
end Go.Proofs.Ab
