/-
  THE FUNCTIONS OF PACKAGE slices that are reached (printed by wip/tool/slib.py).
-/
import Derived.Test.YtfebhekplhjigaaST
import Derived.Test.YtfebhekplhjigaaGM
set_option linter.unusedVariables false
set_option linter.unusedSimpArgs false
namespace Go.Proofs.Ab
open Go.Ab
set_option maxRecDepth 100000
theorem arH(l:List ad)(g:FuncId)(aV:List AV)(p:ad->Bool)(hl:l.length<=1073741824)(akw:AV.ae aV=true)(hc:∀x∈l,a7 Try.prog g (ad.av x::aV) (.v (.bool (p x)))):a7 Try.prog F.bf [.sl (l.map ad.av),.fn g aV] (.v (.int .i64 (oe p l 0))):=
 T.iH rfl (by simp[AV.ae,AV.ag,(bt (f:=ad.av) (l:=l) ad.ag),akw]) (auN p ad.shape hl hc)
theorem aoD(l:List Int)(s)(hl:l.length<=1073741824):a7 Try.prog F.cB [.sl (l.map aO),aO s] (.v (.int .i64 (oe (λ y=>decide (s=y)) l 0))):=
 T.oU rfl (by simp[AV.ae,AV.ag,(bt (f:=aO) (l:=l) λ _=>rfl)]) (aoE (g:=λ y=> .int .i64 y) (λ x y K h=>aCD _ x y K h) (by omega))
theorem ahc(l:List ByteArray)(s)(hl:l.length<=1073741824):a7 Try.prog F.bM [.sl (l.map cv),cv s] (.v (.int .i64 (oe (λ y=>decide (s=y)) l 0))):=
 T.kP rfl (by simp[AV.ae,AV.ag,(bt (f:=cv) (l:=l) λ _=>rfl)]) (aoE (g:=λ y=> .string y) (λ x y K h=>aCC x y K h) (by omega))
theorem asy(l:List ad)(g:FuncId)(aV:List AV)(p:ad->Bool)(hl:l.length<=1073741824)(akw:AV.ae aV=true)(hc:∀x∈l,a7 Try.prog g (ad.av x::aV) (.v (.bool (p x)))):a7 Try.prog F.a8 [.sl (l.map ad.av),.fn g aV] (.v (.bool (l.any p))):=
 T.gG rfl (by simp[AV.ae,AV.ag,(bt (f:=ad.av) (l:=l) ad.ag),akw]) (ajB (arH l g aV p hl akw hc))
theorem amm(l:List Int)(s)(hl:l.length<=1073741824):a7 Try.prog F.bY [.sl (l.map aO),aO s] (.v (.bool (l.any λ y=>decide (s=y)))):=
 T.mC rfl (by simp[AV.ae,AV.ag,(bt (f:=aO) (l:=l) λ _=>rfl)]) (ajB (aoD l s hl))
theorem afG(l:List ByteArray)(s)(hl:l.length<=1073741824):a7 Try.prog F.bq [.sl (l.map cv),cv s] (.v (.bool (l.any λ y=>decide (s=y)))):=
 T.jx rfl (by simp[AV.ae,AV.ag,(bt (f:=cv) (l:=l) λ _=>rfl)]) (ajB (ahc l s hl))
end Go.Proofs.Ab
