/-
  THE FUNCTIONS OF PACKAGE slices that are reached (printed by wip/tool/slib.py).
-/
import Derived.Test.YtfebhekplhjigaaST
import Derived.Test.YtfebhekplhjigaaGM
set_option linter.unusedVariables false
set_option linter.unusedSimpArgs false
namespace Go.Proofs.Ab
open Go.Ab
set_option maxRecDepth 100000
theorem apB(l:List aa)(g:FuncId)(a6:List AV)(p:aa->Bool)(hl:l.length<=1073741824)(aaC:AV.ad a6=true)(hc:∀x∈l,a7 Try.prog g (aa.av x::a6) (.v (.bool (p x)))):a7 Try.prog F.br [.sl (l.map aa.av),.fn g a6] (.v (.int .i64 (mc p l 0))):=
 T.hT rfl (by simp[AV.ad,AV.ag,(bH (f:=aa.av) (l:=l) aa.ag),aaC]) (asX p aa.shape hl hc)
theorem al3(l:List Int)(s)(hl:l.length<=1073741824):a7 Try.prog F.cV [.sl (l.map aA),aA s] (.v (.int .i64 (mc (λ y=>decide (s=y)) l 0))):=
 T.mu rfl (by simp[AV.ad,AV.ag,(bH (f:=aA) (l:=l) λ _=>rfl)]) (al4 (g:=λ y=> .int .i64 y) (λ x y K h=>aAM _ x y K h) (by omega))
theorem adO(l:List ByteArray)(s)(hl:l.length<=1073741824):a7 Try.prog F.b9 [.sl (l.map ch),ch s] (.v (.int .i64 (mc (λ y=>decide (s=y)) l 0))):=
 T.jM rfl (by simp[AV.ad,AV.ag,(bH (f:=ch) (l:=l) λ _=>rfl)]) (al4 (g:=λ y=> .string y) (λ x y K h=>aAL x y K h) (by omega))
theorem atX(l m:List aa)(g:FuncId)(a6:List AV)(p:aa->aa->Bool)(hl:l.length<=1073741824)(aaC:AV.ad a6=true)(hc:∀x∈l,∀y∈m,a7 Try.prog g (aa.av x::aa.av y::a6) (.v (.bool (p x y)))):a7 Try.prog F.aM [.sl (l.map aa.av),.sl (m.map aa.av),.fn g a6] (.v (.bool (kX p l m))):=
 T.ec rfl (by simp[AV.ad,AV.ag,(bH (f:=aa.av) (l:=l) aa.ag),(bH (f:=aa.av) (l:=m) aa.ag),aaC]) (axC p aa.shape hl hc)
theorem aqo(l:List aa)(g:FuncId)(a6:List AV)(p:aa->Bool)(hl:l.length<=1073741824)(aaC:AV.ad a6=true)(hc:∀x∈l,a7 Try.prog g (aa.av x::a6) (.v (.bool (p x)))):a7 Try.prog F.bk [.sl (l.map aa.av),.fn g a6] (.v (.bool (l.any p))):=
 T.gE rfl (by simp[AV.ad,AV.ag,(bH (f:=aa.av) (l:=l) aa.ag),aaC]) (agN (apB l g a6 p hl aaC hc))
theorem ajt(l:List Int)(s)(hl:l.length<=1073741824):a7 Try.prog F.cv [.sl (l.map aA),aA s] (.v (.bool (l.any λ y=>decide (s=y)))):=
 T.kO rfl (by simp[AV.ad,AV.ag,(bH (f:=aA) (l:=l) λ _=>rfl)]) (agN (al3 l s hl))
theorem acq(l:List ByteArray)(s)(hl:l.length<=1073741824):a7 Try.prog F.bJ [.sl (l.map ch),ch s] (.v (.bool (l.any λ y=>decide (s=y)))):=
 T.iQ rfl (by simp[AV.ad,AV.ag,(bH (f:=ch) (l:=l) λ _=>rfl)]) (agN (adO l s hl))
end Go.Proofs.Ab
