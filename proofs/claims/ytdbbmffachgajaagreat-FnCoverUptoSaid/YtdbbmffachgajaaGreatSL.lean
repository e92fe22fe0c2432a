/-
  THE FUNCTIONS OF PACKAGE slices that are reached (printed by wip/tool/slib.py).
-/
import Derived.Test.YtdbbmffachgajaaGreatST
import Derived.Test.YtdbbmffachgajaaGreatGM
set_option maxRecDepth 100000
set_option linter.unusedVariables false
set_option linter.unusedSimpArgs false
namespace Go.Proofs.Ab
open Go.Ab
theorem wR(l:List ad)(g:FuncId)(bl:List AV)(p:ad->Bool)(hl:l.length<=1073741824)(qv:AV.ae bl=true)(hc:∀x∈l,aW Tryz.prog g (ad.av x::bl) (.v (.bool (p x)))):aW Tryz.prog F.bu [.sl (l.map ad.av),.fn g bl] (.v (.int .i64 (fQ p l 0))):=
 T.gG rfl (by simp[AV.ae,AV.ag,(bt (f:=ad.av) (l:=l) ad.ag),qv]) (ap0 p ad.shape hl hc)
theorem aCk(l:List ai)(g:FuncId)(bl:List AV)(p:ai->Bool)(hl:l.length<=1073741824)(qv:AV.ae bl=true)(hc:∀x∈l,aW Tryz.prog g (ai.av x::bl) (.v (.bool (p x)))):aW Tryz.prog F.cS [.sl (l.map ai.av),.fn g bl] (.v (.int .i64 (fQ p l 0))):=
 T.kK rfl (by simp[AV.ae,AV.ag,(bt (f:=ai.av) (l:=l) ai.ag),qv]) (ap0 p ai.shape hl hc)
theorem ahv(l:List ak)(g:FuncId)(bl:List AV)(p:ak->Bool)(hl:l.length<=1073741824)(qv:AV.ae bl=true)(hc:∀x∈l,aW Tryz.prog g (ak.av x::bl) (.v (.bool (p x)))):aW Tryz.prog F.bT [.sl (l.map ak.av),.fn g bl] (.v (.int .i64 (fQ p l 0))):=
 T.gH rfl (by simp[AV.ae,AV.ag,(bt (f:=ak.av) (l:=l) ak.ag),qv]) (ap0 p ak.shape hl hc)
theorem anw(l:List ByteArray)(s)(hl:l.length<=1073741824):aW Tryz.prog F.ei [.sl (l.map oJ),oJ s] (.v (.int .i64 (fQ (λ y=>decide (s=y)) l 0))):=
 T.mY rfl (by simp[AV.ae,AV.ag,(bt (f:=oJ) (l:=l) λ _=>rfl)]) (aG9 (g:=λ y=> .string y) (λ x y K h=>aRE x y K h) (by omega))
theorem asM(l:List ai)(g:FuncId)(bl:List AV)(p:ai->Bool)(hl:l.length<=1073741824)(qv:AV.ae bl=true)(hc:∀x∈l,aW Tryz.prog g (ai.av x::bl) (.v (.bool (p x)))):aW Tryz.prog F.bY [.sl (l.map ai.av),.fn g bl] (.v (.bool (l.any p))):=
 T.jT rfl (by simp[AV.ae,AV.ag,(bt (f:=ai.av) (l:=l) ai.ag),qv]) (aqD (aCk l g bl p hl qv hc))
theorem aH1(l m:List ai)(g:FuncId)(bl:List AV)(p:ai->ai->Bool)(hl:l.length<=1073741824)(qv:AV.ae bl=true)(hc:∀x∈l,∀y∈m,aW Tryz.prog g (ai.av x::ai.av y::bl) (.v (.bool (p x y)))):aW Tryz.prog F.bF [.sl (l.map ai.av),.sl (m.map ai.av),.fn g bl] (.v (.bool (qD p l m))):=
 T.fJ rfl (by simp[AV.ae,AV.ag,(bt (f:=ai.av) (l:=l) ai.ag),(bt (f:=ai.av) (l:=m) ai.ag),qv]) (aOf p ai.shape hl hc)
theorem ak9(l:List ByteArray)(s)(hl:l.length<=1073741824):aW Tryz.prog F.dy [.sl (l.map oJ),oJ s] (.v (.bool (l.any λ y=>decide (s=y)))):=
 T.lO rfl (by simp[AV.ae,AV.ag,(bt (f:=oJ) (l:=l) λ _=>rfl)]) (aqD (anw l s hl))
end Go.Proofs.Ab
