/-
  THE LAWS' OWN HELPERS, by their types (printed by wip/tool/helpers.py).
-/
import Derived.Test.YtfebhekplhjigaaST
import Derived.Test.YtfebhekplhjigaaGM
open Nat(reduceEqDiff reduceLeDiff reduceAdd reduceLT reduceMul)
set_option linter.unusedVariables false
set_option linter.unusedSimpArgs false
namespace Go.Proofs.Ab
open Go.Ab
set_option maxRecDepth 100000
theorem anb(x:ad)(b:Nat)(hb:x.wt<=b)(hb1:b<=1048576):a7 Try.prog F.ly [x.av,.v (.int .i64 b)] (.v (.int .i64 (b- x.wt:Nat))):=by
 have hw:=ad.gR x
 have abW:∀c:Nat,x.Kids.length+(x.Kids.map ad.wt).sum<=c->c<=1048576->a7 Try.prog F.gd [.sl (x.Kids.map ad.av),.v (.int .i64 c)] (.v (.int .i64 (c- (x.Kids.length+(x.Kids.map ad.wt).sum):Nat))):=λ c h1 h2=>
  T.sV rfl (by simp only[AV.ae,AV.ag,Bool.and_true];exact(bt (f:=ad.av) (l:=x.Kids) ad.ag)) (asH ad.shape h1 h2 λ y hy c h1 h2=>anb y c h1 h2)
 refine T.acS rfl (by simp[AV.ae,AV.ag,ad.ag]) ?_;simp(disch:=omega) only[T.ly,ad.cells,ad.isAgg,ad.storable,ad.ag,ad.eta,br,dv,WA,reduceEqDiff,reduceAdd,reduceLT,reduceLeDiff,reduceMul,reduceIte,reduceCtorEq,Int.reduceEq,Int.reduceLT,Int.reduceLE,Int.reduceNe];refine bo (abW _ (by omega) (by omega)) ?_;simp(disch:=omega) only[ad.cells,ad.isAgg,ad.storable,ad.ag,ad.eta,br,dv,WA,reduceEqDiff,reduceAdd,reduceLT,reduceLeDiff,reduceMul,reduceIte,reduceCtorEq,Int.reduceEq,Int.reduceLT,Int.reduceLE,Int.reduceNe]
 first|done|exact congrArg (λ n:Nat=>AV.v (.int .i64 (n:Int))) (by omega)
termination_by SizeOf.sizeOf x
decreasing_by all_goals first|exact ad.fg (by assumption)
theorem ana(x:ad)(hb:x.wt<=1048576):a7 Try.prog F.ey [x.av] x.av:=by
 have hw:=ad.gR x
 have abW:a7 Try.prog F.bK [.sl (x.Kids.map ad.av)] (.sl (x.Kids.map ad.av)):=
  T.sU rfl (by simp only[AV.ae,AV.ag,Bool.and_true];exact(bt (f:=ad.av) (l:=x.Kids) ad.ag)) (asG ad.anp rfl (by omega) (by omega) λ y hy=>ana y (by have:=de ad.wt hy;omega))
 refine T.acR rfl (by simp[AV.ae,AV.ag,ad.ag]) ?_;simp(disch:=omega) only[T.ey,ad.cells,ad.isAgg,ad.storable,ad.ag,ad.eta,br,dv,WA,reduceEqDiff,reduceAdd,reduceLT,reduceLeDiff,reduceMul,reduceIte,reduceCtorEq,Int.reduceEq,Int.reduceLT,Int.reduceLE,Int.reduceNe];refine apP abW (bt (f:=ad.av) (l:=x.Kids) ad.ag) ?_;simp(disch:=omega) only[ad.cells,ad.isAgg,ad.storable,ad.ag,ad.eta,br,dv,WA,reduceEqDiff,reduceAdd,reduceLT,reduceLeDiff,reduceMul,reduceIte,reduceCtorEq,Int.reduceEq,Int.reduceLT,Int.reduceLE,Int.reduceNe]
termination_by SizeOf.sizeOf x
decreasing_by all_goals first|exact ad.fg (by assumption)
theorem apE(x:ad)(hb:x.wt<=1048576):a7 Try.prog F.lz [x.av,x.av] (.v (.bool true)):=by
 have hw:=ad.gR x
 have abW:a7 Try.prog F.dQ [.sl (x.Kids.map ad.av),.sl (x.Kids.map ad.av)] (.v (.bool true)):=
  T.sW rfl (by simp only[AV.ae,AV.ag,Bool.and_true,Bool.and_self];exact(bt (f:=ad.av) (l:=x.Kids) ad.ag)) (atm ad.shape (by omega) λ y hy=>apE y (by have:=de ad.wt hy;omega))
 refine T.acT rfl (by simp[AV.ae,AV.ag,ad.ag]) ?_;simp(disch:=omega) only[T.lz,ad.cells,ad.isAgg,ad.storable,ad.ag,ad.eta,br,dv,WA,reduceEqDiff,reduceAdd,reduceLT,reduceLeDiff,reduceMul,reduceIte,reduceCtorEq,Int.reduceEq,Int.reduceLT,Int.reduceLE,Int.reduceNe];refine bo abW ?_;simp(disch:=omega) only[ad.cells,ad.isAgg,ad.storable,ad.ag,ad.eta,br,dv,WA,reduceEqDiff,reduceAdd,reduceLT,reduceLeDiff,reduceMul,reduceIte,reduceCtorEq,Int.reduceEq,Int.reduceLT,Int.reduceLE,Int.reduceNe]
termination_by SizeOf.sizeOf x
decreasing_by all_goals first|exact ad.fg (by assumption)
theorem ajP(l:List ad)(c:Nat)(h1:l.length+(l.map ad.wt).sum<=c)(h2:c<=1048576):a7 Try.prog F.gd [.sl (l.map ad.av),.v (.int .i64 c)] (.v (.int .i64 (c- (l.length+(l.map ad.wt).sum):Nat))):=
 T.sV rfl (by simp only[AV.ae,AV.ag,Bool.and_true,Bool.and_self];exact(bt (f:=ad.av) (l:=l) ad.ag)) (asH ad.shape h1 h2 λ y hy c h1 h2=>anb y c h1 h2)
theorem ajM(l:List ad)(h:l.length+(l.map ad.wt).sum<=1048576):a7 Try.prog F.bK [.sl (l.map ad.av)] (.sl (l.map ad.av)):=
 T.sU rfl (by simp only[AV.ae,AV.ag,Bool.and_true,Bool.and_self];exact(bt (f:=ad.av) (l:=l) ad.ag)) (asG ad.anp rfl (by omega) (by omega) λ y hy=>ana y (by have:=de ad.wt hy;omega))
theorem afF(l:List ad)(h:l.length+(l.map ad.wt).sum<=1048576):a7 Try.prog F.dQ [.sl (l.map ad.av),.sl (l.map ad.av)] (.v (.bool true)):=
 T.sW rfl (by simp only[AV.ae,AV.ag,Bool.and_true,Bool.and_self];exact(bt (f:=ad.av) (l:=l) ad.ag)) (atm ad.shape (by omega) λ y hy=>apE y (by have:=de ad.wt hy;omega))
end Go.Proofs.Ab
