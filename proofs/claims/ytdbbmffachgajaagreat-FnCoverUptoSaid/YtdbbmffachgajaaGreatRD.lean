/- Part of a proof: the functions that the law reaches, walked by the abstract logic of the texts Ab. -/
import Derived.Test.YtdbbmffachgajaaGreatLB
import Derived.Test.YtdbbmffachgajaaGreatGM
set_option maxRecDepth 100000
set_option linter.unusedVariables false
set_option linter.unusedSimpArgs false
namespace Go.Proofs.YtdbbmffachgajaaGreat
open Go.Ab Go.ChangeShapes Go.WideShapes Go.ChangeAt Go.RowKit
theorem aPJ(l:List Int):(l.map λ _:Int=>1).sum=l.length:=by
 induction l with
 |nil=>rfl
 |cons t l ih=>simp only[List.map_cons,List.sum_cons,ih,List.length_cons];omega
theorem aG8{n:Int}(h:IntKind.u8.min<=n/\n<=IntKind.u8.max):0<=n/\n<256:=by
 have h1:IntKind.u8.min=0:=by decide
 have h2:IntKind.u8.max=255:=by decide
 omega
end Go.Proofs.YtdbbmffachgajaaGreat
