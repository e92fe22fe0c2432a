/-
  TYPES THAT ARE THE SAME.
-/
import Derived.Test.YtdbbmffachgajaaGreatSL
set_option maxHeartbeats 4000000
set_option maxRecDepth 100000
open List(length_cons length_nil all_eq_true any_eq_true all_eq_false any_eq_false)
set_option linter.unusedVariables false
set_option linter.unusedSimpArgs false
namespace Go.Ab
mutual
def ai.same:ai->ai->Bool
 | .mk k n m kids,y=>decide (k=y.Kind)&&decide (n=y.N)&&decide (m=y.Name)&&ai.aeu kids y.Kids
def ai.aeu:List ai->List ai->Bool
 | [],[]=>true
 |x::l,y::m=>x.same y&&ai.aeu l m
 |_,_=>false
end
theorem ai.amE:∀(l m:List ai),ai.aeu l m=qD ai.same l m
 | [],[]=>by simp[ai.aeu,qD]
 | [],_::_=>by simp[ai.aeu,qD]
 |_::_,[]=>by simp[ai.aeu,qD]
 |x::l,y::m=>by simp[ai.aeu,qD,ai.amE l m]
theorem ai.pj(x y:ai):x.same y=(decide (x.Kind=y.Kind)&&decide (x.N=y.N)&&decide (x.Name=y.Name)&&qD ai.same x.Kids y.Kids):=by
 cases x;rw[ai.same,ai.amE];rfl
end Go.Ab
namespace Go.Proofs.Ab
open Go.Ab
theorem nL(x y:ai)(hb:x.wt<=1048576):aW Tryz.prog F.kf [x.av,y.av] (.v (.bool (x.same y))):=by
 have hw:=x.dY;have hv:=x.pj y;refine T.aco rfl (by simp[AV.ae,ai.ag]) ?_;simp only[T.kf,ai.B,WA,seval]
 repeat' (first|(simp(disch:=(first|omega|rfl|exact rfl|(simp only[au,length_cons,length_nil];done)|exact ai.width _)) only[ez,wg,hd,ai.E,aI,WA,seval])|(simp(disch:=(first|omega|rfl|exact rfl|(simp only[au,length_cons,length_nil];done)|exact ai.width _)) only[ez,hd,ai.E,cD,cu,aI,mP,WA,seval])|(simp(disch:=(first|omega|rfl|exact rfl|(simp only[au,length_cons,length_nil];done)|exact ai.width _)) only[hd,ai.E,WA,seval])|(simp(disch:=(first|omega|rfl|exact rfl|(simp only[au,length_cons,length_nil];done)|exact ai.width _)) only[hix,hd,ai.E,cD,cu,aI,mP,WA,seval])|(simp(disch:=(first|omega|rfl|exact rfl|(simp only[au,length_cons,length_nil];done)|exact ai.width _)) only[hd,ai.E,cD,cu,aI,mP,WA,seval])|(simp(disch:=(first|omega|rfl|exact rfl|(simp only[au,length_cons,length_nil];done)|exact ai.width _)) only[ai.E,WA,seval])|(refine aC (λ hq=> ?_) (λ hq=> ?_)<;>(try simp only[hq,BN]))|(refine aP (λ hq=> ?_) (λ hq=> ?_)<;>(try simp only[hq,BN]))|(refine aA (λ hq=> ?_) (λ hq=> ?_)<;>(try simp only[hq]))|(refine aw ?_)|(refine ayd x.Kids y.Kids (by omega) (λ i (_:Unit)=>[aD i]) (λ _ rest amK _=>qD ai.same x.Kids y.Kids=qD ai.same rest amK) () rfl ?_ (λ i k y rest amK b hi hm hmy ez wg hd xP hg=> ?_) (λ b hd xP hg=> ?_))|(refine aJ (nL k _ (by have:=eH ai.wt hm;omega)) ?_))
 all_goals first|(first|(simp_all [qD];done)|(simp_all [-all_eq_true,-any_eq_true,-all_eq_false,-any_eq_false];done)|(simp_all []<;>(intros;omega))|(simp_all [-all_eq_true,-any_eq_true,-all_eq_false,-any_eq_false]<;>(intros;omega))|(refine avb ?_;simp_all []<;>(intros;omega))|(refine avb ?_;simp_all [-all_eq_true,-any_eq_true,-all_eq_false,-any_eq_false]<;>(intros;omega)))|(rw[hv,agc _ _ _ (by omega)];simp)
termination_by SizeOf.sizeOf x
decreasing_by all_goals exact ai.cT hm
theorem wQ(x y:ai)(hb:x.wt<=1048576):aW Tryz.prog F.mi [x.av,y.av] (.v (.bool (x.same y))):=by
 have hw:=x.dY;have hv:=x.pj y;refine T.acJ rfl (by simp[AV.ae,ai.ag]) ?_;simp only[T.mi,ai.B,WA,seval]
 repeat' (first|(simp(disch:=(first|omega|rfl|exact rfl|(simp only[au,length_cons,length_nil];done)|exact ai.width _)) only[ai.E,WA,seval])|(refine aC (λ hq=> ?_) (λ hq=> ?_)<;>(try simp only[hq,BN]))|(refine aP (λ hq=> ?_) (λ hq=> ?_)<;>(try simp only[hq,BN]))|(refine aA (λ hq=> ?_) (λ hq=> ?_)<;>(try simp only[hq,BN]))|(refine aw ?_)|(refine aJ (aH1 x.Kids y.Kids _ [] ai.same (by omega) rfl (λ k hm z _=>wQ k z (by have:=eH ai.wt hm;omega))) ?_))
 all_goals (first|(simp_all;done)|(simp_all [-all_eq_true,-any_eq_true,-all_eq_false,-any_eq_false];done)|(simp_all<;>(intros;omega))|(simp_all [-all_eq_true,-any_eq_true,-all_eq_false,-any_eq_false]<;>(intros;omega))|(refine avb ?_;simp_all<;>(intros;omega))|(refine avb ?_;simp_all [-all_eq_true,-any_eq_true,-all_eq_false,-any_eq_false]<;>(intros;omega)))
termination_by SizeOf.sizeOf x
decreasing_by all_goals exact ai.cT hm
end Go.Proofs.Ab
