/- laws.FnExactUnify says true of all arguments whose readings are of bulk at most 1048576; what they read is as it was. -/
import Derived.Test.YtfebhekplhjigaaRD
import Derived.Test.YtfebhekplhjigaaWFnExactUnify
set_option linter.unusedVariables false
set_option linter.unusedSimpArgs false
namespace Go.Proofs.Ytfebhekplhjigaa.fnExactUnify
open Go.Proofs.Ab Go.Ab Go.ChangeShapes Go.WideShapes Go.ChangeAt Go.RowKit
set_option maxRecDepth 100000
theorem apJ(H:Type)(enc:TypeId×Value->H)(W:World)(base:Nat)(args:Array Value)(ds gs:List (DataW H))(before:List MemPlace)
  (qn:∀(j:Nat) t v,Try.f5.params[j]? =some t->args[j]? =some v->Value.okWide Try.prog W .any base t v)
  (hW:DataW.Whole enc Try.prog Try.f5.params.toList Rows.fnExactUnifySpec.vars false W args.toList ds gs before) (hk:Rows.uptoSmall H (ds++gs)=true):
  Calls Try.prog 5 args W λ e W'=>∃v,e= .returned v/\Rows.fnExactUnifySpec.post enc Try.prog Try.f5 false true false false W args v W':=by
 have hW':=hW;obtain⟨p,q,hA0,hV,rfl,hfz,hnd⟩:=hW;have hA:DataW.TrodAll enc Try.prog W 0 (λ _=>true) true Try.f5.params.toList args.toList ds p:=hA0;rw[Try.params5]at hA qn;obtain⟨v0,vs0,d0,ds0,p0,q0,kV,rfl,rfl,h0,r0⟩:=trodAll_cons hA;obtain⟨v1,vs1,d1,ds1,p1,q1,rfl,rfl,rfl,h1,r1⟩:=trodAll_cons r0;obtain⟨v2,vs2,d2,ds2,p2,q2,rfl,rfl,rfl,h2,r2⟩:=trodAll_cons r1;obtain⟨rfl,rfl,rfl⟩:=trodAll_nil r2;obtain rfl:args= #[v0,v1,v2]:=by cases args;simp_all
 obtain⟨rfl,rfl⟩:=trodVars_none hV;obtain⟨u0,rfl⟩:=okWide_int Try.underlying3 (qn 0 3 v0 rfl rfl);obtain⟨f0,h0⟩:=h0;obtain⟨x0,hc0,hw0,ho0⟩:=ais Try.underlying3 _ _ h0;have hb0:=uk d0;obtain⟨ua1,ul1,uc1,rfl⟩:=okWide_slice Try.underlying22 (qn 1 22 v1 rfl rfl);obtain⟨f1,h1⟩:=h1;have ce1:Try.prog.cellsOf 24=4:=by kernel_rfl
 obtain⟨x1,hc1,hw1,ho1⟩:=aaE (av:=ad.av) Try.underlying22 (by rw[ce1];omega) (λ j _=>asM W j) _ _ h1;have aA3:(x1.map λ t=>1+ad.wt t).sum+1<=oY d1:=hw1;rw[atQ]at aA3;have hb1:=uk d1;obtain⟨ua2,ul2,uc2,rfl⟩:=okWide_slice Try.underlying22 (qn 2 22 v2 rfl rfl);obtain⟨f2,h2⟩:=h2;have ce2:Try.prog.cellsOf 24=4:=by kernel_rfl
 obtain⟨x2,hc2,hw2,ho2⟩:=aaE (av:=ad.av) Try.underlying22 (by rw[ce2];omega) (λ j _=>asM W j) _ _ h2;have aA2:(x2.map λ t=>1+ad.wt t).sum+1<=oY d2:=hw2;rw[atQ]at aA2;have hb2:=uk d2
 have hb:(x1.length+(x1.map ad.wt).sum)+(x2.length+(x2.map ad.wt).sum)<=1048576:=by
  have h2:Rows.uptoBulkAll [d0,d1,d2]<=1048576:=of_decide_eq_true hk;simp only[Rows.uptoBulkAll]at h2;omega
 obtain⟨_,eL⟩:=xO x0 x1 x2 hb (ai4 ho0) ho1 ho2;refine(eL (agQ W) (λ _=>Loc.at 0 0) W #[.int .i64 u0,.slice ua1 ul1 uc1,.slice ua2 ul2 uc2] (an9 _ _ (axA rfl _) (axB rfl _)) ⟨rfl,?_⟩).mono ?_
 ·intro i a x ha hx
  match i,ha,hx with
  |0,ha,hx=>
   simp at ha hx;subst ha;subst hx;exact(hc0.2 0 _ _ rfl rfl).2 _
  |1,ha,hx=>
   simp at ha hx;subst ha;subst hx;exact(hc1.2 0 _ _ rfl rfl).2 _
  |2,ha,hx=>
   simp at ha hx;subst ha;subst hx;exact(hc2.2 0 _ _ rfl rfl).2 _
  |k+3,ha,hx=>simp at ha
 ·rintro e W' ⟨y,I',L',rfl,hy,hg⟩;cases hy
  exact⟨_,rfl,aok laid (λ t ht=>by
   have h:t=3∨t=22∨t=22:=by simpa [Try.params5]using ht
   rcases h with rfl|rfl|rfl<;>exact⟨by kernel_rfl,of_decide_eq_true (by kernel_rfl)⟩) rfl hW' (Frm.below ⟨hg.lK.os,hg.lK.tape,hg.lK.output,hg.lK.size,λ b hb _=>hg.lK.block b hb tt⟩) (t:=4) rfl Try.underlying4 rfl⟩
theorem lifted(os:Os)(started:os.Started)(H:Type)(enc:TypeId×Value->H)(F:Stop.Interp):
  ReturnsInHanded {} Try.checked os 5 .any ((Rows.OpenSpec.upto Rows.fnExactUnifySpec).pre6 enc Try.prog Try.f5 Rows.fnExactUnifyUptoRow.domain false) (((Rows.OpenSpec.upto Rows.fnExactUnifySpec).at F).post enc Try.prog Try.f5 false true false false):=by
 refine returnsInHanded_of_cond (C:=Try.checked) (s:=Rows.OpenSpec.upto Rows.fnExactUnifySpec) (k:=Rows.uptoSmall) rfl own started (by kernel_rfl) Try.func5
  (OpenSpec.witness (enc:=enc) (C:=Try.checked) (s:=Rows.OpenSpec.upto Rows.fnExactUnifySpec) (k:=Rows.uptoSmall) rfl false ⟨#[],#[.int .i64 0,.slice none 0 0,.slice none 0 0],[]⟩ 8 (by kernel_rfl) (by kernel_rfl) (by kernel_rfl)
   (x:=([.lit (.int .i64 0),.nil,.nil],[],[])) (by kernel_rfl) rfl (by kernel_rfl)) ?_
 intro W base args ds gs before qn hW _ hk _;exact apJ H enc W base args ds gs before qn hW hk
theorem aAO:Rows.fnExactUnifyUptoRow.holds Try.pinned (Rows.OpenSpec.upto Rows.fnExactUnifySpec):=
 OpenClaim.holds_of_cond 5 Try.f5 rfl rfl rfl rfl rfl rfl rfl ⟨rfl,rfl,rfl,rfl,rfl⟩ rfl rfl rfl rfl rfl (by kernel_rfl) Try.func5 (by kernel_rfl)
  (of_decide_eq_true (by kernel_rfl)) (by unfold Func.isWrapper;first|(rw[if_pos (by decide+kernel)];kernel_rfl)|(rw[if_neg (by decide+kernel)];exact⟨rfl,rfl⟩))
  (λ os started H enc _ F=>lifted os started H enc F)
theorem proved:Rows.FnExactUnifyUptoSaid:=
 aAO
end Go.Proofs.Ytfebhekplhjigaa.fnExactUnify
