/- laws.FnExactParseCode says true of all arguments whose readings are of bulk at most 1048576; what they read is as it was. -/
import Derived.Test.YtkinchcjijhmgaaGreatDoorRD
import Derived.Test.YtkinchcjijhmgaaGreatDoorLT
import Derived.Test.YtkinchcjijhmgaaGreatDoorWFnExactParseCode
set_option linter.unusedVariables false
set_option linter.unusedSimpArgs false
namespace Go.Proofs.YtkinchcjijhmgaaGreatDoor.fnExactParseCode
open Go.Proofs.Ab Go.Ab Go.ChangeShapes Go.WideShapes Go.ChangeAt Go.RowKit
set_option maxRecDepth 100000
theorem amn(H:Type)(enc:TypeId×Value->H)(W:World)(base:Nat)(args:Array Value)(ds gs:List (DataW H))(before:List MemPlace)
  (ail:∀(j:Nat) t v,Tryz.f3.params[j]? =some t->args[j]? =some v->Value.okWide Tryz.prog W .any base t v)
  (hW:DataW.Whole enc Tryz.prog Tryz.f3.params.toList Rows.fnExactParseCodeSpec.vars false W args.toList ds gs before) (hk:Rows.uptoSmall H (ds++gs)=true) (hL:laidMetH Tryz.prog ajH W):
  Calls Tryz.prog 3 args W λ e W'=>∃v,e= .returned v/\Rows.fnExactParseCodeSpec.post enc Tryz.prog Tryz.f3 false true false false W args v W':=by
 have hW':=hW;obtain⟨p,q,hA0,hV,rfl,hfz,hnd⟩:=hW;have hA:DataW.TrodAll enc Tryz.prog W 0 (λ _=>true) true Tryz.f3.params.toList args.toList ds p:=hA0;rw[Tryz.params3]at hA ail;obtain⟨v0,vs0,d0,ds0,p0,q0,nF,rfl,rfl,h0,r0⟩:=trodAll_cons hA;obtain⟨rfl,rfl,rfl⟩:=trodAll_nil r0;obtain rfl:args= #[v0]:=by cases args;simp_all
 obtain⟨rfl,rfl⟩:=trodVars_none hV;obtain⟨u0,rfl⟩:=okWide_string Tryz.underlying9 (ail 0 9 v0 rfl rfl);obtain⟨f0,h0⟩:=h0;obtain⟨x0,hc0,hw0,ho0⟩:=ahz Tryz.underlying9 _ _ h0;have aAh:x0.size+1<=vL d0:=hw0;have hb0:=vY d0
 have hb:x0.size<=1048576:=by
  have h2:Rows.uptoBulkAll [d0]<=1048576:=of_decide_eq_true hk;simp only[Rows.uptoBulkAll]at h2;omega
 obtain⟨_,cQ⟩:=oD x0 hb;refine(cQ (ah4 W) (λ _=>Loc.at 0 0) W #[.string u0] (akM _ _ (ajI hL).1 (ajI hL).2) ⟨rfl,?_⟩).mono ?_
 ·intro i a x ha hx
  match i,ha,hx with
  |0,ha,hx=>
   simp at ha hx;subst ha;subst hx;exact(hc0.2 0 _ _ rfl rfl).2 _
  |k+1,ha,hx=>simp at ha
 ·rintro e W' ⟨y,I',L',rfl,hy,hg⟩;cases hy
  exact⟨_,rfl,akX laid (λ t ht=>by
   obtain rfl:t=9:=by simpa [Tryz.params3]using ht
   exact⟨by kernel_rfl,of_decide_eq_true (by kernel_rfl)⟩) rfl hW' (Frm.below ⟨hg.mE.os,hg.mE.tape,hg.mE.output,hg.mE.size,λ b hb _=>hg.mE.block b hb oU⟩) (t:=4) rfl Tryz.underlying4 rfl⟩
theorem reads(os:Os){H:Type}(enc:TypeId×Value->H):∃places,DataW.whole enc Tryz.prog ((tr os).forCall (λ _ _=>0) ⟨#[],#[.string ⟨#[]⟩],[]⟩).memory Tryz.f3.params.toList Rows.fnExactParseCodeSpec.vars false (#[.string ⟨#[]⟩]:Array Value).toList 8=some ([.lit (.string [])],[],places):=
 ⟨[],by kernel_rfl⟩
theorem akY(os:Os):laidMet Tryz.prog Rows.fnExactParseCodeUptoRow.laid ((tr os).forCall (λ _ _=>0) ⟨#[],#[.string ⟨#[]⟩],[]⟩).memory:=
 laidMet_of_run' 8 (by kernel_rfl) (by kernel_rfl)
theorem lifted(os:Os)(started:os.Started)(H:Type)(enc:TypeId×Value->H)(F:Stop.Interp):
  ReturnsInHanded {} Tryz.checked os 3 .any ((Rows.OpenSpec.upto Rows.fnExactParseCodeSpec).preRow enc Tryz.prog Tryz.f3 Rows.fnExactParseCodeUptoRow.domain false Rows.fnExactParseCodeUptoRow.laid) (((Rows.OpenSpec.upto Rows.fnExactParseCodeSpec).at F).post enc Tryz.prog Tryz.f3 false true false false):=by
 obtain⟨places,hx⟩:=reads os enc
 refine returnsInHanded_of_row (C:=Tryz.checked) (s:=Rows.OpenSpec.upto Rows.fnExactParseCodeSpec) own started (by kernel_rfl) Tryz.func3
  (witness_row_at (enc:=enc) (C:=Tryz.checked) false (tr os) #[.string ⟨#[]⟩] rfl (by kernel_rfl) (by kernel_rfl) (by kernel_rfl)
   (OpenSpec.preRow_of_cond 8 hx (by kernel_rfl) (λ k hk=>by cases hk;kernel_rfl) (by kernel_rfl) (akY os))) ?_
 intro W base args ds gs before ail hW _ avC _ hL _ _;exact amn H enc W base args ds gs before ail hW (avC _ rfl) hL
theorem over:Rows.FnExactParseCodeUptoSaid:=
 OpenClaim.holds_of_cond 3 Tryz.f3 rfl rfl rfl rfl rfl rfl rfl ⟨rfl,rfl,rfl,rfl,rfl⟩ rfl rfl rfl rfl rfl (by kernel_rfl) Tryz.func3 (by kernel_rfl)
  (of_decide_eq_true (by kernel_rfl)) (by unfold Func.isWrapper;first|(rw[if_pos (by decide+kernel)];kernel_rfl)|(rw[if_neg (by decide+kernel)];exact⟨rfl,rfl⟩))
  (λ os started H enc _ F=>by rw[OpenClaim.pre_eq_preRow];exact lifted os started H enc F)
theorem plain(f:FuncId)(fn:Func)(hf:Tryz.pinned.checked.prog.funcNamed "loop.example/g00080/laws.FnExactParseCode" =some f)(hfn:Tryz.pinned.checked.prog.funcs[f]? =some fn):
  true=Tryz.pinned.checked.prog.looks []/\∀(j:Nat) t,fn.params[j]? =some t->Tryz.pinned.checked.prog.wantsStandIn t=false:=by
 obtain rfl:f=3:=Option.some.inj ((show Tryz.prog.funcNamed "loop.example/g00080/laws.FnExactParseCode" =some 3 by kernel_rfl).symm.trans hf)|>.symm;obtain rfl:fn=Tryz.f3:=(Option.some.inj (Tryz.func3.symm.trans hfn)).symm;refine⟨by kernel_rfl,λ j t ht=> ?_⟩;rw[Tryz.params3]at ht
 match j with
  |0=>obtain rfl:t=9:=by simpa using ht.symm
      exact(show Tryz.prog.wantsStandIn 9=false by kernel_rfl)
  |k+1=>simp at ht
theorem proved:Rows.FnExactParseCodeUptoCardSaid:=
 Claim7.holds_tied_plain_at .later [] _ _ _ _ over (λ _ h=>by cases h) (by kernel_rfl) (λ _ h=>by cases h) fnExactParseCodeUpto_row_tie rfl ⟨rfl,rfl⟩ (by kernel_rfl) rfl plain (by kernel_rfl)
end Go.Proofs.YtkinchcjijhmgaaGreatDoor.fnExactParseCode
