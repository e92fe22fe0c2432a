/- laws.FnRecovered says true of all arguments whose readings are of bulk at most 1048576; what they read is as it was. -/
import Derived.Test.YtfebhekplhjigaaRD
import Derived.Test.YtfebhekplhjigaaKFnRecovered
set_option linter.unusedVariables false
set_option linter.unusedSimpArgs false
namespace Go.Proofs.Ytfebhekplhjigaa.fnRecovered
open Go.Proofs.Ab Go.Ab Go.ChangeShapes Go.WideShapes Go.ChangeAt Go.RowKit
set_option maxRecDepth 100000
theorem anc(H:Type)(enc:TypeId×Value->H)(W:World)(base:Nat)(args:Array Value)(ds gs:List (DataW H))(before:List MemPlace)
  (tX:∀(j:Nat) t v,Try.f4.params[j]? =some t->args[j]? =some v->Value.okWide Try.prog W .any base t v)
  (hW:DataW.Whole enc Try.prog Try.f4.params.toList Rows.fnRecoveredSpec.vars false W args.toList ds gs before) (hk:Rows.uptoSmall H (ds++gs)=true):
  Calls Try.prog 4 args W λ e W'=>∃v,e= .returned v/\Rows.fnRecoveredSpec.post enc Try.prog Try.f4 false true false false W args v W':=by
 have hW':=hW;obtain⟨p,q,hA0,hV,rfl,hfz,hnd⟩:=hW;have hA:DataW.TrodAll enc Try.prog W 0 (λ _=>true) true Try.f4.params.toList args.toList ds p:=hA0;rw[Try.params4]at hA tX;obtain⟨v0,vs0,d0,ds0,p0,q0,qU,rfl,rfl,h0,r0⟩:=trodAll_cons hA;obtain⟨rfl,rfl,rfl⟩:=trodAll_nil r0;obtain rfl:args= #[v0]:=by cases args;simp_all
 obtain⟨rfl,rfl⟩:=trodVars_none hV;obtain⟨ua0,ul0,uc0,rfl⟩:=okWide_slice Try.underlying32 (tX 0 32 v0 rfl rfl);obtain⟨f0,h0⟩:=h0;have ce0:Try.prog.cellsOf 5=1:=by kernel_rfl
 obtain⟨x0,hc0,hw0,ho0⟩:=akJ (av:=λ y=> .v (.int .u8 y)) Try.underlying32 (by rw[ce0];omega) (λ _ _=>ar1 Try.underlying5) _ _ h0;have azj:(x0.map λ _:Int=>1).sum+1<=rZ d0:=hw0;rw[ayY]at azj;have hb0:=wu d0
 have hb:x0.length<=1048576:=by
  have h2:Rows.uptoBulkAll [d0]<=1048576:=of_decide_eq_true hk;simp only[Rows.uptoBulkAll]at h2;omega
 obtain⟨_,eY⟩:=vu x0 hb (λ y hy=>asV (ho0 y hy));refine(eY (adv W) (λ _=>Loc.at 0 0) W #[.slice ua0 ul0 uc0] (alv _ _ (av4 rfl _) (av5 rfl _)) ⟨rfl,?_⟩).mono ?_
 ·intro i a x ha hx
  match i,ha,hx with
  |0,ha,hx=>
   simp at ha hx;subst ha;subst hx;exact(hc0.2 0 _ _ rfl rfl).2 _
  |k+1,ha,hx=>simp at ha
 ·rintro e W' ⟨y,I',L',rfl,hy,hg⟩;cases hy
  exact⟨_,rfl,alL laid (λ t ht=>by
   obtain rfl:t=32:=by simpa [Try.params4]using ht
   exact⟨by kernel_rfl,of_decide_eq_true (by kernel_rfl)⟩) rfl hW' (Frm.below ⟨hg.pa.os,hg.pa.tape,hg.pa.output,hg.pa.size,λ b hb _=>hg.pa.block b hb yZ⟩) (t:=4) rfl Try.underlying4 rfl⟩
theorem lifted(os:Os)(started:os.Started)(H:Type)(enc:TypeId×Value->H)(F:Stop.Interp):
  ReturnsInHanded {} Try.checked os 4 .any ((Rows.OpenSpec.upto Rows.fnRecoveredSpec).pre6 enc Try.prog Try.f4 Rows.fnRecoveredUptoRow.domain false) (((Rows.OpenSpec.upto Rows.fnRecoveredSpec).at F).post enc Try.prog Try.f4 false true false false):=by
 refine returnsInHanded_of_cond (C:=Try.checked) (s:=Rows.OpenSpec.upto Rows.fnRecoveredSpec) (k:=Rows.uptoSmall) rfl own started (by kernel_rfl) Try.func4
  (OpenSpec.witness (enc:=enc) (C:=Try.checked) (s:=Rows.OpenSpec.upto Rows.fnRecoveredSpec) (k:=Rows.uptoSmall) rfl false ⟨#[],#[.slice none 0 0],[]⟩ 8 (by kernel_rfl) (by kernel_rfl) (by kernel_rfl)
   (x:=([.nil],[],[])) (by kernel_rfl) rfl (by kernel_rfl)) ?_
 intro W base args ds gs before tX hW _ hk _;exact anc H enc W base args ds gs before tX hW hk
theorem ay6:Rows.fnRecoveredUptoRow.holds Try.pinned (Rows.OpenSpec.upto Rows.fnRecoveredSpec):=
 OpenClaim.holds_of_cond 4 Try.f4 rfl rfl rfl rfl rfl rfl rfl ⟨rfl,rfl,rfl,rfl,rfl⟩ rfl rfl rfl rfl rfl (by kernel_rfl) Try.func4 (by kernel_rfl)
  (of_decide_eq_true (by kernel_rfl)) (by unfold Func.isWrapper;first|(rw[if_pos (by decide+kernel)];kernel_rfl)|(rw[if_neg (by decide+kernel)];exact⟨rfl,rfl⟩))
  (λ os started H enc _ F=>lifted os started H enc F)
theorem proved:Rows.FnRecoveredUptoSaid:=
 ay6
end Go.Proofs.Ytfebhekplhjigaa.fnRecovered
