/- laws.FnCover says true of all arguments whose readings are of bulk at most 1048576; what they read is as it was. -/
import Derived.Test.YtdbbmffachgajaaGreatRD
import Derived.Test.YtdbbmffachgajaaGreatKFnCover
set_option maxRecDepth 100000
set_option linter.unusedVariables false
set_option linter.unusedSimpArgs false
namespace Go.Proofs.YtdbbmffachgajaaGreat.fnCover
open Go.Proofs.Ab Go.Ab Go.ChangeShapes Go.WideShapes Go.ChangeAt Go.RowKit
theorem azW(H:Type)(enc:TypeId×Value->H)(W:World)(base:Nat)(args:Array Value)(ds gs:List (DataW H))(before:List MemPlace)
  (at4:∀(j:Nat) t v,Tryz.f3.params[j]? =some t->args[j]? =some v->Value.okWide Tryz.prog W .any base t v)
  (hW:DataW.Whole enc Tryz.prog Tryz.f3.params.toList Rows.fnCoverSpec.vars false W args.toList ds gs before) (hk:Rows.uptoSmall H (ds++gs)=true):
  Calls Tryz.prog 3 args W λ e W'=>∃v,e= .returned v/\Rows.fnCoverSpec.post enc Tryz.prog Tryz.f3 false true false false W args v W':=by
 have hW':=hW;obtain⟨p,q,hA0,hV,rfl,hfz,hnd⟩:=hW;have hA:DataW.TrodAll enc Tryz.prog W 0 (λ _=>true) true Tryz.f3.params.toList args.toList ds p:=hA0;rw[Tryz.params3]at hA at4;obtain⟨v0,vs0,d0,ds0,p0,q0,tS,rfl,rfl,h0,r0⟩:=trodAll_cons hA;obtain⟨rfl,rfl,rfl⟩:=trodAll_nil r0;obtain rfl:args= #[v0]:=by cases args;simp_all
 obtain⟨rfl,rfl⟩:=trodVars_none hV;obtain⟨ua0,ul0,uc0,rfl⟩:=okWide_slice Tryz.underlying22 (at4 0 22 v0 rfl rfl);obtain⟨f0,h0⟩:=h0;have ce0:Tryz.prog.cellsOf 5=1:=by kernel_rfl
 obtain⟨x0,hc0,hw0,ho0⟩:=axu (av:=λ y=> .v (.int .u8 y)) Tryz.underlying22 (by rw[ce0];omega) (λ _ _=>aGy Tryz.underlying5) _ _ h0;have aQb:(x0.map λ _:Int=>1).sum+1<=xY d0:=hw0;rw[aPJ]at aQb;have hb0:=adg d0
 have hb:x0.length<=1048576:=by
  have h2:Rows.uptoBulkAll [d0]<=1048576:=of_decide_eq_true hk;simp only[Rows.uptoBulkAll]at h2;omega
 obtain⟨_,iU⟩:=anh x0 hb (λ y hy=>aG8 (ho0 y hy));refine(iU (am7 W) (λ _=>Loc.at 0 0) W #[.slice ua0 ul0 uc0] (ax9 _ _ (aMw rfl _) (aMx rfl _)) ⟨rfl,?_⟩).mono ?_
 ·intro i a x ha hx
  match i,ha,hx with
  |0,ha,hx=>
   simp at ha hx;subst ha;subst hx;exact(hc0.2 0 _ _ rfl rfl).2 _
  |k+1,ha,hx=>simp at ha
 ·rintro e W' ⟨y,I',L',rfl,hy,hg⟩;cases hy
  exact⟨_,rfl,ayo laid (λ t ht=>by
   obtain rfl:t=22:=by simpa [Tryz.params3]using ht
   exact⟨by kernel_rfl,of_decide_eq_true (by kernel_rfl)⟩) rfl hW' (Frm.below ⟨hg.tV.os,hg.tV.tape,hg.tV.output,hg.tV.size,λ b hb _=>hg.tV.block b hb vu⟩) (t:=4) rfl Tryz.underlying4 rfl⟩
theorem lifted(os:Os)(started:os.Started)(H:Type)(enc:TypeId×Value->H)(F:Stop.Interp):
  ReturnsInHanded {} Tryz.checked os 3 .any ((Rows.OpenSpec.upto Rows.fnCoverSpec).pre6 enc Tryz.prog Tryz.f3 Rows.fnCoverUptoRow.domain false) (((Rows.OpenSpec.upto Rows.fnCoverSpec).at F).post enc Tryz.prog Tryz.f3 false true false false):=by
 refine returnsInHanded_of_cond (C:=Tryz.checked) (s:=Rows.OpenSpec.upto Rows.fnCoverSpec) (k:=Rows.uptoSmall) rfl own started (by kernel_rfl) Tryz.func3
  (OpenSpec.witness (enc:=enc) (C:=Tryz.checked) (s:=Rows.OpenSpec.upto Rows.fnCoverSpec) (k:=Rows.uptoSmall) rfl false ⟨#[],#[.slice none 0 0],[]⟩ 8 (by kernel_rfl) (by kernel_rfl) (by kernel_rfl)
   (x:=([.nil],[],[])) (by kernel_rfl) rfl (by kernel_rfl)) ?_
 intro W base args ds gs before at4 hW _ hk _;exact azW H enc W base args ds gs before at4 hW hk
theorem aPQ:Rows.fnCoverUptoRow.holds Tryz.pinned (Rows.OpenSpec.upto Rows.fnCoverSpec):=
 OpenClaim.holds_of_cond 3 Tryz.f3 rfl rfl rfl rfl rfl rfl rfl ⟨rfl,rfl,rfl,rfl,rfl⟩ rfl rfl rfl rfl rfl (by kernel_rfl) Tryz.func3 (by kernel_rfl)
  (of_decide_eq_true (by kernel_rfl)) (by unfold Func.isWrapper;first|(rw[if_pos (by decide+kernel)];kernel_rfl)|(rw[if_neg (by decide+kernel)];exact⟨rfl,rfl⟩))
  (λ os started H enc _ F=>lifted os started H enc F)
theorem proved:Rows.FnCoverUptoSaid:=
 aPQ
end Go.Proofs.YtdbbmffachgajaaGreat.fnCover
