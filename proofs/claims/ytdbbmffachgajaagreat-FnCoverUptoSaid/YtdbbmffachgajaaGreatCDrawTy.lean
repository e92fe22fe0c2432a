/-
  TYPES THAT ARE DRAWN.
-/
import Derived.Test.YtdbbmffachgajaaGreatCDr
set_option maxHeartbeats 4000000
set_option maxRecDepth 100000
open List(length_cons length_nil)
set_option linter.unusedVariables false
set_option linter.unusedSimpArgs false
namespace Go.Ab
theorem aye{P:Program}{R:AV->Prop}{t:T}{r:List AV}{S:List (List AV->Prop)}{X:Type}(av:X->AV)(gJ:X->Prop){c0:et}(hc0:c0.ok)(k:Nat){n:Int}(hk:r.getD k .top=aD n)(hn:0<=n)
 (hr:∀(c:et) (xs:List X),c.ok->(∀x∈xs,gJ x)->(xs.length:Int)<=n->
  cL P LF R t (r++ [.sl (rk c.l),aD c.i,aD c.h,.sl (xs.map av),aD (xs.length:Int)]) ((λ vs=>(xs.length:Int)<n/\∃c' x,et.ok c'/\gJ x/\vs= [.sl (rk c'.l),aD c'.i,aD c'.h,.sl (xs.map av++ [av x]),aD ((xs.length:Int)+1)])::S)):
 tL P LF R [.sl (rk c0.l),aD c0.i,aD c0.h,.sl [],aD 0] t r S:=ayf av gJ hc0 n hn hr
structure YG(B:Nat)(x:ai):Prop where
 ok:x.ok
 wt:x.wt<=B
def YB:Nat->Nat
 |0=>7
 |n+1=>7+3*YB n
theorem arR{α:Type}(f:α->Nat)(b:Nat):∀(l:List α),(∀x∈l,f x<=b)->(l.map f).sum<=l.length*b
 | [],_=>by simp
 |x::l,h=>by
  have:=arR f b l λ y hy=>h y (by simp[hy])
  have:=h x (by simp);simp only[List.map_cons,List.sum_cons,length_cons,Nat.add_mul,Nat.one_mul];omega
theorem yg{B b:Nat}{K N:Int}{S:ByteArray}{kids:List ai}(hK:inR K)(hN:inR N)(hS:S.size<=4)(hk:∀x∈kids,YG b x)(h3:(kids.length:Int)<=3)(hB:7+3*b<=B):YG B (.mk K N S kids):=by
 refine⟨(ai.axR _).2 ⟨hK,hN,λ y hy=>(hk y hy).ok⟩,?_⟩;rw[ai.dY];simp only[ai.asO,ai.asP];have h1:=arR ai.wt b kids λ x hx=>(hk x hx).wt
 have h2:kids.length*b<=3*b:=Nat.mul_le_mul_right _ (by omega);omega
theorem yg0{B:Nat}{K N:Int}{S:ByteArray}(hK:inR K)(hN:inR N)(hS:S.size<=4)(hB:4<=B):YG B (.mk K N S []):=by
 refine⟨(ai.axR _).2 ⟨hK,hN,λ y hy=>by cases hy⟩,?_⟩;rw[ai.dY];simp only[ai.asO,ai.asP,length_nil,List.map_nil,List.sum_nil];omega
theorem aFT(n:Nat):7<=YB n:=by cases n<;>simp only[YB]<;>omega
theorem leY{K N:Int}{S:ByteArray}:AV.oY (.agg [aD K,aD N,oJ S,.an]) (ai.mk K N S []).av:=by
 rw[←ai.eta];refine .agg _ _ rfl λ i c d hc hd=> ?_
 rcases i with _|_|_|_|i<;>simp at hc hd<;>subst hc<;>subst hd<;>first|exact .refl _|exact .nil
theorem aRD{K N:Int}{S:ByteArray}{kids:List ai}:AV.agg [aD K,aD N,oJ S,.sl (kids.map ai.av)]=(ai.mk K N S kids).av:=by rw[←ai.eta];rfl
theorem asF{c:et}(hc:c.ok){K N:Int}{S:ByteArray}{gJ:ai->Prop}(hg:gJ (.mk K N S [])):aj8 (dx ai.av gJ) [.agg [aD K,aD N,oJ S,.an],.sl (rk c.l),aD c.i,aD c.h]:=azQ hc _ leY hg
theorem aH4{c:et}(hc:c.ok){K N:Int}{S:ByteArray}(kids:List ai){gJ:ai->Prop}(hg:gJ (.mk K N S kids)):aj8 (dx ai.av gJ) [.agg [aD K,aD N,oJ S,.sl (kids.map ai.av)],.sl (rk c.l),aD c.i,aD c.h]:=
 azQ hc _ (by rw[aRD];exact .refl _) hg
def tyN:List ByteArray:=[⟨#[116]⟩,⟨#[108,105,115,116]⟩,⟨#[117]⟩]
theorem aGk:∀s∈tyN,s.size<=4:=by unfold tyN;decide+kernel
end Go.Ab
namespace Go.Proofs.Ab
open Go.Ab
abbrev DYs(d m:Int)(B:Nat)(c:et):Prop:=agj Tryz.prog F.gl G.dS [.sl (rk c.l),aD c.i,aD c.h,aD d,aD m] ai.av (YG B)
theorem aOk{d m:Int}{B:Nat}(h:∀c:et,c.ok->DYs d m B c){c:et}(hc:c.ok){K:AV->Prop}(k:∀(x:ai) (c':et),YG B x->c'.ok->gn K (.aZ [x.av,.sl (rk c'.l),aD c'.i,aD c'.h])):rB Tryz.prog F.gl G.dS [.sl (rk c.l),aD c.i,aD c.h,aD d,aD m] K:=
 (h c hc).use rfl ai.ag k
theorem azS(n:Nat):∀(d m:Int),d<=n->n<=100-> -100<=d->m<=1000000->∀{c:et},c.ok->DYs d m (YB n) c:=by
 induction n with
 |zero=>
  intro d m hd _ hd0 hm c hc;refine agj.intro rfl rfl (λ outs ho hw=>T.oW rfl ho (by simp[AV.ae,AV.ag,cH]) hw) (.mk 1 0 ⟨#[]⟩ []) (yg0 (by unfold inR;omega) (by unfold inR;omega) (by decide) (by decide)) c hc ?_;have hz:ByteArray.size ⟨#[]⟩<=4:=by decide
  simp only[T.dS,WA,seval]
  repeat' (first|(simp(disch:=(first|omega|rfl|exact rfl|(simp only[au,length_cons,length_nil];done)|exact ai.width _)) only[cE,WA,seval])|(simp(disch:=(first|omega|rfl|exact rfl|(simp only[au,length_cons,length_nil];done)|exact ai.width _)) only[ai.E,cE,cD,cu,aI,mP,WA,seval])|(refine aC (λ hq=> ?_) (λ hq=> ?_)<;>(try simp only[hq,BN])<;>(try (exfalso;omega)))|(refine aP (λ hq=> ?_) (λ hq=> ?_)<;>(try simp only[hq,BN])<;>(try (exfalso;omega)))|(refine aA (λ hq=> ?_) (λ hq=> ?_)<;>(try simp only[hq,BN])<;>(try (exfalso;omega)))|(refine aw ?_)|(refine oH (by assumption) _ (by omega) λ m c' h0 h1 nS=> ?_)|(refine asH (by assumption) _ λ b c' nS=> ?_)|(refine asF (by assumption) ?_))
  all_goals first
   |exact yg0 (by unfold inR;omega) (by unfold inR;omega) hz (by decide)
   |trace_state
 |succ n ih=>
  intro d m hd hn hd0 hm c hc;have ihe:0<d->∀c:et,c.ok->DYs (d- 1) m (YB n) c:=λ h0 c hc=>ih (d- 1) m (by omega) (by omega) (by omega) hm hc
  refine agj.intro rfl rfl (λ outs ho hw=>T.oW rfl ho (by simp[AV.ae,AV.ag,cH]) hw) (.mk 1 0 ⟨#[]⟩ []) (yg0 (by unfold inR;omega) (by unfold inR;omega) (by decide) (by have:=aFT (n+1);omega)) c hc ?_;have hz:ByteArray.size ⟨#[]⟩<=4:=by decide
  simp only[T.dS,WA,seval]
  repeat' (first|(simp(disch:=(first|omega|rfl|exact rfl|(simp only[au,length_cons,length_nil];done)|exact ai.width _)) only[ez,wg,hd,xP,ai.E,cE,cD,cu,aI,mP,WA,seval])|(simp(disch:=(first|omega|rfl|exact rfl|(simp only[au,length_cons,length_nil];done)|exact ai.width _)) only[ez,hd,ai.E,cE,cD,cu,aI,mP,WA,seval])|(simp(disch:=(first|omega|rfl|exact rfl|(simp only[au,length_cons,length_nil];done)|exact ai.width _)) only[hd,xP,ai.E,cE,cD,cu,aI,mP,WA,seval])|(simp(disch:=(first|omega|rfl|exact rfl|(simp only[au,length_cons,length_nil];done)|exact ai.width _)) only[hix,hd,ai.E,cE,cD,cu,aI,mP,WA,seval])|(simp(disch:=(first|omega|rfl|exact rfl|(simp only[au,length_cons,length_nil];done)|exact ai.width _)) only[ai.E,cE,WA,seval])|(simp(disch:=(first|omega|rfl|exact rfl|(simp only[au,length_cons,length_nil];done)|exact ai.width _)) only[ai.E,cE,cD,cu,aI,mP,WA,seval])|(refine aC (λ hq=> ?_) (λ hq=> ?_)<;>(try simp only[hq,BN])<;>(try (exfalso;omega)))|(refine aP (λ hq=> ?_) (λ hq=> ?_)<;>(try simp only[hq,BN])<;>(try (exfalso;omega)))|(refine aA (λ hq=> ?_) (λ hq=> ?_)<;>(try simp only[hq])<;>(try (exfalso;omega)))|(refine aw ?_)|(refine oH (by assumption) _ (by omega) λ m c' h0 h1 nS=> ?_)|(refine asH (by assumption) _ λ b c' nS=> ?_)|(refine aH5 (by assumption) tyN (by simp[tyN]) (by decide) λ s c' hs nS=> ?_;have hs2:=aGk _ hs)|(refine aOk (ihe (by omega)) (by assumption) λ x c' hx nS=> ?_)|(refine asF (by assumption) ?_)|(refine aH4 (by assumption) _ ?_)|(refine aye ai.av (YG (YB n)) (by assumption) 14 rfl (by omega) λ c xs hc hxs hle=> ?_))
  all_goals first
   |exact yg0 (by unfold inR;omega) (by unfold inR;omega) hz (by have:=aFT (n+1);omega)
   |exact⟨λ y hy=>by rw[hy];exact ai.width _,by omega,by omega,_,_,by assumption,by assumption,rfl⟩
   |exact⟨λ y hy=>by rw[hy];exact ai.width _,by omega,by omega,by omega,_,_,by assumption,by assumption,rfl⟩
   |exact yg (b:=YB n) (by unfold inR;omega) (by unfold inR;omega) (by assumption) (by assumption) (by omega) (by simp only[YB];omega)
   |trace_state
end Go.Proofs.Ab
