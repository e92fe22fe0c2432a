/-
  TYPES THAT ARE DRAWN.
-/
import Derived.Test.YtfebhekplhjigaaCDr
open Bool(not_eq_true' not_eq_false')
open List(map_cons length_cons length_nil map_nil)
open Nat(reduceEqDiff reduceLeDiff reduceAdd reduceLT reduceMul)
set_option linter.unusedVariables false
set_option linter.unusedSimpArgs false
namespace Go.Ab
set_option maxRecDepth 100000
set_option maxHeartbeats 4000000
theorem sE{P:Program}{R:AV->Prop}{t:T}{r:List AV}{S:List (List AV->Prop)}{X:Type}(av:X->AV)(dB:X->Prop){c0:cF}(hc0:c0.ok)(k:Nat){n:Int}(hk:r.getD k .top=aA n)(hn:0<=n)
 (hr:∀(c:cF) (xs:List X),c.ok->(∀x∈xs,dB x)->(xs.length:Int)<=n->
  bF P LF R t (r++ [.sl (jx c.l),aA c.i,aA c.h,.sl (xs.map av),aA (xs.length:Int)]) ((λ vs=>(xs.length:Int)<n/\∃c' x,cF.ok c'/\dB x/\vs= [.sl (jx c'.l),aA c'.i,aA c'.h,.sl (xs.map av++ [av x]),aA ((xs.length:Int)+1)])::S)):
 qL P LF R [.sl (jx c0.l),aA c0.i,aA c0.h,.sl [],aA 0] t r S:=alA av dB hc0 n hn hr
structure YG(B:Nat)(x:aa):Prop where
 ok:x.ok
 wt:x.wt<=B
def YB:Nat->Nat
 |0=>7
 |n+1=>7+3*YB n
theorem sh{α:Type}(f:α->Nat)(b:Nat):∀(l:List α),(∀x∈l,f x<=b)->(l.map f).sum<=l.length*b
 | [],_=>by simp
 |x::l,h=>by
  have:=sh f b l λ y hy=>h y (by simp[hy])
  have:=h x (by simp);simp only[map_cons,List.sum_cons,length_cons,Nat.add_mul,Nat.one_mul];omega
theorem yg{B b:Nat}{K N:Int}{S:ByteArray}{kids:List aa}(hK:l9 K)(hN:l9 N)(hS:S.size<=4)(hk:∀x∈kids,YG b x)(h3:(kids.length:Int)<=3)(hB:7+3*b<=B):YG B (.mk K N S kids):=by
 refine⟨(aa.od _).2 ⟨hK,hN,λ y hy=>(hk y hy).ok⟩,?_⟩;rw[aa.bg];simp only[aa.iL,aa.eR];have h1:=sh aa.wt b kids λ x hx=>(hk x hx).wt
 have h2:kids.length*b<=3*b:=Nat.mul_le_mul_right _ (by omega);omega
theorem yg0{B:Nat}{K N:Int}{S:ByteArray}(hK:l9 K)(hN:l9 N)(hS:S.size<=4)(hB:4<=B):YG B (.mk K N S []):=by
 refine⟨(aa.od _).2 ⟨hK,hN,λ y hy=>by cases hy⟩,?_⟩;rw[aa.bg];simp only[aa.iL,aa.eR,length_nil,map_nil,List.sum_nil];omega
theorem ahW(n:Nat):7<=YB n:=by cases n<;>simp only[YB]<;>omega
theorem ygA{B:Nat}{K N K' N':Int}{S S':ByteArray}{kids:List aa}(h:YG B (.mk K N S kids))(hK:l9 K')(hN:l9 N')(hS:S'=S∨S'.size<=4):YG (B+4) (.mk K' N' S' kids):=by
 have h1:=(aa.od _).1 h.ok;have h2:=h.wt;rw[aa.bg]at h2;refine⟨(aa.od _).2 ⟨hK,hN,h1.2.2⟩,?_⟩;rw[aa.bg];simp only[aa.iL,aa.eR]at h2⊢;rcases hS with rfl|hS<;>omega
theorem ygB{B:Nat}{K N:Int}{S:ByteArray}{kids:List aa}(h:YG B (.mk K N S kids)):YG (B+4) (.mk K N S (kids++ [.mk 1 0 ⟨#[]⟩ []])):=by
 have h1:=(aa.od _).1 h.ok;have h2:=h.wt;rw[aa.bg]at h2;refine⟨(aa.od _).2 ⟨h1.1,h1.2.1,λ y hy=> ?_⟩,?_⟩
 ·rcases List.mem_append.1 hy with hy|hy
  ·exact h1.2.2 y hy
  ·rw[List.mem_singleton.1 hy];exact(aa.od _).2 ⟨by unfold l9;simp only[aa.wz];omega,by unfold l9;simp only[aa.aqq];omega,λ z hz=>by cases hz⟩
 have h0:(aa.mk 1 0 ⟨#[]⟩ []).wt=0:=by rw[aa.bg];rfl
 rw[aa.bg];simp only[aa.iL,aa.eR,List.length_append,List.map_append,List.sum_append,length_cons,length_nil,map_cons,map_nil,List.sum_cons,List.sum_nil,h0]at h2⊢;omega
theorem ayR{B:Nat}{K N:Int}{S:ByteArray}{kids:List aa}(h:YG B (.mk K N S kids)):l9 K/\l9 N:=⟨((aa.od _).1 h.ok).1,((aa.od _).1 h.ok).2.1⟩
theorem leY{K N:Int}{S:ByteArray}:AV.uO (.agg [aA K,aA N,ch S,.aw]) (aa.mk K N S []).av:=by
 rw[←aa.eta];refine .agg _ _ rfl λ i c d hc hd=> ?_
 rcases i with _|_|_|_|i<;>simp at hc hd<;>subst hc<;>subst hd<;>first|exact .refl _|exact .nil
theorem vS{K N:Int}{S:ByteArray}{kids:List aa}:AV.agg [aA K,aA N,ch S,.sl (kids.map aa.av)]=(aa.mk K N S kids).av:=by rw[←aa.eta];rfl
theorem wq{c:cF}(hc:c.ok){K N:Int}{S:ByteArray}{dB:aa->Prop}(hg:dB (.mk K N S [])):tC (dx aa.av dB) [.agg [aA K,aA N,ch S,.aw],.sl (jx c.l),aA c.i,aA c.h]:=agx hc _ leY hg
theorem agy{c:cF}(hc:c.ok){K N:Int}{S:ByteArray}(kids:List aa){dB:aa->Prop}(hg:dB (.mk K N S kids)):tC (dx aa.av dB) [.agg [aA K,aA N,ch S,.sl (kids.map aa.av)],.sl (jx c.l),aA c.i,aA c.h]:=
 agx hc _ (by rw[vS];exact .refl _) hg
def dxR(dB:aa->Prop):AV->Prop:=ex 7 λ outs=>∃K N S kids c,outs= [aA K,.sl (jx c.l),aA c.i,aA c.h,aA N,ch S,.sl (kids.map aa.av)]/\dB (.mk K N S kids)/\cF.ok c
theorem agz{c:cF}(hc:c.ok){K N:Int}{S:ByteArray}(kids:List aa){dB:aa->Prop}(hg:dB (.mk K N S kids)):tC (dxR dB) [aA K,.sl (jx c.l),aA c.i,aA c.h,aA N,ch S,.sl (kids.map aa.av)]:=by
 unfold tC dxR ex;exact⟨_,rfl,⟨K,N,S,kids,c,rfl,hg,hc⟩,rfl⟩
theorem ahM{c:cF}(hc:c.ok){K N:Int}{S:ByteArray}{dB:aa->Prop}(hg:dB (.mk K N S [])):tC (dxR dB) [aA K,.sl (jx c.l),aA c.i,aA c.h,aA N,ch S,.sl []]:=agz hc [] hg
theorem azb(kids:List aa):AV.uO (.sl (kids.map aa.av++ [.agg [aA 1,aA 0,ch ⟨#[]⟩,.aw]])) (.sl ((kids++ [aa.mk 1 0 ⟨#[]⟩ []]).map aa.av)):=by
 have e:aa.av (.mk 1 0 ⟨#[]⟩ [])= .agg [aA 1,aA 0,ch ⟨#[]⟩,.sl []]:=(vS (K:=1) (N:=0) (S:=⟨#[]⟩) (kids:=[])).symm;rw[List.map_append,map_cons,map_nil,e]
 have key:∀(i:Nat) (x y:AV),(kids.map aa.av++ [.agg [aA 1,aA 0,ch ⟨#[]⟩,.aw]])[i]? =some x->(kids.map aa.av++ [.agg [aA 1,aA 0,ch ⟨#[]⟩,.sl []]])[i]? =some y->x=y∨(x= .agg [aA 1,aA 0,ch ⟨#[]⟩,.aw]/\y= .agg [aA 1,aA 0,ch ⟨#[]⟩,.sl []]):=by
  intro i x y hx hy;by_cases h:i<(kids.map aa.av).length
  ·rw[List.getElem?_append_left h]at hx hy;exact .inl (by rw[hx]at hy;exact Option.some.inj hy)
  ·rw[List.getElem?_append_right (by omega)]at hx hy;rcases hn:i- (kids.map aa.av).length with _|n
   ·rw[hn]at hx hy;simp only[List.getElem?_cons_zero,Option.some.injEq]at hx hy;exact .inr ⟨hx.symm,hy.symm⟩
   ·rw[hn]at hx;simp at hx
 refine .sl _ _ (by simp) (λ i x y hx hy=> ?_) λ i x y j c d hx hy hc hd=> ?_
 ·rcases key i x y hx hy with rfl|⟨rfl,rfl⟩<;>rfl
 ·rcases key i x y hx hy with rfl|⟨rfl,rfl⟩
  ·rw[hc]at hd;cases hd;exact .refl _
  ·rcases j with _|_|_|_|j<;>simp[AV.cells]at hc hd<;>subst hc<;>subst hd<;>first|exact .refl _|exact .nil
theorem ahL{c:cF}(hc:c.ok){K N:Int}{S:ByteArray}(kids:List aa){dB:aa->Prop}(hg:dB (.mk K N S (kids++ [.mk 1 0 ⟨#[]⟩ []]))):
  tC (dx aa.av dB) [.agg [aA K,aA N,ch S,.sl (kids.map aa.av++ [.agg [aA 1,aA 0,ch ⟨#[]⟩,.aw]])],.sl (jx c.l),aA c.i,aA c.h]:=by
 refine agx hc _ ?_ hg;rw[←vS];refine .agg _ _ rfl λ i c d hc hd=> ?_
 rcases i with _|_|_|_|i
 ·simp at hc hd;subst hc;subst hd;exact .refl _
 ·simp at hc hd;subst hc;subst hd;exact .refl _
 ·simp at hc hd;subst hc;subst hd;exact .refl _
 ·simp only[List.getElem?_cons_succ,List.getElem?_cons_zero,Option.some.injEq]at hc hd;subst hc;subst hd;exact azb kids
 ·simp at hc
def tyN:List ByteArray:=[⟨#[116]⟩,⟨#[108,105,115,116]⟩,⟨#[117]⟩]
theorem afe:∀s∈tyN,s.size<=4:=by unfold tyN;decide+kernel
def tyM:List ByteArray:=[⟨#[]⟩,⟨#[120]⟩,⟨#[76,101,116]⟩]
theorem arN:∀s∈tyM,s.size<=4:=by unfold tyM;decide+kernel
end Go.Ab
namespace Go.Proofs.Ab
open Go.Ab
set_option maxRecDepth 100000
set_option maxHeartbeats 4000000
abbrev DYs(d m:Int)(B:Nat)(c:cF):Prop:=oZ Try.prog F.aO G.bu [.sl (jx c.l),aA c.i,aA c.h,aA d,aA m] aa.av (YG B)
theorem are{d m:Int}{B:Nat}(h:∀c:cF,c.ok->DYs d m B c){c:cF}(hc:c.ok){K:AV->Prop}(k:∀(x:aa) (c':cF),YG B x->c'.ok->e7 K (.ba [x.av,.sl (jx c'.l),aA c'.i,aA c'.h])):kP Try.prog F.aO G.bu [.sl (jx c.l),aA c.i,aA c.h,aA d,aA m] K:=
 (h c hc).use rfl aa.ag k
theorem am6(n:Nat):∀(d m:Int),d<=n->n<=100-> -100<=d->m<=1000000->∀{c:cF},c.ok->DYs d m (YB n) c:=by
 induction n with
 |zero=>
  intro d m hd _ hd0 hm c hc;refine oZ.intro rfl rfl (λ outs ho hw=>T.fy rfl ho (by simp[AV.ad,AV.ag,bl]) hw) (.mk 1 0 ⟨#[]⟩ []) (yg0 (by unfold l9;omega) (by unfold l9;omega) (by decide) (by decide)) c hc ?_;have hz:ByteArray.size ⟨#[]⟩<=4:=by decide
  simp only[T.bu,WA,reduceEqDiff,reduceAdd,reduceLT,reduceLeDiff,reduceMul,reduceIte,reduceCtorEq,Int.reduceEq,Int.reduceLT,Int.reduceLE,Int.reduceNe]
  repeat' (first|(simp(disch:=(first|omega|rfl|exact rfl|(simp only[aq,length_cons,length_nil];done)|exact aa.width _)) only[hd,aa.cells,aa.isAgg,aa.storable,aa.eta,bm,aK,aS,au,dJ,WA,reduceEqDiff,reduceAdd,reduceLT,reduceLeDiff,reduceMul,reduceIte,reduceCtorEq,Int.reduceEq,Int.reduceLT,Int.reduceLE,Int.reduceNe])|(simp(disch:=(first|omega|rfl|exact rfl|(simp only[aq,length_cons,length_nil];done)|exact aa.width _)) only[aa.cells,aa.isAgg,aa.storable,aa.eta,bm,aK,aS,au,dJ,WA,reduceEqDiff,reduceAdd,reduceLT,reduceLeDiff,reduceMul,reduceIte,reduceCtorEq,Int.reduceEq,Int.reduceLT,Int.reduceLE,Int.reduceNe])|(refine aE (λ hq=> ?_) (λ hq=> ?_)<;>(try simp only[hq,decide_true,decide_false,Bool.not_true,Bool.not_false,not_eq_true',not_eq_false'])<;>(try (exfalso;omega)))|(refine a8 (λ hq=> ?_) (λ hq=> ?_)<;>(try simp only[hq,decide_true,decide_false,Bool.not_true,Bool.not_false,not_eq_true',not_eq_false'])<;>(try (exfalso;omega)))|(refine aD (λ hq=> ?_) (λ hq=> ?_)<;>(try simp only[hq,decide_true,decide_false,Bool.not_true,Bool.not_false,not_eq_true',not_eq_false'])<;>(try (exfalso;omega)))|(refine aB ?_)|(refine gx (by assumption) _ (by omega) λ m c' h0 h1 fT=> ?_)|(refine oG (by assumption) _ λ b c' fT=> ?_)|(refine wq (by assumption) ?_))
  all_goals first
   |exact yg0 (by unfold l9;omega) (by unfold l9;omega) hz (by decide)
   |trace_state
 |succ n ih=>
  intro d m hd hn hd0 hm c hc;have ihe:0<d->∀c:cF,c.ok->DYs (d- 1) m (YB n) c:=λ h0 c hc=>ih (d- 1) m (by omega) (by omega) (by omega) hm hc
  refine oZ.intro rfl rfl (λ outs ho hw=>T.fy rfl ho (by simp[AV.ad,AV.ag,bl]) hw) (.mk 1 0 ⟨#[]⟩ []) (yg0 (by unfold l9;omega) (by unfold l9;omega) (by decide) (by have:=ahW (n+1);omega)) c hc ?_;have hz:ByteArray.size ⟨#[]⟩<=4:=by decide
  simp only[T.bu,WA,reduceEqDiff,reduceAdd,reduceLT,reduceLeDiff,reduceMul,reduceIte,reduceCtorEq,Int.reduceEq,Int.reduceLT,Int.reduceLE,Int.reduceNe]
  repeat' (first|(simp(disch:=(first|omega|rfl|exact rfl|(simp only[aq,length_cons,length_nil];done)|exact aa.width _)) only[fw,tZ,hd,ub,aa.cells,aa.isAgg,aa.storable,aa.eta,bm,aK,aS,au,dJ,WA,reduceEqDiff,reduceAdd,reduceLT,reduceLeDiff,reduceMul,reduceIte,reduceCtorEq,Int.reduceEq,Int.reduceLT,Int.reduceLE,Int.reduceNe])|(simp(disch:=(first|omega|rfl|exact rfl|(simp only[aq,length_cons,length_nil];done)|exact aa.width _)) only[fw,hd,aa.cells,aa.isAgg,aa.storable,aa.eta,bm,aK,aS,au,dJ,WA,reduceEqDiff,reduceAdd,reduceLT,reduceLeDiff,reduceMul,reduceIte,reduceCtorEq,Int.reduceEq,Int.reduceLT,Int.reduceLE,Int.reduceNe])|(simp(disch:=(first|omega|rfl|exact rfl|(simp only[aq,length_cons,length_nil];done)|exact aa.width _)) only[hd,ub,aa.cells,aa.isAgg,aa.storable,aa.eta,bm,aK,aS,au,dJ,WA,reduceEqDiff,reduceAdd,reduceLT,reduceLeDiff,reduceMul,reduceIte,reduceCtorEq,Int.reduceEq,Int.reduceLT,Int.reduceLE,Int.reduceNe])|(simp(disch:=(first|omega|rfl|exact rfl|(simp only[aq,length_cons,length_nil];done)|exact aa.width _)) only[hix,hd,aa.cells,aa.isAgg,aa.storable,aa.eta,bm,aK,aS,au,dJ,WA,reduceEqDiff,reduceAdd,reduceLT,reduceLeDiff,reduceMul,reduceIte,reduceCtorEq,Int.reduceEq,Int.reduceLT,Int.reduceLE,Int.reduceNe])|(simp(disch:=(first|omega|rfl|exact rfl|(simp only[aq,length_cons,length_nil];done)|exact aa.width _)) only[hd,aa.cells,aa.isAgg,aa.storable,aa.eta,bm,aK,aS,au,dJ,WA,reduceEqDiff,reduceAdd,reduceLT,reduceLeDiff,reduceMul,reduceIte,reduceCtorEq,Int.reduceEq,Int.reduceLT,Int.reduceLE,Int.reduceNe])|(simp(disch:=(first|omega|rfl|exact rfl|(simp only[aq,length_cons,length_nil];done)|exact aa.width _)) only[aa.cells,aa.isAgg,aa.storable,aa.eta,bm,aK,aS,au,dJ,WA,reduceEqDiff,reduceAdd,reduceLT,reduceLeDiff,reduceMul,reduceIte,reduceCtorEq,Int.reduceEq,Int.reduceLT,Int.reduceLE,Int.reduceNe])|(refine aE (λ hq=> ?_) (λ hq=> ?_)<;>(try simp only[hq,decide_true,decide_false,Bool.not_true,Bool.not_false,not_eq_true',not_eq_false'])<;>(try (exfalso;omega)))|(refine a8 (λ hq=> ?_) (λ hq=> ?_)<;>(try simp only[hq,decide_true,decide_false,Bool.not_true,Bool.not_false,not_eq_true',not_eq_false'])<;>(try (exfalso;omega)))|(refine aD (λ hq=> ?_) (λ hq=> ?_)<;>(try simp only[hq,decide_true,decide_false,Bool.not_true,Bool.not_false,not_eq_true',not_eq_false'])<;>(try (exfalso;omega)))|(refine aB ?_)|(refine gx (by assumption) _ (by omega) λ m c' h0 h1 fT=> ?_)|(refine oG (by assumption) _ λ b c' fT=> ?_)|(refine yJ (by assumption) tyN (by simp[tyN]) (by decide) λ s c' hs fT=> ?_;have hs2:=afe _ hs)|(refine are (ihe (by omega)) (by assumption) λ x c' hx fT=> ?_)|(refine wq (by assumption) ?_)|(refine agy (by assumption) _ ?_)|(refine sE aa.av (YG (YB n)) (by assumption) 14 rfl (by omega) λ c xs hc nU hle=> ?_))
  all_goals first
   |exact yg0 (by unfold l9;omega) (by unfold l9;omega) hz (by have:=ahW (n+1);omega)
   |exact⟨λ y hy=>by rw[hy];exact aa.width _,by omega,by omega,_,_,by assumption,by assumption,rfl⟩
   |exact⟨λ y hy=>by rw[hy];exact aa.width _,by omega,by omega,by omega,_,_,by assumption,by assumption,rfl⟩
   |exact yg (b:=YB n) (by unfold l9;omega) (by unfold l9;omega) (by assumption) (by assumption) (by omega) (by simp only[YB];omega)
   |trace_state
def DYr(d m:Int)(B:Nat)(c:cF):Prop:=∃K N S kids c',YG B (.mk K N S kids)/\cF.ok c'/\gA Try.prog F.aO G.aO [.sl (jx c.l),aA c.i,aA c.h,aA d,aA m] [aA K,.sl (jx c'.l),aA c'.i,aA c'.h,aA N,ch S,.sl (kids.map aa.av)]
theorem am7(n:Nat)(d m:Int)(hd:d<=n+1)(hn:n<=100)(hd0: -99<=d)(hm:m<=1000000){c:cF}(hc:c.ok):DYr d m (YB (n+1)) c:=by
 have ihe:0<d->∀c:cF,c.ok->DYs (d- 1) m (YB n) c:=λ h0 c hc=>am6 n (d- 1) m (by omega) (by omega) (by omega) hm hc
 have hz:ByteArray.size ⟨#[]⟩<=4:=by decide
 have bB:∃outs:List AV,outs.length=7/\∃K N S kids c,outs= [aA K,.sl (jx c.l),aA c.i,aA c.h,aA N,ch S,.sl (kids.map aa.av)]/\YG (YB (n+1)) (.mk K N S kids)/\cF.ok c:=
  ⟨_,rfl,1,0,⟨#[]⟩,[],c,rfl,yg0 (by unfold l9;omega) (by unfold l9;omega) hz (by have:=ahW (n+1);omega),hc⟩
 have hw:bF Try.prog LF (dxR (YG (YB (n+1)))) T.aO [.sl (jx c.l),aA c.i,aA c.h,aA d,aA m] []:=by
  simp only[T.aO,WA,reduceEqDiff,reduceAdd,reduceLT,reduceLeDiff,reduceMul,reduceIte,reduceCtorEq,Int.reduceEq,Int.reduceLT,Int.reduceLE,Int.reduceNe]
  repeat' (first|(simp(disch:=(first|omega|rfl|exact rfl|(simp only[aq,length_cons,length_nil];done)|exact aa.width _)) only[fw,tZ,hd,ub,aa.cells,aa.isAgg,aa.storable,aa.eta,bm,aK,aS,au,dJ,WA,reduceEqDiff,reduceAdd,reduceLT,reduceLeDiff,reduceMul,reduceIte,reduceCtorEq,Int.reduceEq,Int.reduceLT,Int.reduceLE,Int.reduceNe])|(simp(disch:=(first|omega|rfl|exact rfl|(simp only[aq,length_cons,length_nil];done)|exact aa.width _)) only[fw,hd,aa.cells,aa.isAgg,aa.storable,aa.eta,bm,aK,aS,au,dJ,WA,reduceEqDiff,reduceAdd,reduceLT,reduceLeDiff,reduceMul,reduceIte,reduceCtorEq,Int.reduceEq,Int.reduceLT,Int.reduceLE,Int.reduceNe])|(simp(disch:=(first|omega|rfl|exact rfl|(simp only[aq,length_cons,length_nil];done)|exact aa.width _)) only[hd,ub,aa.cells,aa.isAgg,aa.storable,aa.eta,bm,aK,aS,au,dJ,WA,reduceEqDiff,reduceAdd,reduceLT,reduceLeDiff,reduceMul,reduceIte,reduceCtorEq,Int.reduceEq,Int.reduceLT,Int.reduceLE,Int.reduceNe])|(simp(disch:=(first|omega|rfl|exact rfl|(simp only[aq,length_cons,length_nil];done)|exact aa.width _)) only[hix,hd,aa.cells,aa.isAgg,aa.storable,aa.eta,bm,aK,aS,au,dJ,WA,reduceEqDiff,reduceAdd,reduceLT,reduceLeDiff,reduceMul,reduceIte,reduceCtorEq,Int.reduceEq,Int.reduceLT,Int.reduceLE,Int.reduceNe])|(simp(disch:=(first|omega|rfl|exact rfl|(simp only[aq,length_cons,length_nil];done)|exact aa.width _)) only[hd,aa.cells,aa.isAgg,aa.storable,aa.eta,bm,aK,aS,au,dJ,WA,reduceEqDiff,reduceAdd,reduceLT,reduceLeDiff,reduceMul,reduceIte,reduceCtorEq,Int.reduceEq,Int.reduceLT,Int.reduceLE,Int.reduceNe])|(simp(disch:=(first|omega|rfl|exact rfl|(simp only[aq,length_cons,length_nil];done)|exact aa.width _)) only[aa.cells,aa.isAgg,aa.storable,aa.eta,bm,aK,aS,au,dJ,WA,reduceEqDiff,reduceAdd,reduceLT,reduceLeDiff,reduceMul,reduceIte,reduceCtorEq,Int.reduceEq,Int.reduceLT,Int.reduceLE,Int.reduceNe])|(refine aE (λ hq=> ?_) (λ hq=> ?_)<;>(try simp only[hq,decide_true,decide_false,Bool.not_true,Bool.not_false,not_eq_true',not_eq_false'])<;>(try (exfalso;omega)))|(refine a8 (λ hq=> ?_) (λ hq=> ?_)<;>(try simp only[hq,decide_true,decide_false,Bool.not_true,Bool.not_false,not_eq_true',not_eq_false'])<;>(try (exfalso;omega)))|(refine aD (λ hq=> ?_) (λ hq=> ?_)<;>(try simp only[hq,decide_true,decide_false,Bool.not_true,Bool.not_false,not_eq_true',not_eq_false'])<;>(try (exfalso;omega)))|(refine aB ?_)|(refine gx (by assumption) _ (by omega) λ m c' h0 h1 fT=> ?_)|(refine oG (by assumption) _ λ b c' fT=> ?_)|(refine yJ (by assumption) tyN (by simp[tyN]) (by decide) λ s c' hs fT=> ?_;have hs2:=afe _ hs)|(refine are (ihe (by omega)) (by assumption) λ x c' hx fT=> ?_)|(refine ahM (by assumption) ?_)|(refine agz (by assumption) _ ?_)|(refine sE aa.av (YG (YB n)) (by assumption) 14 rfl (by omega) λ c xs hc nU hle=> ?_))
  all_goals first
   |exact yg0 (by unfold l9;omega) (by unfold l9;omega) hz (by have:=ahW (n+1);omega)
   |exact⟨λ y hy=>by rw[hy];exact aa.width _,by omega,by omega,_,_,by assumption,by assumption,rfl⟩
   |exact⟨λ y hy=>by rw[hy];exact aa.width _,by omega,by omega,by omega,_,_,by assumption,by assumption,rfl⟩
   |exact yg (b:=YB n) (by unfold l9;omega) (by unfold l9;omega) (by assumption) (by assumption) (by omega) (by simp only[YB];omega)
   |trace_state
 obtain⟨outs,hl,⟨K,N,S,kids,c',rfl,hg,fT⟩,h⟩:=pN bB hw;exact⟨K,N,S,kids,c',hg,fT,T.ny rfl rfl (by simp[AV.ad,AV.ag,bl]) h⟩
theorem axJ{d m:Int}{B:Nat}{c:cF}(h:DYr d m B c){Z:AV->Prop}(k:∀(K N:Int) (S:ByteArray) (kids:List aa) (c':cF),YG B (.mk K N S kids)->c'.ok->e7 Z (.ba [aA K,.sl (jx c'.l),aA c'.i,aA c'.h,aA N,ch S,.sl (kids.map aa.av)])):kP Try.prog F.aO G.aO [.sl (jx c.l),aA c.i,aA c.h,aA d,aA m] Z:=by
 obtain⟨K,N,S,kids,c',hg,fT,h⟩:=h;exact dT h rfl (by simp[AV.ad,AV.ag,bl,bH (f:=aa.av) (l:=kids) aa.ag]) (k K N S kids c' hg fT)
theorem aaO{c:cF}(hc:c.ok):oZ Try.prog F.bD G.bD [.sl (jx c.l),aA c.i,aA c.h] aa.av (YG (YB 4+4)):=by
 refine oZ.intro rfl rfl (λ outs ho hw=>T.qw rfl ho (by simp[AV.ad,AV.ag,bl]) hw) (.mk 1 0 ⟨#[]⟩ []) (yg0 (by unfold l9;omega) (by unfold l9;omega) (by decide) (by decide)) c hc ?_;simp only[T.bD,WA,reduceEqDiff,reduceAdd,reduceLT,reduceLeDiff,reduceMul,reduceIte,reduceCtorEq,Int.reduceEq,Int.reduceLT,Int.reduceLE,Int.reduceNe];refine axJ (am7 3 4 3 (by omega) (by omega) (by omega) (by omega) hc) λ K N S kids c1 hg hc1=> ?_
 have hg:YG (YB 4) (.mk K N S kids):=hg;have rT:=ayR hg
 have hkl:kids.length<=YB 4:=by
  have:=hg.wt;rw[aa.bg]at this;simp only[aa.eR]at this;omega
 have hyb:YB 4<=1000000:=by decide
 repeat' (first|(simp(disch:=(first|omega|rfl|exact rfl|(simp only[aq,length_cons,length_nil];done)|exact aa.width _)) only[aa.cells,aa.isAgg,aa.storable,aa.eta,bm,List.length_map,aK,aS,au,dJ,WA,reduceEqDiff,reduceAdd,reduceLT,reduceLeDiff,reduceMul,reduceIte,reduceCtorEq,Int.reduceEq,Int.reduceLT,Int.reduceLE,Int.reduceNe])|(refine aE (λ hq=> ?_) (λ hq=> ?_)<;>(try simp only[hq,decide_true,decide_false,Bool.not_true,Bool.not_false,not_eq_true',not_eq_false'])<;>(try (exfalso;omega)))|(refine a8 (λ hq=> ?_) (λ hq=> ?_)<;>(try simp only[hq,decide_true,decide_false,Bool.not_true,Bool.not_false,not_eq_true',not_eq_false'])<;>(try (exfalso;omega)))|(refine aD (λ hq=> ?_) (λ hq=> ?_)<;>(try simp only[hq,decide_true,decide_false,Bool.not_true,Bool.not_false,not_eq_true',not_eq_false'])<;>(try (exfalso;omega)))|(refine aB ?_)|(refine gx (by assumption) _ (by omega) λ m c' h0 h1 fT=> ?_)|(refine yJ (by assumption) tyM (by simp[tyM]) (by decide) λ s c' hs fT=> ?_;have hs2:=arN _ hs)|(refine agB (by assumption) [_,_,_,_,_] (by simp) (by decide) λ m c' hm fT=> ?_;simp only[List.mem_cons,List.not_mem_nil,or_false]at hm)|(refine agB (by assumption) [_,_] (by simp) (by decide) λ m c' hm fT=> ?_;simp only[List.mem_cons,List.not_mem_nil,or_false]at hm)|(refine ahL (by assumption) _ ?_)|(refine agy (by assumption) _ ?_))
 all_goals first
  |exact ygB hg
  |exact⟨λ y hy=>by rw[hy];rfl,by omega,by omega,ahL (by assumption) _ (ygB hg)⟩
  |exact ygA hg rT.1 rT.2 (.inl rfl)
  |exact ygA hg rT.1 rT.2 (.inr (by assumption))
  |exact ygA hg rT.1 (by unfold l9;omega) (.inl rfl)
  |exact ygA hg (by unfold l9;omega) rT.2 (.inl rfl)
  |trace_state
end Go.Proofs.Ab
