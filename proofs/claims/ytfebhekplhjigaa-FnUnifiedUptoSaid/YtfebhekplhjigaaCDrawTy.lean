/-
  TYPES THAT ARE DRAWN.
-/
import Derived.Test.YtfebhekplhjigaaCDr
open Bool(not_eq_true' not_eq_false')
open List(map_cons length_cons length_nil map_nil)
open Nat(reduceEqDiff reduceLeDiff reduceAdd reduceLT reduceMul)
set_option linter.unusedSimpArgs false
set_option linter.unusedVariables false
namespace Go.Ab
set_option maxRecDepth 100000
set_option maxHeartbeats 4000000
theorem tE{P:Program}{R:AV->Prop}{t:T}{r:List AV}{S:List (List AV->Prop)}{X:Type}(av:X->AV)(dA:X->Prop){c0:cB}(hc0:c0.ok)(k:Nat){n:Int}(hk:r.getD k .top=au n)(hn:0<=n)
 (hr:∀(c:cB) (xs:List X),c.ok->(∀x∈xs,dA x)->(xs.length:Int)<=n->
  bD P LF R t (r++ [.sl (j8 c.l),au c.i,au c.h,.sl (xs.map av),au (xs.length:Int)]) ((λ vs=>(xs.length:Int)<n/\∃c' x,cB.ok c'/\dA x/\vs= [.sl (j8 c'.l),au c'.i,au c'.h,.sl (xs.map av++ [av x]),au ((xs.length:Int)+1)])::S)):
 rQ P LF R [.sl (j8 c0.l),au c0.i,au c0.h,.sl [],au 0] t r S:=ant av dA hc0 n hn hr
structure YG(B:Nat)(x:aa):Prop where
 ok:x.ok
 wt:x.wt<=B
def YB:Nat->Nat
 |0=>7
 |n+1=>7+3*YB n
theorem xr{α:Type}(f:α->Nat)(b:Nat):∀(l:List α),(∀x∈l,f x<=b)->(l.map f).sum<=l.length*b
 | [],_=>by simp
 |x::l,h=>by
  have:=xr f b l λ y hy=>h y (by simp[hy])
  have:=h x (by simp);simp only[map_cons,List.sum_cons,length_cons,Nat.add_mul,Nat.one_mul];omega
theorem yg{B b:Nat}{K N:Int}{S:ByteArray}{kids:List aa}(hK:l8 K)(hN:l8 N)(hS:S.size<=4)(hk:∀x∈kids,YG b x)(h3:(kids.length:Int)<=3)(hB:7+3*b<=B):YG B (.mk K N S kids):=by
 refine⟨(aa.oV _).2 ⟨hK,hN,λ y hy=>(hk y hy).ok⟩,?_⟩;rw[aa.dH];simp only[aa.kg,aa.gI];have h1:=xr aa.wt b kids λ x hx=>(hk x hx).wt
 have h2:kids.length*b<=3*b:=Nat.mul_le_mul_right _ (by omega);omega
theorem yg0{B:Nat}{K N:Int}{S:ByteArray}(hK:l8 K)(hN:l8 N)(hS:S.size<=4)(hB:4<=B):YG B (.mk K N S []):=by
 refine⟨(aa.oV _).2 ⟨hK,hN,λ y hy=>by cases hy⟩,?_⟩;rw[aa.dH];simp only[aa.kg,aa.gI,length_nil,map_nil,List.sum_nil];omega
theorem ajP(n:Nat):7<=YB n:=by cases n<;>simp only[YB]<;>omega
theorem ygA{B:Nat}{K N K' N':Int}{S S':ByteArray}{kids:List aa}(h:YG B (.mk K N S kids))(hK:l8 K')(hN:l8 N')(hS:S'=S∨S'.size<=4):YG (B+4) (.mk K' N' S' kids):=by
 have h1:=(aa.oV _).1 h.ok;have h2:=h.wt;rw[aa.dH]at h2;refine⟨(aa.oV _).2 ⟨hK,hN,h1.2.2⟩,?_⟩;rw[aa.dH];simp only[aa.kg,aa.gI]at h2⊢;rcases hS with rfl|hS<;>omega
theorem ygB{B:Nat}{K N:Int}{S:ByteArray}{kids:List aa}(h:YG B (.mk K N S kids)):YG (B+4) (.mk K N S (kids++ [.mk 1 0 ⟨#[]⟩ []])):=by
 have h1:=(aa.oV _).1 h.ok;have h2:=h.wt;rw[aa.dH]at h2;refine⟨(aa.oV _).2 ⟨h1.1,h1.2.1,λ y hy=> ?_⟩,?_⟩
 ·rcases List.mem_append.1 hy with hy|hy
  ·exact h1.2.2 y hy
  ·rw[List.mem_singleton.1 hy];exact(aa.oV _).2 ⟨by unfold l8;simp only[aa.xK];omega,by unfold l8;simp only[aa.ass];omega,λ z hz=>by cases hz⟩
 have h0:(aa.mk 1 0 ⟨#[]⟩ []).wt=0:=by rw[aa.dH];rfl
 rw[aa.dH];simp only[aa.kg,aa.gI,List.length_append,List.map_append,List.sum_append,length_cons,length_nil,map_cons,map_nil,List.sum_cons,List.sum_nil,h0]at h2⊢;omega
theorem aAU{B:Nat}{K N:Int}{S:ByteArray}{kids:List aa}(h:YG B (.mk K N S kids)):l8 K/\l8 N:=⟨((aa.oV _).1 h.ok).1,((aa.oV _).1 h.ok).2.1⟩
theorem leY{K N:Int}{S:ByteArray}:AV.leD (.agg [au K,au N,bZ S,.aw]) (aa.mk K N S []).av:=by
 rw[←aa.eta];refine .agg _ _ rfl λ i c d hc hd=> ?_
 rcases i with _|_|_|_|i<;>simp at hc hd<;>subst hc<;>subst hd<;>first|exact .refl _|exact .nil
theorem ad0{K N:Int}{S:ByteArray}{kids:List aa}:AV.agg [au K,au N,bZ S,.sl (kids.map aa.av)]=(aa.mk K N S kids).av:=by rw[←aa.eta];rfl
theorem xF{c:cB}(hc:c.ok){K N:Int}{S:ByteArray}{dA:aa->Prop}(hg:dA (.mk K N S [])):uM (dx aa.av dA) [.agg [au K,au N,bZ S,.aw],.sl (j8 c.l),au c.i,au c.h]:=aip hc _ leY hg
theorem aiq{c:cB}(hc:c.ok){K N:Int}{S:ByteArray}(kids:List aa){dA:aa->Prop}(hg:dA (.mk K N S kids)):uM (dx aa.av dA) [.agg [au K,au N,bZ S,.sl (kids.map aa.av)],.sl (j8 c.l),au c.i,au c.h]:=
 aip hc _ (by rw[ad0];exact .refl _) hg
def dxR(dA:aa->Prop):AV->Prop:=ex 7 λ outs=>∃K N S kids c,outs= [au K,.sl (j8 c.l),au c.i,au c.h,au N,bZ S,.sl (kids.map aa.av)]/\dA (.mk K N S kids)/\cB.ok c
theorem air{c:cB}(hc:c.ok){K N:Int}{S:ByteArray}(kids:List aa){dA:aa->Prop}(hg:dA (.mk K N S kids)):uM (dxR dA) [au K,.sl (j8 c.l),au c.i,au c.h,au N,bZ S,.sl (kids.map aa.av)]:=by
 unfold uM dxR ex;exact⟨_,rfl,⟨K,N,S,kids,c,rfl,hg,hc⟩,rfl⟩
theorem ajF{c:cB}(hc:c.ok){K N:Int}{S:ByteArray}{dA:aa->Prop}(hg:dA (.mk K N S [])):uM (dxR dA) [au K,.sl (j8 c.l),au c.i,au c.h,au N,bZ S,.sl []]:=air hc [] hg
theorem aBe(kids:List aa):AV.leD (.sl (kids.map aa.av++ [.agg [au 1,au 0,bZ ⟨#[]⟩,.aw]])) (.sl ((kids++ [aa.mk 1 0 ⟨#[]⟩ []]).map aa.av)):=by
 have e:aa.av (.mk 1 0 ⟨#[]⟩ [])= .agg [au 1,au 0,bZ ⟨#[]⟩,.sl []]:=(ad0 (K:=1) (N:=0) (S:=⟨#[]⟩) (kids:=[])).symm;rw[List.map_append,map_cons,map_nil,e]
 have key:∀(i:Nat) (x y:AV),(kids.map aa.av++ [.agg [au 1,au 0,bZ ⟨#[]⟩,.aw]])[i]? =some x->(kids.map aa.av++ [.agg [au 1,au 0,bZ ⟨#[]⟩,.sl []]])[i]? =some y->x=y∨(x= .agg [au 1,au 0,bZ ⟨#[]⟩,.aw]/\y= .agg [au 1,au 0,bZ ⟨#[]⟩,.sl []]):=by
  intro i x y hx hy;by_cases h:i<(kids.map aa.av).length
  ·rw[List.getElem?_append_left h]at hx hy;exact .inl (by rw[hx]at hy;exact Option.some.inj hy)
  ·rw[List.getElem?_append_right (by omega)]at hx hy;rcases hn:i- (kids.map aa.av).length with _|n
   ·rw[hn]at hx hy;simp only[List.getElem?_cons_zero,Option.some.injEq]at hx hy;exact .inr ⟨hx.symm,hy.symm⟩
   ·rw[hn]at hx;simp at hx
 refine .sl _ _ (by simp) (λ i x y hx hy=> ?_) λ i x y j c d hx hy hc hd=> ?_
 ·rcases key i x y hx hy with rfl|⟨rfl,rfl⟩<;>rfl
 ·rcases key i x y hx hy with rfl|⟨rfl,rfl⟩
  ·rw[hc]at hd;cases hd;exact .refl _
  ·rcases j with _|_|_|_|j<;>simp[AV.cells]at hc hd<;>subst hc<;>subst hd<;>first|exact .refl _|exact .nil
theorem ajE{c:cB}(hc:c.ok){K N:Int}{S:ByteArray}(kids:List aa){dA:aa->Prop}(hg:dA (.mk K N S (kids++ [.mk 1 0 ⟨#[]⟩ []]))):
  uM (dx aa.av dA) [.agg [au K,au N,bZ S,.sl (kids.map aa.av++ [.agg [au 1,au 0,bZ ⟨#[]⟩,.aw]])],.sl (j8 c.l),au c.i,au c.h]:=by
 refine aip hc _ ?_ hg;rw[←ad0];refine .agg _ _ rfl λ i c d hc hd=> ?_
 rcases i with _|_|_|_|i
 ·simp at hc hd;subst hc;subst hd;exact .refl _
 ·simp at hc hd;subst hc;subst hd;exact .refl _
 ·simp at hc hd;subst hc;subst hd;exact .refl _
 ·simp only[List.getElem?_cons_succ,List.getElem?_cons_zero,Option.some.injEq]at hc hd;subst hc;subst hd;exact aBe kids
 ·simp at hc
def tyN:List ByteArray:=[⟨#[116]⟩,⟨#[108,105,115,116]⟩,⟨#[117]⟩]
theorem ag4:∀s∈tyN,s.size<=4:=by unfold tyN;decide+kernel
def tyM:List ByteArray:=[⟨#[]⟩,⟨#[120]⟩,⟨#[76,101,116]⟩]
theorem atO:∀s∈tyM,s.size<=4:=by unfold tyM;decide+kernel
end Go.Ab
namespace Go.Proofs.Ab
open Go.Ab
set_option maxRecDepth 100000
set_option maxHeartbeats 4000000
abbrev DYs(d m:Int)(B:Nat)(c:cB):Prop:=pF Try.prog F.aN G.bq [.sl (j8 c.l),au c.i,au c.h,au d,au m] aa.av (YG B)
theorem atf{d m:Int}{B:Nat}(h:∀c:cB,c.ok->DYs d m B c){c:cB}(hc:c.ok){K:AV->Prop}(k:∀(x:aa) (c':cB),YG B x->c'.ok->fq K (.a9 [x.av,.sl (j8 c'.l),au c'.i,au c'.h])):lB Try.prog F.aN G.bq [.sl (j8 c.l),au c.i,au c.h,au d,au m] K:=
 (h c hc).use rfl aa.ag k
theorem ao0(n:Nat):∀(d m:Int),d<=n->n<=100-> -100<=d->m<=1000000->∀{c:cB},c.ok->DYs d m (YB n) c:=by
 induction n with
 |zero=>
  intro d m hd _ hd0 hm c hc;refine pF.intro rfl rfl (λ outs ho hw=>T.fF rfl ho (by simp[AV.ae,AV.ag,bj]) hw) (.mk 1 0 ⟨#[]⟩ []) (yg0 (by unfold l8;omega) (by unfold l8;omega) (by decide) (by decide)) c hc ?_;have hz:ByteArray.size ⟨#[]⟩<=4:=by decide
  simp only[T.bq,WA]
  repeat' (first|(simp(disch:=(first|omega|rfl|exact rfl|(simp only[an,length_cons,length_nil];done)|exact aa.width _)) only[bh,WA,reduceAdd])|(simp(disch:=(first|omega|rfl|exact rfl|(simp only[an,length_cons,length_nil];done)|exact aa.width _)) only[aa.cells,aa.isAgg,aa.storable,aa.eta,bh,bW,bR,aH,fZ,WA,reduceEqDiff,reduceAdd,reduceLT,reduceLeDiff,reduceMul,reduceIte,reduceCtorEq,Int.reduceEq,Int.reduceLT,Int.reduceLE,Int.reduceNe])|(refine aG (λ hq=> ?_) (λ hq=> ?_)<;>(try simp only[hq,decide_true,decide_false])<;>(try (exfalso;omega)))|(refine aZ (λ hq=> ?_) (λ hq=> ?_)<;>(try simp only[hq,decide_true,decide_false,Bool.not_true,Bool.not_false,not_eq_true',not_eq_false'])<;>(try (exfalso;omega)))|(refine aE (λ hq=> ?_) (λ hq=> ?_)<;>(try simp only[hq,decide_true,decide_false,Bool.not_true,Bool.not_false,not_eq_true',not_eq_false'])<;>(try (exfalso;omega)))|(refine aB ?_)|(refine gN (by assumption) _ (by omega) λ m c' h0 h1 gf=> ?_)|(refine pe (by assumption) _ λ b c' gf=> ?_)|(refine xF (by assumption) ?_))
  all_goals first
   |exact yg0 (by unfold l8;omega) (by unfold l8;omega) hz (by decide)
   |trace_state
 |succ n ih=>
  intro d m hd hn hd0 hm c hc;have ihe:0<d->∀c:cB,c.ok->DYs (d- 1) m (YB n) c:=λ h0 c hc=>ih (d- 1) m (by omega) (by omega) (by omega) hm hc
  refine pF.intro rfl rfl (λ outs ho hw=>T.fF rfl ho (by simp[AV.ae,AV.ag,bj]) hw) (.mk 1 0 ⟨#[]⟩ []) (yg0 (by unfold l8;omega) (by unfold l8;omega) (by decide) (by have:=ajP (n+1);omega)) c hc ?_;have hz:ByteArray.size ⟨#[]⟩<=4:=by decide
  simp only[T.bq,WA]
  repeat' (first|(simp(disch:=(first|omega|rfl|exact rfl|(simp only[an,length_cons,length_nil];done)|exact aa.width _)) only[fu,tW,hd,vn,aa.cells,aa.isAgg,aa.storable,aa.eta,bh,bW,bR,aH,fZ,WA,reduceEqDiff,reduceAdd,reduceLT,reduceLeDiff,reduceMul,reduceIte,reduceCtorEq,Int.reduceEq,Int.reduceLT,Int.reduceLE,Int.reduceNe])|(simp(disch:=(first|omega|rfl|exact rfl|(simp only[an,length_cons,length_nil];done)|exact aa.width _)) only[fu,hd,aa.cells,aa.isAgg,aa.storable,aa.eta,bh,bW,bR,aH,fZ,WA,reduceEqDiff,reduceAdd,reduceLT,reduceLeDiff,reduceMul,reduceIte,reduceCtorEq,Int.reduceEq,Int.reduceLT,Int.reduceLE,Int.reduceNe])|(simp(disch:=(first|omega|rfl|exact rfl|(simp only[an,length_cons,length_nil];done)|exact aa.width _)) only[hd,vn,aa.cells,aa.isAgg,aa.storable,aa.eta,bh,bW,bR,aH,fZ,WA,reduceEqDiff,reduceAdd,reduceLT,reduceLeDiff,reduceMul,reduceIte,reduceCtorEq,Int.reduceEq,Int.reduceLT,Int.reduceLE,Int.reduceNe])|(simp(disch:=(first|omega|rfl|exact rfl|(simp only[an,length_cons,length_nil];done)|exact aa.width _)) only[hix,hd,aa.cells,aa.isAgg,aa.storable,aa.eta,bh,bW,bR,aH,fZ,WA,reduceEqDiff,reduceAdd,reduceLT,reduceLeDiff,reduceMul,reduceIte,reduceCtorEq,Int.reduceEq,Int.reduceLT,Int.reduceLE,Int.reduceNe])|(simp(disch:=(first|omega|rfl|exact rfl|(simp only[an,length_cons,length_nil];done)|exact aa.width _)) only[aa.cells,aa.isAgg,aa.storable,bh,WA,reduceAdd,reduceLeDiff])|(simp(disch:=(first|omega|rfl|exact rfl|(simp only[an,length_cons,length_nil];done)|exact aa.width _)) only[aa.cells,aa.isAgg,aa.storable,aa.eta,bh,bW,bR,aH,fZ,WA,reduceEqDiff,reduceAdd,reduceLT,reduceLeDiff,reduceMul,reduceIte,reduceCtorEq,Int.reduceEq,Int.reduceLT,Int.reduceLE,Int.reduceNe])|(refine aG (λ hq=> ?_) (λ hq=> ?_)<;>(try simp only[hq,decide_true,decide_false])<;>(try (exfalso;omega)))|(refine aZ (λ hq=> ?_) (λ hq=> ?_)<;>(try simp only[hq,decide_true,decide_false,Bool.not_true,Bool.not_false,not_eq_true',not_eq_false'])<;>(try (exfalso;omega)))|(refine aE (λ hq=> ?_) (λ hq=> ?_)<;>(try simp only[hq])<;>(try (exfalso;omega)))|(refine aB ?_)|(refine gN (by assumption) _ (by omega) λ m c' h0 h1 gf=> ?_)|(refine pe (by assumption) _ λ b c' gf=> ?_)|(refine aag (by assumption) tyN (by simp[tyN]) (by decide) λ s c' hs gf=> ?_;have hs2:=ag4 _ hs)|(refine atf (ihe (by omega)) (by assumption) λ x c' hx gf=> ?_)|(refine xF (by assumption) ?_)|(refine aiq (by assumption) _ ?_)|(refine tE aa.av (YG (YB n)) (by assumption) 14 rfl (by omega) λ c xs hc oG hle=> ?_))
  all_goals first
   |exact yg0 (by unfold l8;omega) (by unfold l8;omega) hz (by have:=ajP (n+1);omega)
   |exact⟨λ y hy=>by rw[hy];exact aa.width _,by omega,by omega,_,_,by assumption,by assumption,rfl⟩
   |exact⟨λ y hy=>by rw[hy];exact aa.width _,by omega,by omega,by omega,_,_,by assumption,by assumption,rfl⟩
   |exact yg (b:=YB n) (by unfold l8;omega) (by unfold l8;omega) (by assumption) (by assumption) (by omega) (by simp only[YB];omega)
   |trace_state
def DYr(d m:Int)(B:Nat)(c:cB):Prop:=∃K N S kids c',YG B (.mk K N S kids)/\cB.ok c'/\gQ Try.prog F.aN G.aN [.sl (j8 c.l),au c.i,au c.h,au d,au m] [au K,.sl (j8 c'.l),au c'.i,au c'.h,au N,bZ S,.sl (kids.map aa.av)]
theorem ao1(n:Nat)(d m:Int)(hd:d<=n+1)(hn:n<=100)(hd0: -99<=d)(hm:m<=1000000){c:cB}(hc:c.ok):DYr d m (YB (n+1)) c:=by
 have ihe:0<d->∀c:cB,c.ok->DYs (d- 1) m (YB n) c:=λ h0 c hc=>ao0 n (d- 1) m (by omega) (by omega) (by omega) hm hc
 have hz:ByteArray.size ⟨#[]⟩<=4:=by decide
 have bn:∃outs:List AV,outs.length=7/\∃K N S kids c,outs= [au K,.sl (j8 c.l),au c.i,au c.h,au N,bZ S,.sl (kids.map aa.av)]/\YG (YB (n+1)) (.mk K N S kids)/\cB.ok c:=
  ⟨_,rfl,1,0,⟨#[]⟩,[],c,rfl,yg0 (by unfold l8;omega) (by unfold l8;omega) hz (by have:=ajP (n+1);omega),hc⟩
 have hw:bD Try.prog LF (dxR (YG (YB (n+1)))) T.aN [.sl (j8 c.l),au c.i,au c.h,au d,au m] []:=by
  simp only[T.aN,WA]
  repeat' (first|(simp(disch:=(first|omega|rfl|exact rfl|(simp only[an,length_cons,length_nil];done)|exact aa.width _)) only[fu,tW,hd,vn,aa.cells,aa.isAgg,aa.storable,aa.eta,bh,bW,bR,aH,fZ,WA,reduceEqDiff,reduceAdd,reduceLT,reduceLeDiff,reduceMul,reduceIte,reduceCtorEq,Int.reduceEq,Int.reduceLT,Int.reduceLE,Int.reduceNe])|(simp(disch:=(first|omega|rfl|exact rfl|(simp only[an,length_cons,length_nil];done)|exact aa.width _)) only[fu,hd,aa.cells,aa.isAgg,aa.storable,aa.eta,bh,bW,bR,aH,fZ,WA,reduceEqDiff,reduceAdd,reduceLT,reduceLeDiff,reduceMul,reduceIte,reduceCtorEq,Int.reduceEq,Int.reduceLT,Int.reduceLE,Int.reduceNe])|(simp(disch:=(first|omega|rfl|exact rfl|(simp only[an,length_cons,length_nil];done)|exact aa.width _)) only[hd,vn,aa.cells,aa.isAgg,aa.storable,aa.eta,bh,bW,bR,aH,fZ,WA,reduceEqDiff,reduceAdd,reduceLT,reduceLeDiff,reduceMul,reduceIte,reduceCtorEq,Int.reduceEq,Int.reduceLT,Int.reduceLE,Int.reduceNe])|(simp(disch:=(first|omega|rfl|exact rfl|(simp only[an,length_cons,length_nil];done)|exact aa.width _)) only[hix,hd,aa.cells,aa.isAgg,aa.storable,aa.eta,bh,bW,bR,aH,fZ,WA,reduceEqDiff,reduceAdd,reduceLT,reduceLeDiff,reduceMul,reduceIte,reduceCtorEq,Int.reduceEq,Int.reduceLT,Int.reduceLE,Int.reduceNe])|(simp(disch:=(first|omega|rfl|exact rfl|(simp only[an,length_cons,length_nil];done)|exact aa.width _)) only[aa.cells,aa.isAgg,aa.storable,bh,WA,reduceAdd,reduceLeDiff])|(simp(disch:=(first|omega|rfl|exact rfl|(simp only[an,length_cons,length_nil];done)|exact aa.width _)) only[aa.cells,aa.isAgg,aa.storable,aa.eta,bh,bW,bR,aH,fZ,WA,reduceEqDiff,reduceAdd,reduceLT,reduceLeDiff,reduceMul,reduceIte,reduceCtorEq,Int.reduceEq,Int.reduceLT,Int.reduceLE,Int.reduceNe])|(refine aG (λ hq=> ?_) (λ hq=> ?_)<;>(try simp only[hq,decide_true,decide_false])<;>(try (exfalso;omega)))|(refine aZ (λ hq=> ?_) (λ hq=> ?_)<;>(try simp only[hq,decide_true,decide_false,Bool.not_true,Bool.not_false,not_eq_true',not_eq_false'])<;>(try (exfalso;omega)))|(refine aE (λ hq=> ?_) (λ hq=> ?_)<;>(try simp only[hq])<;>(try (exfalso;omega)))|(refine aB ?_)|(refine gN (by assumption) _ (by omega) λ m c' h0 h1 gf=> ?_)|(refine pe (by assumption) _ λ b c' gf=> ?_)|(refine aag (by assumption) tyN (by simp[tyN]) (by decide) λ s c' hs gf=> ?_;have hs2:=ag4 _ hs)|(refine atf (ihe (by omega)) (by assumption) λ x c' hx gf=> ?_)|(refine ajF (by assumption) ?_)|(refine air (by assumption) _ ?_)|(refine tE aa.av (YG (YB n)) (by assumption) 14 rfl (by omega) λ c xs hc oG hle=> ?_))
  all_goals first
   |exact yg0 (by unfold l8;omega) (by unfold l8;omega) hz (by have:=ajP (n+1);omega)
   |exact⟨λ y hy=>by rw[hy];exact aa.width _,by omega,by omega,_,_,by assumption,by assumption,rfl⟩
   |exact⟨λ y hy=>by rw[hy];exact aa.width _,by omega,by omega,by omega,_,_,by assumption,by assumption,rfl⟩
   |exact yg (b:=YB n) (by unfold l8;omega) (by unfold l8;omega) (by assumption) (by assumption) (by omega) (by simp only[YB];omega)
   |trace_state
 obtain⟨outs,hl,⟨K,N,S,kids,c',rfl,hg,gf⟩,h⟩:=qB bn hw;exact⟨K,N,S,kids,c',hg,gf,T.oa rfl rfl (by simp[AV.ae,AV.ag,bj]) h⟩
theorem azF{d m:Int}{B:Nat}{c:cB}(h:DYr d m B c){Z:AV->Prop}(k:∀(K N:Int) (S:ByteArray) (kids:List aa) (c':cB),YG B (.mk K N S kids)->c'.ok->fq Z (.a9 [au K,.sl (j8 c'.l),au c'.i,au c'.h,au N,bZ S,.sl (kids.map aa.av)])):lB Try.prog F.aN G.aN [.sl (j8 c.l),au c.i,au c.h,au d,au m] Z:=by
 obtain⟨K,N,S,kids,c',hg,gf,h⟩:=h;exact dU h rfl (by simp[AV.ae,AV.ag,bj,bA (f:=aa.av) (l:=kids) aa.ag]) (k K N S kids c' hg gf)
theorem ack{c:cB}(hc:c.ok):pF Try.prog F.bB G.bB [.sl (j8 c.l),au c.i,au c.h] aa.av (YG (YB 4+4)):=by
 refine pF.intro rfl rfl (λ outs ho hw=>T.rA rfl ho (by simp[AV.ae,AV.ag,bj]) hw) (.mk 1 0 ⟨#[]⟩ []) (yg0 (by unfold l8;omega) (by unfold l8;omega) (by decide) (by decide)) c hc ?_;simp only[T.bB,WA];refine azF (ao1 3 4 3 (by omega) (by omega) (by omega) (by omega) hc) λ K N S kids c1 hg hc1=> ?_
 have hg:YG (YB 4) (.mk K N S kids):=hg;have tV:=aAU hg
 have hkl:kids.length<=YB 4:=by
  have:=hg.wt;rw[aa.dH]at this;simp only[aa.gI]at this;omega
 have hyb:YB 4<=1000000:=by decide
 repeat' (first|(simp(disch:=(first|omega|rfl|exact rfl|(simp only[an,length_cons,length_nil];done)|exact aa.width _)) only[List.length_map,WA,reduceAdd,reduceLeDiff])|(refine aG (λ hq=> ?_) (λ hq=> ?_)<;>(try simp only[hq,decide_true,decide_false])<;>(try (exfalso;omega)))|(refine aZ (λ hq=> ?_) (λ hq=> ?_)<;>(try simp only[hq,decide_true,decide_false,Bool.not_true,Bool.not_false,not_eq_true',not_eq_false'])<;>(try (exfalso;omega)))|(refine aE (λ hq=> ?_) (λ hq=> ?_)<;>(try simp only[hq,decide_true,decide_false,Bool.not_true,Bool.not_false,not_eq_true',not_eq_false'])<;>(try (exfalso;omega)))|(refine aB ?_)|(refine gN (by assumption) _ (by omega) λ m c' h0 h1 gf=> ?_)|(refine aag (by assumption) tyM (by simp[tyM]) (by decide) λ s c' hs gf=> ?_;have hs2:=atO _ hs)|(refine ait (by assumption) [_,_,_,_,_] (by simp) (by decide) λ m c' hm gf=> ?_;simp only[List.mem_cons,List.not_mem_nil,or_false]at hm)|(refine ait (by assumption) [_,_] (by simp) (by decide) λ m c' hm gf=> ?_;simp only[List.mem_cons,List.not_mem_nil,or_false]at hm)|(refine ajE (by assumption) _ ?_)|(refine aiq (by assumption) _ ?_))
 all_goals first
  |exact ygB hg
  |exact⟨λ y hy=>by rw[hy];rfl,by omega,by omega,ajE (by assumption) _ (ygB hg)⟩
  |exact ygA hg tV.1 tV.2 (.inl rfl)
  |exact ygA hg tV.1 tV.2 (.inr (by assumption))
  |exact ygA hg tV.1 (by unfold l8;omega) (.inl rfl)
  |exact ygA hg (by unfold l8;omega) tV.2 (.inl rfl)
  |trace_state
end Go.Proofs.Ab
