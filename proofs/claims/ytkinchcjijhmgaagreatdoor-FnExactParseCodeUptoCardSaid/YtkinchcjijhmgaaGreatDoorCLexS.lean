/-
  THE REFERENCE'S LEXER: what it computes, in the plain words of CLexM.
-/
import Derived.Test.YtkinchcjijhmgaaGreatDoorCLexM
import Derived.Test.YtkinchcjijhmgaaGreatDoorCSpell
import Derived.Test.YtkinchcjijhmgaaGreatDoorAbM5
open Option(map_map map_none)
open List(length_cons length_nil)
open Nat(reduceEqDiff reduceLeDiff reduceAdd reduceLT reduceMul)
set_option linter.unusedVariables false
set_option linter.unusedSimpArgs false
namespace Go.Proofs.Ab
open Go.Ab
set_option maxRecDepth 100000
set_option maxHeartbeats 4000000
def atr:a6:=⟨0,⟨#[]⟩,0,0⟩
theorem aeC{r:List Int}:fB (34::r)=some ([],1):=by rw[fB.eq_def (34::r)];simp
theorem wv{d e:Int}{r:List Int}(h:d=110/\e=10∨(d=34∨d=92)/\e=d):fB (92::d::r)=(fB r).map λ q=>(e::q.1,q.2+2):=by
 rcases h with⟨rfl,rfl⟩|⟨h|h,rfl⟩
 ·rw[fB.eq_def (92::110::r)];simp
 ·subst h;rw[fB.eq_def (92::34::r)];simp
 ·subst h;rw[fB.eq_def (92::92::r)];simp
theorem l8{r:List Int}(h:∀d r',r=d::r'->d≠110/\d≠34/\d≠92):fB (92::r)=none:=by
 cases r with
 |nil=>unfold fB;simp
 |cons d r'=>
  obtain⟨h1,h2,h3⟩:=h d r' rfl;unfold fB;simp[h1,h2,h3]
theorem p9{c:Int}{r:List Int}(h1:c≠34)(h2:c≠92)(h3:jJ c 32 126=true):fB (c::r)=(fB r).map λ q=>(c::q.1,q.2+1):=by rw[fB.eq_def (c::r)];simp[h1,h2,h3]
theorem aaE{c:Int}{r:List Int}(h1:c≠34)(h2:c≠92)(h3:jJ c 32 126=false):fB (c::r)=none:=by rw[fB.eq_def (c::r)];simp[h1,h2,h3]
def mn(acc:List Int)(m:Nat)(o:Option (List Int×Nat)):Option (List Int×Nat):=o.map λ q=>(acc++q.1,m+q.2)
theorem agz(a b:List Int):pG (a++b)=pG a++pG b:=by
 apply fP;rw[gX];simp[pG]
theorem aa4(c:Int):pG [c]=cP c:=rfl
theorem acF(l:List Int):(pG l).size=l.length:=by
 show(pG l).data.size=_;simp[pG]
def p7(o:Option (List Int×Nat))(p:Int):a6:=match o with
 |some q=>⟨2,pG q.1,0,p⟩
 |none=>atr
def wu(o:Option (List Int×Nat))(k:Nat)(nx:Int):Int:=match o with
 |some q=>(k+1+q.2:Nat)
 |none=>nx
def mG(o:Option (List Int×Nat)):Int:=match o with
 |some _=>0
 |none=>4
theorem vd(s:ByteArray)(k:Nat)(hk:k<s.size)(hs:s.size<=1048576)(o:Option (List Int×Nat))(ho:o=fB ((bs s).drop (k+1))):
  ∃nx:Int,aI Tryz.prog F.er [bE s,br k] (.aK [(p7 o k).av,br (wu o k nx),br (mG o)]):=by
 have hl:=ep s
 have key:∃outs:List AV,outs.length=3/\(∃nx:Int,outs= [(p7 o k).av,br (wu o k nx),br (mG o)])/\bD Tryz.prog (λ _ _ _=>False) (λ a=>a=b4 outs) T.er [bE s,br k] []:=by
  refine adw ⟨_,rfl,0,rfl⟩ ?_
  have fin:∀(a b c:AV),(∃nx:Int,[a,b,c]= [(p7 o k).av,br (wu o k nx),br (mG o)])->ex 3 (λ outs=>∃nx:Int,outs= [(p7 o k).av,br (wu o k nx),br (mG o)]) (.aK [a,b,c]):=by
   rintro a b c ⟨nx,h⟩;exact⟨_,rfl,⟨nx,h⟩,rfl⟩
  have exR:∀(m:Nat) (Q:List AV->Prop) (vs:List AV),aeM (ex m Q) vs=ex m Q (b4 vs):=λ _ _ _=>by unfold aeM;rfl
  have hw1:IntKind.i64.wrap ((k:Int)+1)=((k+1:Nat):Int):=aD (by omega);simp only[T.er,hw1,WA,reduceEqDiff,reduceAdd,reduceLT,reduceLeDiff,reduceMul,reduceIte,reduceCtorEq,Int.reduceEq,Int.reduceLT,Int.reduceLE,Int.reduceNe];refine dx (λ _=>o=none) ?_ ?_
  ·simp only[WA,reduceEqDiff,reduceAdd,reduceLT,reduceLeDiff,reduceMul,reduceIte,reduceCtorEq,Int.reduceEq,Int.reduceLT,Int.reduceLE,Int.reduceNe]
   refine cM (ι:=Nat×List Int) (λ q=>k+1<=q.1/\q.1<=s.size/\q.2.length<=q.1/\o=mn q.2 (q.1- (k+1)) (fB ((bs s).drop q.1))) (λ q=>[.sl (cf (pG q.2)),br q.1]) (λ q=>s.size- q.1) (k+1,[])
    ⟨Nat.le_refl _,by simp only;omega,by simp,by simp only[Nat.sub_self,mn];rw[ho];cases fB ((bs s).drop (k+1))<;>simp⟩ (by rw[hw1];rfl) ?_
   rintro⟨i,acc⟩ ⟨hki,hi,hal,hI⟩;simp only at hki hi hal hI;simp only[WA,reduceEqDiff,reduceAdd,reduceLT,reduceLeDiff,reduceMul,reduceIte,reduceCtorEq,Int.reduceEq,Int.reduceLT,Int.reduceLE,Int.reduceNe];refine aq (λ h=> ?_) (λ h=> ?_)
   ·have au:i<(bs s).length:=by omega
    have hx:(bs s)[i]? =some (bs s)[i]:=List.getElem?_eq_getElem au;obtain⟨c0,c1⟩:=iA (List.getElem_mem au);have uO:=nJ au;generalize hc:(bs s)[i]=c at hx uO c0 c1;rw[uO]at hI;have mD:=oG hx;have hwi:IntKind.i64.wrap ((i:Int)+1)=((i+1:Nat):Int):=aD (by omega);have put:∀d:Int,0<=d->d<256->cf (pG acc)++ [AV.v (.int .u8 d)]=cf (pG (acc++ [d])):=λ d h0 h1=>by rw[y1 _ _ h0 h1,agz,aa4]
    have lj:(cf (pG acc)).length=acc.length:=by rw[←acF acc];simp[cf]
    simp only[WA,reduceEqDiff,reduceAdd,reduceLT,reduceLeDiff,reduceMul,reduceIte,reduceCtorEq,Int.reduceEq,Int.reduceLT,Int.reduceLE,Int.reduceNe];refine aB ?_;simp only[mD,WA,reduceEqDiff,reduceAdd,reduceLT,reduceLeDiff,reduceMul,reduceIte,reduceCtorEq,Int.reduceEq,Int.reduceLT,Int.reduceLE,Int.reduceNe];refine aB ?_;simp only[WA,reduceEqDiff,reduceAdd,reduceLT,reduceLeDiff,reduceMul,reduceIte,reduceCtorEq,Int.reduceEq,Int.reduceLT,Int.reduceLE,Int.reduceNe];refine aq (λ h1=> ?_) (λ h1=> ?_)
    ·subst h1;rw[aeC]at hI;simp only[hwi,exR,WA,reduceEqDiff,reduceAdd,reduceLT,reduceLeDiff,reduceMul,reduceIte,reduceCtorEq,Int.reduceEq,Int.reduceLT,Int.reduceLE,Int.reduceNe];refine fin _ _ _ ⟨0,?_⟩;rw[hI];simp only[mn,Option.map_some,List.append_nil,p7,wu,mG,aqP];rw[show k+1+(i- (k+1)+1)=i+1 by omega]
    ·simp only[WA,reduceEqDiff,reduceAdd,reduceLT,reduceLeDiff,reduceMul,reduceIte,reduceCtorEq,Int.reduceEq,Int.reduceLT,Int.reduceLE,Int.reduceNe];refine aB ?_;simp only[WA,reduceEqDiff,reduceAdd,reduceLT,reduceLeDiff,reduceMul,reduceIte,reduceCtorEq,Int.reduceEq,Int.reduceLT,Int.reduceLE,Int.reduceNe];refine aq (λ h2=> ?_) (λ h2=> ?_)
     ·subst h2;simp only[hwi,WA,reduceEqDiff,reduceAdd,reduceLT,reduceLeDiff,reduceMul,reduceIte,reduceCtorEq,Int.reduceEq,Int.reduceLT,Int.reduceLE,Int.reduceNe];refine aq (λ h3=> ?_) (λ h3=> ?_)
      ·have mX:i+1<(bs s).length:=by omega
       have hx2:(bs s)[i+1]? =some (bs s)[i+1]:=List.getElem?_eq_getElem mX;obtain⟨d0,d1⟩:=iA (List.getElem_mem mX);have alJ:=nJ mX;generalize hc2:(bs s)[i+1]=d at hx2 alJ d0 d1;rw[alJ]at hI;have pA:=oG hx2;have afF:IntKind.i64.wrap (((i+1:Nat):Int)+1)=((i+2:Nat):Int):=aD (by omega);simp only[hwi,pA,WA,reduceEqDiff,reduceAdd,reduceLT,reduceLeDiff,reduceMul,reduceIte,reduceCtorEq,Int.reduceEq,Int.reduceLT,Int.reduceLE,Int.reduceNe]
       have kB:∀e:Int,0<=e->e<256->(d=110/\e=10∨(d=34∨d=92)/\e=d)->∃j:Nat×List Int,(k+1<=j.1/\j.1<=s.size/\j.2.length<=j.1/\o=mn j.2 (j.1- (k+1)) (fB ((bs s).drop j.1)))/\s.size- j.1<s.size- i/\ [AV.sl (cf (pG (acc++ [e]))),br (i+2:Nat)]= [.sl (cf (pG j.2)),br j.1]:=by
        intro e e0 e1 he;refine⟨(i+2,acc++ [e]),⟨by simp only;omega,by simp only;omega,by simp;omega,?_⟩,by simp only;omega,rfl⟩;rw[hI,wv he];simp only[mn,map_map,Function.comp_def,List.append_assoc,List.cons_append,List.nil_append];congr 1
        funext q
        congr 1;omega
       refine aq (λ h4=> ?_) (λ h4=> ?_)
       ·subst h4;simp only[pA,hwi,afF,lj,put,decide_true,length_cons,length_nil,WA,reduceEqDiff,reduceAdd,reduceLT,reduceLeDiff,reduceMul,reduceIte,reduceCtorEq,Int.reduceEq,Int.reduceLT,Int.reduceLE,Int.reduceNe]
        repeat (refine And.intro (by first|omega|rfl|(intro y hy;subst hy;rfl)) ?_)
        try rw[put 10 (by omega) (by omega)]
        exact kB 10 (by omega) (by omega) (.inl ⟨rfl,rfl⟩)
       ·simp only[pA,hwi,WA,reduceEqDiff,reduceAdd,reduceLT,reduceLeDiff,reduceMul,reduceIte,reduceCtorEq,Int.reduceEq,Int.reduceLT,Int.reduceLE,Int.reduceNe];refine aq (λ h5=> ?_) (λ h5=> ?_)
        ·subst h5;simp only[pA,hwi,afF,lj,decide_false,length_cons,length_nil,show decide ((34:Int)=110)=false from rfl,WA,reduceEqDiff,reduceAdd,reduceLT,reduceLeDiff,reduceMul,reduceIte,reduceCtorEq,Int.reduceEq,Int.reduceLT,Int.reduceLE,Int.reduceNe]
         repeat (refine And.intro (by first|omega|rfl|(intro y hy;subst hy;rfl)) ?_)
         try rw[put 34 (by omega) (by omega)]
         exact kB 34 (by omega) (by omega) (.inr ⟨.inl rfl,rfl⟩)
        ·simp only[pA,hwi,WA,reduceEqDiff,reduceAdd,reduceLT,reduceLeDiff,reduceMul,reduceIte,reduceCtorEq,Int.reduceEq,Int.reduceLT,Int.reduceLE,Int.reduceNe];refine aq (λ h6=> ?_) (λ h6=> ?_)
         ·subst h6;simp only[pA,hwi,afF,lj,decide_false,length_cons,length_nil,show decide ((92:Int)=110)=false from rfl,WA,reduceEqDiff,reduceAdd,reduceLT,reduceLeDiff,reduceMul,reduceIte,reduceCtorEq,Int.reduceEq,Int.reduceLT,Int.reduceLE,Int.reduceNe]
          repeat (refine And.intro (by first|omega|rfl|(intro y hy;subst hy;rfl)) ?_)
          try rw[put 92 (by omega) (by omega)]
          exact kB 92 (by omega) (by omega) (.inr ⟨.inr rfl,rfl⟩)
         ·rw[l8 (λ d' r' he=>by cases he;exact⟨h4,h5,h6⟩)]at hI;simp only[mn,map_none]at hI;simp only[WA,reduceEqDiff,reduceAdd,reduceLT,reduceLeDiff,reduceMul,reduceIte,reduceCtorEq,Int.reduceEq,Int.reduceLT,Int.reduceLE,Int.reduceNe];refine aB ?_;simp only[exR,WA,reduceEqDiff,reduceAdd,reduceLT,reduceLeDiff,reduceMul,reduceIte,reduceCtorEq,Int.reduceEq,Int.reduceLT,Int.reduceLE,Int.reduceNe];refine fin _ _ _ ⟨i,?_⟩;rw[hI];rfl
      ·rw[l8 (λ d' r' he=>by
         have:=congrArg List.length he;simp at this;omega)]at hI
       simp only[mn,map_none]at hI;simp only[WA,reduceEqDiff,reduceAdd,reduceLT,reduceLeDiff,reduceMul,reduceIte,reduceCtorEq,Int.reduceEq,Int.reduceLT,Int.reduceLE,Int.reduceNe];refine aB ?_;simp only[exR,WA,reduceEqDiff,reduceAdd,reduceLT,reduceLeDiff,reduceMul,reduceIte,reduceCtorEq,Int.reduceEq,Int.reduceLT,Int.reduceLE,Int.reduceNe];refine fin _ _ _ ⟨i,?_⟩;rw[hI];rfl
     ·simp only[WA,reduceEqDiff,reduceAdd,reduceLT,reduceLeDiff,reduceMul,reduceIte,reduceCtorEq,Int.reduceEq,Int.reduceLT,Int.reduceLE,Int.reduceNe];refine aB ?_;simp only[h2,decide_false,zi c0 c1,WA,reduceEqDiff,reduceAdd,reduceLT,reduceLeDiff,reduceMul,reduceIte,reduceCtorEq,Int.reduceEq,Int.reduceLT,Int.reduceLE,Int.reduceNe];refine bj (gL c 32 126) ?_;simp only[WA,reduceEqDiff,reduceAdd,reduceLT,reduceLeDiff,reduceMul,reduceIte,reduceCtorEq,Int.reduceEq,Int.reduceLT,Int.reduceLE,Int.reduceNe];cases h7:jJ c 32 126 with
      |true=>
       rw[p9 h1 h2 h7]at hI;simp only[hwi,lj,length_cons,length_nil,Bool.not_true,WA,reduceEqDiff,reduceAdd,reduceLT,reduceLeDiff,reduceMul,reduceIte,reduceCtorEq,Int.reduceEq,Int.reduceLT,Int.reduceLE,Int.reduceNe]
       repeat (refine And.intro (by first|omega|rfl|(intro y hy;subst hy;rfl)) ?_)
       try rw[put c c0 c1]
       refine⟨(i+1,acc++ [c]),⟨by simp only;omega,by simp only;omega,by simp;omega,?_⟩,by simp only;omega,rfl⟩;rw[hI];simp only[mn,map_map,Function.comp_def,List.append_assoc,List.cons_append,List.nil_append];congr 1
       funext q
       congr 1;omega
      |false=>
       rw[aaE h1 h2 h7]at hI;simp only[mn,map_none]at hI;simp only[Bool.not_false,exR,WA,reduceEqDiff,reduceAdd,reduceLT,reduceLeDiff,reduceMul,reduceIte,reduceCtorEq,Int.reduceEq,Int.reduceLT,Int.reduceLE,Int.reduceNe];refine fin _ _ _ ⟨i,?_⟩;rw[hI];rfl
   ·have he:i=(bs s).length:=by omega
    subst he;rw[adA]at hI;simp only[fB,mn,map_none]at hI;simp only[WA,reduceEqDiff,reduceAdd,reduceLT,reduceLeDiff,reduceMul,reduceIte,reduceCtorEq,Int.reduceEq,Int.reduceLT,Int.reduceLE,Int.reduceNe];exact hI
  ·intro vs hv hlen;simp only[exR,WA,reduceEqDiff,reduceAdd,reduceLT,reduceLeDiff,reduceMul,reduceIte,reduceCtorEq,Int.reduceEq,Int.reduceLT,Int.reduceLE,Int.reduceNe];refine fin _ _ _ ⟨k,?_⟩;rw[hv];rfl
 obtain⟨outs,h1,⟨nx,rfl⟩,h2⟩:=key;exact⟨nx,T.rj rfl rfl h2⟩
theorem aeU(s y:ByteArray)(k:Nat)(h:k+y.size<=s.size):(bs y).isPrefixOf ((bs s).drop k)=decide (s.extract k (k+y.size)=y):=by
 rw[Bool.eq_iff_iff,List.isPrefixOf_iff_prefix,List.prefix_iff_eq_take,decide_eq_true_eq,ep];have he:=af7 s k (k+y.size);rw[show k+y.size- k=y.size by omega]at he;rw[←he];exact⟨λ q=>abP q.symm,λ q=>by rw[q]⟩
theorem aaX(s y:ByteArray)(k:Nat)(hk:k<=s.size)(h:s.size<k+y.size):(bs y).isPrefixOf ((bs s).drop k)=false:=by
 cases hq:(bs y).isPrefixOf ((bs s).drop k)with
 |false=>rfl
 |true=>
  have:=(List.isPrefixOf_iff_prefix.1 hq).length_le;rw[ep,List.length_drop,ep]at this;omega
end Go.Proofs.Ab
