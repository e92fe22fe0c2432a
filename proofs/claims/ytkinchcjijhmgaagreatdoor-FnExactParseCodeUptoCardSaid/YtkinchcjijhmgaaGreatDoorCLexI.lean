/-
  THE PROGRAM'S LEXER: what it computes, in the plain words of CLexM.
-/
import Derived.Test.YtkinchcjijhmgaaGreatDoorCAtoi
import Derived.Test.YtkinchcjijhmgaaGreatDoorCLexS
open Option(map_none map_map)
open List(length_cons length_nil)
open Nat(reduceEqDiff reduceLeDiff reduceAdd reduceLT reduceMul)
set_option linter.unusedVariables false
set_option linter.unusedSimpArgs false
namespace Go.Ab
set_option maxRecDepth 100000
set_option maxHeartbeats 4000000
theorem Good.oq{I:da}{L:Nat->Go.Ab.Loc}{w w':World}(hi:Go.Ab.Inv I L [] w)(hb:RowKit.Below w.heap.size w w'):Go.Ab.Good I L [] w I L [] w':=by
 refine⟨⟨λ b o x hx=> ?_,by simp,by simp,by simp,hi.fix,hi.lM (λ b jr _=>hb.block b jr) (λ _ _ _ h=>h),.no (by simp),.no (by simp)⟩,.refl _ _ _,⟨hb.os,hb.tape,hb.output,hb.size,λ b jr _=>hb.block b jr⟩,λ _ h=> .inl h,λ _ _ _ h=> .inl h⟩;have:=hi.iy b o x hx;rw[←this];exact World.cell?_of_block (a:=⟨b,o,none⟩) (hb.block b (gm this))
end Go.Ab
namespace Go.Proofs.Ab
open Go.Ab
set_option maxRecDepth 100000
set_option maxHeartbeats 4000000
theorem zn(s p:ByteArray):aI Tryz.prog F.aR [bE s,bE p] (.v (.bool ((bs p).isPrefixOf (bs s)))):=by
 refine T.eP rfl rfl ?_;simp only[T.aR,WA,reduceEqDiff,reduceAdd,reduceLT,reduceLeDiff,reduceMul,reduceIte,reduceCtorEq,Int.reduceEq,Int.reduceLT,Int.reduceLE,Int.reduceNe];refine bw [.v (.bool ((bs p).isPrefixOf (bs s)))] rfl ?_ (by simp only[WA,reduceEqDiff,reduceAdd,reduceLT,reduceLeDiff,reduceMul,reduceIte,reduceCtorEq,Int.reduceEq,Int.reduceLT,Int.reduceLE,Int.reduceNe]);simp only[WA,reduceEqDiff,reduceAdd,reduceLT,reduceLeDiff,reduceMul,reduceIte,reduceCtorEq,Int.reduceEq,Int.reduceLT,Int.reduceLE,Int.reduceNe];refine aq (λ h=> ?_) (λ h=> ?_)
 ·have hp:=aeU s p 0 (by omega);rw[List.drop_zero,Nat.zero_add]at hp;rw[hp];simp only[Int.toNat_natCast,Int.toNat_zero,WA,reduceEqDiff,reduceAdd,reduceLT,reduceLeDiff,reduceMul,reduceIte,reduceCtorEq,Int.reduceEq,Int.reduceLT,Int.reduceLE,Int.reduceNe]
  repeat (refine And.intro (by omega) ?_)
  try simp only[WA,reduceEqDiff,reduceAdd,reduceLT,reduceLeDiff,reduceMul,reduceIte,reduceCtorEq,Int.reduceEq,Int.reduceLT,Int.reduceLE,Int.reduceNe]
  try omega
 ·have hp:=aaX s p 0 (Nat.zero_le _) (by omega);rw[List.drop_zero]at hp;rw[hp];simp only[WA,reduceEqDiff,reduceAdd,reduceLT,reduceLeDiff,reduceMul,reduceIte,reduceCtorEq,Int.reduceEq,Int.reduceLT,Int.reduceLE,Int.reduceNe]
def p8(k:Nat)(o:Option (List Int×Nat)):AV:=match o with
 |some q=> .aK [bE (pG q.1),br (k+1+q.2:Nat),.v (.bool true)]
 |none=> .aK [bE ⟨#[]⟩,br 0,.v (.bool false)]
theorem tC(s:ByteArray)(k:Nat)(hk:k<s.size)(hs:s.size<=1048576)(o:Option (List Int×Nat))(ho:o=fB ((bs s).drop (k+1))):
  aI Tryz.prog F.eG [bE s,br k] (p8 k o):=by
 have hl:=ep s;have hw1:IntKind.i64.wrap ((k:Int)+1)=((k+1:Nat):Int):=aD (by omega);have hN:fB []=none:=by rw[fB.eq_def]
 generalize mW:p8 k o=res;have bad:o=none->AV.aK [bE ⟨#[]⟩,br 0,.v (.bool false)]=res:=λ h=>by rw[←mW,h];rfl
 refine T.qJ rfl rfl ?_;simp only[T.eG,hw1,WA,reduceEqDiff,reduceAdd,reduceLT,reduceLeDiff,reduceMul,reduceIte,reduceCtorEq,Int.reduceEq,Int.reduceLT,Int.reduceLE,Int.reduceNe];refine dx (λ _=>o=none) ?_ ?_
 ·simp only[WA,reduceEqDiff,reduceAdd,reduceLT,reduceLeDiff,reduceMul,reduceIte,reduceCtorEq,Int.reduceEq,Int.reduceLT,Int.reduceLE,Int.reduceNe]
  refine cM (ι:=Nat×List Int) (λ q=>k+1<=q.1/\q.1<=s.size/\q.2.length<=q.1/\o=mn q.2 (q.1- (k+1)) (fB ((bs s).drop q.1))) (λ q=>[.sl (cf (pG q.2)),br q.1]) (λ q=>s.size- q.1) (k+1,[])
   ⟨Nat.le_refl _,by simp only;omega,by simp,by simp only[Nat.sub_self,mn];rw[ho];cases fB ((bs s).drop (k+1))<;>simp⟩ (by rw[hw1];rfl) ?_
  rintro⟨i,acc⟩ ⟨hki,hi,hal,hI⟩;simp only at hki hi hal hI;simp only[WA,reduceEqDiff,reduceAdd,reduceLT,reduceLeDiff,reduceMul,reduceIte,reduceCtorEq,Int.reduceEq,Int.reduceLT,Int.reduceLE,Int.reduceNe];refine aq (λ h=> ?_) (λ h=> ?_)
  ·have au:i<(bs s).length:=by omega
   have hx:(bs s)[i]? =some (bs s)[i]:=List.getElem?_eq_getElem au;obtain⟨c0,c1⟩:=iA (List.getElem_mem au);have uO:=nJ au;generalize hc:(bs s)[i]=c at hx uO c0 c1;rw[uO]at hI;have mD:=oG hx;have hwi:IntKind.i64.wrap ((i:Int)+1)=((i+1:Nat):Int):=aD (by omega);have put:∀d:Int,0<=d->d<256->cf (pG acc)++ [AV.v (.int .u8 d)]=cf (pG (acc++ [d])):=λ d h0 h1=>by rw[y1 _ _ h0 h1,agz,aa4]
   have lj:(cf (pG acc)).length=acc.length:=by rw[←acF acc];simp[cf]
   simp only[WA,reduceEqDiff,reduceAdd,reduceLT,reduceLeDiff,reduceMul,reduceIte,reduceCtorEq,Int.reduceEq,Int.reduceLT,Int.reduceLE,Int.reduceNe];refine aB ?_;simp only[mD,WA,reduceEqDiff,reduceAdd,reduceLT,reduceLeDiff,reduceMul,reduceIte,reduceCtorEq,Int.reduceEq,Int.reduceLT,Int.reduceLE,Int.reduceNe];refine aB ?_;simp only[WA,reduceEqDiff,reduceAdd,reduceLT,reduceLeDiff,reduceMul,reduceIte,reduceCtorEq,Int.reduceEq,Int.reduceLT,Int.reduceLE,Int.reduceNe];refine aq (λ h1=> ?_) (λ h1=> ?_)
   ·subst h1;rw[aeC]at hI;simp only[hwi,WA,reduceEqDiff,reduceAdd,reduceLT,reduceLeDiff,reduceMul,reduceIte,reduceCtorEq,Int.reduceEq,Int.reduceLT,Int.reduceLE,Int.reduceNe];rw[←mW,hI];simp only[p8,mn,Option.map_some,List.append_nil];rw[show k+1+(i- (k+1)+1)=i+1 by omega]
   ·simp only[WA,reduceEqDiff,reduceAdd,reduceLT,reduceLeDiff,reduceMul,reduceIte,reduceCtorEq,Int.reduceEq,Int.reduceLT,Int.reduceLE,Int.reduceNe];refine aq (λ h2=> ?_) (λ h2=> ?_)
    ·subst h2;simp only[hwi,WA,reduceEqDiff,reduceAdd,reduceLT,reduceLeDiff,reduceMul,reduceIte,reduceCtorEq,Int.reduceEq,Int.reduceLT,Int.reduceLE,Int.reduceNe];refine aq (λ h3=> ?_) (λ h3=> ?_)
     ·rw[l8 (λ d' r' he=>by
        have:=congrArg List.length he;simp at this;omega)]at hI
      simp only[mn,map_none]at hI;simp only[WA,reduceEqDiff,reduceAdd,reduceLT,reduceLeDiff,reduceMul,reduceIte,reduceCtorEq,Int.reduceEq,Int.reduceLT,Int.reduceLE,Int.reduceNe];exact bad hI
     ·have mX:i+1<(bs s).length:=by omega
      have hx2:(bs s)[i+1]? =some (bs s)[i+1]:=List.getElem?_eq_getElem mX;obtain⟨d0,d1⟩:=iA (List.getElem_mem mX);have alJ:=nJ mX;generalize hc2:(bs s)[i+1]=d at hx2 alJ d0 d1;rw[alJ]at hI;have pA:=oG hx2;have afF:IntKind.i64.wrap (((i+1:Nat):Int)+1)=((i+2:Nat):Int):=aD (by omega);simp only[hwi,pA,WA,reduceEqDiff,reduceAdd,reduceLT,reduceLeDiff,reduceMul,reduceIte,reduceCtorEq,Int.reduceEq,Int.reduceLT,Int.reduceLE,Int.reduceNe]
      have kB:∀e:Int,0<=e->e<256->(d=110/\e=10∨(d=34∨d=92)/\e=d)->∃j:Nat×List Int,(k+1<=j.1/\j.1<=s.size/\j.2.length<=j.1/\o=mn j.2 (j.1- (k+1)) (fB ((bs s).drop j.1)))/\s.size- j.1<s.size- i/\ [AV.sl (cf (pG (acc++ [e]))),br (i+2:Nat)]= [.sl (cf (pG j.2)),br j.1]:=by
       intro e e0 e1 he;refine⟨(i+2,acc++ [e]),⟨by simp only;omega,by simp only;omega,by simp;omega,?_⟩,by simp only;omega,rfl⟩;rw[hI,wv he];simp only[mn,map_map,Function.comp_def,List.append_assoc,List.cons_append,List.nil_append];congr 1
       funext q
       congr 1;omega
      refine aq (λ h4=> ?_) (λ h4=> ?_)
      ·subst h4;simp only[pA,hwi,afF,lj,put,decide_true,length_cons,length_nil,WA,reduceEqDiff,reduceAdd,reduceLT,reduceLeDiff,reduceMul,reduceIte,reduceCtorEq,Int.reduceEq,Int.reduceLT,Int.reduceLE,Int.reduceNe]
       repeat (refine And.intro (by first|omega|rfl|(intro y hy;subst hy;rfl)) ?_)
       try rw[put 10 (by omega) (by omega)]
       exact kB 10 (by omega) (by omega) (.inl ⟨rfl,rfl⟩)
      ·simp only[pA,hwi,WA,reduceEqDiff,reduceAdd,reduceLT,reduceLeDiff,reduceMul,reduceIte,reduceCtorEq,Int.reduceEq,Int.reduceLT,Int.reduceLE,Int.reduceNe];refine aB ?_;simp only[pA,hwi,WA,reduceEqDiff,reduceAdd,reduceLT,reduceLeDiff,reduceMul,reduceIte,reduceCtorEq,Int.reduceEq,Int.reduceLT,Int.reduceLE,Int.reduceNe];refine aq (λ h5=> ?_) (λ h5=> ?_)
       ·subst h5;simp only[pA,hwi,afF,lj,decide_true,length_cons,length_nil,WA,reduceEqDiff,reduceAdd,reduceLT,reduceLeDiff,reduceMul,reduceIte,reduceCtorEq,Int.reduceEq,Int.reduceLT,Int.reduceLE,Int.reduceNe]
        repeat (refine And.intro (by first|omega|rfl|(intro y hy;subst hy;rfl)) ?_)
        try rw[put 34 (by omega) (by omega)]
        exact kB 34 (by omega) (by omega) (.inr ⟨.inl rfl,rfl⟩)
       ·simp only[pA,hwi,WA,reduceEqDiff,reduceAdd,reduceLT,reduceLeDiff,reduceMul,reduceIte,reduceCtorEq,Int.reduceEq,Int.reduceLT,Int.reduceLE,Int.reduceNe];refine aq (λ h6=> ?_) (λ h6=> ?_)
        ·subst h6;simp only[pA,hwi,afF,lj,length_cons,length_nil,WA,reduceEqDiff,reduceAdd,reduceLT,reduceLeDiff,reduceMul,reduceIte,reduceCtorEq,Int.reduceEq,Int.reduceLT,Int.reduceLE,Int.reduceNe]
         repeat (refine And.intro (by first|omega|rfl|(intro y hy;subst hy;rfl)) ?_)
         try rw[put 92 (by omega) (by omega)]
         exact kB 92 (by omega) (by omega) (.inr ⟨.inr rfl,rfl⟩)
        ·rw[l8 (λ d' r' he=>by cases he;exact⟨h4,h5,h6⟩)]at hI;simp only[mn,map_none]at hI;simp only[WA,reduceEqDiff,reduceAdd,reduceLT,reduceLeDiff,reduceMul,reduceIte,reduceCtorEq,Int.reduceEq,Int.reduceLT,Int.reduceLE,Int.reduceNe];exact bad hI
    ·simp only[h2,decide_false,zi c0 c1,WA,reduceEqDiff,reduceAdd,reduceLT,reduceLeDiff,reduceMul,reduceIte,reduceCtorEq,Int.reduceEq,Int.reduceLT,Int.reduceLE,Int.reduceNe];refine bj (fm c 32 126) ?_;simp only[WA,reduceEqDiff,reduceAdd,reduceLT,reduceLeDiff,reduceMul,reduceIte,reduceCtorEq,Int.reduceEq,Int.reduceLT,Int.reduceLE,Int.reduceNe];cases h7:jJ c 32 126 with
     |true=>
      rw[p9 h1 h2 h7]at hI;simp only[hwi,lj,length_cons,length_nil,Bool.not_true,WA,reduceEqDiff,reduceAdd,reduceLT,reduceLeDiff,reduceMul,reduceIte,reduceCtorEq,Int.reduceEq,Int.reduceLT,Int.reduceLE,Int.reduceNe]
      repeat (refine And.intro (by first|omega|rfl|(intro y hy;subst hy;rfl)) ?_)
      try rw[put c c0 c1]
      refine⟨(i+1,acc++ [c]),⟨by simp only;omega,by simp only;omega,by simp;omega,?_⟩,by simp only;omega,rfl⟩;rw[hI];simp only[mn,map_map,Function.comp_def,List.append_assoc,List.cons_append,List.nil_append];congr 1
      funext q
      congr 1;omega
     |false=>
      rw[aaE h1 h2 h7]at hI;simp only[mn,map_none]at hI;simp only[Bool.not_false,WA,reduceEqDiff,reduceAdd,reduceLT,reduceLeDiff,reduceMul,reduceIte,reduceCtorEq,Int.reduceEq,Int.reduceLT,Int.reduceLE,Int.reduceNe];exact bad hI
  ·have he:i=(bs s).length:=by omega
   subst he;rw[adA]at hI;simp only[hN,mn,map_none]at hI;simp only[WA,reduceEqDiff,reduceAdd,reduceLT,reduceLeDiff,reduceMul,reduceIte,reduceCtorEq,Int.reduceEq,Int.reduceLT,Int.reduceLE,Int.reduceNe];exact hI
 ·intro vs hv _;simp only[WA,reduceEqDiff,reduceAdd,reduceLT,reduceLeDiff,reduceMul,reduceIte,reduceCtorEq,Int.reduceEq,Int.reduceLT,Int.reduceLE,Int.reduceNe];exact bad hv
end Go.Proofs.Ab
