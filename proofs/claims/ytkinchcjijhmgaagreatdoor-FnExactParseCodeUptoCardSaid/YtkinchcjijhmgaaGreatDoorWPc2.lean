/-
  TEXTS OF CODE PARSED: the first line, by the reference.
-/
import Derived.Test.YtkinchcjijhmgaaGreatDoorWPc
open Option(getD_some)
open Nat(reduceEqDiff reduceLeDiff reduceAdd reduceLT reduceMul)
set_option linter.unusedVariables false
set_option linter.unusedSimpArgs false
namespace Go.Proofs.Ab
open Go.Ab
set_option maxRecDepth 100000
def nC:List ByteArray->List Int->List Int×Bool
 | [],acc=>(acc,true)
 |w::r,acc=>match fS w with
  |none=>(acc,false)
  |some v=>nC r (acc++ [v])
def mi:Option ByteArray->List ByteArray
 |none=>[]
 |some r=>df 32 r
def ct(line:ByteArray):List Int×Bool:=if(aC 32 line).1=⟨#[115,116,97,114,116,115]⟩then nC (mi (aC 32 line).2) []else([],false)
def vm:Option ByteArray->Nat
 |none=>0
 |some r=>r.size+1
theorem sQ(s:ByteArray)(hs:s.size<=1048576):aI Tryz.prog F.eF [bE s] (.aK [.sl ((ct s).1.map br),.v (.bool (ct s).2)]):=by
 refine T.qh rfl rfl ?_;simp only[T.eF,WA,reduceEqDiff,reduceAdd,reduceLT,reduceLeDiff,reduceMul,reduceIte,reduceCtorEq,Int.reduceEq,Int.reduceLT,Int.reduceLE,Int.reduceNe];refine eo (ja s hs) rfl ?_;simp only[WA,reduceEqDiff,reduceAdd,reduceLT,reduceLeDiff,reduceMul,reduceIte,reduceCtorEq,Int.reduceEq,Int.reduceLT,Int.reduceLE,Int.reduceNe];refine bH (λ h=> ?_) (λ h=> ?_)
 ·have h1:¬(aC 32 s).1=⟨#[115,116,97,114,116,115]⟩:=by simpa using h
  have h2:ct s=([],false):=by unfold ct;rw[if_neg h1]
  rw[h2];simp only[WA,reduceEqDiff,reduceAdd,reduceLT,reduceLeDiff,reduceMul,reduceIte,reduceCtorEq,Int.reduceEq,Int.reduceLT,Int.reduceLE,Int.reduceNe]
 ·have h1:(aC 32 s).1=⟨#[115,116,97,114,116,115]⟩:=by simpa using h
  have h2:ct s=nC (mi (aC 32 s).2) []:=by unfold ct;rw[if_pos h1]
  generalize ct s=R at h2
  have lj:vm (aC 32 s).2<=s.size+1:=by
   rcases hn:aC 32 s with⟨w,_|r⟩
   ·simp[vm]
   ·obtain⟨_,rfl⟩:=cj hn;simp only[vm,aL];omega
  generalize (aC 32 s).2=o at h2 lj;simp only[WA,reduceEqDiff,reduceAdd,reduceLT,reduceLeDiff,reduceMul,reduceIte,reduceCtorEq,Int.reduceEq,Int.reduceLT,Int.reduceLE,Int.reduceNe];refine aB ?_;simp only[WA,reduceEqDiff,reduceAdd,reduceLT,reduceLeDiff,reduceMul,reduceIte,reduceCtorEq,Int.reduceEq,Int.reduceLT,Int.reduceLE,Int.reduceNe];refine cM (ι:=List Int×Option ByteArray) (λ q=>R=nC (mi q.2) q.1/\q.1.length+vm q.2<=s.size+1) (λ q=>[.sl (q.1.map br),bE (q.2.getD ⟨#[]⟩),.v (.bool q.2.isNone)]) (λ q=>vm q.2) ([],o) ⟨h2,by simpa using lj⟩ rfl ?_;rintro⟨acc,o⟩ ⟨hR,hm⟩;simp only at hR hm;simp only[WA,reduceEqDiff,reduceAdd,reduceLT,reduceLeDiff,reduceMul,reduceIte,reduceCtorEq,Int.reduceEq,Int.reduceLT,Int.reduceLE,Int.reduceNe];cases o with
  |none=>
   have:R=(acc,true):=hR;rw[this];simp only[Option.isNone_none,WA,reduceEqDiff,reduceAdd,reduceLT,reduceLeDiff,reduceMul,reduceIte,reduceCtorEq,Int.reduceEq,Int.reduceLT,Int.reduceLE,Int.reduceNe]
  |some r=>
   simp only[vm]at hm;simp only[Option.isNone_some,getD_some,WA,reduceEqDiff,reduceAdd,reduceLT,reduceLeDiff,reduceMul,reduceIte,reduceCtorEq,Int.reduceEq,Int.reduceLT,Int.reduceLE,Int.reduceNe];refine eo (ja r (by omega)) rfl ?_;simp only[WA,reduceEqDiff,reduceAdd,reduceLT,reduceLeDiff,reduceMul,reduceIte,reduceCtorEq,Int.reduceEq,Int.reduceLT,Int.reduceLE,Int.reduceNe]
   have hw:df 32 r=(aC 32 r).1::mi (aC 32 r).2:=by
    rcases hn:aC 32 r with⟨w,_|r'⟩
    ·rw[gJ hn];obtain⟨_,rfl⟩:=fj hn;rfl
    ·rw[iF hn];rfl
   have hlen:(aC 32 r).1.size+vm (aC 32 r).2<=r.size:=by
    rcases hn:aC 32 r with⟨w,_|r'⟩
    ·obtain⟨_,rfl⟩:=fj hn;simp[vm]
    ·obtain⟨_,rfl⟩:=cj hn;have e:(⟨#[32]⟩:ByteArray).size=1:=rfl;simp only[vm,aL,e];omega
   rw[show mi (some r)=df 32 r from rfl,hw,nC]at hR;generalize aC 32 r=q at hR hlen;obtain⟨w,o'⟩:=q;simp only at hR hlen;refine eo (lO w (by omega)) rfl ?_;cases hp:fS w with
   |none=>
    rw[hp]at hR;simp only at hR;rw[hR];simp only[Option.isSome_none,WA,reduceEqDiff,reduceAdd,reduceLT,reduceLeDiff,reduceMul,reduceIte,reduceCtorEq,Int.reduceEq,Int.reduceLT,Int.reduceLE,Int.reduceNe]
   |some v=>
    rw[hp]at hR;simp only at hR
    have hv:lR w=some v:=by
     obtain⟨h,e⟩:=jF hp;rw[e,tc h]
    rw[hv];simp only[Option.isSome_some,getD_some,WA,reduceEqDiff,reduceAdd,reduceLT,reduceLeDiff,reduceMul,reduceIte,reduceCtorEq,Int.reduceEq,Int.reduceLT,Int.reduceLE,Int.reduceNe];refine⟨λ y hy=>by rw[hy];rfl,by omega,by omega,(acc++ [v],o'),⟨hR,?_⟩,?_,?_⟩
    ·simp only[List.length_append,List.length_cons,List.length_nil];omega
    ·show vm o'<r.size+1;omega
    ·simp only[List.map_append,List.map_cons,List.map_nil]
end Go.Proofs.Ab
