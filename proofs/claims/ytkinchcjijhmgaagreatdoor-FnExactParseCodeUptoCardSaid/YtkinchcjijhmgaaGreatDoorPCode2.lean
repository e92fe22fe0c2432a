/-
  THE WHOLE TEXT OF CODE: line by line.
-/
import Derived.Test.YtkinchcjijhmgaaGreatDoorPCode
import Derived.Test.YtkinchcjijhmgaaGreatDoorWPc2
import Derived.Test.YtkinchcjijhmgaaGreatDoorCCode
import Derived.Test.YtkinchcjijhmgaaGreatDoorGM
open Nat(le_refl)
open List(length_cons length_nil)
set_option linter.unusedVariables false
set_option linter.unusedSimpArgs false
namespace Go.Proofs.Ab
open Go.Ab
set_option maxRecDepth 100000
theorem yo(s:ByteArray)(i j:Nat):(s.extract i j).data.toList=(s.data.toList.drop i).take (j- i):=by
 rw[Lib.extract_eq]
theorem j2(s:ByteArray)(i:Nat):(s.extract i s.size).data.toList=s.data.toList.drop i:=by
 rw[yo,List.take_of_length_le];rw[List.length_drop,←Lib.size_eq];exact le_refl _
theorem acP{c:UInt8}{s:ByteArray}{i e:Nat}(hie:i<=e)(h:s.data.toList[e]? =some c)(hn:∀j,i<=j->j<e->s.data.toList[j]? ≠some c):
  aC c (s.extract i s.size)=(s.extract i e,some (s.extract (e+1) s.size)):=by
 have hes:e<s.data.toList.length:=(List.getElem?_eq_some_iff.1 h).1
 have h1:(s.extract i s.size).data.toList[e- i]? =some c:=by
  rw[j2,List.getElem?_drop,show i+(e- i)=e by omega,h]
 have h2:∀j,j<e- i->(s.extract i s.size).data.toList[j]? ≠some c:=λ j hj=>by
  rw[j2,List.getElem?_drop];exact hn (i+j) (by omega) (by omega)
 rw[zM h1 h2]
 have e1:(s.extract i s.size).extract 0 (e- i)=s.extract i e:=by
  apply fP;rw[yo,j2,yo,List.drop_zero,Nat.sub_zero]
 have e2:(s.extract i s.size).extract (e- i+1) (s.extract i s.size).size=s.extract (e+1) s.size:=by
  apply fP;rw[j2,j2,j2,List.drop_drop,show i+(e- i+1)=e+1 by omega]
 rw[e1,e2]
theorem akD{c:UInt8}{s:ByteArray}{i:Nat}(hn:∀j,i<=j->s.data.toList[j]? ≠some c):aC c (s.extract i s.size)=(s.extract i s.size,none):=
 xp λ j=>by
  rw[j2,List.getElem?_drop];exact hn (i+j) (by omega)
def ic:ai:= .mk [] []
def gK(k:Nat)(c:ai)(line:ByteArray):Option ai:=
 if line.size<=10000 then
  if k=0 then(if(ct line).2=true then some (.mk c.ar (ct line).1)else none)
  else(eR line).map λ x=> .mk (c.ar++ [x]) c.aM
 else none
def kg:Nat->ai->List ByteArray->ai×Int
 |k,_,[]=>(ic,(k:Int))
 |k,c,[w]=>if w=⟨#[]⟩/\k≠0/\c.qW=true then(c,-1)else(ic,(k:Int))
 |k,c,w::v::r=>match gK k c w with
  |none=>(ic,(k:Int))
  |some d=>kg (k+1) d (v::r)
def ef(s:ByteArray):ai×Int:=kg 0 ic (df 10 s)
theorem jL(k:Nat)(c:ai)(w:ByteArray)(l:List ByteArray)(h:l≠[]):kg k c (w::l)=match gK k c w with
  |none=>(ic,(k:Int))
  |some d=>kg (k+1) d l:=by
 cases l with
 |nil=>exact absurd rfl h
 |cons v r=>rw[kg]
theorem zH:∀(l:List ByteArray) (acc:List Int),(nC l acc).1.length<=acc.length+l.length
 | [],acc=>le_refl _
 |w::r,acc=>by
  rw[nC];cases fS w with
  |none=>simp only[length_cons];omega
  |some v=>
   have:=zH r (acc++ [v]);simp only[List.length_append,length_cons,length_nil]at this⊢;omega
theorem aj0(o:Option ByteArray):(mi o).length<=vm o:=by
 cases o with
 |none=>exact le_refl _
 |some r=>
  show(df 32 r).length<=r.size+1;rw[oW];have:=Lib.countB_le ⟨#[32]⟩ (le_refl _) r.size r (le_refl _);omega
theorem aeG(line:ByteArray):(ct line).1.length<=line.size:=by
 unfold ct
 split
 ·rename_i h;have h1:=zH (mi (aC 32 line).2) [];have h2:=aj0 (aC 32 line).2;rcases hn:aC 32 line with⟨w,_|r⟩
  ·rw[hn]at h1 h2;simp only[vm,length_nil]at h1 h2⊢;omega
  ·rw[hn]at h1 h2 h;obtain⟨_,rfl⟩:=cj hn;have e:(⟨#[32]⟩:ByteArray).size=1:=rfl;simp only[vm,length_nil,aL,e]at h1 h2⊢;omega
 ·exact Nat.zero_le _
theorem aaI{k:Nat}{c d:ai}{line:ByteArray}(h:gK k c line=some d)(h0:k=0->c=ic):d.wt<=c.wt+line.size:=by
 unfold gK at h
 split at h
 ·split at h
  ·rename_i hk
   split at h
   ·injection h with h;subst h;rw[h0 hk];have:=aeG line;simp only[ai.jy,ai.ar,ai.aM,ic,length_nil,List.map_nil,List.sum_nil];omega
   ·cases h
  ·cases hp:eR line with
   |none=>rw[hp]at h;cases h
   |some x=>
    rw[hp]at h;simp only[Option.map_some,Option.some.injEq]at h;subst h;have:=xf hp;have hx:=x.jy;simp only[ai.jy,ai.ar,ai.aM,List.length_append,length_cons,length_nil,List.map_append,List.map_cons,List.map_nil,List.sum_append,List.sum_cons,List.sum_nil];omega
 ·cases h
theorem aI.axc{P:Program}{f:FuncId}{as':List AV}{a b:AV}{v:AV}(h:aI P f as' (.aK [a,v]))(hle:AV.leD a b):aI P f as' (.aK [b,v]):=by
 refine⟨h.1,λ I L w vs hi hr=>(h.2 I L w vs hi hr).mono ?_⟩;rintro e w' ⟨x,I',L',he,hx,hg⟩;refine⟨x,I',L',he,?_,hg⟩;cases hx with
 |aK cs xs hl hc=>
  refine .aK _ _ hl λ i c x h1 h2=> ?_
  match i,h1 with
  |0,h1=>cases h1;exact hle.sound (hc 0 a x rfl h2)
  |1,h1=>cases h1;exact hc 1 v x rfl h2
end Go.Proofs.Ab
