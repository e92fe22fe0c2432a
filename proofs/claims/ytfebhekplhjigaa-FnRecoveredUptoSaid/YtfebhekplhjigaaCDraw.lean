/-
  THE CURSOR OVER A DRAW's BYTES.
-/
import Derived.Test.YtfebhekplhjigaaST
import Derived.Test.YtfebhekplhjigaaGM
open Option(getD_some)
open List(getElem_mem length_map)
open Nat(reduceEqDiff reduceLeDiff reduceAdd reduceLT reduceMul)
set_option linter.unusedVariables false
set_option linter.unusedSimpArgs false
namespace Go.Ab
set_option maxRecDepth 100000
set_option maxHeartbeats 4000000
def zO(a b:Int):Int:=IntKind.i64.wrap ((BitVec.ofInt IntKind.i64.bits a&&&BitVec.ofInt IntKind.i64.bits b).toNat:Int)
def aru(a b:Int):Int:=IntKind.i64.wrap ((BitVec.ofInt IntKind.i64.bits a^^^BitVec.ofInt IntKind.i64.bits b).toNat:Int)
theorem aeP(a:Int):0<=zO a 255/\zO a 255<=255:=by
 unfold zO;have e3:IntKind.i64.bits=64:=rfl;rw[e3]
 have h:(BitVec.ofInt 64 a&&&BitVec.ofInt 64 255).toNat<=255:=by
  rw[BitVec.toNat_and];exact Nat.le_trans Nat.and_le_right (by decide)
 rw[bm (by omega) (by omega)];omega
structure cF where
 l:List Int
 i:Nat
 h:Int
structure cF.ok(c:cF):Prop where
 le:c.i<=c.l.length
 len:c.l.length<=1048576
 by_:∀x∈c.l,0<=x/\x<256
def cF.eM(c:cF):List AV:=[.sl (jx c.l),aA c.i,aA c.h]
theorem cF.ag(c:cF):AV.ad c.eM=true:=by simp[cF.eM,AV.ad,AV.ag,bl]
def zS(h:Int):Int:=IntKind.i64.wrap (IntKind.i64.wrap (h*6364136223846793005)+1442695040888963407)
def ag6(h:Int):Int:=zO (aru ((zS h).fdiv (2^min (Int.toNat 33) IntKind.i64.bits)) ((zS h).fdiv (2^min (Int.toNat 47) IntKind.i64.bits))) 255
def cF.byte(c:cF):Int×cF:=match c.l[c.i]? with
 |some b=>(zO (IntKind.i64.wrap (ag6 c.h+b)) 255,⟨c.l,c.i+1,zS c.h⟩)
 |none=>(ag6 c.h,⟨c.l,c.i,zS c.h⟩)
theorem cF.qv{c:cF}(h:c.ok):c.byte.2.ok/\0<=c.byte.1/\c.byte.1<=255:=by
 unfold cF.byte
 split
 ·rename_i b hb;have:=(List.getElem?_eq_some_iff.1 hb).1;exact⟨⟨by simp only;omega,h.len,h.by_⟩,aeP _⟩
 ·exact⟨⟨h.le,h.len,h.by_⟩,aeP _⟩
def cF.below(c:cF)(n:Int):Int×cF:=
 if n<=0 then(0,c)
 else if n<=256 then(c.byte.1.tmod n,c.byte.2)
 else(((c.byte.1*65536+c.byte.2.byte.1*256)+c.byte.2.byte.2.byte.1).tmod n,c.byte.2.byte.2.byte.2)
theorem wJ{a n:Int}(ha:0<=a)(hn:0<n):0<=a.tmod n/\a.tmod n<n:=⟨Int.tmod_nonneg n ha,Int.tmod_lt_of_pos a hn⟩
theorem cF.pW{c:cF}(h:c.ok)(n:Int):(c.below n).2.ok/\0<=(c.below n).1/\(0<n->(c.below n).1<n):=by
 obtain⟨a1,a2,a3⟩:=cF.qv h;obtain⟨b1,b2,b3⟩:=cF.qv a1;obtain⟨c1,c2,c3⟩:=cF.qv b1;unfold cF.below
 split
 ·exact⟨h,Int.le_refl _,λ h=>by omega⟩
 ·split
  ·obtain⟨q1,q2⟩:=wJ (a:=c.byte.1) (n:=n) a2 (by omega);exact⟨a1,q1,λ _=>q2⟩
  ·have ha:0<=(c.byte.1*65536+c.byte.2.byte.1*256)+c.byte.2.byte.2.byte.1:=by omega
   obtain⟨q1,q2⟩:=wJ (n:=n) ha (by omega);exact⟨c1,q1,λ _=>q2⟩
def cF.pick(c:cF)(l:List Int):Int×cF:=(l.getD (c.below l.length).1.toNat 0,(c.below l.length).2)
theorem cF.abC{c:cF}(h:c.ok){l:List Int}(hl:l≠[]):(c.pick l).2.ok/\(c.pick l).1∈l:=by
 have hp:=List.length_pos_iff.2 hl;obtain⟨h1,h2,h3⟩:=cF.pW h l.length;have h3:=h3 (by omega);refine⟨h1,?_⟩;have aF:(c.below l.length).1.toNat<l.length:=by omega
 simp only[cF.pick,List.getD,List.getElem?_eq_getElem aF,getD_some];exact getElem_mem aF
end Go.Ab
namespace Go.Proofs.Ab
open Go.Ab
set_option maxRecDepth 100000
set_option maxHeartbeats 4000000
theorem ke{c:cF}(hc:c.ok):gA Try.prog F.bP G.bP c.eM (aA c.byte.1::c.byte.2.eM):=by
 have hle:=hc.le;have hlen:=hc.len;have hby:=hc.by_;refine T.tx rfl rfl c.ag ?_;obtain⟨l,i,h⟩:=c;simp only at hle hlen hby;simp only[cF.eM,T.bP,WA,reduceEqDiff,reduceAdd,reduceLT,reduceLeDiff,reduceMul,reduceIte,reduceCtorEq,Int.reduceEq,Int.reduceLT,Int.reduceLE,Int.reduceNe];refine aB ?_;simp only[length_map,WA,reduceEqDiff,reduceAdd,reduceLT,reduceLeDiff,reduceMul,reduceIte,reduceCtorEq,Int.reduceEq,Int.reduceLT,Int.reduceLE,Int.reduceNe];refine aE (λ aF=> ?_) (λ aF=> ?_)
 ·have aF:i<l.length:=by omega
  have hb:=hby _ (getElem_mem aF);simp only[WA,reduceEqDiff,reduceAdd,reduceLT,reduceLeDiff,reduceMul,reduceIte,reduceCtorEq,Int.reduceEq,Int.reduceLT,Int.reduceLE,Int.reduceNe];refine nP by1 aF rfl ?_;have hg:l[i]? =some l[i]:=List.getElem?_eq_getElem aF;have w8:IntKind.i64.wrap l[i]=l[i]:=bm (by omega) (by omega);simp(disch:=omega) only[w8,au,WA,reduceEqDiff,reduceAdd,reduceLT,reduceLeDiff,reduceMul,reduceIte,reduceCtorEq,Int.reduceEq,Int.reduceLT,Int.reduceLE,Int.reduceNe];simp only[cF.byte,hg,cF.eM,zO,ag6,aru,zS]
 ·have hg:l[i]? =none:=List.getElem?_eq_none (by omega);simp only[WA,reduceEqDiff,reduceAdd,reduceLT,reduceLeDiff,reduceMul,reduceIte,reduceCtorEq,Int.reduceEq,Int.reduceLT,Int.reduceLE,Int.reduceNe];simp only[cF.byte,hg,cF.eM,zO,ag6,aru,zS]
theorem jz{c:cF}(hc:c.ok)(n:Int):gA Try.prog F.aj G.aj (c.eM++ [aA n]) (aA (c.below n).1::(c.below n).2.eM):=by
 have cE:=c.ag;obtain⟨a1,a2,a3⟩:=cF.qv hc;obtain⟨b1,b2,b3⟩:=cF.qv a1;obtain⟨c1,c2,c3⟩:=cF.qv b1;refine T.sm rfl rfl (by simp[cF.eM,AV.ad,AV.ag,bl]) ?_;simp only[T.aj,cF.eM,WA,reduceEqDiff,reduceAdd,reduceLT,reduceLeDiff,reduceMul,reduceIte,reduceCtorEq,Int.reduceEq,Int.reduceLT,Int.reduceLE,Int.reduceNe];refine aE (λ h0=> ?_) (λ h0=> ?_)
 ·simp only[WA,reduceEqDiff,reduceAdd,reduceLT,reduceLeDiff,reduceMul,reduceIte,reduceCtorEq,Int.reduceEq,Int.reduceLT,Int.reduceLE,Int.reduceNe];simp only[cF.below,if_pos h0]
 ·simp only[WA,reduceEqDiff,reduceAdd,reduceLT,reduceLeDiff,reduceMul,reduceIte,reduceCtorEq,Int.reduceEq,Int.reduceLT,Int.reduceLE,Int.reduceNe];refine aE (λ h1=> ?_) (λ h1=> ?_)
  ·simp only[WA,reduceEqDiff,reduceAdd,reduceLT,reduceLeDiff,reduceMul,reduceIte,reduceCtorEq,Int.reduceEq,Int.reduceLT,Int.reduceLE,Int.reduceNe];refine dT (ke hc) rfl (by simp[cF.eM,AV.ad,AV.ag,bl]) ?_;simp only[cF.eM,WA,reduceEqDiff,reduceAdd,reduceLT,reduceLeDiff,reduceMul,reduceIte,reduceCtorEq,Int.reduceEq,Int.reduceLT,Int.reduceLE,Int.reduceNe];refine⟨by omega,?_⟩;simp only[cF.below,if_neg h0,if_pos h1]
  ·simp only[WA,reduceEqDiff,reduceAdd,reduceLT,reduceLeDiff,reduceMul,reduceIte,reduceCtorEq,Int.reduceEq,Int.reduceLT,Int.reduceLE,Int.reduceNe];refine dT (ke hc) rfl (by simp[cF.eM,AV.ad,AV.ag,bl]) ?_;simp only[cF.eM,WA,reduceEqDiff,reduceAdd,reduceLT,reduceLeDiff,reduceMul,reduceIte,reduceCtorEq,Int.reduceEq,Int.reduceLT,Int.reduceLE,Int.reduceNe];refine dT (ke a1) rfl (by simp[cF.eM,AV.ad,AV.ag,bl]) ?_;simp only[cF.eM,WA,reduceEqDiff,reduceAdd,reduceLT,reduceLeDiff,reduceMul,reduceIte,reduceCtorEq,Int.reduceEq,Int.reduceLT,Int.reduceLE,Int.reduceNe];refine dT (ke b1) rfl (by simp[cF.eM,AV.ad,AV.ag,bl]) ?_;have w1:IntKind.i64.wrap (c.byte.1*65536)=c.byte.1*65536:=bm (by omega) (by omega);have w2:IntKind.i64.wrap (c.byte.2.byte.1*256)=c.byte.2.byte.1*256:=bm (by omega) (by omega);have w3:IntKind.i64.wrap (c.byte.1*65536+c.byte.2.byte.1*256)=c.byte.1*65536+c.byte.2.byte.1*256:=bm (by omega) (by omega);have w4:IntKind.i64.wrap (c.byte.1*65536+c.byte.2.byte.1*256+c.byte.2.byte.2.byte.1)=c.byte.1*65536+c.byte.2.byte.1*256+c.byte.2.byte.2.byte.1:=bm (by omega) (by omega);simp only[cF.eM,w1,w2,w3,w4,WA,reduceEqDiff,reduceAdd,reduceLT,reduceLeDiff,reduceMul,reduceIte,reduceCtorEq,Int.reduceEq,Int.reduceLT,Int.reduceLE,Int.reduceNe];refine⟨by omega,?_⟩;simp only[cF.below,if_neg h0,if_neg h1]
theorem zi{c:cF}(hc:c.ok)(n:Int):gA Try.prog F.bO G.bO (c.eM++ [aA n]) (.v (.bool (decide ((c.below n).1=0)))::(c.below n).2.eM):=by
 refine T.tu rfl rfl (by simp[cF.eM,AV.ad,AV.ag,bl]) ?_;simp only[T.bO,cF.eM,WA,reduceEqDiff,reduceAdd,reduceLT,reduceLeDiff,reduceMul,reduceIte,reduceCtorEq,Int.reduceEq,Int.reduceLT,Int.reduceLE,Int.reduceNe];refine dT (jz hc n) rfl (by simp[cF.eM,AV.ad,AV.ag,bl]) ?_;simp only[cF.eM,WA,reduceEqDiff,reduceAdd,reduceLT,reduceLeDiff,reduceMul,reduceIte,reduceCtorEq,Int.reduceEq,Int.reduceLT,Int.reduceLE,Int.reduceNe]
theorem abn{c:cF}(hc:c.ok)(l:List Int)(hl:l≠[])(hlen:l.length<=1048576):gA Try.prog F.cf G.cf (c.eM++ [.sl (l.map aA)]) (aA (c.pick l).1::(c.pick l).2.eM):=by
 have hp:=List.length_pos_iff.2 hl;obtain⟨h1,h2,h3⟩:=cF.pW hc l.length;have h3:=h3 (by omega);refine T.vp rfl rfl (by simp[cF.eM,AV.ad,AV.ag,bl,bH (f:=aA) (l:=l) λ _=>rfl]) ?_;simp only[T.cf,cF.eM,length_map,WA,reduceEqDiff,reduceAdd,reduceLT,reduceLeDiff,reduceMul,reduceIte,reduceCtorEq,Int.reduceEq,Int.reduceLT,Int.reduceLE,Int.reduceNe];refine dT (jz hc l.length) rfl (by simp[cF.eM,AV.ad,AV.ag,bl]) ?_;simp only[cF.eM,WA,reduceEqDiff,reduceAdd,reduceLT,reduceLeDiff,reduceMul,reduceIte,reduceCtorEq,Int.reduceEq,Int.reduceLT,Int.reduceLE,Int.reduceNe];have aF:(c.below l.length).1.toNat<l.length:=by omega
 have he:(c.below l.length).1=(((c.below l.length).1.toNat:Nat):Int):=by omega
 rw[he];refine nP aA aF rfl ?_;simp only[WA,reduceEqDiff,reduceAdd,reduceLT,reduceLeDiff,reduceMul,reduceIte,reduceCtorEq,Int.reduceEq,Int.reduceLT,Int.reduceLE,Int.reduceNe];simp only[cF.pick,List.getD,List.getElem?_eq_getElem aF,getD_some]
theorem abh(l:List Int)(hl:l.length<=1048576)(hb:∀x∈l,0<=x/\x<256):∃c:cF,c.ok/\c.l=l/\gA Try.prog F.de G.de [.sl (jx l)] c.eM:=by
 let H:Nat->Int:=λ n=>Nat.rec (80080+l.length:Int) (λ k h=>zO (IntKind.i64.wrap (IntKind.i64.wrap (IntKind.i64.wrap (h*137)+(l.getD k 0))+11)) 1073741823) n
 refine⟨⟨l,0,H (min l.length 4000)⟩,⟨Nat.zero_le _,hl,hb⟩,rfl,?_⟩;have w0:IntKind.i64.wrap (80080+(l.length:Int))=80080+l.length:=bm (by omega) (by omega);refine T.vn rfl rfl (by simp[AV.ad,AV.ag,bl]) ?_;simp only[T.de,cF.eM,length_map,w0,WA,reduceEqDiff,reduceAdd,reduceLT,reduceLeDiff,reduceMul,reduceIte,reduceCtorEq,Int.reduceEq,Int.reduceLT,Int.reduceLE,Int.reduceNe];refine cC [aA (H (min l.length 4000))] rfl ?_ ?_
 ·simp only[WA,reduceEqDiff,reduceAdd,reduceLT,reduceLeDiff,reduceMul,reduceIte,reduceCtorEq,Int.reduceEq,Int.reduceLT,Int.reduceLE,Int.reduceNe];refine abJ (min l.length 4000) (λ i=>[aA (H i),aA i]) rfl λ i hi=> ?_
  simp only[WA,reduceEqDiff,reduceAdd,reduceLT,reduceLeDiff,reduceMul,reduceIte,reduceCtorEq,Int.reduceEq,Int.reduceLT,Int.reduceLE,Int.reduceNe];refine aB ?_;simp only[WA,reduceEqDiff,reduceAdd,reduceLT,reduceLeDiff,reduceMul,reduceIte,reduceCtorEq,Int.reduceEq,Int.reduceLT,Int.reduceLE,Int.reduceNe];refine aB ?_;simp only[length_map,WA,reduceEqDiff,reduceAdd,reduceLT,reduceLeDiff,reduceMul,reduceIte,reduceCtorEq,Int.reduceEq,Int.reduceLT,Int.reduceLE,Int.reduceNe];refine aE (λ h1=> ?_) (λ h1=> ?_)
  ·have aF:i<l.length:=by omega
   simp only[WA,reduceEqDiff,reduceAdd,reduceLT,reduceLeDiff,reduceMul,reduceIte,reduceCtorEq,Int.reduceEq,Int.reduceLT,Int.reduceLE,Int.reduceNe];refine aE (λ h2=> ?_) (λ h2=> ?_)
   ·simp only[WA,reduceEqDiff,reduceAdd,reduceLT,reduceLeDiff,reduceMul,reduceIte,reduceCtorEq,Int.reduceEq,Int.reduceLT,Int.reduceLE,Int.reduceNe];refine nP by1 aF rfl ?_;have hbx:=hb _ (getElem_mem aF);have w8:IntKind.i64.wrap l[i]=l[i]:=bm (by omega) (by omega)
    have hH:H (i+1)=zO (IntKind.i64.wrap (IntKind.i64.wrap (IntKind.i64.wrap (H i*137)+l[i])+11)) 1073741823:=by
     show zO (IntKind.i64.wrap (IntKind.i64.wrap (IntKind.i64.wrap (H i*137)+(l.getD i 0))+11)) 1073741823=_;simp[List.getD,aF]
    simp(disch:=omega) only[w8,au,WA,reduceEqDiff,reduceAdd,reduceLT,reduceLeDiff,reduceMul,reduceIte,reduceCtorEq,Int.reduceEq,Int.reduceLT,Int.reduceLE,Int.reduceNe];exact⟨by omega,by rw[hH];rfl⟩
   ·simp only[WA,reduceEqDiff,reduceAdd,reduceLT,reduceLeDiff,reduceMul,reduceIte,reduceCtorEq,Int.reduceEq,Int.reduceLT,Int.reduceLE,Int.reduceNe];rw[show i=min l.length 4000 by omega]
  ·simp only[WA,reduceEqDiff,reduceAdd,reduceLT,reduceLeDiff,reduceMul,reduceIte,reduceCtorEq,Int.reduceEq,Int.reduceLT,Int.reduceLE,Int.reduceNe];rw[show i=min l.length 4000 by omega]
 ·simp only[WA,reduceEqDiff,reduceAdd,reduceLT,reduceLeDiff,reduceMul,reduceIte,reduceCtorEq,Int.reduceEq,Int.reduceLT,Int.reduceLE,Int.reduceNe]
  rfl
end Go.Proofs.Ab
