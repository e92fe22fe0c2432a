/-
  TEXTS OF CODE PARSED: the walks (under way).
-/
import Derived.Test.YtkinchcjijhmgaaGreatDoorPLine2
import Derived.Test.YtkinchcjijhmgaaGreatDoorGM
open Option(bind_some)
open List(getElem?_eq_getElem getElem_map)
open Nat(reduceEqDiff reduceLeDiff reduceAdd reduceLT reduceMul)
set_option linter.unusedVariables false
set_option linter.unusedSimpArgs false
namespace Go.Proofs.Ab
open Go.Ab
set_option maxRecDepth 100000
theorem ja(s:ByteArray)(hs:s.size<=1048576):aI Tryz.prog F.dC [bE s] (.aK [bE (aC 32 s).1,bE ((aC 32 s).2.getD ⟨#[]⟩),.v (.bool (aC 32 s).2.isNone)]):=by
 refine T.sR rfl rfl ?_;simp only[T.dC,WA,reduceEqDiff,reduceAdd,reduceLT,reduceLeDiff,reduceMul,reduceIte,reduceCtorEq,Int.reduceEq,Int.reduceLT,Int.reduceLE,Int.reduceNe];refine aB ?_;simp only[WA,reduceEqDiff,reduceAdd,reduceLT,reduceLeDiff,reduceMul,reduceIte,reduceCtorEq,Int.reduceEq,Int.reduceLT,Int.reduceLE,Int.reduceNe];refine rL s.size (λ i=>∀j,j<i->s.data.toList[j]? ≠some 32) (λ i=>[br i]) rfl (by simp) λ i hi hI=> ?_
 simp only[WA,reduceEqDiff,reduceAdd,reduceLT,reduceLeDiff,reduceMul,reduceIte,reduceCtorEq,Int.reduceEq,Int.reduceLT,Int.reduceLE,Int.reduceNe];refine aq (λ h=> ?_) (λ h=> ?_)
 ·have hl:=ep s;have au:i<(bs s).length:=by omega
  have hx:(bs s)[i]? =some (bs s)[i]:=getElem?_eq_getElem au;have gV:i<s.data.toList.length:=by rw[←Lib.size_eq];omega
  have yH:s.data.toList[i]? =some s.data.toList[i]:=getElem?_eq_getElem gV;have hg:(bs s)[i]=(s.data.toList[i].toNat:Int):=by simp only[bs,getElem_map]
  have mD:=oG hx;simp only[mD,WA,reduceEqDiff,reduceAdd,reduceLT,reduceLeDiff,reduceMul,reduceIte,reduceCtorEq,Int.reduceEq,Int.reduceLT,Int.reduceLE,Int.reduceNe];refine aq (λ h2=> ?_) (λ h2=> ?_)
  ·have e:s.data.toList[i]=32:=UInt8.toNat_inj.1 (by have:(32:UInt8).toNat=32:=rfl;omega);rw[e]at yH;rw[zM yH hI];simp(disch:=omega) only[aD,Int.toNat_natCast,WA,reduceEqDiff,reduceAdd,reduceLT,reduceLeDiff,reduceMul,reduceIte,reduceCtorEq,Int.reduceEq,Int.reduceLT,Int.reduceLE,Int.reduceNe];exact⟨by omega,by omega,by omega,rfl⟩
  ·have hn:∀j,j<i+1->s.data.toList[j]? ≠some 32:=by
     intro j hj;by_cases za:j<i
     ·exact hI j za
     ·have:j=i:=by omega
      subst this;rw[yH];intro e;injection e with e;rw[e]at hg;exact h2 hg
   simp(disch:=omega) only[aD,WA,reduceEqDiff,reduceAdd,reduceLT,reduceLeDiff,reduceMul,reduceIte,reduceCtorEq,Int.reduceEq,Int.reduceLT,Int.reduceLE,Int.reduceNe];exact⟨by omega,hn⟩
 ·rw[xp (c:=32) (s:=s) (λ j=>by
    by_cases hj:j<i
    ·exact hI j hj
    ·rw[List.getElem?_eq_none (by rw[←Lib.size_eq];omega)];simp)]
  simp only[WA,reduceEqDiff,reduceAdd,reduceLT,reduceLeDiff,reduceMul,reduceIte,reduceCtorEq,Int.reduceEq,Int.reduceLT,Int.reduceLE,Int.reduceNe]
  rfl
theorem aaC(neg:Bool)(s:ByteArray)(i:Nat)(h:i<s.data.toList.length)(n:Int):dA neg (s.data.toList.drop i) n=if zY s.data.toList[i]=true then dA neg (s.data.toList.drop (i+1)) (ni neg n s.data.toList[i])else none:=by
 rw[List.drop_eq_getElem_cons h,dA]
theorem lO(s:ByteArray)(hs:s.size<=1048576):aI Tryz.prog F.eX [bE s] (.aK [br ((lR s).getD 0),.v (.bool (fS s).isSome)]):=by
 have hl:=ep s;refine T.vg rfl rfl ?_;simp only[T.eX,WA,reduceEqDiff,reduceAdd,reduceLT,reduceLeDiff,reduceMul,reduceIte,reduceCtorEq,Int.reduceEq,Int.reduceLT,Int.reduceLE,Int.reduceNe];refine aB ?_;simp only[WA,reduceEqDiff,reduceAdd,reduceLT,reduceLeDiff,reduceMul,reduceIte,reduceCtorEq,Int.reduceEq,Int.reduceLT,Int.reduceLE,Int.reduceNe];refine bw [.v (.bool (decide (s.size=0∨20<s.size)))] rfl ?_ ?_
 ·simp only[WA,reduceEqDiff,reduceAdd,reduceLT,reduceLeDiff,reduceMul,reduceIte,reduceCtorEq,Int.reduceEq,Int.reduceLT,Int.reduceLE,Int.reduceNe];refine aq (λ h=> ?_) (λ h=> ?_)
  ·have d:decide (s.size=0∨20<s.size)=true:=decide_eq_true (by omega);simp only[d,WA,reduceEqDiff,reduceAdd,reduceLT,reduceLeDiff,reduceMul,reduceIte,reduceCtorEq,Int.reduceEq,Int.reduceLT,Int.reduceLE,Int.reduceNe]
  ·have d:decide ((s.size:Int)>20)=decide (s.size=0∨20<s.size):=decide_eq_decide.2 (by omega);simp only[d,WA,reduceEqDiff,reduceAdd,reduceLT,reduceLeDiff,reduceMul,reduceIte,reduceCtorEq,Int.reduceEq,Int.reduceLT,Int.reduceLE,Int.reduceNe]
 simp only[WA,reduceEqDiff,reduceAdd,reduceLT,reduceLeDiff,reduceMul,reduceIte,reduceCtorEq,Int.reduceEq,Int.reduceLT,Int.reduceLE,Int.reduceNe];refine aq (λ hz=> ?_) (λ hz=> ?_)
 ·have h1:lR s=none:=by unfold lR;rw[if_pos hz]
  have h2:fS s=none:=by rw[ot,h1];rfl
  rw[h1,h2];simp only[WA,reduceEqDiff,reduceAdd,reduceLT,reduceLeDiff,reduceMul,reduceIte,reduceCtorEq,Int.reduceEq,Int.reduceLT,Int.reduceLE,Int.reduceNe]
  rfl
 ·have cr:0<(bs s).length:=by omega
  have hx:(bs s)[0]? =some (bs s)[0]:=getElem?_eq_getElem cr;have mD:∀(k:IntKind) (K:AV->Prop),y9 (.v (.string s)) (.v (.int k 0)) K=dU K (.v (.int .u8 (bs s)[0])):=oG hx;obtain⟨c0,c1⟩:=iA (List.getElem_mem cr);simp only[WA,reduceEqDiff,reduceAdd,reduceLT,reduceLeDiff,reduceMul,reduceIte,reduceCtorEq,Int.reduceEq,Int.reduceLT,Int.reduceLE,Int.reduceNe];refine bw [br (if(bs s)[0]=45 then 1 else 0)] rfl ?_ ?_
  ·simp only[mD,WA,reduceEqDiff,reduceAdd,reduceLT,reduceLeDiff,reduceMul,reduceIte,reduceCtorEq,Int.reduceEq,Int.reduceLT,Int.reduceLE,Int.reduceNe];refine aq (λ h=> ?_) (λ h=> ?_)
   ·simp only[h,if_true,WA,reduceEqDiff,reduceAdd,reduceLT,reduceLeDiff,reduceMul,reduceIte,reduceCtorEq,Int.reduceEq,Int.reduceLT,Int.reduceLE,Int.reduceNe]
   ·simp only[h,if_false,WA,reduceEqDiff,reduceAdd,reduceLT,reduceLeDiff,reduceMul,reduceIte,reduceCtorEq,Int.reduceEq,Int.reduceLT,Int.reduceLE,Int.reduceNe]
  obtain⟨neg,arT⟩:∃neg:Bool,neg=decide ((bs s)[0]=45):=⟨_,rfl⟩;obtain⟨fr,hfr⟩:∃fr:Nat,fr=if neg=true then 1 else 0:=⟨_,rfl⟩
  have hf:(if(bs s)[0]=45 then(1:Int)else 0)=(fr:Int):=by
   rw[hfr,arT];by_cases h:(bs s)[0]=45
   ·simp[h]
   ·simp[h]
  have aip:0<s.data.toList.length:=by rw[←Lib.size_eq];omega
  have hg0:(bs s)[0]=(s.data.toList[0].toNat:Int):=by simp only[bs,getElem_map]
  have hh:s.data.toList.head?=some s.data.toList[0]:=by rw[List.head?_eq_getElem?,getElem?_eq_getElem aip]
  have hS:lR s=dA neg (s.data.toList.drop fr) 0:=by
   unfold lR;rw[if_neg hz,hh];by_cases h:(bs s)[0]=45
   ·have e:s.data.toList[0]=45:=UInt8.toNat_inj.1 (by have:(45:UInt8).toNat=45:=rfl;omega);have hn:neg=true:=by rw[arT];simp[h]
    rw[hn,if_pos rfl]at hfr;rw[e,if_pos rfl,hn,hfr,List.drop_one]
   ·have e:¬s.data.toList[0]=45:=by
      intro e;rw[e]at hg0;exact h hg0
    have hn:neg=false:=by rw[arT];simp[h]
    have aya:fr=0:=by rw[hfr,hn];rfl
    rw[if_neg (by simpa using e),hn,aya,List.drop_zero]
  have hd1:decide ((fr:Int)=1)=neg:=by rw[hfr];cases neg<;>rfl
  rw[hf];simp only[WA,reduceEqDiff,reduceAdd,reduceLT,reduceLeDiff,reduceMul,reduceIte,reduceCtorEq,Int.reduceEq,Int.reduceLT,Int.reduceLE,Int.reduceNe];refine aB ?_;simp only[WA,reduceEqDiff,reduceAdd,reduceLT,reduceLeDiff,reduceMul,reduceIte,reduceCtorEq,Int.reduceEq,Int.reduceLT,Int.reduceLE,Int.reduceNe];refine cM (ι:=Nat×Int) (λ q=>q.1<=s.size/\vw q.2/\lR s=dA neg (s.data.toList.drop q.1) q.2) (λ q=>[br q.2,br q.1]) (λ q=>s.size- q.1) (fr,0) ⟨by simp only;rw[hfr];split<;>omega,⟨by simp only;omega,by simp only;omega⟩,hS⟩ rfl ?_;rintro⟨i,n⟩ ⟨hi,hn,hI⟩;simp only at hi hn hI;simp only[WA,reduceEqDiff,reduceAdd,reduceLT,reduceLeDiff,reduceMul,reduceIte,reduceCtorEq,Int.reduceEq,Int.reduceLT,Int.reduceLE,Int.reduceNe];refine aq (λ h=> ?_) (λ h=> ?_)
  ·have au:i<(bs s).length:=by omega
   have gV:i<s.data.toList.length:=by rw[←Lib.size_eq];omega
   have hx1:(bs s)[i]? =some (bs s)[i]:=getElem?_eq_getElem au;have hg:(bs s)[i]=(s.data.toList[i].toNat:Int):=by simp only[bs,getElem_map]
   obtain⟨d0,d1⟩:=iA (List.getElem_mem au);have arZ:=oG hx1;rw[aaC neg s i gV]at hI;generalize (bs s)[i]=c at arZ d0 d1 hg;generalize s.data.toList[i]=u at hI hg
   have ayi:zY u=jJ c 48 57:=by
    unfold zY jJ;rw[hg];congr 1<;>exact decide_eq_decide.2 (by omega)
   simp only[WA,reduceEqDiff,reduceAdd,reduceLT,reduceLeDiff,reduceMul,reduceIte,reduceCtorEq,Int.reduceEq,Int.reduceLT,Int.reduceLE,Int.reduceNe];refine aB ?_;simp only[arZ,zi d0 d1,WA,reduceEqDiff,reduceAdd,reduceLT,reduceLeDiff,reduceMul,reduceIte,reduceCtorEq,Int.reduceEq,Int.reduceLT,Int.reduceLE,Int.reduceNe];refine bj (aaK c) ?_;rw[ayi]at hI;cases hb:jJ c 48 57 with
   |false=>
    rw[hb]at hI;have h1:lR s=none:=by simpa using hI
    have h2:fS s=none:=by rw[ot,h1];rfl
    rw[h1,h2];simp only[WA,reduceEqDiff,reduceAdd,reduceLT,reduceLeDiff,reduceMul,reduceIte,reduceCtorEq,Int.reduceEq,Int.reduceLT,Int.reduceLE,Int.reduceNe]
    rfl
   |true=>
    rw[hb,if_pos rfl]at hI;simp only[jJ,Bool.and_eq_true,decide_eq_true_eq]at hb;have e8:IntKind.u8.wrap (c- 48)=c- 48:=by simp[IntKind.wrap,IntKind.signed,IntKind.bits];omega
    have e64:IntKind.i64.wrap (c- 48)=c- 48:=gv (by omega) (by omega);have en:IntKind.i64.wrap (-(c- 48))= -(c- 48):=gv (by omega) (by omega);simp only[arZ,e8,e64,WA,reduceEqDiff,reduceAdd,reduceLT,reduceLeDiff,reduceMul,reduceIte,reduceCtorEq,Int.reduceEq,Int.reduceLT,Int.reduceLE,Int.reduceNe];refine bw [br (if neg=true then-(c- 48)else c- 48)] rfl ?_ ?_
    ·simp only[hd1,WA,reduceEqDiff,reduceAdd,reduceLT,reduceLeDiff,reduceMul,reduceIte,reduceCtorEq,Int.reduceEq,Int.reduceLT,Int.reduceLE,Int.reduceNe];cases neg with
     |true=>simp only[en,if_true,WA,reduceEqDiff,reduceAdd,reduceLT,reduceLeDiff,reduceMul,reduceIte,reduceCtorEq,Int.reduceEq,Int.reduceLT,Int.reduceLE,Int.reduceNe]
     |false=>simp only[WA,reduceEqDiff,reduceAdd,reduceLT,reduceLeDiff,reduceMul,reduceIte,reduceCtorEq,Int.reduceEq,Int.reduceLT,Int.reduceLE,Int.reduceNe]
    ·simp(disch:=omega) only[aD,WA,reduceEqDiff,reduceAdd,reduceLT,reduceLeDiff,reduceMul,reduceIte,reduceCtorEq,Int.reduceEq,Int.reduceLT,Int.reduceLE,Int.reduceNe];refine⟨(i+1,ni neg n u),⟨by simp only;omega,yr neg n u,hI⟩,by simp only;omega,?_⟩;simp only[ni,hg]
  ·have e:s.data.toList.drop i= []:=List.drop_eq_nil_of_le (by rw[←Lib.size_eq];omega);rw[e,dA]at hI;simp only[WA,reduceEqDiff,reduceAdd,reduceLT,reduceLeDiff,reduceMul,reduceIte,reduceCtorEq,Int.reduceEq,Int.reduceLT,Int.reduceLE,Int.reduceNe];refine bj (sN n hn.1 hn.2) ?_
   have hp:(fS s).isSome=decide (im n=s):=by
    rw[ot,hI,bind_some];by_cases h:im n=s<;>simp[h]
   rw[hp,hI];simp only[WA,reduceEqDiff,reduceAdd,reduceLT,reduceLeDiff,reduceMul,reduceIte,reduceCtorEq,Int.reduceEq,Int.reduceLT,Int.reduceLE,Int.reduceNe]
def acv(s:ByteArray):Int:=if s.size<2∨s.data.toList.head?≠some 114 then 0 else(lR (s.extract 1 s.size)).getD 0
theorem xm:fS ⟨#[]⟩=none:=by
 rw[ot];rfl
theorem aaT(s:ByteArray):nQ s=if s.size<2∨s.data.toList.head?≠some 114 then none else(fS (s.extract 1 s.size)).bind λ n=>if 0<=n/\n<=15 then some n else none:=by
 unfold nQ;have hz:=Lib.size_eq s
 have he:s.extract 1 s.size=⟨(s.data.toList.drop 1).toArray⟩:=by
  rw[Lib.extract_eq,List.take_of_length_le];rw[List.length_drop,←Lib.size_eq];exact Nat.le_refl _
 rw[he];cases hs:s.data.toList with
 |nil=>
  rw[hs]at hz;rw[if_pos (.inl (by rw[hz];simp))]
 |cons c r=>
  rw[hs]at hz;simp only[List.head?_cons,List.drop_succ_cons,List.drop_zero];by_cases hc:c=114
  ·subst hc;rw[if_pos rfl];cases r with
   |nil=>
    rw[if_pos (.inl (by rw[hz];simp)),xm];rfl
   |cons d r=>
    rw[if_neg];simp only[ne_eq,not_true_eq_false,or_false,hz,List.length_cons];omega
  ·rw[if_neg hc,if_pos (.inr (by simpa using hc))]
theorem vf(s:ByteArray)(hs:s.size<=1048576):aI Tryz.prog F.fg [bE s] (.aK [br (acv s),.v (.bool (nQ s).isSome)]):=by
 have hl:=ep s;refine T.rl rfl rfl ?_;simp only[T.fg,WA,reduceEqDiff,reduceAdd,reduceLT,reduceLeDiff,reduceMul,reduceIte,reduceCtorEq,Int.reduceEq,Int.reduceLT,Int.reduceLE,Int.reduceNe];refine aB ?_;simp only[WA,reduceEqDiff,reduceAdd,reduceLT,reduceLeDiff,reduceMul,reduceIte,reduceCtorEq,Int.reduceEq,Int.reduceLT,Int.reduceLE,Int.reduceNe];refine bw [.v (.bool (decide (s.size<2∨s.data.toList.head?≠some 114)))] rfl ?_ ?_
 ·simp only[WA,reduceEqDiff,reduceAdd,reduceLT,reduceLeDiff,reduceMul,reduceIte,reduceCtorEq,Int.reduceEq,Int.reduceLT,Int.reduceLE,Int.reduceNe];refine aq (λ h=> ?_) (λ h=> ?_)
  ·have d:decide (s.size<2∨s.data.toList.head?≠some 114)=true:=decide_eq_true (.inl (by omega));simp only[d,WA,reduceEqDiff,reduceAdd,reduceLT,reduceLeDiff,reduceMul,reduceIte,reduceCtorEq,Int.reduceEq,Int.reduceLT,Int.reduceLE,Int.reduceNe]
  ·have cr:0<(bs s).length:=by omega
   have aip:0<s.data.toList.length:=by rw[←Lib.size_eq];omega
   have hx:(bs s)[0]? =some (bs s)[0]:=getElem?_eq_getElem cr;have mD:∀(k:IntKind) (K:AV->Prop),y9 (.v (.string s)) (.v (.int k 0)) K=dU K (.v (.int .u8 (bs s)[0])):=oG hx;have hg0:(bs s)[0]=(s.data.toList[0].toNat:Int):=by simp only[bs,getElem_map]
   have hh:s.data.toList.head?=some s.data.toList[0]:=by rw[List.head?_eq_getElem?,getElem?_eq_getElem aip]
   simp only[mD,WA,reduceEqDiff,reduceAdd,reduceLT,reduceLeDiff,reduceMul,reduceIte,reduceCtorEq,Int.reduceEq,Int.reduceLT,Int.reduceLE,Int.reduceNe]
   have d:(!decide ((bs s)[0]=114))=decide (s.size<2∨¬s.data.toList.head?=some 114):=by
    rw[hh];by_cases e:s.data.toList[0]=114
    ·have e1:(bs s)[0]=114:=by rw[hg0,e];rfl
     have e2:¬s.size<2:=by omega
     simp[e,e1,e2]
    ·have e1:¬(bs s)[0]=114:=by
       intro q;exact e (UInt8.toNat_inj.1 (by have:(114:UInt8).toNat=114:=rfl;omega))
     have e2:decide (s.size<2∨¬some s.data.toList[0]=some 114)=true:=decide_eq_true (.inr λ q=>e (Option.some.inj q));rw[e2,decide_eq_false e1];rfl
   rw[d]
 simp only[WA,reduceEqDiff,reduceAdd,reduceLT,reduceLeDiff,reduceMul,reduceIte,reduceCtorEq,Int.reduceEq,Int.reduceLT,Int.reduceLE,Int.reduceNe];refine aq (λ hz=> ?_) (λ hz=> ?_)
 ·have h1:acv s=0:=by unfold acv;rw[if_pos hz]
  have h2:nQ s=none:=by rw[aaT,if_pos hz]
  rw[h1,h2];simp only[WA,reduceEqDiff,reduceAdd,reduceLT,reduceLeDiff,reduceMul,reduceIte,reduceCtorEq,Int.reduceEq,Int.reduceLT,Int.reduceLE,Int.reduceNe]
  rfl
 ·have h2:¬s.size<2:=λ h=>hz (.inl h)
  simp only[WA,reduceEqDiff,reduceAdd,reduceLT,reduceLeDiff,reduceMul,reduceIte,reduceCtorEq,Int.reduceEq,Int.reduceLT,Int.reduceLE,Int.reduceNe];refine⟨by omega,by omega,?_⟩
  have lj:(s.extract 1 s.size).size<=1048576:=by
   rw[ByteArray.size_extract];omega
  refine eo (lO (s.extract 1 s.size) lj) rfl ?_;have h3:acv s=(lR (s.extract 1 s.size)).getD 0:=by unfold acv;rw[if_neg hz]
  have h4:(nQ s).isSome=((fS (s.extract 1 s.size)).isSome&&jJ ((lR (s.extract 1 s.size)).getD 0) 0 15):=by
   rw[aaT,if_neg hz,ot];cases lR (s.extract 1 s.size)with
   |none=>rfl
   |some v=>
    simp only[bind_some,Option.getD_some];by_cases hv:im v=s.extract 1 s.size
    ·simp only[hv,if_true,bind_some,Option.isSome_some,Bool.true_and];by_cases hr:0<=v/\v<=15
     ·simp[hr,jJ]
     ·rw[if_neg hr];simp only[jJ,Option.isSome_none];symm;simpa using hr
    ·simp[hv]
  rw[h3,h4];simp only[WA,reduceEqDiff,reduceAdd,reduceLT,reduceLeDiff,reduceMul,reduceIte,reduceCtorEq,Int.reduceEq,Int.reduceLT,Int.reduceLE,Int.reduceNe];refine bw [.v (.bool ((fS (s.extract 1 s.size)).isSome&&jJ ((lR (s.extract 1 s.size)).getD 0) 0 15))] rfl ?_ ?_
  ·simp only[WA,reduceEqDiff,reduceAdd,reduceLT,reduceLeDiff,reduceMul,reduceIte,reduceCtorEq,Int.reduceEq,Int.reduceLT,Int.reduceLE,Int.reduceNe];cases(fS (s.extract 1 s.size)).isSome with
   |true=>
    simp only[WA,reduceEqDiff,reduceAdd,reduceLT,reduceLeDiff,reduceMul,reduceIte,reduceCtorEq,Int.reduceEq,Int.reduceLT,Int.reduceLE,Int.reduceNe];refine bj (gL _ 0 15) ?_;simp only[Bool.true_and,WA,reduceEqDiff,reduceAdd,reduceLT,reduceLeDiff,reduceMul,reduceIte,reduceCtorEq,Int.reduceEq,Int.reduceLT,Int.reduceLE,Int.reduceNe]
   |false=>simp only[Bool.false_and,WA,reduceEqDiff,reduceAdd,reduceLT,reduceLeDiff,reduceMul,reduceIte,reduceCtorEq,Int.reduceEq,Int.reduceLT,Int.reduceLE,Int.reduceNe]
  ·simp only[WA,reduceEqDiff,reduceAdd,reduceLT,reduceLeDiff,reduceMul,reduceIte,reduceCtorEq,Int.reduceEq,Int.reduceLT,Int.reduceLE,Int.reduceNe]
end Go.Proofs.Ab
