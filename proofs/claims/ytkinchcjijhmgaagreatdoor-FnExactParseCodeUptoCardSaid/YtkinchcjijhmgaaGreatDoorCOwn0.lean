/-
  MARKS: the text of a mark.
-/
import Derived.Test.YtkinchcjijhmgaaGreatDoorH
import Derived.Test.YtkinchcjijhmgaaGreatDoorGM
open Nat(reduceEqDiff reduceLeDiff reduceAdd reduceLT reduceMul)
set_option linter.unusedVariables false
set_option linter.unusedSimpArgs false
namespace Go.Ab
set_option maxRecDepth 100000
set_option maxHeartbeats 4000000
def mtx(k:Nat):ByteArray:=if h:k=0 then⟨#[]⟩else mtx (k/10)++⟨#[UInt8.ofNat (48+k%10)]⟩
termination_by k
decreasing_by omega
theorem acS(k:Nat):(mtx k).size<=k:=by
 induction k using Nat.strongRecOn with
 |ind k ih=>
  rw[mtx]
  split
  ·exact Nat.zero_le _
  ·have:=ih (k/10) (by omega);rw[ByteArray.size_append];have h1:(⟨#[UInt8.ofNat (48+k%10)]⟩:ByteArray).size=1:=rfl;omega
def agE(k:Nat):ByteArray:=if k=0 then⟨#[109,48]⟩else⟨#[109]⟩++mtx k
end Go.Ab
namespace Go.Proofs.Ab
open Go.Ab
set_option maxRecDepth 100000
set_option maxHeartbeats 4000000
theorem xt(k:Nat)(h:k<=4611686018427387904):aI Tryz.prog F.ew [.v (.int .i64 (k:Int))] (.v (.string (agE k))):=by
 refine T.rS rfl rfl ?_;simp only[T.ew,WA,reduceEqDiff,reduceAdd,reduceLT,reduceLeDiff,reduceMul,reduceIte,reduceCtorEq,Int.reduceEq,Int.reduceLT,Int.reduceLE,Int.reduceNe];refine aq (λ h0=> ?_) (λ h0=> ?_)
 ·obtain rfl:k=0:=by omega
  simp only[WA,reduceEqDiff,reduceAdd,reduceLT,reduceLeDiff,reduceMul,reduceIte,reduceCtorEq,Int.reduceEq,Int.reduceLT,Int.reduceLE,Int.reduceNe]
  rfl
 ·have hk:k≠0:=by omega
  simp only[WA,reduceEqDiff,reduceAdd,reduceLT,reduceLeDiff,reduceMul,reduceIte,reduceCtorEq,Int.reduceEq,Int.reduceLT,Int.reduceLE,Int.reduceNe];refine bw [.v (.string (mtx k))] rfl ?_ ?_
  ·simp only[WA,reduceEqDiff,reduceAdd,reduceLT,reduceLeDiff,reduceMul,reduceIte,reduceCtorEq,Int.reduceEq,Int.reduceLT,Int.reduceLE,Int.reduceNe];refine cM (ι:=Nat×ByteArray) (λ p=>mtx p.1++p.2=mtx k/\p.1<=k) (λ p=>[.v (.int .i64 (p.1:Int)),.v (.string p.2)]) (λ p=>p.1) (k,⟨#[]⟩) ⟨ByteArray.append_empty,Nat.le_refl _⟩ rfl ?_;rintro⟨j,out⟩ ⟨hj,hjk⟩;simp only at hj hjk;simp only[WA,reduceEqDiff,reduceAdd,reduceLT,reduceLeDiff,reduceMul,reduceIte,reduceCtorEq,Int.reduceEq,Int.reduceLT,Int.reduceLE,Int.reduceNe];refine aq (λ h1=> ?_) (λ h1=> ?_)
   ·have hm:mtx j=mtx (j/10)++⟨#[UInt8.ofNat (48+j%10)]⟩:=by rw[mtx,dif_neg (by omega)]
    simp(disch:=omega) only[WA,reduceEqDiff,reduceAdd,reduceLT,reduceLeDiff,reduceMul,reduceIte,reduceCtorEq,Int.reduceEq,Int.reduceLT,Int.reduceLE,Int.reduceNe]
    have e1:IntKind.u8.wrap (IntKind.i64.wrap (48+(j:Int).tmod 10))=((48+j%10:Nat):Int):=by
     have:(j:Int).tmod 10=((j%10:Nat):Int):=rfl;rw[this,gv (by omega) (by omega)];simp only[IntKind.wrap];simp[IntKind.bits,IntKind.signed];omega
    have e2:IntKind.i64.wrap ((j:Int).tdiv 10)=((j/10:Nat):Int):=by
     have:(j:Int).tdiv 10=((j/10:Nat):Int):=rfl;rw[this,gv (by omega) (by omega)]
    have e3:(⟨#[UInt8.ofNat (48+j%10)]⟩:ByteArray).size=1:=rfl
    have e4: [AV.v (.int .u8 ((48+j%10:Nat):Int))]=cf ⟨#[UInt8.ofNat (48+j%10)]⟩:=by
     have:(UInt8.ofNat (48+j%10)).toNat=48+j%10:=by simp;omega
     simp[cf,this];omega
    have e5:=acS k;have e6:(mtx j).size+out.size=(mtx k).size:=by rw[←hj,ByteArray.size_append]
    have e7:(mtx j).size=(mtx (j/10)).size+1:=by rw[hm,ByteArray.size_append,e3]
    rw[e1,e4,apI];simp(disch:=omega) only[WA,reduceEqDiff,reduceAdd,reduceLT,reduceLeDiff,reduceMul,reduceIte,reduceCtorEq,Int.reduceEq,Int.reduceLT,Int.reduceLE,Int.reduceNe,e3];refine⟨by omega,?_⟩;simp(disch:=omega) only[WA,reduceEqDiff,reduceAdd,reduceLT,reduceLeDiff,reduceMul,reduceIte,reduceCtorEq,Int.reduceEq,Int.reduceLT,Int.reduceLE,Int.reduceNe,e2];refine⟨(j/10,⟨#[UInt8.ofNat (48+j%10)]⟩++out),⟨?_,by show j/10<=k;omega⟩,by show j/10<j;omega,rfl⟩
    show mtx (j/10)++(_++out)=mtx k;rw[←ByteArray.append_assoc,←hm,hj]
   ·obtain rfl:j=0:=by omega
    have:mtx 0=⟨#[]⟩:=by rw[mtx,dif_pos rfl]
    rw[this]at hj;have:out=mtx k:=by rw[←hj];exact ByteArray.empty_append.symm
    subst this;simp(disch:=omega) only[WA,reduceEqDiff,reduceAdd,reduceLT,reduceLeDiff,reduceMul,reduceIte,reduceCtorEq,Int.reduceEq,Int.reduceLT,Int.reduceLE,Int.reduceNe]
  ·have e5:=acS k;have e3:(⟨#[109]⟩:ByteArray).size=1:=rfl;simp(disch:=omega) only[WA,reduceEqDiff,reduceAdd,reduceLT,reduceLeDiff,reduceMul,reduceIte,reduceCtorEq,Int.reduceEq,Int.reduceLT,Int.reduceLE,Int.reduceNe,e3];refine⟨by omega,?_⟩;simp only[WA,reduceEqDiff,reduceAdd,reduceLT,reduceLeDiff,reduceMul,reduceIte,reduceCtorEq,Int.reduceEq,Int.reduceLT,Int.reduceLE,Int.reduceNe,agE,if_neg hk]
end Go.Proofs.Ab
