/-
  CODE, marked and held.
-/
import Derived.Test.YtkinchcjijhmgaaGreatDoorCOwn0
import Derived.Test.YtkinchcjijhmgaaGreatDoorCInts
import Derived.Test.YtkinchcjijhmgaaGreatDoorGM
open List(length_map)
open Nat(reduceEqDiff reduceLeDiff reduceAdd reduceLT reduceMul)
set_option linter.unusedVariables false
set_option linter.unusedSimpArgs false
namespace Go.Ab
open Go.Proofs.Ab
set_option maxRecDepth 100000
def ah3(k:Nat):aa:= .mk k (k+1:Nat) (k+2:Nat) (k+3:Nat) (k+4:Nat) (agE (k+5))
def iQ(k:Nat):Nat->List aa
 |0=>[]
 |n+1=>ah3 k::iQ (k+6) n
theorem jH(k n:Nat):(iQ k n).length=n:=by
 induction n generalizing k with
 |zero=>rfl
 |succ n ih=>simp[iQ,ih]
theorem zQ(k n i:Nat)(h:i<n):(iQ k n)[i]? =some (ah3 (k+6*i)):=by
 induction n generalizing k i with
 |zero=>omega
 |succ n ih=>
  cases i with
  |zero=>rfl
  |succ i=>
   simp only[iQ,List.getElem?_cons_succ];rw[ih (k+6) i (by omega)];congr 2;omega
end Go.Ab
namespace Go.Proofs.Ab
open Go.Ab
set_option maxRecDepth 100000
theorem abc(l:List aa)(k:Nat)(hl:l.length<=140000)(hk:k<=140000):sF Tryz.prog F.bA G.bA [.sl (l.map aa.av),br k] [.sl ((iQ k l.length).map aa.av),br (k+6*l.length:Nat)]:=by
 refine T.oC rfl rfl (by simp[AV.ad,AV.ag,bu (f:=aa.av) aa.ag]) ?_;simp only[T.bA,WA,reduceEqDiff,reduceAdd,reduceLT,reduceLeDiff,reduceMul,reduceIte,reduceCtorEq,Int.reduceEq,Int.reduceLT,Int.reduceLE,Int.reduceNe];refine bw [.sl ((iQ k l.length).map aa.av),br (k+6*l.length:Nat)] rfl ?_ (by simp only[WA,reduceEqDiff,reduceAdd,reduceLT,reduceLeDiff,reduceMul,reduceIte,reduceCtorEq,Int.reduceEq,Int.reduceLT,Int.reduceLE,Int.reduceNe]);simp only[WA,reduceEqDiff,reduceAdd,reduceLT,reduceLeDiff,reduceMul,reduceIte,reduceCtorEq,Int.reduceEq,Int.reduceLT,Int.reduceLE,Int.reduceNe];refine ky l.length (λ i=>[.sl (((iQ k l.length).take i++l.drop i).map aa.av),br (k+6*i:Nat),br i]) (by simp) λ i hi=> ?_
 have hlen:((iQ k l.length).take i++l.drop i).length=l.length:=by simp[jH];omega
 simp only[length_map,hlen,WA,reduceEqDiff,reduceAdd,reduceLT,reduceLeDiff,reduceMul,reduceIte,reduceCtorEq,Int.reduceEq,Int.reduceLT,Int.reduceLE,Int.reduceNe];refine aq (λ h=> ?_) (λ h=> ?_)
 ·have au:i<l.length:=by omega
  generalize hL:(iQ k l.length).take i++l.drop i=L0 at hlen
  have hLi:L0[i]? =some l[i]:=by
   rw[←hL,List.getElem?_append_right (by simp[jH];omega),List.getElem?_drop];have:((iQ k l.length).take i).length=i:=by simp[jH];omega
   rw[this,Nat.sub_self,Nat.add_zero,List.getElem?_eq_getElem au]
  have hiL:i<L0.length:=by omega
  have h0:L0=L0.set i l[i]:=by
   apply List.ext_getElem?;intro j;rw[List.getElem?_set];by_cases hj:i=j
   ·subst hj;rw[if_pos rfl,if_pos hiL,hLi]
   ·rw[if_neg hj]
  have hln:∀y:aa,(L0.set i y).length=l.length:=λ y=>by rw[List.length_set,hlen]
  have dc:∀y:aa,((L0.set i y).map aa.av).getD i .top=y.av:=λ y=>by simp[List.getD,hiL]
  have mV:∀y z:aa,((L0.set i y).map aa.av).set i z.av=(L0.set i z).map aa.av:=λ y z=>by rw[←List.map_set,List.set_set]
  have u0:∀(y:aa) (a:Int),lN y.av 0 (br a)=(aa.mk a y.A y.B y.C y.N y.Text).av:=λ y a=>by cases y;rfl
  have u1:∀(y:aa) (a:Int),lN y.av 1 (br a)=(aa.mk y.Op a y.B y.C y.N y.Text).av:=λ y a=>by cases y;rfl
  have u2:∀(y:aa) (a:Int),lN y.av 2 (br a)=(aa.mk y.Op y.A a y.C y.N y.Text).av:=λ y a=>by cases y;rfl
  have u3:∀(y:aa) (a:Int),lN y.av 3 (br a)=(aa.mk y.Op y.A y.B a y.N y.Text).av:=λ y a=>by cases y;rfl
  have u4:∀(y:aa) (a:Int),lN y.av 4 (br a)=(aa.mk y.Op y.A y.B y.C a y.Text).av:=λ y a=>by cases y;rfl
  have u5:∀(y:aa) (a:ByteArray),lN y.av 5 (bE a)=(aa.mk y.Op y.A y.B y.C y.N a).av:=λ y a=>by cases y;rfl
  have w1:IntKind.i64.wrap (((k+6*i:Nat):Int)+1)=((k+6*i+1:Nat):Int):=aD (by omega);have w2:IntKind.i64.wrap (((k+6*i+1:Nat):Int)+1)=((k+6*i+2:Nat):Int):=aD (by omega);have w3:IntKind.i64.wrap (((k+6*i+2:Nat):Int)+1)=((k+6*i+3:Nat):Int):=aD (by omega);have w4:IntKind.i64.wrap (((k+6*i+3:Nat):Int)+1)=((k+6*i+4:Nat):Int):=aD (by omega);have w5:IntKind.i64.wrap (((k+6*i+4:Nat):Int)+1)=((k+6*i+5:Nat):Int):=aD (by omega);have w6:IntKind.i64.wrap (((k+6*i+5:Nat):Int)+1)=((k+6*(i+1):Nat):Int):=by rw[aD (by omega)];congr 1
  have wi:IntKind.i64.wrap ((i:Int)+1)=((i+1:Nat):Int):=aD (by omega);have hlm:∀y:aa,((L0.set i y).map aa.av).length=l.length:=λ y=>by rw[length_map,hln]
  rw[h0];simp only[hlm,dc,mV,u0,u1,u2,u3,u4,aa.width,tK,w1,w2,w3,w4,w5,aa.aqo,aa.awF,aa.awE,aa.awB,aa.awt,aa.ahc,WA,reduceEqDiff,reduceAdd,reduceLT,reduceLeDiff,reduceMul,reduceIte,reduceCtorEq,Int.reduceEq,Int.reduceLT,Int.reduceLE,Int.reduceNe]
  repeat (refine And.intro (by first|omega|rfl) ?_)
  refine bj (xt (k+6*i+5) (by omega)) ?_;simp only[hlm,dc,mV,u0,u1,u2,u3,u4,u5,aa.width,tK,w6,wi,aa.aqo,aa.awF,aa.awE,aa.awB,aa.awt,aa.ahc,WA,reduceEqDiff,reduceAdd,reduceLT,reduceLeDiff,reduceMul,reduceIte,reduceCtorEq,Int.reduceEq,Int.reduceLT,Int.reduceLE,Int.reduceNe]
  repeat (refine And.intro (by first|omega|rfl) ?_)
  have avr:L0.set i (ah3 (k+6*i))=(iQ k l.length).take (i+1)++l.drop (i+1):=by
   rw[←hL];have h1:((iQ k l.length).take i).length=i:=by simp[jH];omega
   rw[List.set_append_right _ _ (by omega),h1,Nat.sub_self,nJ au,List.set_cons_zero,List.take_add_one,zQ k l.length i au];simp
  first
   |(rw[←avr];rfl)
   |(refine⟨au,?_⟩;rw[←avr];rfl)
 ·have he:i=l.length:=by omega
  subst he
  have e:(iQ k l.length).take l.length++l.drop l.length=iQ k l.length:=by
   rw[List.drop_length,List.append_nil,List.take_of_length_le (by rw[jH];omega)]
  simp only[e,WA,reduceEqDiff,reduceAdd,reduceLT,reduceLeDiff,reduceMul,reduceIte,reduceCtorEq,Int.reduceEq,Int.reduceLT,Int.reduceLE,Int.reduceNe]
theorem abx(n k:Nat)(hl:n<=140000)(hk:k<=140000):aI Tryz.prog F.dS [.sl ((iQ k n).map aa.av),br k] (br (k+6*n:Nat)):=by
 have hln:=jH k n;refine T.pw rfl (by simp[AV.ad,AV.ag,bu (f:=aa.av) aa.ag]) ?_;simp only[T.dS,WA,reduceEqDiff,reduceAdd,reduceLT,reduceLeDiff,reduceMul,reduceIte,reduceCtorEq,Int.reduceEq,Int.reduceLT,Int.reduceLE,Int.reduceNe];refine bw [br (k+6*n:Nat)] rfl ?_ (by simp only[WA,reduceEqDiff,reduceAdd,reduceLT,reduceLeDiff,reduceMul,reduceIte,reduceCtorEq,Int.reduceEq,Int.reduceLT,Int.reduceLE,Int.reduceNe]);simp only[WA,reduceEqDiff,reduceAdd,reduceLT,reduceLeDiff,reduceMul,reduceIte,reduceCtorEq,Int.reduceEq,Int.reduceLT,Int.reduceLE,Int.reduceNe];refine ky n (λ i=>[br (k+6*i:Nat),br i]) (by simp) λ i hi=> ?_
 simp only[length_map,hln,WA,reduceEqDiff,reduceAdd,reduceLT,reduceLeDiff,reduceMul,reduceIte,reduceCtorEq,Int.reduceEq,Int.reduceLT,Int.reduceLE,Int.reduceNe];refine aq (λ h=> ?_) (λ h=> ?_)
 ·have au:i<n:=by omega
  have kJ:∀(s:Nat) (kk:IntKind) (K:AV->Prop),(ah3 (k+6*i)).av.cells.length=s->lL s (.sl ((iQ k n).map aa.av)) (.v (.int kk (i:Int))) K=dU K (ah3 (k+6*i)).av:=λ s kk K hs=>apk i (zQ k n i au) aa.av s kk K hs
  have lX:(ah3 (k+6*i)).av.cells= [br (k+6*i:Nat),br (k+6*i+1:Nat),br (k+6*i+2:Nat),br (k+6*i+3:Nat),br (k+6*i+4:Nat),bE (agE (k+6*i+5))]:=rfl;have w1:IntKind.i64.wrap (((k+6*i:Nat):Int)+1)=((k+6*i+1:Nat):Int):=aD (by omega);have w2:IntKind.i64.wrap (((k+6*i+1:Nat):Int)+1)=((k+6*i+2:Nat):Int):=aD (by omega);have w3:IntKind.i64.wrap (((k+6*i+2:Nat):Int)+1)=((k+6*i+3:Nat):Int):=aD (by omega);have w4:IntKind.i64.wrap (((k+6*i+3:Nat):Int)+1)=((k+6*i+4:Nat):Int):=aD (by omega);have w5:IntKind.i64.wrap (((k+6*i+4:Nat):Int)+1)=((k+6*i+5:Nat):Int):=aD (by omega);have w6:IntKind.i64.wrap (((k+6*i+5:Nat):Int)+1)=((k+6*(i+1):Nat):Int):=by rw[aD (by omega)];congr 1
  have wi:IntKind.i64.wrap ((i:Int)+1)=((i+1:Nat):Int):=aD (by omega);simp(disch:=(first|exact aa.width _)) only[kJ,lX,w1,w2,w3,w4,w5,List.length_cons,List.length_nil,WA,reduceEqDiff,reduceAdd,reduceLT,reduceLeDiff,reduceMul,reduceIte,reduceCtorEq,Int.reduceEq,Int.reduceLT,Int.reduceLE,Int.reduceNe];refine bj (xt (k+6*i+5) (by omega)) ?_;simp(disch:=(first|exact aa.width _)) only[kJ,lX,w1,w2,w3,w4,w5,w6,wi,List.length_cons,List.length_nil,WA,reduceEqDiff,reduceAdd,reduceLT,reduceLeDiff,reduceMul,reduceIte,reduceCtorEq,Int.reduceEq,Int.reduceLT,Int.reduceLE,Int.reduceNe]
  first|exact au|exact⟨au,rfl⟩
 ·have he:i=n:=by omega
  subst he;simp only[WA,reduceEqDiff,reduceAdd,reduceLT,reduceLeDiff,reduceMul,reduceIte,reduceCtorEq,Int.reduceEq,Int.reduceLT,Int.reduceLE,Int.reduceNe]
def mP(k n m:Nat):ai:= .mk (iQ k n) (jg (k+6*n) m)
theorem afP(n m:Nat)(hn:n<=40000)(hm:m<=400):aI Tryz.prog F.ey [(mP 1 n m).av,br 1] (br (1+6*n+m:Nat)):=by
 have h1:=abx n 1 (by omega) (by omega);have h2:=afO (1+6*n) m (by omega) (by omega);refine T.rW rfl (by simp[AV.ad,AV.ag,ai.ag]) ?_;simp only[T.ey,ai.cells,ai.isAgg,ai.storable,WA,reduceEqDiff,reduceAdd,reduceLT,reduceLeDiff,reduceMul,reduceIte,reduceCtorEq,Int.reduceEq,Int.reduceLT,Int.reduceLE,Int.reduceNe];refine bj h1 ?_;simp only[dU,lh,WA,reduceEqDiff,reduceAdd,reduceLT,reduceLeDiff,reduceMul,reduceIte,reduceCtorEq,Int.reduceEq,Int.reduceLT,Int.reduceLE,Int.reduceNe];refine bj h2 ?_;simp only[dU,lh,WA,reduceEqDiff,reduceAdd,reduceLT,reduceLeDiff,reduceMul,reduceIte,reduceCtorEq,Int.reduceEq,Int.reduceLT,Int.reduceLE,Int.reduceNe]
theorem yY(l:List aa)(b:Nat)(hm:l.length<=140000)(hb:b<=140000){O:List ae}(m:Nat)(h:O[m]? =some (bX true 34 6 (l.map aa.av))):
  js Tryz.prog F.bA [.row m l.length,.v (.int .i64 b)] O (.v (.int .i64 (b+6*l.length:Nat))) (O.set m (bX true 34 6 ((iQ b l.length).map aa.av))):=by
 have h0:=abc l b hm hb;unfold sF at h0;simp only[G.bA,SV.aY,SV.ev,List.map_cons,List.map_nil,aeL,D.ev,aS,List.getD_cons_zero,List.getD_cons_succ,length_map]at h0;exact h0.an4 rfl (bm (bu aa.ag)) (bm (bu aa.ag)) rfl m h
end Go.Proofs.Ab
