/-
  FnUnified.
-/
import Derived.Test.YtfebhekplhjigaaWSu8
import Derived.Test.YtfebhekplhjigaaWThaw
import Derived.Test.YtfebhekplhjigaaCDrawUni
import Derived.Test.YtfebhekplhjigaaCPutI
import Derived.Test.YtfebhekplhjigaaCSameTy
open List(length_map getElem_mem)
set_option linter.unusedSimpArgs false
set_option linter.unusedVariables false
namespace Go.Ab
theorem acv{α:Type}{p:α->α->Bool}:∀l:List α,(∀y∈l,p y y=true)->oE p l l=true
 | [],_=>rfl
 |x::l,h=>by
  rw[oE,h x (by simp),Bool.true_and];exact acv l λ y hy=>h y (by simp[hy])
theorem aa.uK(x:aa):x.same x=true:=by
 rw[x.ac3,acv x.Kids λ y hy=>aa.uK y];simp
termination_by SizeOf.sizeOf x
decreasing_by all_goals exact aa.cW hy
end Go.Ab
namespace Go.Proofs.Ab
open Go.Ab
set_option maxRecDepth 100000
set_option maxHeartbeats 4000000
set_option maxHeartbeats 4000000
theorem asy{P:Program}{f:FuncId}{args:List AV}{xs:List AV}{v:Value}(h:fE P f args [] (.a9 [.own 0,.v v]) [.own (.sl xs)]):a7 P f args (.a9 [.sl xs,.v v]):=
 h.aA1 (.a9 _ _ rfl λ i a b ha hb=>by
   rcases i with _|_|i<;>simp at ha hb<;>subst ha<;>subst hb
   ·exact .own 0 _ rfl
   ·exact .same _ rfl)
theorem aa5(x0:List Int)(hb:x0.length<=1048576)(ho0:∀y∈x0,0<=y/\y<256):a7 Try.prog F.fM [.sl (x0.map λ y=> .v (.int .u8 y))] (.v (.bool true)):=by
 have vp:a7 Try.prog F.mO [.sl (j8 x0)] (.v (.bool false)):=by
  refine T.ado rfl (by simp[AV.ae,AV.ag,bj]) ?_;have d0:decide ((1048576:Int)<(x0.length:Int))=false:=decide_eq_false (by omega);simp only[T.mO,length_map,d0,WA]
 obtain⟨m,a,b,hm,wa,wb,la,lb,hd⟩:=uJ x0 hb ho0;obtain⟨ts,code,hU,hO,him⟩:=adJ m a b hm (by omega) (by omega);obtain⟨ts',aDX,hU',_,hsp⟩:=acX m a b hm (by omega) (by omega);obtain⟨rfl,rfl⟩:=hU.unique hU';have him:=asy him;have hsp:=asy hsp;have hsm:=hU.small hO;have na:AV.ae (a.map aa.av)=true:=bA aa.ag;have nb:AV.ae (b.map aa.av)=true:=bA aa.ag;have nt:AV.ae (ts.map aa.av)=true:=bA aa.ag;obtain⟨f1,f2,f3,f4,f5⟩:=hU.facts;refine T.sL rfl (by simp[AV.ae,AV.ag,bA (f:=λ y=>AV.v (.int .u8 y)) (l:=x0) λ _=>rfl]) ?_;simp only[T.fM,WA];refine bu vp ?_;simp only[WA];refine j7 hd (by simp[AV.ag,AV.ae,na,nb]) ?_;simp only[WA,Nat.reduceAdd,Nat.reduceLT];refine j7 him (by simp[AV.ag,AV.ae,nt]) ?_;simp only[WA,Nat.reduceAdd];refine j7 hsp (by simp[AV.ag,AV.ae,nt]) ?_;simp only[WA,Nat.reduceAdd];by_cases hc:code=0
 ·subst hc;obtain⟨g1,g2,g3,g4,g5,g6,g7⟩:=hU.ap9 hO;refine cu [] rfl ?_ ?_
  ·simp only[WA];refine cu [.v (.bool false)] rfl (by simp only[decide_true,Bool.not_true,WA]) ?_;simp only[WA]
  simp only[WA];refine cu [] rfl ?_ ?_
  ·simp only[WA];refine eh (ι:=Nat) (λ i=>i<=a.length) (λ i=>[au (i:Nat)]) (λ i=>a.length- i) 0 (Nat.zero_le _) rfl ?_;intro i hi;simp only[length_map,WA];refine aG (λ hq=> ?_) (λ hq=> ?_)
   ·have aF:i<a.length:=by omega
    have arF:i<b.length:=by omega
    obtain⟨q1,_,q3⟩:=g5 a[i] (.inl (getElem_mem aF));obtain⟨r1,_,r3⟩:=g5 b[i] (.inr (getElem_mem arF));have hwa:=cY aa.wt (getElem_mem aF);have hwb:=cY aa.wt (getElem_mem arF);have heq:=g6 i a[i] b[i] (List.getElem?_eq_getElem aF) (List.getElem?_eq_getElem arF);have afA:=nP (a[i].put 11 ts) (b[i].put 11 ts) (by omega);rw[heq,aa.uK]at afA;simp only[WA];refine lR aa.av aF (aa.width _) ?_;simp only[aa.cells,aa.isAgg,aa.storable,WA,Nat.reduceAdd];refine j7 (sO a[i] ts q1 (by omega) (by omega)) (aa.ag _) ?_;simp only[WA];refine lR aa.av arF (aa.width _) ?_;simp only[aa.cells,aa.isAgg,aa.storable,WA,Nat.reduceAdd];refine j7 (sO b[i] ts r1 (by omega) (by omega)) (aa.ag _) ?_;simp only[heq,WA];refine bu afA ?_;simp(disch:=omega) only[Bool.not_true,aH,WA];exact⟨i+1,aF,by omega,rfl⟩
   ·simp only[WA]
  simp only[WA];refine cu [] rfl ?_ ?_
  ·simp only[WA];refine eh (ι:=Nat) (λ i=>i<=ts.length) (λ i=>[au (i:Nat)]) (λ i=>ts.length- i) 0 (Nat.zero_le _) rfl ?_;intro i hi;simp only[WA];refine aG (λ hq=> ?_) (λ hq=> ?_)
   ·have aF:i<ts.length:=by omega
    have j2:=getElem_mem aF;have hwt:=cY aa.wt j2;have heq:=g7 ts[i] j2;have afA:=nP (ts[i].put 11 ts) ts[i] (by rw[heq];omega);rw[heq,aa.uK]at afA;have aib:=sO ts[i] ts (hO _ j2) (by omega) (by omega);rw[heq]at aib;simp only[WA];refine lR aa.av aF (aa.width _) ?_;simp only[aa.cells,aa.isAgg,aa.storable,WA,Nat.reduceAdd];refine j7 aib (aa.ag _) ?_;simp only[WA];refine lR aa.av aF (aa.width _) ?_;simp only[aa.cells,aa.isAgg,aa.storable,WA,Nat.reduceAdd];refine bu afA ?_;simp(disch:=omega) only[Bool.not_true,aH,WA];exact⟨i+1,aF,by omega,rfl⟩
   ·simp only[WA]
  have dl:decide ((ts.length:Int)=m)=true:=decide_eq_true g2;simp only[length_map,dl,WA]
 ·have oI:=f5 hc;subst oI;have d1:decide (code=0)=false:=decide_eq_false hc;refine aB ?_;simp only[WA];refine cu [.v (.bool true)] rfl (by simp only[decide_true,Bool.not_true,d1,Bool.not_false,WA]) ?_;simp only[WA];refine cu [.v (.bool true)] rfl ?_ ?_
  ·simp only[decide_true,List.length_nil,WA]
   rfl
  ·simp only[WA]
end Go.Proofs.Ab
