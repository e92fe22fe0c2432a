/-
  SLICES OF NUMBERS, marked.
-/
import Derived.Test.YtkinchcjijhmgaaGreatDoorST
import Derived.Test.YtkinchcjijhmgaaGreatDoorGM
import Derived.Test.YtkinchcjijhmgaaGreatDoorCLex
open List(length_map)
open Nat(reduceEqDiff reduceLeDiff reduceAdd reduceLT reduceMul)
set_option linter.unusedVariables false
set_option linter.unusedSimpArgs false
namespace Go.Ab
set_option maxRecDepth 100000
set_option maxHeartbeats 4000000
def jg(b n:Nat):List Int:=(List.range n).map λ j=>((b+j:Nat):Int)
theorem qB(b n:Nat):(jg b n).length=n:=by simp[jg]
def jQ(l:List Int)(b i:Nat):List Int:=jg b i++l.drop i
theorem acV(l:List Int)(b i:Nat)(h:i<=l.length):(jQ l b i).length=l.length:=by simp[jQ,jg];omega
theorem acU(l:List Int)(b i:Nat)(h:i<l.length):(jQ l b i).set i ((b+i:Nat):Int)=jQ l b (i+1):=by
 unfold jQ;rw[List.drop_eq_getElem_cons h,aor (qB b i)];simp[jg,List.range_succ]
theorem acW(l:List Int)(b i:Nat)(h:l.length<=i):jQ l b i=jg b i:=by simp[jQ,List.drop_eq_nil_of_le h]
theorem apz(l:List Int)(i:Nat)(n:Int):(l.map br).set i (br n)=(l.set i n).map br:=by rw[List.map_set]
theorem ai9(l:List Int)(i:Nat)(h:i<l.length):((l.map br).getD i .top).cells.length=1:=by
 have:(l.map br).getD i .top=br l[i]:=by simp[List.getD,h]
 rw[this];rfl
theorem aeL{r:List AV}{e s:Nat}{d:D}:SO.ev r (.row true e s d)=bX true e s (aS (d.ev r)):=by
 simp[SO.ev,bX]
theorem ayN{P:Program}{L:AX->SS->List AV->Prop}{α:Type}{g:α->Value}{l:List α}(hg:∀(x:α) (K:AV->Prop),dU K (.v (.bool false))->ft .neq (.v (g x)) (.v (g x)) K)(hl:l.length<=4194304):
  bD P L (λ a=>a= .v (.bool true)) apH [.sl (l.map λ x=> .v (g x)),.sl (l.map λ x=> .v (g x))] []:=by
 simp only[apH,WA,reduceEqDiff,reduceAdd,reduceLT,reduceLeDiff,reduceMul,reduceIte,reduceCtorEq,Int.reduceEq,Int.reduceLT,Int.reduceLE,Int.reduceNe];refine bw [] rfl ?_ (by simp only[WA,reduceEqDiff,reduceAdd,reduceLT,reduceLeDiff,reduceMul,reduceIte,reduceCtorEq,Int.reduceEq,Int.reduceLT,Int.reduceLE,Int.reduceNe]);simp only[WA,reduceEqDiff,reduceAdd,reduceLT,reduceLeDiff,reduceMul,reduceIte,reduceCtorEq,Int.reduceEq,Int.reduceLT,Int.reduceLE,Int.reduceNe];refine ky l.length (λ i=>[.v (.int .i64 i)]) rfl λ i hi=> ?_
 simp only[WA,reduceEqDiff,reduceAdd,reduceLT,reduceLeDiff,reduceMul,reduceIte,reduceCtorEq,Int.reduceEq,Int.reduceLT,Int.reduceLE,Int.reduceNe];refine aq (λ h=> ?_) (λ h=> ?_)
 ·have au:i<l.length:=by omega
  simp only[WA,reduceEqDiff,reduceAdd,reduceLT,reduceLeDiff,reduceMul,reduceIte,reduceCtorEq,Int.reduceEq,Int.reduceLT,Int.reduceLE,Int.reduceNe];refine oM (λ x=> .v (g x)) au rfl ?_;simp only[WA,reduceEqDiff,reduceAdd,reduceLT,reduceLeDiff,reduceMul,reduceIte,reduceCtorEq,Int.reduceEq,Int.reduceLT,Int.reduceLE,Int.reduceNe];refine oM (λ x=> .v (g x)) au rfl ?_;simp only[WA,reduceEqDiff,reduceAdd,reduceLT,reduceLeDiff,reduceMul,reduceIte,reduceCtorEq,Int.reduceEq,Int.reduceLT,Int.reduceLE,Int.reduceNe];refine hg _ _ ?_;simp(disch:=omega) only[aD,WA,reduceEqDiff,reduceAdd,reduceLT,reduceLeDiff,reduceMul,reduceIte,reduceCtorEq,Int.reduceEq,Int.reduceLT,Int.reduceLE,Int.reduceNe];exact au
 ·simp only[WA,reduceEqDiff,reduceAdd,reduceLT,reduceLeDiff,reduceMul,reduceIte,reduceCtorEq,Int.reduceEq,Int.reduceLT,Int.reduceLE,Int.reduceNe]
end Go.Ab
namespace Go.Proofs.Ab
open Go.Ab
set_option maxRecDepth 100000
set_option maxHeartbeats 4000000
theorem agD(l:List Int):AV.ad (l.map br)=true:=bu (f:=br) λ _=>rfl
theorem afk(l:List Int)(b:Nat)(hm:l.length<=4194304)(hb:b<=1048576):sF Tryz.prog F.bZ G.bZ [.sl (l.map br),.v (.int .i64 b)] [.sl ((jg b l.length).map br),.v (.int .i64 (b+l.length:Nat))]:=by
 refine T.qD rfl rfl (by simp[AV.ad,AV.ag,agD]) ?_;simp only[T.bZ,WA,reduceEqDiff,reduceAdd,reduceLT,reduceLeDiff,reduceMul,reduceIte,reduceCtorEq,Int.reduceEq,Int.reduceLT,Int.reduceLE,Int.reduceNe];refine aB ?_;simp only[WA,reduceEqDiff,reduceAdd,reduceLT,reduceLeDiff,reduceMul,reduceIte,reduceCtorEq,Int.reduceEq,Int.reduceLT,Int.reduceLE,Int.reduceNe];refine ky l.length (λ i=>[.sl ((jQ l b i).map br),.v (.int .i64 (b+i:Nat)),.v (.int .i64 i)]) (by simp[jQ,jg]) λ i hi=> ?_
 have hl:=acV l b i hi;simp only[length_map,hl,WA,reduceEqDiff,reduceAdd,reduceLT,reduceLeDiff,reduceMul,reduceIte,reduceCtorEq,Int.reduceEq,Int.reduceLT,Int.reduceLE,Int.reduceNe];refine aq (λ h=> ?_) (λ h=> ?_)
 ·have au:i<l.length:=by omega
  simp(disch:=omega) only[alQ,aqb,bp,xL,length_map,hl,aD,WA,reduceEqDiff,reduceAdd,reduceLT,reduceLeDiff,reduceMul,reduceIte,reduceCtorEq,Int.reduceEq,Int.reduceLT,Int.reduceLE,Int.reduceNe];have hc:=ai9 (jQ l b i) i (by omega);refine⟨by omega,au,by rw[hc];exact Nat.le_refl _,au,?_⟩;rw[zl (by rw[hc];rfl)];rw[show(AV.v (.int .i64 ((b+i:Nat):Int)))=br ((b+i:Nat):Int)from rfl,apz,acU l b i au]
  rfl
 ·have he:i=l.length:=by omega
  subst he;rw[acW _ _ _ (Nat.le_refl _)];simp only[WA,reduceEqDiff,reduceAdd,reduceLT,reduceLeDiff,reduceMul,reduceIte,reduceCtorEq,Int.reduceEq,Int.reduceLT,Int.reduceLE,Int.reduceNe]
theorem afO(b n:Nat)(hm:n<=4194304)(hb:b<=1048576):aI Tryz.prog F.fk [.sl ((jg b n).map br),.v (.int .i64 b)] (.v (.int .i64 (b+n:Nat))):=by
 refine T.rU rfl (by simp[AV.ad,AV.ag,agD]) ?_;simp only[T.fk,WA,reduceEqDiff,reduceAdd,reduceLT,reduceLeDiff,reduceMul,reduceIte,reduceCtorEq,Int.reduceEq,Int.reduceLT,Int.reduceLE,Int.reduceNe];refine aB ?_;simp only[WA,reduceEqDiff,reduceAdd,reduceLT,reduceLeDiff,reduceMul,reduceIte,reduceCtorEq,Int.reduceEq,Int.reduceLT,Int.reduceLE,Int.reduceNe];have hl:=qB b n;refine ky n (λ i=>[.v (.int .i64 (b+i:Nat)),.v (.int .i64 i)]) (by simp) λ i hi=> ?_
 simp only[length_map,hl,WA,reduceEqDiff,reduceAdd,reduceLT,reduceLeDiff,reduceMul,reduceIte,reduceCtorEq,Int.reduceEq,Int.reduceLT,Int.reduceLE,Int.reduceNe];refine aq (λ h=> ?_) (λ h=> ?_)
 ·have au:i<n:=by omega
  have mX:i<(jg b n).length:=by omega
  simp only[WA,reduceEqDiff,reduceAdd,reduceLT,reduceLeDiff,reduceMul,reduceIte,reduceCtorEq,Int.reduceEq,Int.reduceLT,Int.reduceLE,Int.reduceNe];refine oM br mX rfl ?_;have hv:(jg b n)[i]=((b+i:Nat):Int):=by simp[jg]
  simp(disch:=omega) only[hv,aD,WA,reduceEqDiff,reduceAdd,reduceLT,reduceLeDiff,reduceMul,reduceIte,reduceCtorEq,Int.reduceEq,Int.reduceLT,Int.reduceLE,Int.reduceNe];exact⟨au,rfl⟩
 ·have he:i=n:=by omega
  subst he;simp only[WA,reduceEqDiff,reduceAdd,reduceLT,reduceLeDiff,reduceMul,reduceIte,reduceCtorEq,Int.reduceEq,Int.reduceLT,Int.reduceLE,Int.reduceNe]
theorem acX(l:List Int)(b:Nat)(hm:l.length<=4194304)(hb:b<=1048576){O:List ae}(m:Nat)(h:O[m]? =some (bX true 3 1 (l.map br))):
  js Tryz.prog F.bZ [.row m l.length,.v (.int .i64 b)] O (.v (.int .i64 (b+l.length:Nat))) (O.set m (bX true 3 1 ((jg b l.length).map br))):=by
 have h0:=afk l b hm hb;unfold sF at h0;simp only[G.bZ,SV.aY,SV.ev,List.map_cons,List.map_nil,aeL,D.ev,aS,List.getD_cons_zero,List.getD_cons_succ,length_map]at h0;exact h0.an4 rfl (bm (agD _)) (bm (agD _)) rfl m h
end Go.Proofs.Ab
