/-
  TEXTS OF CODE: the program's lines.
-/
import Derived.Test.YtkinchcjijhmgaaGreatDoorWAsm
open Nat(reduceEqDiff reduceLeDiff reduceAdd reduceLT reduceMul)
set_option linter.unusedVariables false
set_option linter.unusedSimpArgs false
namespace Go.Ab
set_option maxRecDepth 100000
theorem spr(a:ByteArray):(⟨#[32,114]⟩:ByteArray)++a=iq++(cP 114++a):=by rw[←awl];congr 1
theorem wz:(⟨#[32,114]⟩:ByteArray).size=2:=rfl
end Go.Ab
namespace Go.Proofs.Ab
open Go.Ab
set_option maxRecDepth 100000
set_option maxHeartbeats 4000000
theorem r8(n:Int)(h0: -9223372036854775808<=n)(h1:n<=9223372036854775807)(O:List ae):js Tryz.prog F.strconv_Itoa [br n] O (bE (im n)) O:=(ak8 n h0 h1).any rfl rfl O
theorem tH(x:aa)(h:x.ye)(hi:x.inM)(hb:x.wt<=1048576):aI Tryz.prog F.fJ [x.av] (bE x.ac1):=by
 have hw:=x.jy;obtain⟨⟨a0,a1⟩,⟨b0,b1⟩,⟨c0,c1⟩,n0,n1⟩:=id hi;have x6:x.aZ.size<=3:=tS x.bl;have hws:=x.oX;have hps:=x.ae0 hi;have au:=pF h;have hl:x.ac1=x.kx (bs x.aZ) x.bl:=rfl;refine hH A.se rfl ?_;simp only[A.fJ,aa.width,aa.isAgg,aa.storable,aa.cells,↓OD,OA,reduceEqDiff,reduceCtorEq,reduceAdd,reduceLT,reduceLeDiff,reduceIte];refine aW _ _ ((pM x h).any (by simp[AV.ad,aa.ag]) rfl _) ?_;generalize x.aZ=p at*;generalize x.bl=wd at*;have hbl:=ep p;simp only[aa.width,aa.isAgg,aa.storable,aa.cells,↓OD,OA,reduceEqDiff,reduceCtorEq,reduceAdd,reduceLT,reduceLeDiff,reduceIte]
 repeat (refine And.intro (by decide) ?_)
 try simp only[aa.width,aa.isAgg,aa.storable,aa.cells,↓OD,OA,reduceEqDiff,reduceCtorEq,reduceAdd,reduceLT,reduceLeDiff,reduceIte]
 refine lE (ι:=Nat×ByteArray) (λ q=>x.ac1=x.kx ((bs p).drop q.1) q.2/\q.2.size<=x.Text.size+8+q.1*(2*x.Text.size+27)/\q.1<=p.size)
  (λ q=>ng [(1,.ptr 0 1 0 0),(4,bE q.2),(13,.own 2)])
  (λ q=>[.live 34 6 [x.av],.live 60 2 [.agg [bE wd,bE p]],.cN (.it p q.1)]) (λ q=>p.size- q.1) (0,wd)
  ⟨by simpa using hl,(show wd.size<=x.Text.size+8+0*_ by omega),Nat.zero_le _⟩ (.of_eq rfl rfl) ?_
 rintro⟨i,acc⟩ ⟨uN,hg2,hle⟩;simp only at uN hg2 hle;simp only[↓OD,OA,reduceEqDiff,reduceCtorEq,reduceAdd,reduceLT,reduceLeDiff,reduceIte];rcases Nat.lt_or_ge i p.size with mX|hge
 ·have hx:(bs p)[i]? =some (bs p)[i]:=List.getElem?_eq_getElem (by omega);have hd:(bs p).drop i=(bs p)[i]::(bs p).drop (i+1):=nJ (by omega);generalize (bs p)[i]=k at*;have hk5:=au k (List.mem_of_getElem? hx);have hkc:((k.toNat:Nat):Int)=k:=by omega
  rw[hd,aa.kx]at uN;have hpk:=hps k;have hmul:i*(2*x.Text.size+27)<=3*(2*x.Text.size+27):=Nat.mul_le_mul_right _ (by omega)
  have fin:(acc++x.kU k).size<=x.Text.size+8+(i+1)*(2*x.Text.size+27):=by
   rw[aL,Nat.add_mul];omega
  refine wL rfl mX (yt hx (by omega)) ?_;rw[hkc];simp only[↓OD,OA,reduceEqDiff,reduceCtorEq,reduceAdd,reduceLT,reduceLeDiff,reduceIte];rcases hk5 with rfl|rfl|rfl|rfl|rfl
  ·have hk:x.kU 97=iq++(cP 114++im x.A):=rfl;rw[hk]at hpk fin uN;simp only[aL,de,bo]at hpk;simp only[aa.width,aa.isAgg,aa.storable,aa.cells,Int.reduceEq,decide_true,↓OD,OA,reduceEqDiff,reduceCtorEq,reduceAdd,reduceLT,reduceLeDiff,reduceIte];refine aW _ _ (r8 x.A a0 a1 _) ?_;simp only[spr,wz,aL,de,bo,↓OD,OA,reduceEqDiff,reduceCtorEq,reduceAdd,reduceLT,reduceLeDiff,reduceIte];refine⟨by omega,by omega,?_⟩;exact dD (i+1,_) ⟨uN,fin,mX⟩ (show p.size- (i+1)<p.size- i by omega) (.of_eq rfl rfl)
  ·have hk:x.kU 98=iq++(cP 114++im x.B):=rfl;rw[hk]at hpk fin uN;simp only[aL,de,bo]at hpk;simp only[aa.width,aa.isAgg,aa.storable,aa.cells,Int.reduceEq,decide_true,↓OD,OA,reduceEqDiff,reduceCtorEq,reduceAdd,reduceLT,reduceLeDiff,reduceIte];refine aW _ _ (r8 x.B b0 b1 _) ?_;simp only[spr,wz,aL,de,bo,↓OD,OA,reduceEqDiff,reduceCtorEq,reduceAdd,reduceLT,reduceLeDiff,reduceIte];refine⟨by omega,by omega,?_⟩;exact dD (i+1,_) ⟨uN,fin,mX⟩ (show p.size- (i+1)<p.size- i by omega) (.of_eq rfl rfl)
  ·have hk:x.kU 99=iq++(cP 114++im x.C):=rfl;rw[hk]at hpk fin uN;simp only[aL,de,bo]at hpk;simp only[aa.width,aa.isAgg,aa.storable,aa.cells,Int.reduceEq,decide_true,↓OD,OA,reduceEqDiff,reduceCtorEq,reduceAdd,reduceLT,reduceLeDiff,reduceIte];refine aW _ _ (r8 x.C c0 c1 _) ?_;simp only[spr,wz,aL,de,bo,↓OD,OA,reduceEqDiff,reduceCtorEq,reduceAdd,reduceLT,reduceLeDiff,reduceIte];refine⟨by omega,by omega,?_⟩;exact dD (i+1,_) ⟨uN,fin,mX⟩ (show p.size- (i+1)<p.size- i by omega) (.of_eq rfl rfl)
  ·have hk:x.kU 110=iq++im x.N:=rfl;rw[hk]at hpk fin uN;simp only[aL,de,bo]at hpk;simp only[aa.width,aa.isAgg,aa.storable,aa.cells,Int.reduceEq,decide_true,↓OD,OA,reduceEqDiff,reduceCtorEq,reduceAdd,reduceLT,reduceLeDiff,reduceIte];refine aW _ _ (r8 x.N n0 n1 _) ?_;simp only[apL,aL,de,bo,↓OD,OA,reduceEqDiff,reduceCtorEq,reduceAdd,reduceLT,reduceLeDiff,reduceIte];refine⟨by omega,by omega,?_⟩;exact dD (i+1,_) ⟨uN,fin,mX⟩ (show p.size- (i+1)<p.size- i by omega) (.of_eq rfl rfl)
  ·have hk:x.kU 116=iq++iD x.Text:=rfl;rw[hk]at hpk fin uN;simp only[aL,de,bo]at hpk;simp only[aa.width,aa.isAgg,aa.storable,aa.cells,Int.reduceEq,decide_true,↓OD,OA,reduceEqDiff,reduceCtorEq,reduceAdd,reduceLT,reduceLeDiff,reduceIte];refine aW _ _ ((pL x.Text (by omega)).any rfl rfl _) ?_;simp only[apL,aL,de,bo,↓OD,OA,reduceEqDiff,reduceCtorEq,reduceAdd,reduceLT,reduceLeDiff,reduceIte];refine⟨by omega,by omega,?_⟩;exact dD (i+1,_) ⟨uN,fin,mX⟩ (show p.size- (i+1)<p.size- i by omega) (.of_eq rfl rfl)
 ·refine zp rfl (by omega) ?_;rw[List.drop_of_length_le (by omega),aa.kx]at uN;simp only[↓OD,OA,reduceEqDiff,reduceCtorEq,reduceAdd,reduceLT,reduceLeDiff,reduceIte];rw[uN];exact mh (.inl rfl) rfl (by simp only[↓OD,OA,reduceEqDiff,reduceCtorEq,reduceAdd,reduceLT,reduceLeDiff,reduceIte])
end Go.Proofs.Ab
