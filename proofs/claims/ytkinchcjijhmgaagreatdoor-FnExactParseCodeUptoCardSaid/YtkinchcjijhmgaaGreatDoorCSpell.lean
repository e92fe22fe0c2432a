/-
  TOKENS SPELLED: numerals, quoted texts, tokens, lists of tokens.
-/
import Derived.Test.YtkinchcjijhmgaaGreatDoorCDoor
import Derived.Test.YtkinchcjijhmgaaGreatDoorCTok
open Nat(reduceEqDiff reduceLeDiff reduceAdd reduceLT reduceMul)
set_option linter.unusedVariables false
set_option linter.unusedSimpArgs false
namespace Go.Ab
set_option maxRecDepth 100000
set_option maxHeartbeats 4000000
def cP(c:Int):ByteArray:=⟨#[UInt8.ofNat c.toNat]⟩
theorem aaB(a b:ByteArray):cf a++cf b=cf (a++b):=by
 simp only[cf,gX,List.map_append]
theorem l7(c:Int)(h0:0<=c)(h1:c<256): [AV.v (.int .u8 c)]=cf (cP c):=by
 have:(UInt8.ofNat c.toNat).toNat=c.toNat:=by
  simp[UInt8.toNat_ofNat];omega
 simp only[cf,cP,List.map_cons,List.map_nil,this,Int.toNat_of_nonneg h0]
theorem y1(acc:ByteArray)(c:Int)(h0:0<=c)(h1:c<256):cf acc++ [AV.v (.int .u8 c)]=cf (acc++cP c):=by
 rw[l7 c h0 h1,aaB]
theorem y2(acc:ByteArray)(a c:Int)(h0:0<=a)(h1:a<256)(h2:0<=c)(h3:c<256):cf acc++ [AV.v (.int .u8 a),AV.v (.int .u8 c)]=cf (acc++(cP a++cP c)):=by
 have: [AV.v (.int .u8 a),AV.v (.int .u8 c)]= [AV.v (.int .u8 a)]++ [AV.v (.int .u8 c)]:=rfl;rw[this,l7 a h0 h1,l7 c h2 h3,aaB,aaB]
theorem bo(c:Int):(cP c).size=1:=rfl
def aaV(c:Int):ByteArray:=if c=10 then cP 92++cP 110 else if c=34∨c=92 then cP 92++cP c else cP c
def oo:List Int->ByteArray
 | []=>⟨#[]⟩
 |c::r=>aaV c++oo r
def iD(s:ByteArray):ByteArray:=cP 34++oo (bs s)++cP 34
theorem zz(c:Int):(aaV c).size<=2:=by
 unfold aaV
 split
 ·simp[aL,bo]
 ·split<;>simp[aL,bo]
theorem s7:∀l:List Int,(oo l).size<=2*l.length
 | []=>Nat.le_refl _
 |c::r=>by
  have:=zz c;have:=s7 r;rw[oo,aL,List.length_cons];omega
def abF(u:Nat):ByteArray:=⟨(Lib.decDigits u).toArray⟩
theorem acK(u:Nat):im u=abF u:=by
 unfold im abF Lib.itoa;rw[if_neg (by omega)];simp
theorem abE(u:Nat):abF u=if u<10 then cP (48+u)else abF (u/10)++cP (48+(u%10:Nat)):=by
 have e:∀k:Nat,((48:Int)+(k:Int)).toNat=48+k:=λ k=>by omega
 unfold abF cP;rw[Lib.decDigits]
 split
 ·rw[e]
 ·rw[e];exact fP (by rw[gX])
theorem sw:∀(k u:Nat),u<10^(k+1)->(abF u).size<=k+1
 |0,u,h=>by rw[abE,if_pos (by omega),bo];omega
 |k+1,u,h=>by
  rw[abE]
  split
  ·rw[bo];omega
  ·have:=sw k (u/10) (by rw[Nat.pow_succ]at h;omega);rw[aL,bo];omega
theorem ahX(n:Int)(h0:0<=n)(h1:n<=9223372036854775807):(im n).size<=20:=by
 obtain⟨u,rfl⟩:∃u:Nat,n=u:=⟨n.toNat,by omega⟩;rw[acK];exact sw 19 u (by omega)
theorem aaU(s:ByteArray):(iD s).size<=2*s.size+2:=by
 have:=s7 (bs s);rw[ep]at this;unfold iD;simp only[aL,bo];omega
def iq:ByteArray:=⟨#[32]⟩
end Go.Ab
namespace Go.Proofs.Ab
open Go.Ab
set_option maxRecDepth 100000
set_option maxHeartbeats 4000000
theorem yq(u:Nat)(h:u<10):IntKind.u8.wrap (IntKind.u64.wrap (48+(u:Int)))=48+(u:Int):=by
 simp[IntKind.wrap,IntKind.signed,IntKind.bits];omega
theorem jB(u:Nat)(hu:u<18446744073709551616):aI Tryz.prog F.cU [.v (.int .u64 u)] (bE (abF u)):=by
 have hv:=abE u;refine T.qg rfl rfl ?_;simp only[T.cU,WA,reduceEqDiff,reduceAdd,reduceLT,reduceLeDiff,reduceMul,reduceIte,reduceCtorEq,Int.reduceEq,Int.reduceLT,Int.reduceLE,Int.reduceNe];refine aq (λ h=> ?_) (λ h=> ?_)
 ·rw[if_pos (by omega)]at hv;simp only[WA,reduceEqDiff,reduceAdd,reduceLT,reduceLeDiff,reduceMul,reduceIte,reduceCtorEq,Int.reduceEq,Int.reduceLT,Int.reduceLE,Int.reduceNe];rw[yq u (by omega),l7 _ (by omega) (by omega)];simp only[hv,WA,reduceEqDiff,reduceAdd,reduceLT,reduceLeDiff,reduceMul,reduceIte,reduceCtorEq,Int.reduceEq,Int.reduceLT,Int.reduceLE,Int.reduceNe]
 ·rw[if_neg (by omega)]at hv
  have e1:IntKind.u64.wrap ((u:Int).tdiv 10)=((u/10:Nat):Int):=by
   have:(u:Int).tdiv 10=((u/10:Nat):Int):=rfl;rw[this];simp[IntKind.wrap,IntKind.signed,IntKind.bits];omega
  have e2:(u:Int).tmod 10=((u%10:Nat):Int):=rfl;simp only[e1,WA,reduceEqDiff,reduceAdd,reduceLT,reduceLeDiff,reduceMul,reduceIte,reduceCtorEq,Int.reduceEq,Int.reduceLT,Int.reduceLE,Int.reduceNe];refine bj (jB (u/10) (by omega)) ?_;simp only[e2,WA,reduceEqDiff,reduceAdd,reduceLT,reduceLeDiff,reduceMul,reduceIte,reduceCtorEq,Int.reduceEq,Int.reduceLT,Int.reduceLE,Int.reduceNe];rw[yq (u%10) (by omega),l7 _ (by omega) (by omega)];have hs:=sw 19 (u/10) (by omega);simp only[bo,WA,reduceEqDiff,reduceAdd,reduceLT,reduceLeDiff,reduceMul,reduceIte,reduceCtorEq,Int.reduceEq,Int.reduceLT,Int.reduceLE,Int.reduceNe];refine⟨by omega,?_⟩;simp only[hv,WA,reduceEqDiff,reduceAdd,reduceLT,reduceLeDiff,reduceMul,reduceIte,reduceCtorEq,Int.reduceEq,Int.reduceLT,Int.reduceLE,Int.reduceNe]
termination_by u
decreasing_by omega
theorem sM(n:Int)(h0:0<=n)(h1:n<=9223372036854775807):aI Tryz.prog F.cV [br n] (bE (im n)):=by
 obtain⟨u,rfl⟩:∃u:Nat,n=u:=⟨n.toNat,by omega⟩;have e1:IntKind.u64.wrap (u:Int)=u:=by simp[IntKind.wrap,IntKind.signed,IntKind.bits];omega
 rw[acK];refine T.kQ rfl rfl ?_;simp only[T.cV,lh,e1,WA,reduceEqDiff,reduceAdd,reduceLT,reduceLeDiff,reduceMul,reduceIte,reduceCtorEq,Int.reduceEq,Int.reduceLT,Int.reduceLE,Int.reduceNe];refine bj (jB u (by omega)) ?_;simp only[WA,reduceEqDiff,reduceAdd,reduceLT,reduceLeDiff,reduceMul,reduceIte,reduceCtorEq,Int.reduceEq,Int.reduceLT,Int.reduceLE,Int.reduceNe]
theorem akc{L:AX->SS->List AV->Prop}(s:ByteArray)(hs:s.size<=1048576):bD Tryz.prog L (λ a=>a=bE (iD s)) T.fc [bE s] []:=by
 simp only[T.fc,WA,reduceEqDiff,reduceAdd,reduceLT,reduceLeDiff,reduceMul,reduceIte,reduceCtorEq,Int.reduceEq,Int.reduceLT,Int.reduceLE,Int.reduceNe];rw[l7 34 (by omega) (by omega)];have hq:=s7 (bs s);rw[ep]at hq;refine bw [.sl (cf (cP 34++oo (bs s)))] rfl ?_ ?_
 ·simp only[WA,reduceEqDiff,reduceAdd,reduceLT,reduceLeDiff,reduceMul,reduceIte,reduceCtorEq,Int.reduceEq,Int.reduceLT,Int.reduceLE,Int.reduceNe];refine xw s (λ i (acc:ByteArray)=>[.sl (cf acc),br i]) (λ i rest acc=>cP 34++oo (bs s)=acc++oo rest/\acc.size<=2*i+1) (cP 34) rfl ⟨rfl,Nat.le_refl _⟩ (λ i k rest acc hi hx hm mD hd hc0 hc1 hw8 hg=> ?_) (λ acc hd hg=> ?_)
  ·obtain⟨uN,hg2⟩:=hg;rw[oo]at uN;have hq1:aaV k=if k=10 then cP 92++cP 110 else if k=34∨k=92 then cP 92++cP k else cP k:=rfl
   have fin:∀yF,yF=acc++aaV k->i<s.size/\∃b',(cP 34++oo (bs s)=b'++oo rest/\b'.size<=2*(i+1)+1)/\ [AV.sl (cf yF),br ((i+1:Nat):Int)]= [.sl (cf b'),br ((i+1:Nat):Int)]:=by
    rintro yF rfl;refine⟨hi,_,⟨?_,?_⟩,rfl⟩
    ·rw[uN,awl]
    ·have:=zz k;rw[aL];omega
   simp only[hd,WA,reduceEqDiff,reduceAdd,reduceLT,reduceLeDiff,reduceMul,reduceIte,reduceCtorEq,Int.reduceEq,Int.reduceLT,Int.reduceLE,Int.reduceNe];refine aB ?_;simp only[mD,WA,reduceEqDiff,reduceAdd,reduceLT,reduceLeDiff,reduceMul,reduceIte,reduceCtorEq,Int.reduceEq,Int.reduceLT,Int.reduceLE,Int.reduceNe];refine aq (λ h=> ?_) (λ h=> ?_)
   ·rw[if_pos h]at hq1;simp(disch:=omega) only[iB,WA,reduceEqDiff,reduceAdd,reduceLT,reduceLeDiff,reduceMul,reduceIte,reduceCtorEq,Int.reduceEq,Int.reduceLT,Int.reduceLE,Int.reduceNe];refine⟨by simp[AV.cells],by omega,by omega,?_⟩;simp(disch:=omega) only[aD,WA,reduceEqDiff,reduceAdd,reduceLT,reduceLeDiff,reduceMul,reduceIte,reduceCtorEq,Int.reduceEq,Int.reduceLT,Int.reduceLE,Int.reduceNe];rw[y2 _ _ _ (by omega) (by omega) (by omega) (by omega)];exact fin _ (by rw[hq1])
   ·rw[if_neg h]at hq1;simp only[WA,reduceEqDiff,reduceAdd,reduceLT,reduceLeDiff,reduceMul,reduceIte,reduceCtorEq,Int.reduceEq,Int.reduceLT,Int.reduceLE,Int.reduceNe];refine dx (λ vs=>vs= [.v (.bool (decide (k=34∨k=92)))]) ?_ ?_
    ·simp only[WA,reduceEqDiff,reduceAdd,reduceLT,reduceLeDiff,reduceMul,reduceIte,reduceCtorEq,Int.reduceEq,Int.reduceLT,Int.reduceLE,Int.reduceNe];refine aq (λ h=> ?_) (λ h=> ?_)<;>simp[h,WA,reduceEqDiff,reduceAdd,reduceLT,reduceLeDiff,reduceMul,reduceIte,reduceCtorEq,Int.reduceEq,Int.reduceLT,Int.reduceLE,Int.reduceNe]
    ·rintro vs rfl _;simp only[WA,reduceEqDiff,reduceAdd,reduceLT,reduceLeDiff,reduceMul,reduceIte,reduceCtorEq,Int.reduceEq,Int.reduceLT,Int.reduceLE,Int.reduceNe];refine aq (λ h=> ?_) (λ h=> ?_)
     ·rw[if_pos h]at hq1;simp only[mD,WA,reduceEqDiff,reduceAdd,reduceLT,reduceLeDiff,reduceMul,reduceIte,reduceCtorEq,Int.reduceEq,Int.reduceLT,Int.reduceLE,Int.reduceNe];simp(disch:=omega) only[iB,WA,reduceEqDiff,reduceAdd,reduceLT,reduceLeDiff,reduceMul,reduceIte,reduceCtorEq,Int.reduceEq,Int.reduceLT,Int.reduceLE,Int.reduceNe];refine⟨by simp[AV.cells],by omega,by omega,?_⟩;simp(disch:=omega) only[aD,WA,reduceEqDiff,reduceAdd,reduceLT,reduceLeDiff,reduceMul,reduceIte,reduceCtorEq,Int.reduceEq,Int.reduceLT,Int.reduceLE,Int.reduceNe];rw[y2 _ _ _ (by omega) (by omega) (by omega) (by omega)];exact fin _ (by rw[hq1])
     ·rw[if_neg h]at hq1;simp only[mD,WA,reduceEqDiff,reduceAdd,reduceLT,reduceLeDiff,reduceMul,reduceIte,reduceCtorEq,Int.reduceEq,Int.reduceLT,Int.reduceLE,Int.reduceNe];simp(disch:=omega) only[iB,WA,reduceEqDiff,reduceAdd,reduceLT,reduceLeDiff,reduceMul,reduceIte,reduceCtorEq,Int.reduceEq,Int.reduceLT,Int.reduceLE,Int.reduceNe];refine⟨by simp[AV.cells],by omega,by omega,?_⟩;simp(disch:=omega) only[aD,WA,reduceEqDiff,reduceAdd,reduceLT,reduceLeDiff,reduceMul,reduceIte,reduceCtorEq,Int.reduceEq,Int.reduceLT,Int.reduceLE,Int.reduceNe];rw[y1 _ _ (by omega) (by omega)];exact fin _ (by rw[hq1])
  ·rw[oo,ayZ]at hg;simp only[hd,hg.1,WA,reduceEqDiff,reduceAdd,reduceLT,reduceLeDiff,reduceMul,reduceIte,reduceCtorEq,Int.reduceEq,Int.reduceLT,Int.reduceLE,Int.reduceNe]
 ·have hz:(cP 34++oo (bs s)).size<=2*s.size+1:=by rw[aL,bo];omega
  simp only[iB,WA,reduceEqDiff,reduceAdd,reduceLT,reduceLeDiff,reduceMul,reduceIte,reduceCtorEq,Int.reduceEq,Int.reduceLT,Int.reduceLE,Int.reduceNe];refine⟨by simp[AV.cells],by omega,by omega,?_⟩;rw[y1 _ _ (by omega) (by omega)];simp only[WA,reduceEqDiff,reduceAdd,reduceLT,reduceLeDiff,reduceMul,reduceIte,reduceCtorEq,Int.reduceEq,Int.reduceLT,Int.reduceLE,Int.reduceNe,iD]
theorem pL(s:ByteArray)(hs:s.size<=1048576):aI Tryz.prog F.fc [bE s] (bE (iD s)):=T.vA rfl rfl (akc s hs)
end Go.Proofs.Ab
