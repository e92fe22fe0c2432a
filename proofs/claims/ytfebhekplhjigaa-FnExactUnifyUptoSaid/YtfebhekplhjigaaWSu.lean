/-
  Unify of the reference: nodes by number; find.
-/
import Derived.Test.YtfebhekplhjigaaWUok
import Derived.Test.YtfebhekplhjigaaPUni4
import Derived.Test.YtfebhekplhjigaaSV
open List(getElem?_range getElem?_eq_none getElem?_set_ne)
open Nat(reduceEqDiff reduceLeDiff reduceAdd reduceLT reduceMul)
set_option linter.unusedVariables false
set_option linter.unusedSimpArgs false
namespace Go.Proofs.Ab
open Go.Ab
set_option maxRecDepth 100000
set_option maxHeartbeats 4000000
def yY(up:Nat->Nat)(N:Nat):List AV:=(List.range N).map λ x=>aO (up x)
theorem b7(up:Nat->Nat)(N:Nat):(yY up N).length=N:=by simp[yY]
theorem z6{up:Nat->Nat}{N x:Nat}(h:x<N):(yY up N).getD x .top=aO (up x):=by simp[yY,List.getD,getElem?_range h]
theorem aqu{up:Nat->Nat}{N c p:Nat}:(yY up N).set c (aO (p:Nat))=yY (bH up c p) N:=by
 apply List.ext_getElem?;intro i;by_cases hi:i=c
 ·subst hi;by_cases hl:i<N
  ·rw[List.getElem?_set_self (by rwa [b7])];simp[yY,getElem?_range hl,bH]
  ·rw[getElem?_eq_none (by simp[b7];omega),getElem?_eq_none (by simp[b7];omega)]
 ·rw[getElem?_set_ne (λ e=>hi e.symm)];by_cases hl:i<N
  ·simp[yY,getElem?_range hl,bH,hi]
  ·rw[getElem?_eq_none (by simp[b7];omega),getElem?_eq_none (by simp[b7];omega)]
def uU(t:ad):AV:= .agg [aO t.Kind,aO t.N,cv t.Name,.aA]
def tys(S:Net):List AV:=(List.range S.N).map λ x=>uU (S.ty x)
def agY(S:Net)(aT:Nat->Nat)(x:Nat):AV:= .row (aT x) (S.kids x).length
def pq(S:Net)(aT:Nat->Nat):List AV:=(List.range S.N).map (agY S aT)
def ints(l:List Nat):List AV:=l.map λ k=>aO (k:Nat)
structure kR(S:Net)(up:Nat->Nat)(nb tr kk ur:Nat)(aT:Nat->Nat)(O:List aa):Prop where
 box:O[nb]? =some (.live 85 3 [.agg [.row tr S.N,.row kk S.N,.row ur S.N]])
 ty:O[tr]? =some (.live 29 4 (tys S))
 kids:O[kk]? =some (.live 39 1 (pq S aT))
 za:∀x,x<S.N->O[aT x]? =some (.live 3 1 (ints (S.kids x)))
 up:O[ur]? =some (.live 3 1 (yY up S.N))
 sep:nb≠tr/\nb≠kk/\nb≠ur/\tr≠kk/\tr≠ur/\kk≠ur/\∀x,x<S.N->aT x≠nb/\aT x≠tr/\aT x≠kk/\aT x≠ur
 few:∀x,x<S.N->(S.kids x).length<=1048576
 small:S.N<=1073741824
theorem gD{S:Net}{up aT:Nat->Nat}{nb tr kk ur:Nat}{O:List aa}(hL:kR S up nb tr kk ur aT O)(aw:∀x,x<S.N->up x<S.N){x r:Nat}(hx:x<S.N)(hr:bw up x r):cF Try.prog F.dz [.ptr nb 1 0 0,aO (x:Nat)] O (aO (r:Nat)) O:=by
 obtain⟨n0,hn0⟩:=kN.of hr;have hb:=hL.box;have hu:=hL.up;refine cY A.aal rfl ?_;simp only[A.dz,aO,↓OD,OA,reduceEqDiff,reduceCtorEq,reduceAdd,reduceLT,reduceLeDiff,reduceIte];refine aQ (ι:=Nat×Nat) (λ q=>kN up q.1 q.2 r/\q.2<S.N) (λ q=>iA [(0,.ptr nb 1 0 0),(1,.v (.int .i64 (q.2:Nat)))]) (λ _=>O) (λ q=>q.1) (n0,x) ⟨hn0,hx⟩ (.of_eq rfl rfl) ?_;rintro⟨n,y⟩ ⟨h1,h2⟩;simp only at h1 h2;have hg:=z6 (up:=up) h2;simp only[aO]at hg;simp only[hb,hu,b7,hg,Int.toNat_natCast,AV.cells,↓OD,OA,reduceEqDiff,reduceCtorEq,reduceAdd,reduceLT,reduceLeDiff,reduceIte];refine⟨by omega,by omega,h2,?_⟩;cases h1 with
 |here _ rT=>
  have d:decide ((up r:Int)=(r:Int))=true:=decide_eq_true (by omega);simp only[d,Bool.not_true,↓OD,OA,reduceEqDiff,reduceCtorEq,reduceAdd,reduceLT,reduceLeDiff,reduceIte];exact mf (.inl rfl) (by simp only[↓OD,OA,reduceEqDiff,reduceCtorEq,reduceAdd,reduceLT,reduceLeDiff,reduceIte])
 |step m _ _ bk qo=>
  have d:decide ((up y:Int)=(y:Int))=false:=decide_eq_false (by omega);simp only[d,Bool.not_false,hb,hu,b7,hg,Int.toNat_natCast,AV.cells,↓OD,OA,reduceEqDiff,reduceCtorEq,reduceAdd,reduceLT,reduceLeDiff,reduceIte];exact⟨by omega,by omega,h2,aL (m,up y) ⟨qo,aw y h2⟩ (show m<m+1 by omega) (.of_eq rfl rfl)⟩
theorem kR.ajZ{S:Net}{up aT:Nat->Nat}{nb tr kk ur:Nat}{O:List aa}(hL:kR S up nb tr kk ur aT O)(c p:Nat):kR S (bH up c p) nb tr kk ur aT (O.set ur (.live 3 1 (yY (bH up c p) S.N))):=by
 obtain⟨s1,s2,s3,s4,s5,s6,s7⟩:=hL.sep;have hul:=(List.getElem?_eq_some_iff.1 hL.up).1;exact⟨by rw[getElem?_set_ne (Ne.symm s3)];exact hL.box,by rw[getElem?_set_ne (Ne.symm s5)];exact hL.ty,by rw[getElem?_set_ne (Ne.symm s6)];exact hL.kids,λ x hx=>by rw[getElem?_set_ne (Ne.symm (s7 x hx).2.2.2)];exact hL.za x hx,List.getElem?_set_self hul,hL.sep,hL.few,hL.small⟩
theorem k8(S:Net):(tys S).length=S.N:=by simp[tys]
theorem z7{S:Net}{x:Nat}(h:x<S.N):(tys S).getD x .top=uU (S.ty x):=by simp[tys,List.getD,getElem?_range h]
theorem cS(S:Net)(aT:Nat->Nat):(pq S aT).length=S.N:=by simp[pq]
theorem ra{S:Net}{aT:Nat->Nat}{x:Nat}(h:x<S.N):(pq S aT).getD x .top=agY S aT x:=by simp[pq,List.getD,getElem?_range h]
theorem dB(l:List Nat):(ints l).length=l.length:=by simp[ints]
theorem tV{l:List Nat}{i k:Nat}(h:l[i]? =some k):(ints l).getD i .top=aO (k:Nat):=by simp[ints,List.getD,h]
end Go.Proofs.Ab
