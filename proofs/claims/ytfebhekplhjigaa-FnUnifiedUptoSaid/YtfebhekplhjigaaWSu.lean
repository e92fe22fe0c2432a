/-
  Unify of the reference: nodes by number; find.
-/
import Derived.Test.YtfebhekplhjigaaWUok
import Derived.Test.YtfebhekplhjigaaPUni4
import Derived.Test.YtfebhekplhjigaaSV
open List(getElem?_range getElem?_eq_none getElem?_set_ne)
open Nat(reduceEqDiff reduceLeDiff reduceAdd reduceLT reduceMul)
set_option linter.unusedSimpArgs false
set_option linter.unusedVariables false
namespace Go.Proofs.Ab
open Go.Ab
set_option maxRecDepth 100000
set_option maxHeartbeats 4000000
def wy(up:Nat->Nat)(N:Nat):List AV:=(List.range N).map λ x=>au (up x)
theorem cE(up:Nat->Nat)(N:Nat):(wy up N).length=N:=by simp[wy]
theorem xR{up:Nat->Nat}{N x:Nat}(h:x<N):(wy up N).getD x .top=au (up x):=by simp[wy,List.getD,getElem?_range h]
theorem ap3{up:Nat->Nat}{N c p:Nat}:(wy up N).set c (au (p:Nat))=wy (bV up c p) N:=by
 apply List.ext_getElem?;intro i;by_cases hi:i=c
 ·subst hi;by_cases hl:i<N
  ·rw[List.getElem?_set_self (by rwa [cE])];simp[wy,getElem?_range hl,bV]
  ·rw[getElem?_eq_none (by simp[cE];omega),getElem?_eq_none (by simp[cE];omega)]
 ·rw[getElem?_set_ne (λ e=>hi e.symm)];by_cases hl:i<N
  ·simp[wy,getElem?_range hl,bV,hi]
  ·rw[getElem?_eq_none (by simp[cE];omega),getElem?_eq_none (by simp[cE];omega)]
def rY(t:aa):AV:= .agg [au t.Kind,au t.N,bZ t.Name,.aw]
def tys(S:Net):List AV:=(List.range S.N).map λ x=>rY (S.ty x)
def afj(S:Net)(aW:Nat->Nat)(x:Nat):AV:= .row (aW x) (S.kids x).length
def nF(S:Net)(aW:Nat->Nat):List AV:=(List.range S.N).map (afj S aW)
def ints(l:List Nat):List AV:=l.map λ k=>au (k:Nat)
structure kq(S:Net)(up:Nat->Nat)(nb tr kk ur:Nat)(aW:Nat->Nat)(O:List ad):Prop where
 box:O[nb]? =some (.live 85 3 [.agg [.row tr S.N,.row kk S.N,.row ur S.N]])
 ty:O[tr]? =some (.live 29 4 (tys S))
 kids:O[kk]? =some (.live 39 1 (nF S aW))
 wK:∀x,x<S.N->O[aW x]? =some (.live 3 1 (ints (S.kids x)))
 up:O[ur]? =some (.live 3 1 (wy up S.N))
 sep:nb≠tr/\nb≠kk/\nb≠ur/\tr≠kk/\tr≠ur/\kk≠ur/\∀x,x<S.N->aW x≠nb/\aW x≠tr/\aW x≠kk/\aW x≠ur
 few:∀x,x<S.N->(S.kids x).length<=1048576
 small:S.N<=1073741824
theorem gR{S:Net}{up aW:Nat->Nat}{nb tr kk ur:Nat}{O:List ad}(hL:kq S up nb tr kk ur aW O)(aF:∀x,x<S.N->up x<S.N){x r:Nat}(hx:x<S.N)(hr:bI up x r):fE Try.prog F.dO [.ptr nb 1 0 0,au (x:Nat)] O (au (r:Nat)) O:=by
 obtain⟨n0,hn0⟩:=kf.of hr;have hb:=hL.box;have hu:=hL.up;refine gT A.ye rfl ?_;simp only[A.dO,au,↓OD,OA,reduceEqDiff,reduceCtorEq];refine bd (ι:=Nat×Nat) (λ q=>kf up q.1 q.2 r/\q.2<S.N) (λ q=>jw [(0,.ptr nb 1 0 0),(1,.v (.int .i64 (q.2:Nat)))]) (λ _=>O) (λ q=>q.1) (n0,x) ⟨hn0,hx⟩ (.of_eq rfl rfl) ?_;rintro⟨n,y⟩ ⟨h1,h2⟩;simp only at h1 h2;have hg:=xR (up:=up) h2;simp only[au]at hg;simp only[hb,hu,cE,hg,Int.toNat_natCast,AV.cells,↓OD,OA,reduceEqDiff,reduceCtorEq,reduceAdd];refine⟨by omega,by omega,h2,?_⟩;cases h1 with
 |here _ py=>
  have d:decide ((up r:Int)=(r:Int))=true:=decide_eq_true (by omega);simp only[d,Bool.not_true,↓OD,OA,reduceEqDiff,reduceCtorEq];exact mI (.inl rfl) (by simp only[OA])
 |step m _ _ bn afB=>
  have d:decide ((up y:Int)=(y:Int))=false:=decide_eq_false (by omega);simp only[d,Bool.not_false,hb,hu,cE,hg,Int.toNat_natCast,AV.cells,↓OD,OA,reduceEqDiff,reduceCtorEq,reduceAdd];exact⟨by omega,by omega,h2,a6 (m,up y) ⟨afB,aF y h2⟩ (show m<m+1 by omega) (.of_eq rfl rfl)⟩
theorem kq.aiZ{S:Net}{up aW:Nat->Nat}{nb tr kk ur:Nat}{O:List ad}(hL:kq S up nb tr kk ur aW O)(c p:Nat):kq S (bV up c p) nb tr kk ur aW (O.set ur (.live 3 1 (wy (bV up c p) S.N))):=by
 obtain⟨s1,s2,s3,s4,s5,s6,s7⟩:=hL.sep;have hul:=(List.getElem?_eq_some_iff.1 hL.up).1;exact⟨by rw[getElem?_set_ne (Ne.symm s3)];exact hL.box,by rw[getElem?_set_ne (Ne.symm s5)];exact hL.ty,by rw[getElem?_set_ne (Ne.symm s6)];exact hL.kids,λ x hx=>by rw[getElem?_set_ne (Ne.symm (s7 x hx).2.2.2)];exact hL.wK x hx,List.getElem?_set_self hul,hL.sep,hL.few,hL.small⟩
theorem kz(S:Net):(tys S).length=S.N:=by simp[tys]
theorem xS{S:Net}{x:Nat}(h:x<S.N):(tys S).getD x .top=rY (S.ty x):=by simp[tys,List.getD,getElem?_range h]
theorem dg(S:Net)(aW:Nat->Nat):(nF S aW).length=S.N:=by simp[nF]
theorem oZ{S:Net}{aW:Nat->Nat}{x:Nat}(h:x<S.N):(nF S aW).getD x .top=afj S aW x:=by simp[nF,List.getD,getElem?_range h]
theorem dQ(l:List Nat):(ints l).length=l.length:=by simp[ints]
theorem qY{l:List Nat}{i k:Nat}(h:l[i]? =some k):(ints l).getD i .top=au (k:Nat):=by simp[ints,List.getD,h]
end Go.Proofs.Ab
