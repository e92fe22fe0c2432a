/-
  Unify of the program: join.
-/
import Derived.Test.YtfebhekplhjigaaWUni
open List(countP_cons)
open Nat(reduceEqDiff reduceLeDiff reduceAdd reduceLT reduceMul)
set_option linter.unusedVariables false
set_option linter.unusedSimpArgs false
namespace Go.Ab
set_option maxRecDepth 100000
def fp(S:Net)(up:Nat->Nat):Nat:=(List.range S.N).countP λ x=>decide (up x=x)
theorem countP_le{p q:Nat->Bool}:∀l:List Nat,(∀x∈l,q x=true->p x=true)->l.countP q<=l.countP p
 | [],_=>Nat.le_refl _
 |x::l,h=>by
  have ih:=countP_le l λ y hy=>h y (by simp[hy])
  rw[countP_cons,countP_cons];cases hq:q x with
  |false=>simp;omega
  |true=>rw[h x (by simp) hq];omega
theorem uh{p q:Nat->Bool}{c:Nat}:∀l:List Nat,c∈l->(∀x∈l,q x=true->p x=true)->p c=true->q c=false->l.countP q<l.countP p
 | [],hc,_,_,_=>by simp at hc
 |x::l,hc,h,hp,hq=>by
  have ih:=countP_le l λ y hy=>h y (by simp[hy])
  rw[countP_cons,countP_cons];by_cases hx:c=x
  ·subst hx;rw[hp,hq];simp;omega
  ·have:=uh l (by rcases List.mem_cons.1 hc with h|h;exact(hx h).elim;exact h) (λ y hy=>h y (by simp[hy])) hp hq;cases hqx:q x with
   |false=>simp;omega
   |true=>rw[h x (by simp) hqx];omega
theorem abx{S:Net}{up:Nat->Nat}{c p:Nat}(hc:c<S.N)(hu:up c=c)(bB:c≠p):fp S (cT up c p)<fp S up:=by
 refine uh (c:=c) _ (by simpa using hc) (λ x _ h=> ?_) (by simpa using hu) (by simp only[cT,if_true,decide_eq_false_iff_not];exact λ e=>bB e.symm);by_cases hx:x=c
 ·subst hx;simpa using hu
 ·have e:cT up c p x=up x:=by unfold cT;rw[if_neg hx]
  rw[e]at h;exact h
theorem aab{S:Net}{up cj:Nat->Nat}(h:∀z,z<S.N->(cj z=z↔up z=z)):fp S cj=fp S up:=by
 apply Nat.le_antisymm
 ·exact countP_le _ λ x hx hq=>by simp only[decide_eq_true_eq]at hq⊢;exact(h x (by simpa using hx)).1 hq
 ·exact countP_le _ λ x hx hq=>by simp only[decide_eq_true_eq]at hq⊢;exact(h x (by simpa using hx)).2 hq
theorem dy.trans{up cj akq:Nat->Nat}(h:dy up cj)(k:dy cj akq):dy up akq:=λ x r hr=>k x r (h x r hr)
end Go.Ab
namespace Go.Proofs.Ab
open Go.Ab
set_option maxRecDepth 100000
set_option maxHeartbeats 4000000
section
variable {S:Net} {up bx kr:Nat->Nat} {O:List ae} {K:KT}
theorem ji(hL:cD S up bx kr O){x:Nat}(hx:x<S.N):lV (kS S kr x) O K=k1 (.v (.int .i64 (S.kids x).length)) O K:=by
 unfold kS;by_cases hk:S.kids x= []
 ·rw[if_pos hk,hk];exact rM _ _
 ·rw[if_neg hk,aao,hL.row x hx hk];simp only[j0,jX,List.length_map,true_and]
theorem me(hL:cD S up bx kr O){x:Nat}(hx:x<S.N){i:Nat}(hi:i<(S.kids x).length):yi 1 (kS S kr x) (.v (.int .i64 (i:Int))) O K=k1 (.ptr (kr x) (S.kids x).length i 0) O K:=by
 have hk:S.kids x≠[]:=λ e=>by rw[e]at hi;simp at hi
 unfold kS;rw[if_neg hk,rQ,hL.row x hx hk];have h1:(jX bx (S.kids x)).length=(S.kids x).length:=by simp[jX]
 simp only[fE,h1,Int.toNat_natCast,true_and];have:(0<=(i:Int)/\(i:Int)<((S.kids x).length:Int)):=⟨by omega,by omega⟩;simp only[this.1,this.2,true_and]
theorem cZ(bx:Nat->Nat)(l:List Nat):(jX bx l).length=l.length:=by simp[jX]
theorem ib{bx:Nat->Nat}{l:List Nat}{i k:Nat}(h:l[i]? =some k):(jX bx l).getD i .top= .ptr (bx k) 1 0 0:=by simp[jX,List.getD,h]
theorem xW(S:Net)(kr:Nat->Nat)(x:Nat):(kS S kr x).cg=true:=by unfold kS;split<;>rfl
theorem cD.arV(hL:cD S up bx kr O){c p:Nat}(hc:c<S.N)(hcp:c≠p):cD S (cT up c p) bx kr (O.set (bx c) (.live 66 5 [.agg [aA (S.ty c).Kind,aA (S.ty c).N,ch (S.ty c).Name,kS S kr c,.ptr (bx p) 1 0 0]]))/\jL S bx O (O.set (bx c) (.live 66 5 [.agg [aA (S.ty c).Kind,aA (S.ty c).N,ch (S.ty c).Name,kS S kr c,.ptr (bx p) 1 0 0]])):=by
 have h:=hL.aqy (c:=c) (p:=p) hc;have e:cT up c p c=p:=by unfold cT;rw[if_pos rfl]
 have hn:fQ S (cT up c p) bx kr c= .live 66 5 [.agg [aA (S.ty c).Kind,aA (S.ty c).N,ch (S.ty c).Name,kS S kr c,.ptr (bx p) 1 0 0]]:=by
  unfold fQ;rw[aa1 (by rw[e];exact λ q=>hcp q.symm),e]
 rwa [hn]at h
theorem gS(hL:cD S up bx kr O){x:Nat}(hx:x<S.N):eg O (bx x)=true:=by
 unfold eg;rw[hL.box x hx]
 rfl
end
theorem adJ:∀(m:Nat) {S:Net} {up bx kr:Nat->Nat} {O:List ae},S.ok->cD S up bx kr O->(∀x,x<S.N->up x<S.N)->(∀x,x<S.N->∃r,cr up x r)->fp S up<=m->∀{x y:Nat},x<S.N->y<S.N->
  ∃cj O' ok,hD Try.prog F.jk [.ptr (bx x) 1 0 0,.ptr (bx y) 1 0 0] O (.v (.bool ok)) O'/\Js S up [(x,y)] cj ok/\cD S cj bx kr O'/\jL S bx O O'/\(∀x,x<S.N->cj x<S.N)/\(∀x,x<S.N->∃r,cr cj x r)/\fp S cj<=fp S up:=by
 intro m
 induction m using Nat.strongRecOn with
 |_ m ih=>
 intro S up bx kr O hs hL aF as3 hm x y hx hy;obtain⟨a,ha⟩:=as3 x hx;obtain⟨b,hb⟩:=as3 y hy;have hal:=ha.lt aF hx;have hbl:=hb.lt aF hy;obtain⟨u1,O1,c1,L1,s1,e1,lt1,r1⟩:=kF hL aF hx ha;obtain⟨u2,O2,c2,L2,s2,e2,lt2,r2⟩:=kF L1 lt1 hy (e1 _ _ hb);have e12:=e1.trans e2;have s12:=s1.trans s2;have ha2:=e12 _ _ ha;have y7:=e12 _ _ hb;have ht2:∀x,x<S.N->∃r,cr u2 x r:=λ z hz=>by obtain⟨r,hr⟩:=as3 z hz;exact⟨r,e12 _ _ hr⟩
 have hr2:fp S u2=fp S up:=(aab r2).trans (aab r1);have fin:∀(cj:Nat->Nat) (ok:Bool),Js S u2 [(x,y)] cj ok->Js S up [(x,y)] cj ok:=λ cj ok h=> .eq _ _ _ _ _ e12 lt2 h
 have key:∃res O',(∃cj ok,res= .v (.bool ok)/\Js S up [(x,y)] cj ok/\cD S cj bx kr O'/\jL S bx O O'/\(∀x,x<S.N->cj x<S.N)/\(∀x,x<S.N->∃r,cr cj x r)/\fp S cj<=fp S up)/\hD Try.prog F.jk [.ptr (bx x) 1 0 0,.ptr (bx y) 1 0 0] O res O':=by
  refine pQ A.abY rfl ?_;simp only[A.jk,↓OD,OA,reduceEqDiff,reduceCtorEq,reduceAdd,reduceLT,reduceLeDiff,reduceIte];refine bj _ _ c1 ?_;simp only[↓OD,OA,reduceEqDiff,reduceCtorEq,reduceAdd,reduceLT,reduceLeDiff,reduceIte];refine bj _ _ c2 ?_;simp only[↓OD,OA,reduceEqDiff,reduceCtorEq,reduceAdd,reduceLT,reduceLeDiff,reduceIte];refine⟨gS L2 hal,gS L2 hbl,?_⟩;by_cases uZ:a=b
  ·subst uZ;simp only[decide_true,↓OD,OA,reduceEqDiff,reduceCtorEq,reduceAdd,reduceLT,reduceLeDiff,reduceIte];exact ck (.inl rfl) ⟨u2,true,by simp only[↓OD,OA,reduceEqDiff,reduceCtorEq,reduceAdd,reduceLT,reduceLeDiff,reduceIte],fin _ _ (.same _ _ _ _ _ _ _ ha2 y7 (.nil _)),L2,s12,lt2,ht2,by omega⟩
  have aAp:bx a≠bx b:=λ e=>uZ (L2.inj a b hal hbl e)
  have d0:decide (bx a=bx b)=false:=decide_eq_false aAp;have hA:=L2.box a hal;have hB:=L2.box b hbl;have atx:=po (bx:=bx) ha2.root;have atv:=po (bx:=bx) y7.root;unfold fQ at hA hB;rw[atx]at hA;rw[atv]at hB;simp only[d0,↓OD,OA,reduceEqDiff,reduceCtorEq,reduceAdd,reduceLT,reduceLeDiff,reduceIte];refine jl ?_;have hkA:(kS S kr a).cg=true:=xW _ _ _;have hkB:(kS S kr b).cg=true:=xW _ _ _;have bS:∀n v,n<O2.length->(O2.set n v)[n]? =some v:=λ n v h=>List.getElem?_set_self h
  have un:∀c p,(c=a/\p=b∨c=b/\p=a)->cD S (cT u2 c p) bx kr (O2.set (bx c) (.live 66 5 [.agg [aA (S.ty c).Kind,aA (S.ty c).N,ch (S.ty c).Name,kS S kr c,.ptr (bx p) 1 0 0]]))/\jL S bx O (O2.set (bx c) (.live 66 5 [.agg [aA (S.ty c).Kind,aA (S.ty c).N,ch (S.ty c).Name,kS S kr c,.ptr (bx p) 1 0 0]]))/\(∀x,x<S.N->cT u2 c p x<S.N)/\(∀x,x<S.N->∃r,cr (cT u2 c p) x r)/\fp S (cT u2 c p)<fp S up:=by
   intro c p h
   have h6:u2 c=c/\u2 p=p/\c≠p/\c<S.N/\p<S.N:=by
    rcases h with⟨rfl,rfl⟩|⟨rfl,rfl⟩
    ·exact⟨ha2.root,y7.root,uZ,hal,hbl⟩
    ·exact⟨y7.root,ha2.root,λ e=>uZ e.symm,hbl,hal⟩
   obtain⟨g1,g2,g3,g4,g5⟩:=h6;obtain⟨l1,l2⟩:=L2.arV (c:=c) (p:=p) g4 g3;exact⟨l1,s12.trans l2,p7 lt2 g5,λ z hz=>by obtain⟨r,hr⟩:=ht2 z hz;exact⟨_,hr.union g1 g2 g3⟩,by rw[←hr2];exact abx g4 g1 g3⟩
  have hnm:∀z,z<S.N->S.mX z->(S.ty z).N=(z:Int):=λ z hz hzm=>by rw[(hs.qJ z (hs.isMeta z hz hzm)).1];rfl
  by_cases hma:S.mX a
  ·have k1':decide ((S.ty a).Kind=11)=true:=decide_eq_true hma;by_cases hmb:S.mX b
   ·have k2':decide ((S.ty b).Kind=11)=true:=decide_eq_true hmb;by_cases aF:b<a
    ·have k3':decide ((S.ty b).N<(S.ty a).N)=true:=decide_eq_true (by rw[hnm a hal hma,hnm b hbl hmb];omega);obtain⟨q1,q2,q3,q4,q5⟩:=un a b (.inl ⟨rfl,rfl⟩);simp only[hA,hB,k1',k2',aA,ch,↓OD,OA,reduceEqDiff,reduceCtorEq,reduceAdd,reduceLT,reduceLeDiff,reduceIte];refine⟨by kernel_rfl,?_⟩;simp only[k1',k2',k3',hA,hB,hkA,aA,ch,↓OD,OA,reduceEqDiff,reduceCtorEq,reduceAdd,reduceLT,reduceLeDiff,reduceIte];exact ck (.inl rfl) ⟨_,true,by simp only[↓OD,OA,reduceEqDiff,reduceCtorEq,reduceAdd,reduceLT,reduceLeDiff,reduceIte],fin _ _ (.mt _ _ _ _ _ _ _ _ _ _ ha2 y7 uZ (.inl ⟨rfl,rfl⟩) hma (λ _=>aF) (.nil _)),q1,q2,q3,q4,by omega⟩
    ·have k3':decide ((S.ty b).N<(S.ty a).N)=false:=decide_eq_false (by rw[hnm a hal hma,hnm b hbl hmb];omega);obtain⟨q1,q2,q3,q4,q5⟩:=un b a (.inr ⟨rfl,rfl⟩);simp only[hA,hB,k1',k2',aA,ch,↓OD,OA,reduceEqDiff,reduceCtorEq,reduceAdd,reduceLT,reduceLeDiff,reduceIte];refine⟨by kernel_rfl,?_⟩;simp only[k1',k2',k3',hA,hB,hkB,aA,ch,↓OD,OA,reduceEqDiff,reduceCtorEq,reduceAdd,reduceLT,reduceLeDiff,reduceIte];exact ck (.inl rfl) ⟨_,true,by simp only[↓OD,OA,reduceEqDiff,reduceCtorEq,reduceAdd,reduceLT,reduceLeDiff,reduceIte],fin _ _ (.mt _ _ _ _ _ _ _ _ _ _ ha2 y7 uZ (.inr ⟨rfl,rfl⟩) hmb (λ _=>by omega) (.nil _)),q1,q2,q3,q4,by omega⟩
   ·have k2':decide ((S.ty b).Kind=11)=false:=decide_eq_false hmb;obtain⟨q1,q2,q3,q4,q5⟩:=un a b (.inl ⟨rfl,rfl⟩);simp only[hA,hB,k1',k2',aA,ch,↓OD,OA,reduceEqDiff,reduceCtorEq,reduceAdd,reduceLT,reduceLeDiff,reduceIte];refine⟨by kernel_rfl,?_⟩;try simp only[k1',k2',hA,hB,hkA,aA,ch,↓OD,OA,reduceEqDiff,reduceCtorEq,reduceAdd,reduceLT,reduceLeDiff,reduceIte]
    exact ck (.inl rfl) ⟨_,true,by simp only[↓OD,OA,reduceEqDiff,reduceCtorEq,reduceAdd,reduceLT,reduceLeDiff,reduceIte],fin _ _ (.mt _ _ _ _ _ _ _ _ _ _ ha2 y7 uZ (.inl ⟨rfl,rfl⟩) hma (λ h=>(hmb h).elim) (.nil _)),q1,q2,q3,q4,by omega⟩
  have k1':decide ((S.ty a).Kind=11)=false:=decide_eq_false hma;by_cases hmb:S.mX b
  ·have k2':decide ((S.ty b).Kind=11)=true:=decide_eq_true hmb;obtain⟨q1,q2,q3,q4,q5⟩:=un b a (.inr ⟨rfl,rfl⟩);simp only[hA,hB,k1',k2',aA,ch,↓OD,OA,reduceEqDiff,reduceCtorEq,reduceAdd,reduceLT,reduceLeDiff,reduceIte];refine⟨by kernel_rfl,?_⟩;try simp only[k1',k2',hA,hB,hkB,aA,ch,↓OD,OA,reduceEqDiff,reduceCtorEq,reduceAdd,reduceLT,reduceLeDiff,reduceIte]
   exact ck (.inl rfl) ⟨_,true,by simp only[↓OD,OA,reduceEqDiff,reduceCtorEq,reduceAdd,reduceLT,reduceLeDiff,reduceIte],fin _ _ (.mt _ _ _ _ _ _ _ _ _ _ ha2 y7 uZ (.inr ⟨rfl,rfl⟩) hmb (λ h=>(hma h).elim) (.nil _)),q1,q2,q3,q4,by omega⟩
  have k2':decide ((S.ty b).Kind=11)=false:=decide_eq_false hmb;simp only[hA,hB,k1',k2',aA,ch,↓OD,OA,reduceEqDiff,reduceCtorEq,reduceAdd,reduceLT,reduceLeDiff,reduceIte];refine⟨by kernel_rfl,?_⟩;try simp only[k1',k2',hA,hB,aA,ch,↓OD,OA,reduceEqDiff,reduceCtorEq,reduceAdd,reduceLT,reduceLeDiff,reduceIte]
  refine jl ?_
  have nQ:∀{ok:Bool},ok=false->¬S.head a b->∃cj ok',AV.v (.bool ok)= .v (.bool ok')/\Js S up [(x,y)] cj ok'/\cD S cj bx kr O2/\jL S bx O O2/\(∀x,x<S.N->cj x<S.N)/\(∀x,x<S.N->∃r,cr cj x r)/\fp S cj<=fp S up:=
   λ mr hn=>⟨u2,false,by rw[mr],fin _ _ (.nQ _ _ _ _ _ _ ha2 y7 uZ hma hmb hn),L2,s12,lt2,ht2,by omega⟩
  by_cases g1:(S.ty a).Kind=(S.ty b).Kind
  ·have d1:decide ((S.ty a).Kind=(S.ty b).Kind)=true:=decide_eq_true g1;by_cases g2:(S.ty a).N=(S.ty b).N
   ·have d2:decide ((S.ty a).N=(S.ty b).N)=true:=decide_eq_true g2;by_cases g3:(S.ty a).Name=(S.ty b).Name
    ·have d3:decide ((S.ty a).Name=(S.ty b).Name)=true:=decide_eq_true g3;by_cases g4:(S.kids a).length=(S.kids b).length
     ·have d4:decide (((S.kids a).length:Int)=((S.kids b).length:Int))=true:=decide_eq_true (by omega);simp only[hA,hB,d1,d2,d3,d4,Bool.not_true,aA,ch,↓OD,OA,reduceEqDiff,reduceCtorEq,reduceAdd,reduceLT,reduceLeDiff,reduceIte];rw[ji L2 hal];simp only[hA,hB,d1,d2,d3,d4,Bool.not_true,aA,ch,↓OD,OA,reduceEqDiff,reduceCtorEq,reduceAdd,reduceLT,reduceLeDiff,reduceIte];rw[ji L2 hbl];simp only[hA,hB,d1,d2,d3,d4,Bool.not_true,aA,ch,↓OD,OA,reduceEqDiff,reduceCtorEq,reduceAdd,reduceLT,reduceLeDiff,reduceIte];refine⟨by kernel_rfl,?_⟩;obtain⟨O3,hO3,q1,q2,q3,q4,q5⟩:∃O3,O2.set (bx a) (.live 66 5 [.agg [.v (.int .i64 (S.ty a).Kind),.v (.int .i64 (S.ty a).N),.v (.string (S.ty a).Name),kS S kr a,.ptr (bx b) 1 0 0]])=O3/\cD S (cT u2 a b) bx kr O3/\jL S bx O O3/\(∀x,x<S.N->cT u2 a b x<S.N)/\(∀x,x<S.N->∃r,cr (cT u2 a b) x r)/\fp S (cT u2 a b)<fp S up:=⟨_,rfl,un a b (.inl ⟨rfl,rfl⟩)⟩;have hA3:=q1.box a hal;unfold fQ at hA3;try simp only[hA,hB,hkA,hO3,hA3,aA,ch,↓OD,OA,reduceEqDiff,reduceCtorEq,reduceAdd,reduceLT,reduceLeDiff,reduceIte]
      rw[ji q1 hal];simp only[↓OD,OA,reduceEqDiff,reduceCtorEq,reduceAdd,reduceLT,reduceLeDiff,reduceIte];have hzl:((S.kids a).zip (S.kids b)).length=(S.kids a).length:=by rw[List.length_zip];omega
      generalize hz:(S.kids a).zip (S.kids b)=Z at hzl;have aqX:∀(cj:Nat->Nat) (ok:Bool),Js S (cT u2 a b) Z cj ok->Js S up [(x,y)] cj ok:=λ cj ok h=>fin _ _ (.node _ _ _ _ _ _ _ _ _ _ ha2 y7 uZ (.inl ⟨rfl,rfl⟩) hma hmb ⟨g1,g2,g3,g4⟩ (by rw[hz,List.append_nil];exact h))
      refine cR (ι:=Nat×(Nat->Nat)×List ae) (λ q=>q.1<=(S.kids a).length/\cD S q.2.1 bx kr q.2.2/\jL S bx O q.2.2/\(∀z,z<S.N->q.2.1 z<S.N)/\(∀z,z<S.N->∃r,cr q.2.1 z r)/\fp S q.2.1<fp S up/\Js S (cT u2 a b) (Z.take q.1) q.2.1 true)
       (λ q=>pc [(0,.ptr (bx a) 1 0 0),(1,.ptr (bx b) 1 0 0),(105,.v (.int .i64 (S.kids a).length)),(106,.v (.int .i64 q.1))]) (λ q=>q.2.2) (λ q=>(S.kids a).length- q.1) (0,cT u2 a b,O3)
       ⟨Nat.zero_le _,q1,q2,q3,q4,q5,by rw[List.take_zero];exact .nil _⟩ (.of_eq rfl rfl) ?_
      rintro⟨i,u,Q⟩ ⟨w1,w2,w3,w4,w5,w6,w7⟩;simp only at w1 w2 w3 w4 w5 w6 w7;by_cases hi:i<(S.kids a).length
      ·have di:decide ((i:Int)<((S.kids a).length:Int))=true:=decide_eq_true (by omega);obtain⟨p,hp⟩:∃p,(S.kids a)[i]? =some p:=⟨_,List.getElem?_eq_getElem hi⟩;obtain⟨q,hq⟩:∃q,(S.kids b)[i]? =some q:=⟨_,List.getElem?_eq_getElem (by omega)⟩;have hpl:=hs.lt a hal p (List.mem_of_getElem? hp);have hql:=hs.lt b hbl q (List.mem_of_getElem? hq);have hzi:Z[i]? =some (p,q):=by rw[←hz,List.getElem?_zip_eq_some];exact⟨hp,hq⟩
       have htk:Z.take (i+1)=Z.take i++ [(p,q)]:=by rw[List.take_add_one,hzi];rfl
       obtain⟨u',O',ok,hc,hj,l1,l2,l3,l4,l5⟩:=ih (fp S u) (by omega) hs w2 w4 w5 (Nat.le_refl _) hpl hql;have hAi:=w2.box a hal;have hBi:=w2.box b hbl;unfold fQ at hAi hBi;simp only[di,hAi,hBi,aA,ch,↓OD,OA,reduceEqDiff,reduceCtorEq,reduceAdd,reduceLT,reduceLeDiff,reduceIte];refine jl ?_;simp only[hAi,hBi,aA,ch,↓OD,OA,reduceEqDiff,reduceCtorEq,reduceAdd,reduceLT,reduceLeDiff,reduceIte];rw[me w2 hal hi];simp only[hAi,hBi,aA,ch,↓OD,OA,reduceEqDiff,reduceCtorEq,reduceAdd,reduceLT,reduceLeDiff,reduceIte];simp only[w2.row a hal (λ e=>by rw[e]at hi;simp at hi),cZ,ib hp,hi,AV.cells,hAi,hBi,aA,ch,↓OD,OA,reduceEqDiff,reduceCtorEq,reduceAdd,reduceLT,reduceLeDiff,reduceIte];rw[me w2 hbl (by omega)];simp only[hAi,hBi,aA,ch,↓OD,OA,reduceEqDiff,reduceCtorEq,reduceAdd,reduceLT,reduceLeDiff,reduceIte];simp only[w2.row b hbl (λ e=>by rw[e]at g4;simp at g4;rw[g4]at hi;simp at hi),cZ,ib hq,show i<(S.kids b).length from by omega,AV.cells,hAi,hBi,aA,ch,↓OD,OA,reduceEqDiff,reduceCtorEq,reduceAdd,reduceLT,reduceLeDiff,reduceIte];refine bj _ _ hc ?_;cases ok with
       |true=>
        simp only[Bool.not_true,↓OD,OA,reduceEqDiff,reduceCtorEq,reduceAdd,reduceLT,reduceLeDiff,reduceIte];refine⟨by kernel_rfl,?_⟩;try simp only[↓OD,OA,reduceEqDiff,reduceCtorEq,reduceAdd,reduceLT,reduceLeDiff,reduceIte]
        exact b6 (i+1,u',O') ⟨by show i+1<=_;omega,l1,w3.trans l2,l3,l4,by show fp S u'<_;omega,by show Js S _ (Z.take (i+1)) _ _;rw[htk];exact w7.append rfl hj⟩ (by show(S.kids a).length- (i+1)<(S.kids a).length- i;omega) (.of_eq (by rw[bm (by omega) (by have:=w2.few a hal;omega)];rfl) rfl)
       |false=>
        simp only[Bool.not_false,↓OD,OA,reduceEqDiff,reduceCtorEq,reduceAdd,reduceLT,reduceLeDiff,reduceIte];refine⟨by kernel_rfl,?_⟩;try simp only[↓OD,OA,reduceEqDiff,reduceCtorEq,reduceAdd,reduceLT,reduceLeDiff,reduceIte]
        exact ck (.inl rfl) ⟨u',false,by simp only[↓OD,OA,reduceEqDiff,reduceCtorEq,reduceAdd,reduceLT,reduceLeDiff,reduceIte],aqX _ _ (by
         have h1:=w7.append rfl hj;rw[←htk]at h1;have h2:=h1.acn (m:=Z.drop (i+1)) rfl;rwa [List.take_append_drop]at h2),l1,w3.trans l2,l3,l4,by omega⟩
      ·have di:decide ((i:Int)<((S.kids a).length:Int))=false:=decide_eq_false (by omega);have hie:i=(S.kids a).length:=by omega
       simp only[di,↓OD,OA,reduceEqDiff,reduceCtorEq,reduceAdd,reduceLT,reduceLeDiff,reduceIte];exact ck (.inl rfl) ⟨u,true,by simp only[↓OD,OA,reduceEqDiff,reduceCtorEq,reduceAdd,reduceLT,reduceLeDiff,reduceIte],aqX _ _ (by rw[hie,←hzl,List.take_length]at w7;exact w7),w2,w3,w4,w5,by omega⟩
     ·have d4:decide (((S.kids a).length:Int)=((S.kids b).length:Int))=false:=decide_eq_false (by omega);simp only[hA,hB,d1,d2,d3,d4,Bool.not_true,aA,ch,↓OD,OA,reduceEqDiff,reduceCtorEq,reduceAdd,reduceLT,reduceLeDiff,reduceIte];rw[ji L2 hal];simp only[hA,hB,d1,d2,d3,d4,Bool.not_true,aA,ch,↓OD,OA,reduceEqDiff,reduceCtorEq,reduceAdd,reduceLT,reduceLeDiff,reduceIte];rw[ji L2 hbl];simp only[hA,hB,d1,d2,d3,d4,Bool.not_true,Bool.not_false,aA,ch,↓OD,OA,reduceEqDiff,reduceCtorEq,reduceAdd,reduceLT,reduceLeDiff,reduceIte];refine⟨by kernel_rfl,?_⟩;try simp only[hA,hB,↓OD,OA,reduceEqDiff,reduceCtorEq,reduceAdd,reduceLT,reduceLeDiff,reduceIte]
      exact ck (.inl rfl) (by simp only[↓OD,OA,reduceEqDiff,reduceCtorEq,reduceAdd,reduceLT,reduceLeDiff,reduceIte];exact nQ rfl λ h=>g4 h.2.2.2)
    ·have d3:decide ((S.ty a).Name=(S.ty b).Name)=false:=decide_eq_false g3;simp only[hA,hB,d1,d2,d3,Bool.not_true,Bool.not_false,aA,ch,↓OD,OA,reduceEqDiff,reduceCtorEq,reduceAdd,reduceLT,reduceLeDiff,reduceIte];refine⟨by kernel_rfl,?_⟩;try simp only[hA,hB,↓OD,OA,reduceEqDiff,reduceCtorEq,reduceAdd,reduceLT,reduceLeDiff,reduceIte]
     exact ck (.inl rfl) (by simp only[↓OD,OA,reduceEqDiff,reduceCtorEq,reduceAdd,reduceLT,reduceLeDiff,reduceIte];exact nQ rfl λ h=>g3 h.2.2.1)
   ·have d2:decide ((S.ty a).N=(S.ty b).N)=false:=decide_eq_false g2;simp only[hA,hB,d1,d2,Bool.not_true,Bool.not_false,aA,ch,↓OD,OA,reduceEqDiff,reduceCtorEq,reduceAdd,reduceLT,reduceLeDiff,reduceIte];refine⟨by kernel_rfl,?_⟩;try simp only[hA,hB,↓OD,OA,reduceEqDiff,reduceCtorEq,reduceAdd,reduceLT,reduceLeDiff,reduceIte]
    exact ck (.inl rfl) (by simp only[↓OD,OA,reduceEqDiff,reduceCtorEq,reduceAdd,reduceLT,reduceLeDiff,reduceIte];exact nQ rfl λ h=>g2 h.2.1)
  ·have d1:decide ((S.ty a).Kind=(S.ty b).Kind)=false:=decide_eq_false g1;simp only[hA,hB,d1,Bool.not_true,Bool.not_false,aA,ch,↓OD,OA,reduceEqDiff,reduceCtorEq,reduceAdd,reduceLT,reduceLeDiff,reduceIte];refine⟨by kernel_rfl,?_⟩;try simp only[hA,hB,↓OD,OA,reduceEqDiff,reduceCtorEq,reduceAdd,reduceLT,reduceLeDiff,reduceIte]
   exact ck (.inl rfl) (by simp only[↓OD,OA,reduceEqDiff,reduceCtorEq,reduceAdd,reduceLT,reduceLeDiff,reduceIte];exact nQ rfl λ h=>g1 h.1)
 obtain⟨res,O',⟨cj,ok,rfl,h⟩,hc⟩:=key;exact⟨cj,O',ok,hc,h⟩
end Go.Proofs.Ab
