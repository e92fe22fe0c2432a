/-
  Unify of the program: join.
-/
import Derived.Test.YtfebhekplhjigaaWUni
open List(countP_cons)
open Nat(reduceEqDiff reduceLeDiff reduceAdd reduceLT reduceMul)
set_option linter.unusedVariables false
set_option linter.unusedSimpArgs false
namespace Go.Ab
set_option maxRecDepth 100000
def cc(S:Net)(up:Nat->Nat):Nat:=(List.range S.N).countP λ x=>decide (up x=x)
theorem countP_le{p q:Nat->Bool}:∀l:List Nat,(∀x∈l,q x=true->p x=true)->l.countP q<=l.countP p
 | [],_=>Nat.le_refl _
 |x::l,h=>by
  have ih:=countP_le l λ y hy=>h y (by simp[hy])
  rw[countP_cons,countP_cons];cases hq:q x with
  |false=>simp;omega
  |true=>rw[h x (by simp) hq];omega
theorem yd{p q:Nat->Bool}{c:Nat}:∀l:List Nat,c∈l->(∀x∈l,q x=true->p x=true)->p c=true->q c=false->l.countP q<l.countP p
 | [],hc,_,_,_=>by simp at hc
 |x::l,hc,h,hp,hq=>by
  have ih:=countP_le l λ y hy=>h y (by simp[hy])
  rw[countP_cons,countP_cons];by_cases hx:c=x
  ·subst hx;rw[hp,hq];simp;omega
  ·have:=yd l (by rcases List.mem_cons.1 hc with h|h;exact(hx h).elim;exact h) (λ y hy=>h y (by simp[hy])) hp hq;cases hqx:q x with
   |false=>simp;omega
   |true=>rw[h x (by simp) hqx];omega
theorem wc{S:Net}{up:Nat->Nat}{c p:Nat}(hc:c<S.N)(hu:up c=c)(bk:c≠p):cc S (bH up c p)<cc S up:=by
 refine yd (c:=c) _ (by simpa using hc) (λ x _ h=> ?_) (by simpa using hu) (by simp only[bH,if_true,decide_eq_false_iff_not];exact λ e=>bk e.symm);by_cases hx:x=c
 ·subst hx;simpa using hu
 ·have e:bH up c p x=up x:=by unfold bH;rw[if_neg hx]
  rw[e]at h;exact h
theorem adv{S:Net}{up bh:Nat->Nat}(h:∀z,z<S.N->(bh z=z↔up z=z)):cc S bh=cc S up:=by
 apply Nat.le_antisymm
 ·exact countP_le _ λ x hx hq=>by simp only[decide_eq_true_eq]at hq⊢;exact(h x (by simpa using hx)).1 hq
 ·exact countP_le _ λ x hx hq=>by simp only[decide_eq_true_eq]at hq⊢;exact(h x (by simpa using hx)).2 hq
theorem df.trans{up bh aga:Nat->Nat}(h:df up bh)(k:df bh aga):df up aga:=λ x r hr=>k x r (h x r hr)
end Go.Ab
namespace Go.Proofs.Ab
open Go.Ab
set_option maxRecDepth 100000
set_option maxHeartbeats 4000000
section
variable {S:Net} {up bx kr:Nat->Nat} {O:List aa} {K:KT}
theorem j0(hL:ca S up bx kr O){x:Nat}(hx:x<S.N):po (mF S kr x) O K=k1 (.v (.int .i64 (S.kids x).length)) O K:=by
 unfold mF;by_cases hk:S.kids x= []
 ·rw[if_pos hk,hk];exact ij _ _
 ·rw[if_neg hk,lx,hL.row x hx hk];simp only[eP,lg,List.length_map,true_and]
theorem og(hL:ca S up bx kr O){x:Nat}(hx:x<S.N){i:Nat}(hi:i<(S.kids x).length):abE 1 (mF S kr x) (.v (.int .i64 (i:Int))) O K=k1 (.ptr (kr x) (S.kids x).length i 0) O K:=by
 have hk:S.kids x≠[]:=λ e=>by rw[e]at hi;simp at hi
 unfold mF;rw[if_neg hk,iw,hL.row x hx hk];have h1:(lg bx (S.kids x)).length=(S.kids x).length:=by simp[lg]
 simp only[cX,h1,Int.toNat_natCast,true_and];have:(0<=(i:Int)/\(i:Int)<((S.kids x).length:Int)):=⟨by omega,by omega⟩;simp only[this.1,this.2,true_and]
theorem cG(bx:Nat->Nat)(l:List Nat):(lg bx l).length=l.length:=by simp[lg]
theorem iK{bx:Nat->Nat}{l:List Nat}{i k:Nat}(h:l[i]? =some k):(lg bx l).getD i .top= .ptr (bx k) 1 0 0:=by simp[lg,List.getD,h]
theorem abn(S:Net)(kr:Nat->Nat)(x:Nat):(mF S kr x).bO=true:=by unfold mF;split<;>rfl
theorem ca.atU(hL:ca S up bx kr O){c p:Nat}(hc:c<S.N)(hcp:c≠p):ca S (bH up c p) bx kr (O.set (bx c) (.live 66 5 [.agg [aO (S.ty c).Kind,aO (S.ty c).N,cv (S.ty c).Name,mF S kr c,.ptr (bx p) 1 0 0]]))/\kM S bx O (O.set (bx c) (.live 66 5 [.agg [aO (S.ty c).Kind,aO (S.ty c).N,cv (S.ty c).Name,mF S kr c,.ptr (bx p) 1 0 0]])):=by
 have h:=hL.ajZ (c:=c) (p:=p) hc;have e:bH up c p c=p:=by unfold bH;rw[if_pos rfl]
 have hn:fM S (bH up c p) bx kr c= .live 66 5 [.agg [aO (S.ty c).Kind,aO (S.ty c).N,cv (S.ty c).Name,mF S kr c,.ptr (bx p) 1 0 0]]:=by
  unfold fM;rw[aep (by rw[e];exact λ q=>hcp q.symm),e]
 rwa [hn]at h
theorem il(hL:ca S up bx kr O){x:Nat}(hx:x<S.N):dR O (bx x)=true:=by
 unfold dR;rw[hL.box x hx]
 rfl
end
theorem ag8:∀(m:Nat) {S:Net} {up bx kr:Nat->Nat} {O:List aa},S.ok->ca S up bx kr O->(∀x,x<S.N->up x<S.N)->(∀x,x<S.N->∃r,bw up x r)->cc S up<=m->∀{x y:Nat},x<S.N->y<S.N->
  ∃bh O' ok,cF Try.prog F.j4 [.ptr (bx x) 1 0 0,.ptr (bx y) 1 0 0] O (.v (.bool ok)) O'/\Js S up [(x,y)] bh ok/\ca S bh bx kr O'/\kM S bx O O'/\(∀x,x<S.N->bh x<S.N)/\(∀x,x<S.N->∃r,bw bh x r)/\cc S bh<=cc S up:=by
 intro m
 induction m using Nat.strongRecOn with
 |_ m ih=>
 intro S up bx kr O hs hL aw zq hm x y hx hy;obtain⟨a,ha⟩:=zq x hx;obtain⟨b,hb⟩:=zq y hy;have te:=ha.lt aw hx;have si:=hb.lt aw hy;obtain⟨u1,O1,c1,L1,s1,e1,lt1,r1⟩:=mu hL aw hx ha;obtain⟨u2,O2,c2,L2,s2,e2,lt2,r2⟩:=mu L1 lt1 hy (e1 _ _ hb);have e12:=e1.trans e2;have s12:=s1.trans s2;have ha2:=e12 _ _ ha;have hb2:=e12 _ _ hb;have ht2:∀x,x<S.N->∃r,bw u2 x r:=λ z hz=>by obtain⟨r,hr⟩:=zq z hz;exact⟨r,e12 _ _ hr⟩
 have hr2:cc S u2=cc S up:=(adv r2).trans (adv r1);have fin:∀(bh:Nat->Nat) (ok:Bool),Js S u2 [(x,y)] bh ok->Js S up [(x,y)] bh ok:=λ bh ok h=> .eq _ _ _ _ _ e12 lt2 h
 have key:∃res O',(∃bh ok,res= .v (.bool ok)/\Js S up [(x,y)] bh ok/\ca S bh bx kr O'/\kM S bx O O'/\(∀x,x<S.N->bh x<S.N)/\(∀x,x<S.N->∃r,bw bh x r)/\cc S bh<=cc S up)/\cF Try.prog F.j4 [.ptr (bx x) 1 0 0,.ptr (bx y) 1 0 0] O res O':=by
  refine jM A.aff rfl ?_;simp only[A.j4,↓OD,OA,reduceEqDiff,reduceCtorEq,reduceAdd,reduceLT,reduceLeDiff,reduceIte];refine aj _ _ c1 ?_;simp only[↓OD,OA,reduceEqDiff,reduceCtorEq,reduceAdd,reduceLT,reduceLeDiff,reduceIte];refine aj _ _ c2 ?_;simp only[↓OD,OA,reduceEqDiff,reduceCtorEq,reduceAdd,reduceLT,reduceLeDiff,reduceIte];refine⟨il L2 te,il L2 si,?_⟩;by_cases tW:a=b
  ·subst tW;simp only[decide_true,↓OD,OA,reduceEqDiff,reduceCtorEq,reduceAdd,reduceLT,reduceLeDiff,reduceIte];exact aU (.inl rfl) ⟨u2,true,by simp only[↓OD,OA,reduceEqDiff,reduceCtorEq,reduceAdd,reduceLT,reduceLeDiff,reduceIte],fin _ _ (.same _ _ _ _ _ _ _ ha2 hb2 (.nil _)),L2,s12,lt2,ht2,by omega⟩
  have aCg:bx a≠bx b:=λ e=>tW (L2.inj a b te si e)
  have d0:decide (bx a=bx b)=false:=decide_eq_false aCg;have hA:=L2.box a te;have hB:=L2.box b si;have avv:=sA (bx:=bx) ha2.root;have avt:=sA (bx:=bx) hb2.root;unfold fM at hA hB;rw[avv]at hA;rw[avt]at hB;simp only[d0,↓OD,OA,reduceEqDiff,reduceCtorEq,reduceAdd,reduceLT,reduceLeDiff,reduceIte];refine dc ?_;have hkA:(mF S kr a).bO=true:=abn _ _ _;have hkB:(mF S kr b).bO=true:=abn _ _ _;have bS:∀n v,n<O2.length->(O2.set n v)[n]? =some v:=λ n v h=>List.getElem?_set_self h
  have un:∀c p,(c=a/\p=b∨c=b/\p=a)->ca S (bH u2 c p) bx kr (O2.set (bx c) (.live 66 5 [.agg [aO (S.ty c).Kind,aO (S.ty c).N,cv (S.ty c).Name,mF S kr c,.ptr (bx p) 1 0 0]]))/\kM S bx O (O2.set (bx c) (.live 66 5 [.agg [aO (S.ty c).Kind,aO (S.ty c).N,cv (S.ty c).Name,mF S kr c,.ptr (bx p) 1 0 0]]))/\(∀x,x<S.N->bH u2 c p x<S.N)/\(∀x,x<S.N->∃r,bw (bH u2 c p) x r)/\cc S (bH u2 c p)<cc S up:=by
   intro c p h
   have h6:u2 c=c/\u2 p=p/\c≠p/\c<S.N/\p<S.N:=by
    rcases h with⟨rfl,rfl⟩|⟨rfl,rfl⟩
    ·exact⟨ha2.root,hb2.root,tW,te,si⟩
    ·exact⟨hb2.root,ha2.root,λ e=>tW e.symm,si,te⟩
   obtain⟨g1,g2,g3,g4,g5⟩:=h6;obtain⟨l1,l2⟩:=L2.atU (c:=c) (p:=p) g4 g3;exact⟨l1,s12.trans l2,qI lt2 g5,λ z hz=>by obtain⟨r,hr⟩:=ht2 z hz;exact⟨_,hr.union g1 g2 g3⟩,by rw[←hr2];exact wc g4 g1 g3⟩
  have hnm:∀z,z<S.N->S.mq z->(S.ty z).N=(z:Int):=λ z hz hzm=>by rw[(hs.pj z (hs.isMeta z hz hzm)).1];rfl
  by_cases hma:S.mq a
  ·have k1':decide ((S.ty a).Kind=11)=true:=decide_eq_true hma;by_cases hmb:S.mq b
   ·have k2':decide ((S.ty b).Kind=11)=true:=decide_eq_true hmb;by_cases aw:b<a
    ·have k3':decide ((S.ty b).N<(S.ty a).N)=true:=decide_eq_true (by rw[hnm a te hma,hnm b si hmb];omega);obtain⟨q1,q2,q3,q4,q5⟩:=un a b (.inl ⟨rfl,rfl⟩);simp only[hA,hB,k1',k2',aO,cv,↓OD,OA,reduceEqDiff,reduceCtorEq,reduceAdd,reduceLT,reduceLeDiff,reduceIte];refine⟨by kernel_rfl,?_⟩;simp only[k1',k2',k3',hA,hB,hkA,aO,cv,↓OD,OA,reduceEqDiff,reduceCtorEq,reduceAdd,reduceLT,reduceLeDiff,reduceIte];exact aU (.inl rfl) ⟨_,true,by simp only[↓OD,OA,reduceEqDiff,reduceCtorEq,reduceAdd,reduceLT,reduceLeDiff,reduceIte],fin _ _ (.mt _ _ _ _ _ _ _ _ _ _ ha2 hb2 tW (.inl ⟨rfl,rfl⟩) hma (λ _=>aw) (.nil _)),q1,q2,q3,q4,by omega⟩
    ·have k3':decide ((S.ty b).N<(S.ty a).N)=false:=decide_eq_false (by rw[hnm a te hma,hnm b si hmb];omega);obtain⟨q1,q2,q3,q4,q5⟩:=un b a (.inr ⟨rfl,rfl⟩);simp only[hA,hB,k1',k2',aO,cv,↓OD,OA,reduceEqDiff,reduceCtorEq,reduceAdd,reduceLT,reduceLeDiff,reduceIte];refine⟨by kernel_rfl,?_⟩;simp only[k1',k2',k3',hA,hB,hkB,aO,cv,↓OD,OA,reduceEqDiff,reduceCtorEq,reduceAdd,reduceLT,reduceLeDiff,reduceIte];exact aU (.inl rfl) ⟨_,true,by simp only[↓OD,OA,reduceEqDiff,reduceCtorEq,reduceAdd,reduceLT,reduceLeDiff,reduceIte],fin _ _ (.mt _ _ _ _ _ _ _ _ _ _ ha2 hb2 tW (.inr ⟨rfl,rfl⟩) hmb (λ _=>by omega) (.nil _)),q1,q2,q3,q4,by omega⟩
   ·have k2':decide ((S.ty b).Kind=11)=false:=decide_eq_false hmb;obtain⟨q1,q2,q3,q4,q5⟩:=un a b (.inl ⟨rfl,rfl⟩);simp only[hA,hB,k1',k2',aO,cv,↓OD,OA,reduceEqDiff,reduceCtorEq,reduceAdd,reduceLT,reduceLeDiff,reduceIte];refine⟨by kernel_rfl,?_⟩;try simp only[k1',k2',hA,hB,hkA,aO,cv,↓OD,OA,reduceEqDiff,reduceCtorEq,reduceAdd,reduceLT,reduceLeDiff,reduceIte]
    exact aU (.inl rfl) ⟨_,true,by simp only[↓OD,OA,reduceEqDiff,reduceCtorEq,reduceAdd,reduceLT,reduceLeDiff,reduceIte],fin _ _ (.mt _ _ _ _ _ _ _ _ _ _ ha2 hb2 tW (.inl ⟨rfl,rfl⟩) hma (λ h=>(hmb h).elim) (.nil _)),q1,q2,q3,q4,by omega⟩
  have k1':decide ((S.ty a).Kind=11)=false:=decide_eq_false hma;by_cases hmb:S.mq b
  ·have k2':decide ((S.ty b).Kind=11)=true:=decide_eq_true hmb;obtain⟨q1,q2,q3,q4,q5⟩:=un b a (.inr ⟨rfl,rfl⟩);simp only[hA,hB,k1',k2',aO,cv,↓OD,OA,reduceEqDiff,reduceCtorEq,reduceAdd,reduceLT,reduceLeDiff,reduceIte];refine⟨by kernel_rfl,?_⟩;try simp only[k1',k2',hA,hB,hkB,aO,cv,↓OD,OA,reduceEqDiff,reduceCtorEq,reduceAdd,reduceLT,reduceLeDiff,reduceIte]
   exact aU (.inl rfl) ⟨_,true,by simp only[↓OD,OA,reduceEqDiff,reduceCtorEq,reduceAdd,reduceLT,reduceLeDiff,reduceIte],fin _ _ (.mt _ _ _ _ _ _ _ _ _ _ ha2 hb2 tW (.inr ⟨rfl,rfl⟩) hmb (λ h=>(hma h).elim) (.nil _)),q1,q2,q3,q4,by omega⟩
  have k2':decide ((S.ty b).Kind=11)=false:=decide_eq_false hmb;simp only[hA,hB,k1',k2',aO,cv,↓OD,OA,reduceEqDiff,reduceCtorEq,reduceAdd,reduceLT,reduceLeDiff,reduceIte];refine⟨by kernel_rfl,?_⟩;try simp only[k1',k2',hA,hB,aO,cv,↓OD,OA,reduceEqDiff,reduceCtorEq,reduceAdd,reduceLT,reduceLeDiff,reduceIte]
  refine dc ?_
  have j6:∀{ok:Bool},ok=false->¬S.head a b->∃bh ok',AV.v (.bool ok)= .v (.bool ok')/\Js S up [(x,y)] bh ok'/\ca S bh bx kr O2/\kM S bx O O2/\(∀x,x<S.N->bh x<S.N)/\(∀x,x<S.N->∃r,bw bh x r)/\cc S bh<=cc S up:=
   λ oS hn=>⟨u2,false,by rw[oS],fin _ _ (.j6 _ _ _ _ _ _ ha2 hb2 tW hma hmb hn),L2,s12,lt2,ht2,by omega⟩
  by_cases g1:(S.ty a).Kind=(S.ty b).Kind
  ·have d1:decide ((S.ty a).Kind=(S.ty b).Kind)=true:=decide_eq_true g1;by_cases g2:(S.ty a).N=(S.ty b).N
   ·have d2:decide ((S.ty a).N=(S.ty b).N)=true:=decide_eq_true g2;by_cases g3:(S.ty a).Name=(S.ty b).Name
    ·have d3:decide ((S.ty a).Name=(S.ty b).Name)=true:=decide_eq_true g3;by_cases g4:(S.kids a).length=(S.kids b).length
     ·have d4:decide (((S.kids a).length:Int)=((S.kids b).length:Int))=true:=decide_eq_true (by omega);simp only[hA,hB,d1,d2,d3,d4,Bool.not_true,aO,cv,↓OD,OA,reduceEqDiff,reduceCtorEq,reduceAdd,reduceLT,reduceLeDiff,reduceIte];rw[j0 L2 te];simp only[hA,hB,d1,d2,d3,d4,Bool.not_true,aO,cv,↓OD,OA,reduceEqDiff,reduceCtorEq,reduceAdd,reduceLT,reduceLeDiff,reduceIte];rw[j0 L2 si];simp only[hA,hB,d1,d2,d3,d4,Bool.not_true,aO,cv,↓OD,OA,reduceEqDiff,reduceCtorEq,reduceAdd,reduceLT,reduceLeDiff,reduceIte];refine⟨by kernel_rfl,?_⟩;obtain⟨O3,hO3,q1,q2,q3,q4,q5⟩:∃O3,O2.set (bx a) (.live 66 5 [.agg [.v (.int .i64 (S.ty a).Kind),.v (.int .i64 (S.ty a).N),.v (.string (S.ty a).Name),mF S kr a,.ptr (bx b) 1 0 0]])=O3/\ca S (bH u2 a b) bx kr O3/\kM S bx O O3/\(∀x,x<S.N->bH u2 a b x<S.N)/\(∀x,x<S.N->∃r,bw (bH u2 a b) x r)/\cc S (bH u2 a b)<cc S up:=⟨_,rfl,un a b (.inl ⟨rfl,rfl⟩)⟩;have hA3:=q1.box a te;unfold fM at hA3;try simp only[hA,hB,hkA,hO3,hA3,aO,cv,↓OD,OA,reduceEqDiff,reduceCtorEq,reduceAdd,reduceLT,reduceLeDiff,reduceIte]
      rw[j0 q1 te];simp only[↓OD,OA,reduceEqDiff,reduceCtorEq,reduceAdd,reduceLT,reduceLeDiff,reduceIte];have hzl:((S.kids a).zip (S.kids b)).length=(S.kids a).length:=by rw[List.length_zip];omega
      generalize hz:(S.kids a).zip (S.kids b)=Z at hzl;have ahh:∀(bh:Nat->Nat) (ok:Bool),Js S (bH u2 a b) Z bh ok->Js S up [(x,y)] bh ok:=λ bh ok h=>fin _ _ (.node _ _ _ _ _ _ _ _ _ _ ha2 hb2 tW (.inl ⟨rfl,rfl⟩) hma hmb ⟨g1,g2,g3,g4⟩ (by rw[hz,List.append_nil];exact h))
      refine aQ (ι:=Nat×(Nat->Nat)×List aa) (λ q=>q.1<=(S.kids a).length/\ca S q.2.1 bx kr q.2.2/\kM S bx O q.2.2/\(∀z,z<S.N->q.2.1 z<S.N)/\(∀z,z<S.N->∃r,bw q.2.1 z r)/\cc S q.2.1<cc S up/\Js S (bH u2 a b) (Z.take q.1) q.2.1 true)
       (λ q=>iA [(0,.ptr (bx a) 1 0 0),(1,.ptr (bx b) 1 0 0),(105,.v (.int .i64 (S.kids a).length)),(106,.v (.int .i64 q.1))]) (λ q=>q.2.2) (λ q=>(S.kids a).length- q.1) (0,bH u2 a b,O3)
       ⟨Nat.zero_le _,q1,q2,q3,q4,q5,by rw[List.take_zero];exact .nil _⟩ (.of_eq rfl rfl) ?_
      rintro⟨i,u,Q⟩ ⟨w1,w2,w3,w4,w5,w6,w7⟩;simp only at w1 w2 w3 w4 w5 w6 w7;by_cases hi:i<(S.kids a).length
      ·have di:decide ((i:Int)<((S.kids a).length:Int))=true:=decide_eq_true (by omega);obtain⟨p,hp⟩:∃p,(S.kids a)[i]? =some p:=⟨_,List.getElem?_eq_getElem hi⟩;obtain⟨q,hq⟩:∃q,(S.kids b)[i]? =some q:=⟨_,List.getElem?_eq_getElem (by omega)⟩;have sn:=hs.lt a te p (List.mem_of_getElem? hp);have hql:=hs.lt b si q (List.mem_of_getElem? hq);have hzi:Z[i]? =some (p,q):=by rw[←hz,List.getElem?_zip_eq_some];exact⟨hp,hq⟩
       have htk:Z.take (i+1)=Z.take i++ [(p,q)]:=by rw[List.take_add_one,hzi];rfl
       obtain⟨u',O',ok,hc,hj,l1,l2,l3,l4,l5⟩:=ih (cc S u) (by omega) hs w2 w4 w5 (Nat.le_refl _) sn hql;have hAi:=w2.box a te;have hBi:=w2.box b si;unfold fM at hAi hBi;simp only[di,hAi,hBi,aO,cv,↓OD,OA,reduceEqDiff,reduceCtorEq,reduceAdd,reduceLT,reduceLeDiff,reduceIte];refine dc ?_;simp only[hAi,hBi,aO,cv,↓OD,OA,reduceEqDiff,reduceCtorEq,reduceAdd,reduceLT,reduceLeDiff,reduceIte];rw[og w2 te hi];simp only[hAi,hBi,aO,cv,↓OD,OA,reduceEqDiff,reduceCtorEq,reduceAdd,reduceLT,reduceLeDiff,reduceIte];simp only[w2.row a te (λ e=>by rw[e]at hi;simp at hi),cG,iK hp,hi,AV.cells,hAi,hBi,aO,cv,↓OD,OA,reduceEqDiff,reduceCtorEq,reduceAdd,reduceLT,reduceLeDiff,reduceIte];rw[og w2 si (by omega)];simp only[hAi,hBi,aO,cv,↓OD,OA,reduceEqDiff,reduceCtorEq,reduceAdd,reduceLT,reduceLeDiff,reduceIte];simp only[w2.row b si (λ e=>by rw[e]at g4;simp at g4;rw[g4]at hi;simp at hi),cG,iK hq,show i<(S.kids b).length from by omega,AV.cells,hAi,hBi,aO,cv,↓OD,OA,reduceEqDiff,reduceCtorEq,reduceAdd,reduceLT,reduceLeDiff,reduceIte];refine aj _ _ hc ?_;cases ok with
       |true=>
        simp only[Bool.not_true,↓OD,OA,reduceEqDiff,reduceCtorEq,reduceAdd,reduceLT,reduceLeDiff,reduceIte];refine⟨by kernel_rfl,?_⟩;try simp only[↓OD,OA,reduceEqDiff,reduceCtorEq,reduceAdd,reduceLT,reduceLeDiff,reduceIte]
        exact aL (i+1,u',O') ⟨by show i+1<=_;omega,l1,w3.trans l2,l3,l4,by show cc S u'<_;omega,by show Js S _ (Z.take (i+1)) _ _;rw[htk];exact w7.append rfl hj⟩ (by show(S.kids a).length- (i+1)<(S.kids a).length- i;omega) (.of_eq (by rw[da (by omega) (by have:=w2.few a te;omega)];rfl) rfl)
       |false=>
        simp only[Bool.not_false,↓OD,OA,reduceEqDiff,reduceCtorEq,reduceAdd,reduceLT,reduceLeDiff,reduceIte];refine⟨by kernel_rfl,?_⟩;try simp only[↓OD,OA,reduceEqDiff,reduceCtorEq,reduceAdd,reduceLT,reduceLeDiff,reduceIte]
        exact aU (.inl rfl) ⟨u',false,by simp only[↓OD,OA,reduceEqDiff,reduceCtorEq,reduceAdd,reduceLT,reduceLeDiff,reduceIte],ahh _ _ (by
         have h1:=w7.append rfl hj;rw[←htk]at h1;have h2:=h1.wW (m:=Z.drop (i+1)) rfl;rwa [List.take_append_drop]at h2),l1,w3.trans l2,l3,l4,by omega⟩
      ·have di:decide ((i:Int)<((S.kids a).length:Int))=false:=decide_eq_false (by omega);have hie:i=(S.kids a).length:=by omega
       simp only[di,↓OD,OA,reduceEqDiff,reduceCtorEq,reduceAdd,reduceLT,reduceLeDiff,reduceIte];exact aU (.inl rfl) ⟨u,true,by simp only[↓OD,OA,reduceEqDiff,reduceCtorEq,reduceAdd,reduceLT,reduceLeDiff,reduceIte],ahh _ _ (by rw[hie,←hzl,List.take_length]at w7;exact w7),w2,w3,w4,w5,by omega⟩
     ·have d4:decide (((S.kids a).length:Int)=((S.kids b).length:Int))=false:=decide_eq_false (by omega);simp only[hA,hB,d1,d2,d3,d4,Bool.not_true,aO,cv,↓OD,OA,reduceEqDiff,reduceCtorEq,reduceAdd,reduceLT,reduceLeDiff,reduceIte];rw[j0 L2 te];simp only[hA,hB,d1,d2,d3,d4,Bool.not_true,aO,cv,↓OD,OA,reduceEqDiff,reduceCtorEq,reduceAdd,reduceLT,reduceLeDiff,reduceIte];rw[j0 L2 si];simp only[hA,hB,d1,d2,d3,d4,Bool.not_true,Bool.not_false,aO,cv,↓OD,OA,reduceEqDiff,reduceCtorEq,reduceAdd,reduceLT,reduceLeDiff,reduceIte];refine⟨by kernel_rfl,?_⟩;try simp only[hA,hB,↓OD,OA,reduceEqDiff,reduceCtorEq,reduceAdd,reduceLT,reduceLeDiff,reduceIte]
      exact aU (.inl rfl) (by simp only[↓OD,OA,reduceEqDiff,reduceCtorEq,reduceAdd,reduceLT,reduceLeDiff,reduceIte];exact j6 rfl λ h=>g4 h.2.2.2)
    ·have d3:decide ((S.ty a).Name=(S.ty b).Name)=false:=decide_eq_false g3;simp only[hA,hB,d1,d2,d3,Bool.not_true,Bool.not_false,aO,cv,↓OD,OA,reduceEqDiff,reduceCtorEq,reduceAdd,reduceLT,reduceLeDiff,reduceIte];refine⟨by kernel_rfl,?_⟩;try simp only[hA,hB,↓OD,OA,reduceEqDiff,reduceCtorEq,reduceAdd,reduceLT,reduceLeDiff,reduceIte]
     exact aU (.inl rfl) (by simp only[↓OD,OA,reduceEqDiff,reduceCtorEq,reduceAdd,reduceLT,reduceLeDiff,reduceIte];exact j6 rfl λ h=>g3 h.2.2.1)
   ·have d2:decide ((S.ty a).N=(S.ty b).N)=false:=decide_eq_false g2;simp only[hA,hB,d1,d2,Bool.not_true,Bool.not_false,aO,cv,↓OD,OA,reduceEqDiff,reduceCtorEq,reduceAdd,reduceLT,reduceLeDiff,reduceIte];refine⟨by kernel_rfl,?_⟩;try simp only[hA,hB,↓OD,OA,reduceEqDiff,reduceCtorEq,reduceAdd,reduceLT,reduceLeDiff,reduceIte]
    exact aU (.inl rfl) (by simp only[↓OD,OA,reduceEqDiff,reduceCtorEq,reduceAdd,reduceLT,reduceLeDiff,reduceIte];exact j6 rfl λ h=>g2 h.2.1)
  ·have d1:decide ((S.ty a).Kind=(S.ty b).Kind)=false:=decide_eq_false g1;simp only[hA,hB,d1,Bool.not_true,Bool.not_false,aO,cv,↓OD,OA,reduceEqDiff,reduceCtorEq,reduceAdd,reduceLT,reduceLeDiff,reduceIte];refine⟨by kernel_rfl,?_⟩;try simp only[hA,hB,↓OD,OA,reduceEqDiff,reduceCtorEq,reduceAdd,reduceLT,reduceLeDiff,reduceIte]
   exact aU (.inl rfl) (by simp only[↓OD,OA,reduceEqDiff,reduceCtorEq,reduceAdd,reduceLT,reduceLeDiff,reduceIte];exact j6 rfl λ h=>g1 h.1)
 obtain⟨res,O',⟨bh,ok,rfl,h⟩,hc⟩:=key;exact⟨bh,O',ok,hc,h⟩
end Go.Proofs.Ab
