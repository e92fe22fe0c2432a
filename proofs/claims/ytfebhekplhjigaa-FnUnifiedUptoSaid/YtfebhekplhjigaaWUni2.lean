/-
  Unify of the program: join.
-/
import Derived.Test.YtfebhekplhjigaaWUni
open List(countP_cons)
open Nat(reduceEqDiff reduceLeDiff reduceAdd reduceLT reduceMul)
set_option linter.unusedSimpArgs false
set_option linter.unusedVariables false
namespace Go.Ab
set_option maxRecDepth 100000
def cw(S:Net)(up:Nat->Nat):Nat:=(List.range S.N).countP λ x=>decide (up x=x)
theorem countP_le{p q:Nat->Bool}:∀l:List Nat,(∀x∈l,q x=true->p x=true)->l.countP q<=l.countP p
 | [],_=>Nat.le_refl _
 |x::l,h=>by
  have ih:=countP_le l λ y hy=>h y (by simp[hy])
  rw[countP_cons,countP_cons];cases hq:q x with
  |false=>simp;omega
  |true=>rw[h x (by simp) hq];omega
theorem vv{p q:Nat->Bool}{c:Nat}:∀l:List Nat,c∈l->(∀x∈l,q x=true->p x=true)->p c=true->q c=false->l.countP q<l.countP p
 | [],hc,_,_,_=>by simp at hc
 |x::l,hc,h,hp,hq=>by
  have ih:=countP_le l λ y hy=>h y (by simp[hy])
  rw[countP_cons,countP_cons];by_cases hx:c=x
  ·subst hx;rw[hp,hq];simp;omega
  ·have:=vv l (by rcases List.mem_cons.1 hc with h|h;exact(hx h).elim;exact h) (λ y hy=>h y (by simp[hy])) hp hq;cases hqx:q x with
   |false=>simp;omega
   |true=>rw[h x (by simp) hqx];omega
theorem tq{S:Net}{up:Nat->Nat}{c p:Nat}(hc:c<S.N)(hu:up c=c)(bn:c≠p):cw S (bV up c p)<cw S up:=by
 refine vv (c:=c) _ (by simpa using hc) (λ x _ h=> ?_) (by simpa using hu) (by simp only[bV,if_true,decide_eq_false_iff_not];exact λ e=>bn e.symm);by_cases hx:x=c
 ·subst hx;simpa using hu
 ·have e:bV up c p x=up x:=by unfold bV;rw[if_neg hx]
  rw[e]at h;exact h
theorem abG{S:Net}{up bw:Nat->Nat}(h:∀z,z<S.N->(bw z=z↔up z=z)):cw S bw=cw S up:=by
 apply Nat.le_antisymm
 ·exact countP_le _ λ x hx hq=>by simp only[decide_eq_true_eq]at hq⊢;exact(h x (by simpa using hx)).1 hq
 ·exact countP_le _ λ x hx hq=>by simp only[decide_eq_true_eq]at hq⊢;exact(h x (by simpa using hx)).2 hq
theorem dy.trans{up bw aex:Nat->Nat}(h:dy up bw)(k:dy bw aex):dy up aex:=λ x r hr=>k x r (h x r hr)
end Go.Ab
namespace Go.Proofs.Ab
open Go.Ab
set_option maxRecDepth 100000
set_option maxHeartbeats 4000000
section
variable {S:Net} {up bx kr:Nat->Nat} {O:List ad} {K:KT}
theorem jE(hL:cv S up bx kr O){x:Nat}(hx:x<S.N):mM (lE S kr x) O K=k1 (.v (.int .i64 (S.kids x).length)) O K:=by
 unfold lE;by_cases hk:S.kids x= []
 ·rw[if_pos hk,hk];exact sK _ _
 ·rw[if_neg hk,abU,hL.row x hx hk];simp only[kG,kD,List.length_map,true_and]
theorem mX(hL:cv S up bx kr O){x:Nat}(hx:x<S.N){i:Nat}(hi:i<(S.kids x).length):zD 1 (lE S kr x) (.v (.int .i64 (i:Int))) O K=k1 (.ptr (kr x) (S.kids x).length i 0) O K:=by
 have hk:S.kids x≠[]:=λ e=>by rw[e]at hi;simp at hi
 unfold lE;rw[if_neg hk,sP,hL.row x hx hk];have h1:(kD bx (S.kids x)).length=(S.kids x).length:=by simp[kD]
 simp only[fK,h1,Int.toNat_natCast,true_and];have:(0<=(i:Int)/\(i:Int)<((S.kids x).length:Int)):=⟨by omega,by omega⟩;simp only[this.1,this.2,true_and]
theorem cU(bx:Nat->Nat)(l:List Nat):(kD bx l).length=l.length:=by simp[kD]
theorem iC{bx:Nat->Nat}{l:List Nat}{i k:Nat}(h:l[i]? =some k):(kD bx l).getD i .top= .ptr (bx k) 1 0 0:=by simp[kD,List.getD,h]
theorem zm(S:Net)(kr:Nat->Nat)(x:Nat):(lE S kr x).cg=true:=by unfold lE;split<;>rfl
theorem cv.atV(hL:cv S up bx kr O){c p:Nat}(hc:c<S.N)(hcp:c≠p):cv S (bV up c p) bx kr (O.set (bx c) (.live 66 5 [.agg [au (S.ty c).Kind,au (S.ty c).N,bZ (S.ty c).Name,lE S kr c,.ptr (bx p) 1 0 0]]))/\ke S bx O (O.set (bx c) (.live 66 5 [.agg [au (S.ty c).Kind,au (S.ty c).N,bZ (S.ty c).Name,lE S kr c,.ptr (bx p) 1 0 0]])):=by
 have h:=hL.aiZ (c:=c) (p:=p) hc;have e:bV up c p c=p:=by unfold bV;rw[if_pos rfl]
 have hn:fY S (bV up c p) bx kr c= .live 66 5 [.agg [au (S.ty c).Kind,au (S.ty c).N,bZ (S.ty c).Name,lE S kr c,.ptr (bx p) 1 0 0]]:=by
  unfold fY;rw[acz (by rw[e];exact λ q=>hcp q.symm),e]
 rwa [hn]at h
theorem ij(hL:cv S up bx kr O){x:Nat}(hx:x<S.N):ei O (bx x)=true:=by
 unfold ei;rw[hL.box x hx]
 rfl
end
theorem afq:∀(m:Nat) {S:Net} {up bx kr:Nat->Nat} {O:List ad},S.ok->cv S up bx kr O->(∀x,x<S.N->up x<S.N)->(∀x,x<S.N->∃r,bI up x r)->cw S up<=m->∀{x y:Nat},x<S.N->y<S.N->
  ∃bw O' ok,fE Try.prog F.jG [.ptr (bx x) 1 0 0,.ptr (bx y) 1 0 0] O (.v (.bool ok)) O'/\Js S up [(x,y)] bw ok/\cv S bw bx kr O'/\ke S bx O O'/\(∀x,x<S.N->bw x<S.N)/\(∀x,x<S.N->∃r,bI bw x r)/\cw S bw<=cw S up:=by
 intro m
 induction m using Nat.strongRecOn with
 |_ m ih=>
 intro S up bx kr O hs hL aF xd hm x y hx hy;obtain⟨a,ha⟩:=xd x hx;obtain⟨b,hb⟩:=xd y hy;have qv:=ha.lt aF hx;have pR:=hb.lt aF hy;obtain⟨u1,O1,c1,L1,s1,e1,lt1,r1⟩:=lq hL aF hx ha;obtain⟨u2,O2,c2,L2,s2,e2,lt2,r2⟩:=lq L1 lt1 hy (e1 _ _ hb);have e12:=e1.trans e2;have s12:=s1.trans s2;have ha2:=e12 _ _ ha;have hb2:=e12 _ _ hb;have ht2:∀x,x<S.N->∃r,bI u2 x r:=λ z hz=>by obtain⟨r,hr⟩:=xd z hz;exact⟨r,e12 _ _ hr⟩
 have hr2:cw S u2=cw S up:=(abG r2).trans (abG r1);have fin:∀(bw:Nat->Nat) (ok:Bool),Js S u2 [(x,y)] bw ok->Js S up [(x,y)] bw ok:=λ bw ok h=> .eq _ _ _ _ _ e12 lt2 h
 have key:∃res O',(∃bw ok,res= .v (.bool ok)/\Js S up [(x,y)] bw ok/\cv S bw bx kr O'/\ke S bx O O'/\(∀x,x<S.N->bw x<S.N)/\(∀x,x<S.N->∃r,bI bw x r)/\cw S bw<=cw S up)/\fE Try.prog F.jG [.ptr (bx x) 1 0 0,.ptr (bx y) 1 0 0] O res O':=by
  refine jx A.adA rfl ?_;simp only[A.jG,↓OD,OA,reduceEqDiff,reduceCtorEq];refine aD _ _ c1 ?_;simp only[↓OD,OA,reduceEqDiff,reduceCtorEq];refine aD _ _ c2 ?_;simp only[↓OD,OA,reduceEqDiff,reduceCtorEq];refine⟨ij L2 qv,ij L2 pR,?_⟩;by_cases qw:a=b
  ·subst qw;simp only[decide_true,↓OD,OA,reduceEqDiff,reduceCtorEq];exact aY (.inl rfl) ⟨u2,true,by simp only[OA],fin _ _ (.same _ _ _ _ _ _ _ ha2 hb2 (.nil _)),L2,s12,lt2,ht2,by omega⟩
  have aCx:bx a≠bx b:=λ e=>qw (L2.inj a b qv pR e)
  have d0:decide (bx a=bx b)=false:=decide_eq_false aCx;have hA:=L2.box a qv;have hB:=L2.box b pR;have avC:=pZ (bx:=bx) ha2.root;have avA:=pZ (bx:=bx) hb2.root;unfold fY at hA hB;rw[avC]at hA;rw[avA]at hB;simp only[d0,↓OD,OA];refine dv ?_;have hkA:(lE S kr a).cg=true:=zm _ _ _;have hkB:(lE S kr b).cg=true:=zm _ _ _;have bS:∀n v,n<O2.length->(O2.set n v)[n]? =some v:=λ n v h=>List.getElem?_set_self h
  have un:∀c p,(c=a/\p=b∨c=b/\p=a)->cv S (bV u2 c p) bx kr (O2.set (bx c) (.live 66 5 [.agg [au (S.ty c).Kind,au (S.ty c).N,bZ (S.ty c).Name,lE S kr c,.ptr (bx p) 1 0 0]]))/\ke S bx O (O2.set (bx c) (.live 66 5 [.agg [au (S.ty c).Kind,au (S.ty c).N,bZ (S.ty c).Name,lE S kr c,.ptr (bx p) 1 0 0]]))/\(∀x,x<S.N->bV u2 c p x<S.N)/\(∀x,x<S.N->∃r,bI (bV u2 c p) x r)/\cw S (bV u2 c p)<cw S up:=by
   intro c p h
   have h6:u2 c=c/\u2 p=p/\c≠p/\c<S.N/\p<S.N:=by
    rcases h with⟨rfl,rfl⟩|⟨rfl,rfl⟩
    ·exact⟨ha2.root,hb2.root,qw,qv,pR⟩
    ·exact⟨hb2.root,ha2.root,λ e=>qw e.symm,pR,qv⟩
   obtain⟨g1,g2,g3,g4,g5⟩:=h6;obtain⟨l1,l2⟩:=L2.atV (c:=c) (p:=p) g4 g3;exact⟨l1,s12.trans l2,oM lt2 g5,λ z hz=>by obtain⟨r,hr⟩:=ht2 z hz;exact⟨_,hr.union g1 g2 g3⟩,by rw[←hr2];exact tq g4 g1 g3⟩
  have hnm:∀z,z<S.N->S.lh z->(S.ty z).N=(z:Int):=λ z hz hzm=>by rw[(hs.nC z (hs.isMeta z hz hzm)).1];rfl
  by_cases hma:S.lh a
  ·have k1':decide ((S.ty a).Kind=11)=true:=decide_eq_true hma;by_cases zJ:S.lh b
   ·have k2':decide ((S.ty b).Kind=11)=true:=decide_eq_true zJ;by_cases aF:b<a
    ·have k3':decide ((S.ty b).N<(S.ty a).N)=true:=decide_eq_true (by rw[hnm a qv hma,hnm b pR zJ];omega);obtain⟨q1,q2,q3,q4,q5⟩:=un a b (.inl ⟨rfl,rfl⟩);simp only[hA,hB,k1',k2',au,bZ,↓OD,OA,reduceEqDiff,reduceCtorEq,reduceAdd,reduceLeDiff];refine⟨by kernel_rfl,?_⟩;simp only[k3',hA,au,bZ,↓OD,OA,reduceEqDiff,reduceCtorEq,reduceAdd];exact aY (.inl rfl) ⟨_,true,by simp only[OA],fin _ _ (.mt _ _ _ _ _ _ _ _ _ _ ha2 hb2 qw (.inl ⟨rfl,rfl⟩) hma (λ _=>aF) (.nil _)),q1,q2,q3,q4,by omega⟩
    ·have k3':decide ((S.ty b).N<(S.ty a).N)=false:=decide_eq_false (by rw[hnm a qv hma,hnm b pR zJ];omega);obtain⟨q1,q2,q3,q4,q5⟩:=un b a (.inr ⟨rfl,rfl⟩);simp only[hA,hB,k1',k2',au,bZ,↓OD,OA,reduceEqDiff,reduceCtorEq,reduceAdd,reduceLeDiff];refine⟨by kernel_rfl,?_⟩;simp only[k2',k3',hB,au,bZ,↓OD,OA,reduceEqDiff,reduceCtorEq,reduceAdd,reduceLeDiff];exact aY (.inl rfl) ⟨_,true,by simp only[OA],fin _ _ (.mt _ _ _ _ _ _ _ _ _ _ ha2 hb2 qw (.inr ⟨rfl,rfl⟩) zJ (λ _=>by omega) (.nil _)),q1,q2,q3,q4,by omega⟩
   ·have k2':decide ((S.ty b).Kind=11)=false:=decide_eq_false zJ;obtain⟨q1,q2,q3,q4,q5⟩:=un a b (.inl ⟨rfl,rfl⟩);simp only[hA,hB,k1',k2',au,bZ,↓OD,OA,reduceEqDiff,reduceCtorEq,reduceAdd,reduceLeDiff];refine⟨by kernel_rfl,?_⟩;try simp only[k1',k2',hA,hB,hkA,au,bZ,↓OD,OA,reduceEqDiff,reduceCtorEq,reduceAdd,reduceLT,reduceLeDiff,reduceIte]
    exact aY (.inl rfl) ⟨_,true,by simp only[OA],fin _ _ (.mt _ _ _ _ _ _ _ _ _ _ ha2 hb2 qw (.inl ⟨rfl,rfl⟩) hma (λ h=>(zJ h).elim) (.nil _)),q1,q2,q3,q4,by omega⟩
  have k1':decide ((S.ty a).Kind=11)=false:=decide_eq_false hma;by_cases zJ:S.lh b
  ·have k2':decide ((S.ty b).Kind=11)=true:=decide_eq_true zJ;obtain⟨q1,q2,q3,q4,q5⟩:=un b a (.inr ⟨rfl,rfl⟩);simp only[hA,hB,k1',k2',au,bZ,↓OD,OA,reduceEqDiff,reduceCtorEq,reduceAdd,reduceLeDiff];refine⟨by kernel_rfl,?_⟩;try simp only[k1',k2',hA,hB,hkB,au,bZ,↓OD,OA,reduceEqDiff,reduceCtorEq,reduceAdd,reduceLT,reduceLeDiff,reduceIte]
   exact aY (.inl rfl) ⟨_,true,by simp only[OA],fin _ _ (.mt _ _ _ _ _ _ _ _ _ _ ha2 hb2 qw (.inr ⟨rfl,rfl⟩) zJ (λ h=>(hma h).elim) (.nil _)),q1,q2,q3,q4,by omega⟩
  have k2':decide ((S.ty b).Kind=11)=false:=decide_eq_false zJ;simp only[hA,hB,k1',k2',au,bZ,↓OD,OA,reduceEqDiff,reduceCtorEq,reduceAdd,reduceLeDiff];refine⟨by kernel_rfl,?_⟩;try simp only[k1',k2',hA,hB,au,bZ,↓OD,OA,reduceEqDiff,reduceCtorEq,reduceAdd,reduceLT,reduceLeDiff,reduceIte]
  refine dv ?_
  have jH:∀{ok:Bool},ok=false->¬S.head a b->∃bw ok',AV.v (.bool ok)= .v (.bool ok')/\Js S up [(x,y)] bw ok'/\cv S bw bx kr O2/\ke S bx O O2/\(∀x,x<S.N->bw x<S.N)/\(∀x,x<S.N->∃r,bI bw x r)/\cw S bw<=cw S up:=
   λ kV hn=>⟨u2,false,by rw[kV],fin _ _ (.jH _ _ _ _ _ _ ha2 hb2 qw hma zJ hn),L2,s12,lt2,ht2,by omega⟩
  by_cases g1:(S.ty a).Kind=(S.ty b).Kind
  ·have d1:decide ((S.ty a).Kind=(S.ty b).Kind)=true:=decide_eq_true g1;by_cases g2:(S.ty a).N=(S.ty b).N
   ·have d2:decide ((S.ty a).N=(S.ty b).N)=true:=decide_eq_true g2;by_cases g3:(S.ty a).Name=(S.ty b).Name
    ·have d3:decide ((S.ty a).Name=(S.ty b).Name)=true:=decide_eq_true g3;by_cases g4:(S.kids a).length=(S.kids b).length
     ·have d4:decide (((S.kids a).length:Int)=((S.kids b).length:Int))=true:=decide_eq_true (by omega);simp only[hA,hB,d1,d2,d3,Bool.not_true,au,bZ,↓OD,OA,reduceEqDiff,reduceCtorEq,reduceAdd,reduceLeDiff];rw[jE L2 qv];simp only[hB,au,bZ,↓OD,OA,reduceEqDiff,reduceCtorEq,reduceAdd,reduceLeDiff];rw[jE L2 pR];simp only[hA,d4,Bool.not_true,au,bZ,↓OD,OA,reduceEqDiff,reduceCtorEq,reduceAdd];refine⟨by kernel_rfl,?_⟩;obtain⟨O3,hO3,q1,q2,q3,q4,q5⟩:∃O3,O2.set (bx a) (.live 66 5 [.agg [.v (.int .i64 (S.ty a).Kind),.v (.int .i64 (S.ty a).N),.v (.string (S.ty a).Name),lE S kr a,.ptr (bx b) 1 0 0]])=O3/\cv S (bV u2 a b) bx kr O3/\ke S bx O O3/\(∀x,x<S.N->bV u2 a b x<S.N)/\(∀x,x<S.N->∃r,bI (bV u2 a b) x r)/\cw S (bV u2 a b)<cw S up:=⟨_,rfl,un a b (.inl ⟨rfl,rfl⟩)⟩;have hA3:=q1.box a qv;unfold fY at hA3;try simp only[hO3,hA3,au,bZ,OA,reduceAdd,reduceLeDiff]
      rw[jE q1 qv];simp only[↓OD,OA,reduceEqDiff,reduceCtorEq];have hzl:((S.kids a).zip (S.kids b)).length=(S.kids a).length:=by rw[List.length_zip];omega
      generalize hz:(S.kids a).zip (S.kids b)=Z at hzl;have afD:∀(bw:Nat->Nat) (ok:Bool),Js S (bV u2 a b) Z bw ok->Js S up [(x,y)] bw ok:=λ bw ok h=>fin _ _ (.node _ _ _ _ _ _ _ _ _ _ ha2 hb2 qw (.inl ⟨rfl,rfl⟩) hma zJ ⟨g1,g2,g3,g4⟩ (by rw[hz,List.append_nil];exact h))
      refine bd (ι:=Nat×(Nat->Nat)×List ad) (λ q=>q.1<=(S.kids a).length/\cv S q.2.1 bx kr q.2.2/\ke S bx O q.2.2/\(∀z,z<S.N->q.2.1 z<S.N)/\(∀z,z<S.N->∃r,bI q.2.1 z r)/\cw S q.2.1<cw S up/\Js S (bV u2 a b) (Z.take q.1) q.2.1 true)
       (λ q=>jw [(0,.ptr (bx a) 1 0 0),(1,.ptr (bx b) 1 0 0),(105,.v (.int .i64 (S.kids a).length)),(106,.v (.int .i64 q.1))]) (λ q=>q.2.2) (λ q=>(S.kids a).length- q.1) (0,bV u2 a b,O3)
       ⟨Nat.zero_le _,q1,q2,q3,q4,q5,by rw[List.take_zero];exact .nil _⟩ (.of_eq rfl rfl) ?_
      rintro⟨i,u,Q⟩ ⟨w1,w2,w3,w4,w5,w6,w7⟩;simp only at w1 w2 w3 w4 w5 w6 w7;by_cases hi:i<(S.kids a).length
      ·have di:decide ((i:Int)<((S.kids a).length:Int))=true:=decide_eq_true (by omega);obtain⟨p,hp⟩:∃p,(S.kids a)[i]? =some p:=⟨_,List.getElem?_eq_getElem hi⟩;obtain⟨q,hq⟩:∃q,(S.kids b)[i]? =some q:=⟨_,List.getElem?_eq_getElem (by omega)⟩;have uw:=hs.lt a qv p (List.mem_of_getElem? hp);have hql:=hs.lt b pR q (List.mem_of_getElem? hq);have hzi:Z[i]? =some (p,q):=by rw[←hz,List.getElem?_zip_eq_some];exact⟨hp,hq⟩
       have htk:Z.take (i+1)=Z.take i++ [(p,q)]:=by rw[List.take_add_one,hzi];rfl
       obtain⟨u',O',ok,hc,hj,l1,l2,l3,l4,l5⟩:=ih (cw S u) (by omega) hs w2 w4 w5 (Nat.le_refl _) uw hql;have hAi:=w2.box a qv;have hBi:=w2.box b pR;unfold fY at hAi hBi;simp only[di,↓OD,OA,reduceEqDiff,reduceCtorEq];refine dv ?_;simp only[hAi,au,bZ,↓OD,OA,reduceEqDiff,reduceCtorEq,reduceAdd,reduceLeDiff];rw[mX w2 qv hi];simp only[hBi,au,bZ,↓OD,OA,reduceEqDiff,reduceCtorEq,reduceAdd,reduceLeDiff];simp only[w2.row a qv (λ e=>by rw[e]at hi;simp at hi),cU,iC hp,hi,AV.cells,OA];rw[mX w2 pR (by omega)];simp only[↓OD,OA,reduceEqDiff,reduceCtorEq];simp only[w2.row b pR (λ e=>by rw[e]at g4;simp at g4;rw[g4]at hi;simp at hi),cU,iC hq,show i<(S.kids b).length from by omega,AV.cells,OA];refine aD _ _ hc ?_;cases ok with
       |true=>
        simp only[Bool.not_true,↓OD,OA,reduceEqDiff,reduceCtorEq];refine⟨by kernel_rfl,?_⟩;try simp only[↓OD,OA,reduceEqDiff,reduceCtorEq,reduceAdd,reduceLT,reduceLeDiff,reduceIte]
        exact a6 (i+1,u',O') ⟨by show i+1<=_;omega,l1,w3.trans l2,l3,l4,by show cw S u'<_;omega,by show Js S _ (Z.take (i+1)) _ _;rw[htk];exact w7.append rfl hj⟩ (by show(S.kids a).length- (i+1)<(S.kids a).length- i;omega) (.of_eq (by rw[bh (by omega) (by have:=w2.few a qv;omega)];rfl) rfl)
       |false=>
        simp only[Bool.not_false,↓OD,OA,reduceEqDiff,reduceCtorEq];refine⟨by kernel_rfl,?_⟩;try simp only[↓OD,OA,reduceEqDiff,reduceCtorEq,reduceAdd,reduceLT,reduceLeDiff,reduceIte]
        exact aY (.inl rfl) ⟨u',false,by simp only[OA],afD _ _ (by
         have h1:=w7.append rfl hj;rw[←htk]at h1;have h2:=h1.uc (m:=Z.drop (i+1)) rfl;rwa [List.take_append_drop]at h2),l1,w3.trans l2,l3,l4,by omega⟩
      ·have di:decide ((i:Int)<((S.kids a).length:Int))=false:=decide_eq_false (by omega);have hie:i=(S.kids a).length:=by omega
       simp only[di,↓OD,OA,reduceEqDiff,reduceCtorEq];exact aY (.inl rfl) ⟨u,true,by simp only[OA],afD _ _ (by rw[hie,←hzl,List.take_length]at w7;exact w7),w2,w3,w4,w5,by omega⟩
     ·have d4:decide (((S.kids a).length:Int)=((S.kids b).length:Int))=false:=decide_eq_false (by omega);simp only[hA,hB,d1,d2,d3,Bool.not_true,au,bZ,↓OD,OA,reduceEqDiff,reduceCtorEq,reduceAdd,reduceLeDiff];rw[jE L2 qv];simp only[hB,au,bZ,↓OD,OA,reduceEqDiff,reduceCtorEq,reduceAdd,reduceLeDiff];rw[jE L2 pR];simp only[d4,Bool.not_false,↓OD,OA,reduceEqDiff,reduceCtorEq];refine⟨by kernel_rfl,?_⟩;try simp only[hA,hB,↓OD,OA,reduceEqDiff,reduceCtorEq,reduceAdd,reduceLT,reduceLeDiff,reduceIte]
      exact aY (.inl rfl) (by simp only[OA];exact jH rfl λ h=>g4 h.2.2.2)
    ·have d3:decide ((S.ty a).Name=(S.ty b).Name)=false:=decide_eq_false g3;simp only[hA,hB,d1,d2,d3,Bool.not_true,Bool.not_false,au,bZ,↓OD,OA,reduceEqDiff,reduceCtorEq,reduceAdd,reduceLeDiff];refine⟨by kernel_rfl,?_⟩;try simp only[hA,hB,↓OD,OA,reduceEqDiff,reduceCtorEq,reduceAdd,reduceLT,reduceLeDiff,reduceIte]
     exact aY (.inl rfl) (by simp only[OA];exact jH rfl λ h=>g3 h.2.2.1)
   ·have d2:decide ((S.ty a).N=(S.ty b).N)=false:=decide_eq_false g2;simp only[hA,hB,d1,d2,Bool.not_true,Bool.not_false,au,bZ,↓OD,OA,reduceEqDiff,reduceCtorEq,reduceAdd,reduceLeDiff];refine⟨by kernel_rfl,?_⟩;try simp only[hA,hB,↓OD,OA,reduceEqDiff,reduceCtorEq,reduceAdd,reduceLT,reduceLeDiff,reduceIte]
    exact aY (.inl rfl) (by simp only[OA];exact jH rfl λ h=>g2 h.2.1)
  ·have d1:decide ((S.ty a).Kind=(S.ty b).Kind)=false:=decide_eq_false g1;simp only[hA,hB,d1,Bool.not_false,au,bZ,↓OD,OA,reduceEqDiff,reduceCtorEq,reduceAdd,reduceLeDiff];refine⟨by kernel_rfl,?_⟩;try simp only[hA,hB,↓OD,OA,reduceEqDiff,reduceCtorEq,reduceAdd,reduceLT,reduceLeDiff,reduceIte]
   exact aY (.inl rfl) (by simp only[OA];exact jH rfl λ h=>g1 h.1)
 obtain⟨res,O',⟨bw,ok,rfl,h⟩,hc⟩:=key;exact⟨bw,O',ok,hc,h⟩
end Go.Proofs.Ab
