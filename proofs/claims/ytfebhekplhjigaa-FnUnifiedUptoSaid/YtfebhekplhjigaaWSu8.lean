/-
  Unify of the reference.
-/
import Derived.Test.YtfebhekplhjigaaWSu7
import Derived.Test.YtfebhekplhjigaaCUr
import Derived.Test.YtfebhekplhjigaaWUni7
open Int(toNat_natCast)
open Nat(zero_le le_refl)
open List(length_map all_append)
open Nat(reduceEqDiff reduceLeDiff reduceAdd reduceLT reduceMul)
set_option linter.unusedSimpArgs false
set_option linter.unusedVariables false
namespace Go.Proofs.Ab
open Go.Ab
set_option maxRecDepth 100000
set_option maxHeartbeats 4000000
theorem ue{m:Int}{a b:List aa}{rs:List dG}{x:AX}(hx:x= .ret∨x= .normal){e:Env}{O:List ad}{c:Int}(h:dK e O rs [] λ xs=>br xs= .a9 [.row 0 0,.v (.int .i64 c)])(hO:O[0]? =some (.live 29 4 []))(hu:gH m a b [] c):aeN 0 rs (UQ m a b) x e O:=
 yy (nl:=false) hx h (ty:=29) (z:=4) (ys:=[]) (xs:=[]) (by rw[hO];simp[cq]) rfl (.nil _) ⟨[],c,rfl,rfl,hu,λ t ht=>by simp at ht⟩
structure agH(M:Nat)(ps:List (aa×aa))(j:Nat)(S:Net)(u:Nat->Nat)(tr kk ur:Nat)(aW:Nat->Nat)(qs:List (Nat×Nat))(Q:List ad):Prop where
 run:pQ S u qs ps
 M:S.M=M
 lay:mn S u 1 tr kk ur aW Q
 out:Q[0]? =some (.live 29 4 [])
 one:1<=tr/\1<=kk/\1<=ur/\∀x,x<S.N->1<=aW x
 cnt:S.N<=300+400*j
theorem agH.ext{M:Nat}{ps:List (aa×aa)}{i j:Nat}{S S':Net}{u u':Nat->Nat}{tr kk ur sk rD si:Nat}{aW ig:Nat->Nat}{qs:List (Nat×Nat)}{Q Q':List ad}(h:agH M ps i S u tr kk ur aW qs Q)(hs:S'.ok)(hl:mn S' u' 1 sk rD si ig Q')(he:sZ Q.length S u aW S' u' ig)(hk:iK 1 tr kk ur Q sk rD si Q')(hc:S'.N<=300+400*j):agH M ps j S' u' sk rD si ig qs Q':=by
 obtain⟨o1,o2,o3,o4⟩:=h.one;have hql:=(List.getElem?_eq_some_iff.1 h.out).1;refine⟨h.run.grow he.grow hs λ x h1 h2=>(he.new x h1 h2).2.2.1,he.M.trans h.M,hl,by rw[hk.ar 0 hql (by omega) (by omega) (by omega) (by omega)];exact h.out,⟨?_,?_,?_,λ x hx=> ?_⟩,hc⟩
 ·rcases hk.tr with e|e<;>omega
 ·rcases hk.kk with e|e<;>omega
 ·rcases hk.ur with e|e<;>omega
 ·by_cases oH:x<S.N
  ·rw[(he.fx x oH).2.2.2];exact o4 x oH
  ·have:=(he.new x (by omega) hx).2.2.2;omega
theorem mn.aBf{S:Net}{u aW:Nat->Nat}{nb tr kk ur:Nat}{O:List ad}(h:mn S u nb tr kk ur aW O)(hN:0<S.N):kq S u nb tr kk ur aW O:=by
 rcases h with⟨h0,_⟩|h
 ·omega
 ·exact h
structure TyQ(S:Net)(u:Nat->Nat)(tr kk ur:Nat)(aW:Nat->Nat)(ts:List aa)(i:Nat)(ys:List AV)(Q:List ad):Prop where
 lay:kq S u 1 tr kk ur aW Q
 one:1<=tr/\1<=kk/\1<=ur/\∀x,x<S.N->1<=aW x
 len:ys.length=i
 split:Split Q ys ((ts.take i).map aa.av)
 own:∀(a:Nat) y (j m:Nat),ys[a]? =some y->y.cells[j]? =some (.own m)->0<m/\∃d,Q[m]? =some (.own d)
 row:Q[0]? =some (.live 29 4 ys)
theorem TyQ.step{S:Net}{u aW:Nat->Nat}{tr kk ur:Nat}{ts:List aa}{i:Nat}{ys:List AV}{Q:List ad}(hi:TyQ S u tr kk ur aW ts i ys Q){t:aa}(ht:ts[i]? =some t){O' Q3:List ad}{k:Nat}
  (h1:O'[k]? =some (.own (.sl (t.Kids.map aa.av)))) (h2:Q.length<=k) (h6:kh Q O')
  (h7:∀n,n<O'.length->n≠0->Q3[n]? =O'[n]?)
  (hr:Q3[0]? =some (.live 29 4 (ys++ [.agg [au t.Kind,au t.N,bZ t.Name,.own k]]))):
  TyQ S u tr kk ur aW ts (i+1) (ys++ [.agg [au t.Kind,au t.N,bZ t.Name,.own k]]) Q3:=by
 obtain⟨o1,o2,o3,o4⟩:=hi.one;have hQO:=h6.1;have hkl:=(List.getElem?_eq_some_iff.1 h1).1;have hQ0:=(List.getElem?_eq_some_iff.1 hi.row).1
 have ck:∀{n:Nat} {ob:ad},Q[n]? =some ob->n≠0->Q3[n]? =some ob:=λ hn h0=>by
  have:=(List.getElem?_eq_some_iff.1 hn).1;rw[h7 _ (by omega) h0,h6.2 _ this];exact hn
 have pM:∀(a:Nat) y (j m:Nat),ys[a]? =some y->y.cells[j]? =some (.own m)->Q3[m]? =Q[m]? /\m≠k/\0<m:=λ a y j m hy hc=>by
  obtain⟨g1,d,g2⟩:=hi.own a y j m hy hc;have mc:=(List.getElem?_eq_some_iff.1 g2).1;exact⟨by rw[ck g2 (by omega),g2],by omega,g1⟩
 have hl:=hi.lay;refine⟨⟨ck hl.box (by decide),ck hl.ty (by omega),ck hl.kids (by omega),λ x hx=>ck (hl.wK x hx) (by have:=o4 x hx;omega),ck hl.up (by omega),hl.sep,hl.few,hl.small⟩,hi.one,by simp[hi.len],?_,λ a y j m hy hc=> ?_,hr⟩
 ·have:=hi.split.add (O':=Q3) (K:=t.Kind) (N:=t.N) (S:=t.Name) (kk:=k) (a:= .sl (t.Kids.map aa.av)) (by rw[h7 k hkl (by omega)];exact h1) λ a y j m hy hc=>⟨(pM a y j m hy hc).1,(pM a y j m hy hc).2.1⟩
  rw[aa.eta]at this;rw[List.take_add_one,ht,List.map_append];exact this
 ·by_cases ha:a<ys.length
  ·rw[List.getElem?_append_left ha]at hy;obtain⟨g1,g2,g3⟩:=pM a y j m hy hc;obtain⟨_,d,g4⟩:=hi.own a y j m hy hc;exact⟨g3,d,by rw[g1];exact g4⟩
  ·rw[List.getElem?_append_right (by omega)]at hy;generalize a- ys.length=q at hy;cases q with
   |succ q=>simp at hy
   |zero=>
    simp at hy;subst hy;have:=ade hc;subst this;exact⟨by omega,_,by rw[h7 m hkl (by omega)];exact h1⟩
theorem ym(m:Int)(a b:List aa)(hm:l8 m)(ha:(a.map aa.wt).sum+a.length<=1048576)(hb:(b.map aa.wt).sum+b.length<=1048576):
  ∃res O',UQ m a b res O'/\fE Try.prog F.ji [au m,.sl (a.map aa.av),.sl (b.map aa.av)] [] res O':=by
 refine jx A.aaW rfl ?_;have hna:AV.ae [.sl (a.map aa.av),au m]=true:=by simp only[AV.ae,AV.ag,Bool.and_true];exact bA aa.ag
 have hnb:AV.ae [.sl (b.map aa.av),au m]=true:=by simp only[AV.ae,AV.ag,Bool.and_true];exact bA aa.ag
 simp only[A.ji,au,↓OD,OA,reduceEqDiff,reduceCtorEq];refine aD _ _ ((jA m 0 300).any rfl rfl _) ?_;have bad:ch m a b=false->gH m a b [] 1:=λ h=> .inl ⟨h,rfl,rfl⟩
 cases h1:l9 m 0 300 with
 |false=>
  simp only[Bool.not_false,↓OD,OA,reduceEqDiff,reduceCtorEq];exact ue (.inl rfl) (by simp only[OA,reduceEqDiff]) rfl (bad (by simp[ch,h1]))
 |true=>
 simp only[Bool.not_true,length_map,↓OD,OA,reduceEqDiff,reduceCtorEq];by_cases h2:a.length=b.length;rotate_left
 ·have d2:decide ((a.length:Int)=(b.length:Int))=false:=decide_eq_false (by omega);simp only[d2,Bool.not_false,↓OD,OA,reduceEqDiff,reduceCtorEq];exact ue (.inl rfl) (by simp only[OA,reduceEqDiff]) rfl (bad (by simp[ch,h2]))
 have d2:decide ((a.length:Int)=(b.length:Int))=true:=decide_eq_true (by omega);simp only[d2,Bool.not_true,length_map,↓OD,OA,reduceEqDiff,reduceCtorEq];by_cases h3:a.length<=200;rotate_left
 ·have d3:decide ((200:Int)<(a.length:Int))=true:=decide_eq_true (by omega);simp only[d3,↓OD,OA,reduceEqDiff,reduceCtorEq];exact ue (.inl rfl) (by simp only[OA,reduceEqDiff]) rfl (bad (by simp[ch,h3]))
 have d3:decide ((200:Int)<(a.length:Int))=false:=decide_eq_false (by omega);simp only[d3,↓OD,OA,reduceEqDiff,reduceCtorEq];refine aD _ _ ((p8 a m ha).any hna rfl _) ?_;cases h4:a.all (fH m)with
 |false=>
  simp only[Bool.not_false,↓OD,OA,reduceEqDiff,reduceCtorEq];exact ue (.inl rfl) (by simp only[OA,reduceEqDiff]) rfl (bad (by unfold ch;rw[all_append,h4,Bool.false_and,Bool.and_false]))
 |true=>
 simp only[Bool.not_true,↓OD,OA,reduceEqDiff,reduceCtorEq];refine aD _ _ ((p8 b m hb).any hnb rfl _) ?_;cases h5:b.all (fH m)with
 |false=>
  simp only[Bool.not_false,↓OD,OA,reduceEqDiff,reduceCtorEq];exact ue (.inl rfl) (by simp only[OA,reduceEqDiff]) rfl (bad (by unfold ch;rw[all_append,h5,Bool.and_false,Bool.and_false]))
 |true=>
 have kV:ch m a b=true:=by
  unfold ch;rw[all_append,h1,h4,h5,decide_eq_true h2,decide_eq_true h3];rfl
 clear bad hna hnb;obtain⟨g1,g2,g3,g4,g5⟩:=kP kV
 have ko:∀t,t∈a∨t∈b->t.dw<=200:=λ t ht=>by
  have:fH m t=true:=by
   rcases ht with h|h
   ·exact List.all_eq_true.1 h4 t h
   ·exact List.all_eq_true.1 h5 t h
  unfold fH at this;simp only[Bool.and_eq_true,decide_eq_true_eq]at this;exact this.1.2
 obtain⟨M,rfl⟩:∃M:Nat,m=(M:Int):=⟨m.toNat,by omega⟩;have no2:(¬∃σ:Int->aa,∀p∈a.zip b,p.1.sub σ=p.2.sub σ)->gH M a b [] 2:=λ h=> .inr ⟨kV,.inl ⟨rfl,rfl,h⟩⟩
 obtain⟨tr0,kk0,ur0,zg,O0,c0,l0,m0,o1,o2,o3,o4⟩:=yb M (by omega) [.live 29 4 []];simp only[Bool.not_true,↓OD,OA,reduceEqDiff,reduceCtorEq];refine aD _ _ c0 ?_;simp only[↓OD,OA,reduceEqDiff,reduceCtorEq];have P0:agH M [] 0 (Net.jq M) id tr0 kk0 ur0 zg [] O0:=⟨.init M,rfl,l0,m0.get (n:=0) rfl,⟨o1,o2,o3,o4⟩,by show M<=_;omega⟩;clear l0 m0 o1 o2 o3 o4 c0 h1 h4 h5 d2 d3
 refine bd (ι:=Nat×Net×(Nat->Nat)×Nat×Nat×Nat×(Nat->Nat)×List (Nat×Nat)×List ad)
  (λ q=>q.1<=a.length/\agH M ((a.zip b).take q.1) q.1 q.2.1 q.2.2.1 q.2.2.2.1 q.2.2.2.2.1 q.2.2.2.2.2.1 q.2.2.2.2.2.2.1 q.2.2.2.2.2.2.2.1 q.2.2.2.2.2.2.2.2)
  (λ q=>jw [(0,.v (.int .i64 (M:Nat))),(1,.sl (a.map aa.av)),(2,.sl (b.map aa.av)),(8,.row 0 0),(9,.ptr 1 1 0 0),(10,.v (.int .i64 q.1))])
  (λ q=>q.2.2.2.2.2.2.2.2) (λ q=>a.length- q.1) (0,Net.jq M,id,tr0,kk0,ur0,zg,[],O0) ⟨zero_le _,by rw[List.take_zero];exact P0⟩ (.of_eq (by first|rfl|simp) rfl) ?_
 rintro⟨j,S,u,tr,kk,ur,aW,qs,Q⟩ ⟨w1,hP⟩;simp only at w1 hP;by_cases hj:j<a.length
 ·have d:decide ((j:Int)<(a.length:Int))=true:=decide_eq_true (by omega);obtain⟨x,hx⟩:∃x,a[j]? =some x:=⟨_,List.getElem?_eq_getElem hj⟩;obtain⟨y,hy⟩:∃y,b[j]? =some y:=⟨_,List.getElem?_eq_getElem (by omega)⟩;have hxm:=List.mem_of_getElem? hx;have hym:=List.mem_of_getElem? hy;have hxw:=cY aa.wt hxm;have hyw:=cY aa.wt hym;obtain⟨x1,x2⟩:=g5 x (.inl hxm);obtain⟨y1,y2⟩:=g5 y (.inr hym);have xs:=ko x (.inl hxm);have ys:=ko y (.inr hym);have avr:=hP.cnt;simp only[toNat_natCast]at x2 y2;obtain⟨S2,u2,zf,tr2,kk2,ur2,Q2,r1,c1,s1,l1,e1,n1,f1,t1,v1⟩:=oN x hP.run.ok hP.lay x1 (by rw[hP.M];exact x2) (by omega) (by omega);have hP2:=hP.ext (j:=j+1) s1 l1 e1 n1 (by omega);obtain⟨S3,u3,ayc,tr3,kk3,ur3,Q3,r2,c2,s2,l2,e2,n2,f2,t2,v2⟩:=oN y s1 l1 y1 (by rw[hP2.M];exact y2) (by omega) (by omega);have hP3:=hP2.ext (j:=j+1) s2 l2 e2 n2 (by omega);have aia:r1<S3.N:=Nat.lt_of_lt_of_le f1 e2.N;have ht1:S3.ty r1=x:=by rw[(e2.fx r1 f1).1,t1]
  have hLR:=hP3.lay.aBf (by omega);obtain⟨u4,Q4,ok,c3,j1,l3,m3,p3,q3,v3⟩:=aaK s2 _ hLR hP3.run.uf.lt hP3.run.uf.tot (le_refl _) aia f2;have hgx:(a.map aa.av).getD j .top=x.av:=by simp[List.getD,hx]
  have hgy:(b.map aa.av).getD j .top=y.av:=by simp[List.getD,hy]
  have htk:(a.zip b).take (j+1)=(a.zip b).take j++ [(S3.ty r1,S3.ty r2)]:=by
   rw[List.take_add_one,ht1,t2];have:(a.zip b)[j]? =some (x,y):=by rw[List.getElem?_zip_eq_some];exact⟨hx,hy⟩
   rw[this];rfl
  obtain⟨z1,z2,z3,z4⟩:=hP3.one;have abj:Q4[0]? =some (.live 29 4 []):=by rw[m3.2 0 (List.getElem?_eq_some_iff.1 hP3.out).1 (by omega)];exact hP3.out
  simp only[length_map,toNat_natCast,d,hgx,aa.width,aa.isAgg,↓OD,OA,reduceEqDiff,reduceCtorEq];refine⟨by omega,by omega,?_⟩;try simp only[hgx,aa.width,aa.isAgg,aa.storable,↓OD,OA,reduceEqDiff,reduceCtorEq,reduceAdd,reduceLT,reduceLeDiff,reduceIte]
  refine aD _ _ c1 ?_;simp only[length_map,toNat_natCast,hgy,aa.width,aa.isAgg,au,↓OD,OA,reduceEqDiff,reduceCtorEq];refine⟨by omega,by omega,?_⟩;try simp only[hgy,aa.width,aa.isAgg,aa.storable,↓OD,OA,reduceEqDiff,reduceCtorEq,reduceAdd,reduceLT,reduceLeDiff,reduceIte]
  refine aD _ _ c2 ?_;simp only[au,↓OD,OA,reduceEqDiff,reduceCtorEq];refine aD _ _ c3 ?_;cases ok with
  |false=>
   simp only[Bool.not_false,↓OD,OA,reduceEqDiff,reduceCtorEq];refine ue (.inl rfl) (by simp only[OA,reduceEqDiff]) abj (no2 λ ⟨σ,zE⟩=> ?_);have mu:=hP3.run.jH aia f2 j1;rw[←htk]at mu;exact mu ⟨σ,λ p hp=>zE p (List.mem_of_mem_take hp)⟩
  |true=>
   simp only[Bool.not_true,↓OD,OA,reduceEqDiff,reduceCtorEq];have bo:=hP3.run.join aia f2 j1;rw[←htk]at bo;exact a6 (j+1,S3,u4,tr3,kk3,ur3,ayc,_,Q4) ⟨hj,bo,hP3.M,.inr l3,abj,⟨z1,z2,z3,z4⟩,hP3.cnt⟩ (by show a.length- (j+1)<a.length- j;omega) (.of_eq (by rw[bh (by omega) (by omega)];rfl) rfl)
 have d:decide ((j:Int)<(a.length:Int))=false:=decide_eq_false (by omega);have mf:(a.zip b).take j=a.zip b:=List.take_of_length_le (by rw[List.length_zip];omega);rw[mf]at hP;clear P0 g5 ko;simp only[d,length_map,↓OD,OA,reduceEqDiff,reduceCtorEq,reduceAdd];have bo:=hP.run;have hML:M<=S.N:=by rw[←hP.M];exact bo.ok.le
 have abj:=hP.out;obtain⟨o1,o2,o3,o4⟩:=hP.one;rcases hP.lay with⟨hN0,e1,e2,e3,vo⟩|hL
 ·have hM0:M=0:=by omega
  subst hM0;have hC:=bo.canon (τ:=cN) (by rw[hP.M];intro k hk;omega);rw[hP.M]at hC;have hbE:∀E:List ad,(Q++E)[1]? =some _:=λ E=>(al (List.getElem?_eq_some_iff.1 vo).1).trans vo
  have hoE:∀E:List ad,(Q++E)[0]? =some _:=λ E=>(al (List.getElem?_eq_some_iff.1 abj).1).trans abj
  simp only[vo,↓OD,OA,reduceEqDiff,reduceCtorEq,reduceAdd];refine⟨by decide,by decide,by decide,by decide,?_⟩;refine bd (ι:=Unit) (λ _=>True) (λ _=>jw [(0,.v (.int .i64 ((0:Nat):Int))),(8,.row 0 0),(9,.ptr 1 1 0 0),(13,.row Q.length 0),(14,.v (.int .i64 0))]) (λ _=>Q++ [.live 3 1 []]) (λ _=>0) () trivial (.of_eq rfl rfl) ?_;rintro⟨⟩ _;have d0:decide ((0:Int)<0)=false:=by decide
  have d1:decide ((0:Int)<((0:Nat):Int))=false:=by decide
  simp only[hbE,d0,↓OD,OA,reduceEqDiff,reduceCtorEq,reduceAdd];refine bd (ι:=Unit) (λ _=>True) (λ _=>jw [(0,.v (.int .i64 ((0:Nat):Int))),(8,.row 0 0),(9,.ptr 1 1 0 0),(13,.row Q.length 0),(15,.v (.int .i64 0))]) (λ _=>Q++ [.live 3 1 []]) (λ _=>0) () trivial (.of_eq rfl rfl) ?_;rintro⟨⟩ _;simp only[d1,↓OD,OA,reduceEqDiff,reduceCtorEq];refine bd (ι:=Unit) (λ _=>True) (λ _=>jw [(0,.v (.int .i64 ((0:Nat):Int))),(8,.row 0 0),(9,.ptr 1 1 0 0),(16,.v (.int .i64 0))]) (λ _=>Q++ [.live 3 1 []]) (λ _=>0) () trivial (.of_eq rfl rfl) ?_;rintro⟨⟩ _;simp only[d1,↓OD,OA,reduceEqDiff,reduceCtorEq];exact ue (.inl rfl) (by simp only[OA,reduceEqDiff]) (hoE _) (.inr ⟨kV,.inr ⟨cN,hC,.inr ⟨rfl,λ k hk=>absurd hk (Nat.not_lt_zero _),rfl⟩⟩⟩)
 have vo:=hL.box;have hup:=hL.up;have hsm:=hP.cnt
 have arA:∀N:Nat,List.replicate N (AV.v (.int .i64 0))=xY (λ _=>0) N:=λ N=>by
  apply List.ext_getElem?;intro k;simp only[xY,List.getElem?_map,List.getElem?_replicate];by_cases hk:k<N
  ·rw[if_pos hk,List.getElem?_range hk];rfl
  ·rw[if_neg hk,List.getElem?_eq_none (by simpa using hk)];rfl
 simp only[vo,hup,cE,toNat_natCast,arA,↓OD,OA,reduceEqDiff,reduceCtorEq,reduceAdd];obtain⟨lt1,lt2,lt3,lt4,lt5⟩:=hP.lay.lts;have R0:abr S u 1 tr kk ur aW Q.length (λ _=>0) (Q++ [.live 3 1 (xY (λ _=>0) S.N)]):=⟨hL.app _,ku,by omega,by omega,by omega,by omega,λ x hx=>by have:=lt5 x hx;omega⟩;have O0':(Q++ [ad.live 3 1 (xY (λ _=>0) S.N)])[0]? =some (.live 29 4 []):=(al (by omega)).trans abj;have hsr:1<=Q.length:=by omega
 refine⟨by omega,by omega,by omega,by omega,?_⟩;clear vo hup lt1 lt2 lt3 lt4 lt5 hL;generalize Q.length=sr at R0 hsr⊢;generalize Q++ [.live 3 1 (xY (λ _=>0) S.N)]=Q1 at R0 O0'⊢;have hs:=bo.ok;have fZ:=bo.uf.lt;have acC:=bo.uf.tot
 refine bd (ι:=Nat×(Nat->Int)×List ad)
  (λ q=>q.1<=S.N/\abr S u 1 tr kk ur aW sr q.2.1 q.2.2/\alV S u q.2.1/\(∀g,g<S.N->q.2.1 g≠ -1)/\(∀y r,y<q.1->bI u y r->0<q.2.1 r)/\q.2.2[0]? =some (.live 29 4 []))
  (λ q=>jw [(0,.v (.int .i64 (M:Nat))),(8,.row 0 0),(9,.ptr 1 1 0 0),(13,.row sr S.N),(14,.v (.int .i64 (q.1:Nat)))]) (λ q=>q.2.2) (λ q=>S.N- q.1) (0,(λ _=>0),Q1)
  ⟨zero_le _,R0,⟨λ g _ h=>by simp at h,λ g _=> .inr (by simp)⟩,λ g _=>by simp,λ y r h=>absurd h (Nat.not_lt_zero _),O0'⟩ (.of_eq rfl rfl) ?_
 clear R0 O0';rintro⟨x,sz,Q'⟩ ⟨w1,w2,w3,w4,w5,w6⟩;simp only at w1 w2 w3 w4 w5 w6;have vo:=w2.lay.box;have hup:=w2.lay.up;by_cases hx:x<S.N
 ·have dx:decide ((x:Int)<(S.N:Int))=true:=decide_eq_true (by omega);obtain⟨O',ta,ok,hc,q1,q2,q3,q4⟩:=x6 hs fZ acC _ w2 hx w3 (λ g hg h=>absurd h (w4 g hg)) (le_refl _);have hQl:=(List.getElem?_eq_some_iff.1 w6).1;have ho':O'[0]? =some (.live 29 4 []):=by rw[q2.2 0 hQl (by omega)];exact w6
  simp only[vo,hup,cE,dx,↓OD,OA,reduceEqDiff,reduceCtorEq,reduceAdd];simp only[au]at hc;refine aD _ _ hc ?_;cases ok with
  |false=>
   simp only[Bool.not_false,↓OD,OA,reduceEqDiff,reduceCtorEq];obtain⟨z,hz,hzd⟩:=q3 rfl;exact ue (.inl rfl) (by simp only[OA,reduceEqDiff]) ho' (no2 (bo.ath hz hzd))
  |true=>
   obtain⟨r1,r2,r3,r4,r5⟩:=q4 rfl;simp only[Bool.not_true,↓OD,OA,reduceEqDiff,reduceCtorEq];refine a6 (x+1,ta,O') ⟨hx,q1,r1,λ g hg h=>w4 g hg ((r2 g hg).1 h),λ y r hy hr=> ?_,ho'⟩ (by show S.N- (x+1)<S.N- x;omega) (.of_eq (by rw[bh (by omega) (by omega)];rfl) rfl);by_cases e:y=x
   ·subst e;exact r3 r hr
   ·have hyx:y<x:=by simp only at hy;omega
    exact r5 r (hr.lt fZ (by omega)) (w5 y r hyx hr)
 have dx:decide ((x:Int)<(S.N:Int))=false:=decide_eq_false (by omega)
 obtain⟨τ,xb⟩:=aeu (S:=S) (u:=u) (M:=M) λ k hk=>by
  obtain⟨r,hr⟩:=acC k (by omega);obtain⟨t,ht,_⟩:=w3.done r (hr.lt fZ (by omega)) (w5 k r (by omega) hr);exact⟨t,ht.eqv ⟨r,hr,.here r hr.root⟩⟩
 have hC:=bo.canon (τ:=τ) (by rw[hP.M];exact xb);have aih:=bo.am5 (τ:=τ) (by rw[hP.M];exact xb);rw[hP.M]at hC aih
 have qp:∀k r,k<M->bI u k r->sz r=ej (τ k).dw:=λ k r hk hr=>by
  obtain⟨t,ht,he⟩:=w3.done r (hr.lt fZ (by omega)) (w5 k r (by omega) hr);have:=(xb k hk).pf (ht.eqv ⟨r,hr,.here r hr.root⟩);rw[this];exact he
 have ans:∀{ts:List aa} {c:Int},((c=3/\ts= []/\∃k:Nat,k<M/\200<(τ k).dw)∨(c=0/\(∀k:Nat,k<M->(τ k).dw<=200)/\ts=(List.range M).map λ k:Nat=>τ k))->gH M a b ts c:=λ h=> .inr ⟨kV,.inr ⟨τ,by rw[toNat_natCast];exact hC,by rw[toNat_natCast];exact h⟩⟩
 have hrw:=w2.row;simp only[vo,hup,cE,dx,↓OD,OA,reduceEqDiff,reduceCtorEq,reduceAdd]
 refine bd (ι:=Nat) (λ j=>j<=M/\∀k:Nat,k<j->(τ k).dw<=200)
  (λ j=>jw [(0,.v (.int .i64 (M:Nat))),(8,.row 0 0),(9,.ptr 1 1 0 0),(13,.row sr S.N),(15,.v (.int .i64 (j:Nat)))]) (λ _=>Q') (λ j=>M- j) 0 ⟨zero_le _,λ k hk=>absurd hk (Nat.not_lt_zero _)⟩ (.of_eq rfl rfl) ?_
 rintro j ⟨v1,v2⟩;by_cases hjM:j<M
 ·have dj:decide ((j:Int)<(M:Int))=true:=decide_eq_true (by omega);obtain⟨r,hr⟩:=acC j (by omega);have ep:=hr.lt fZ (by omega);have c1:=gR w2.lay fZ (show j<S.N by omega) hr;have gs:=td (sz:=sz) ep;rw[qp j r hjM hr]at gs;simp only[au]at gs c1;simp only[dj,↓OD,OA,reduceEqDiff,reduceCtorEq];refine aD _ _ c1 ?_;simp only[hrw,ec,gs,AV.cells,toNat_natCast,↓OD,OA,reduceEqDiff,reduceCtorEq];refine⟨by omega,by omega,ep,?_⟩;by_cases vp:(τ j).dw<=200
  ·have d2:decide ((200:Int)<ej (τ j).dw)=false:=decide_eq_false (by unfold ej;omega);simp only[d2,↓OD,OA,reduceEqDiff,reduceCtorEq];refine a6 (j+1) ⟨hjM,λ k hk=> ?_⟩ (by show M- (j+1)<M- j;omega) (.of_eq (by rw[bh (by omega) (by omega)];rfl) rfl);by_cases e:k=j
   ·subst e;exact vp
   ·exact v2 k (by omega)
  ·have d2:decide ((200:Int)<ej (τ j).dw)=true:=decide_eq_true (by unfold ej;omega);simp only[d2,↓OD,OA,reduceEqDiff,reduceCtorEq];exact ue (.inl rfl) (by simp only[OA,reduceEqDiff]) w6 (ans (.inl ⟨rfl,rfl,j,hjM,by omega⟩))
 have dj:decide ((j:Int)<(M:Int))=false:=decide_eq_false (by omega);have adM:∀k:Nat,k<M->(τ k).dw<=200:=λ k hk=>v2 k (by omega)
 simp only[dj,↓OD,OA,reduceEqDiff,reduceCtorEq];generalize oI:(List.range M).map (λ k:Nat=>τ k)=ts at ans aih;have htl:ts.length=M:=by rw[←oI];simp
 have htg:∀k,k<M->ts[k]? =some (τ k):=λ k hk=>by rw[←oI,List.getElem?_map,oi hk];rfl
 refine bd (ι:=Nat×List AV×List ad)
  (λ q=>q.1<=M/\TyQ S u tr kk ur aW ts q.1 q.2.1 q.2.2)
  (λ q=>jw [(0,.v (.int .i64 (M:Nat))),(8,.row 0 q.2.1.length),(9,.ptr 1 1 0 0),(16,.v (.int .i64 (q.1:Nat)))]) (λ q=>q.2.2) (λ q=>M- q.1) (0,[],Q')
  ⟨zero_le _,w2.lay,⟨o1,o2,o3,o4⟩,rfl,by rw[List.take_zero];exact .nil _,λ a y j m hy=>by simp at hy,w6⟩ (.of_eq rfl rfl) ?_
 clear vo hup w1 w2 w3 w4 w5 w6 hrw qp v1 v2 hjM dj;rintro⟨j,ys,Q'⟩ ⟨w1,hi⟩;simp only at w1 hi;have hyl:=hi.len;by_cases hj:j<M
 ·have d:decide ((j:Int)<(M:Int))=true:=decide_eq_true (by omega);obtain⟨O',rD,hc,l1,l2,l6⟩:=aaG hs fZ _ hi.lay (show j<S.N by omega) (xb j hj) (le_refl _);have hq:=l6.1
  have mc:ys.length+1<=maxLen:=by
   have:maxLen=9223372036854775807:=rfl;omega
  have hQl:=(List.getElem?_eq_some_iff.1 hi.row).1;have dm:∀E:List ad,(O'++E)[0]? =some (.live 29 4 ys):=λ E=>by rw[al (by omega),l6.2 0 hQl];exact hi.row
  simp only[au,bZ]at hc;simp only[d,↓OD,OA,reduceEqDiff,reduceCtorEq];refine aD _ _ hc ?_;simp only[dm,ku,↓OD,OA,reduceEqDiff,reduceCtorEq,reduceAdd];refine⟨λ y hy=>by rw[List.mem_singleton.1 hy];rfl,by omega,mc,?_⟩;try simp only[↓OD,OA,reduceEqDiff,reduceCtorEq,reduceAdd,reduceLT,reduceLeDiff,reduceIte]
  refine a6 (j+1,ys++ [_],_) ⟨hj,hi.step (htg j hj) l1 l2 l6 (λ n hn h=>by rw[List.getElem?_set_ne (λ e=>h e.symm),al hn]) (List.getElem?_set_self (by simp<;>omega))⟩ (by show M- (j+1)<M- j;omega) (.of_eq ?_ rfl);rw[bh (by omega) (by omega)];simp
 have d:decide ((j:Int)<(M:Int))=false:=decide_eq_false (by omega);have htk:ts.take j=ts:=List.take_of_length_le (by omega);have hsp:=hi.split;rw[htk]at hsp;simp only[d,↓OD,OA,reduceEqDiff,reduceCtorEq];exact yy (nl:=false) (.inl rfl) (ys:=ys) (xs:=ts.map aa.av) (ty:=29) (z:=4) (k:=0) (len:=ys.length) (v:= .int .i64 0) (by simp only[OA,reduceEqDiff]) (by rw[hi.row];simp[cq]) rfl hsp ⟨ts,0,rfl,rfl,ans (.inr ⟨rfl,adM,rfl⟩),aih⟩
theorem acX(m:Int)(a b:List aa)(hm:l8 m)(ha:(a.map aa.wt).sum+a.length<=1048576)(hb:(b.map aa.wt).sum+b.length<=1048576):
  ∃ts code,gH m a b ts code/\(∀t∈ts,t.jn=true)/\fE Try.prog F.ji [au m,.sl (a.map aa.av),.sl (b.map aa.av)] [] (.a9 [.own 0,au code]) [.own (.sl (ts.map aa.av))]:=by
 obtain⟨res,O',⟨ts,code,rfl,rfl,h,ho⟩,hc⟩:=ym m a b hm ha hb;exact⟨ts,code,h,ho,hc⟩
end Go.Proofs.Ab
