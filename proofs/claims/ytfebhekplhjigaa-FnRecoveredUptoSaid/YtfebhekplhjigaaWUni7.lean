/-
  Unify of the program.
-/
import Derived.Test.YtfebhekplhjigaaWUok
import Derived.Test.YtfebhekplhjigaaWClo2
import Derived.Test.YtfebhekplhjigaaPUni4
open Int(toNat_natCast)
open Nat(zero_le le_refl)
open List(nodup_nil append_assoc cons_append nil_append length_map length_range)
open Nat(reduceEqDiff reduceLeDiff reduceAdd reduceLT reduceMul)
set_option linter.unusedVariables false
set_option linter.unusedSimpArgs false
namespace Go.Proofs.Ab
open Go.Ab
set_option maxRecDepth 100000
set_option maxHeartbeats 4000000
def UQ(m:Int)(a b:List aa)(res:AV)(O':List ae):Prop:=∃ts code,res= .ba [.own 0,.v (.int .i64 code)]/\O'= [.own (.sl (ts.map aa.av))]/\nc m a b ts code/\∀t∈ts,t.iU=true
theorem aeb{m:Int}{a b:List aa}{rs:List dO}{x:AX}(hx:x= .ret∨x= .normal){e:Env}{O:List ae}{c:Int}(h:dQ e O rs [] λ xs=>bz xs= .ba [.aw,.v (.int .i64 c)])(hu:nc m a b [] c):afo 0 rs (UQ m a b) x e O:=
 aik hx h ⟨[],c,rfl,rfl,hu,λ t ht=>by simp at ht⟩
theorem as1{α:Type}{A C:List α}{x y z:α}:(A++x::y::C).set (A.length+1) z=A++x::z::C:=by
 rw[List.set_append_right _ _ (by omega),Nat.add_sub_cancel_left];rfl
def qK(k:Nat):ae:= .live 66 5 [.agg [aA 11,aA k,ch ⟨#[]⟩,.aw,.v (.pointer none)]]
def zv(c M i:Nat):ae:= .live 64 1 (jX (λ k=>c+2+k) (List.range i)++List.replicate (M- i) (.v (.pointer none)))
theorem aiO{c M i:Nat}(h:i<=M):(jX (λ k=>c+2+k) (List.range i)++List.replicate (M- i) (AV.v (.pointer none))).length=M:=by simp[jX];omega
theorem aiP{c M i:Nat}(h:i<M):(jX (λ k=>c+2+k) (List.range i)++List.replicate (M- i) (AV.v (.pointer none))).getD i .top= .v (.pointer none):=by
 obtain⟨q,hq⟩:∃q,M- i=q+1:=⟨M- i- 1,by omega⟩;rw[hq,List.replicate_succ];exact wh (by simp[jX])
theorem aiN{c M i:Nat}(h:i<M):(jX (λ k=>c+2+k) (List.range i)++List.replicate (M- i) (AV.v (.pointer none))).set i (.ptr (c+2+i) 1 0 0)=jX (λ k=>c+2+k) (List.range (i+1))++List.replicate (M- (i+1)) (.v (.pointer none)):=by
 obtain⟨q,hq⟩:∃q,M- i=q+1:=⟨M- i- 1,by omega⟩;have hq2:M- (i+1)=q:=by omega
 rw[hq,hq2,List.replicate_succ,apd (by simp[jX]),List.range_succ];simp[jX]
def qI(c M:Nat):ae:= .live 63 1 [.row c M]
structure aeT(M:Nat)(ps:List (aa×aa))(lb lr mp:Nat)(S:Net)(u bx kr:Nat->Nat)(qs:List (Nat×Nat))(Q:List ae):Prop where
 run:pY S u qs ps
 M:S.M=M
 lay:cD S u bx kr Q
 list:jQ S bx lb lr Q
 map:kM S bx (λ _=>0) mp [] Q
theorem aiL{b:Nat}{S S':Net}{up bx kr cj ni qj:Nat->Nat}(h:pZ b S up bx kr S' cj ni qj):vZ S up S' cj:=
 ⟨h.N,h.M,λ x hx=>⟨(h.gB x hx).1,(h.gB x hx).2.1,(h.gB x hx).2.2.1⟩,λ x h1 h2=>⟨(h.new x h1 h2).1,(h.new x h1 h2).2.1⟩⟩
theorem aeT.ext{M:Nat}{ps:List (aa×aa)}{lb lr mp:Nat}{S S':Net}{u bx kr u' ni qj:Nat->Nat}{qs:List (Nat×Nat)}{Q Q':List ae}(h:aeT M ps lb lr mp S u bx kr qs Q)(hs:S'.ok)(hl:cD S' u' ni qj Q')(he:pZ Q.length S u bx kr S' u' ni qj)(hf:∀n,n<Q.length->Q'[n]? =Q[n]?):aeT M ps lb lr mp S' u' ni qj qs Q':=
 ⟨h.run.grow (aiL he) hs λ x h1 h2=>(he.new x h1 h2).2.2.1,he.M.trans h.M,hl,h.list.ext h.run.ok he hf,⟨nodup_nil,λ x hx=>by simp at hx,λ x _ h=>(h rfl).elim,by
   have:=(List.getElem?_eq_some_iff.1 h.map.ob).1;rw[hf _ this];exact h.map.ob⟩⟩
theorem jQ.aqA{S:Net}{up bx kr:Nat->Nat}{st:Nat->Int}{ks:List Nat}{lb lr mp:Nat}{O O':List ae}(h:jQ S bx lb lr O)(hM:kM S bx st mp ks O)(k:lj S bx mp O O'):jQ S bx lb lr O':=by
 have h1:=(List.getElem?_eq_some_iff.1 h.box).1;have h2:=(List.getElem?_eq_some_iff.1 h.row).1;have n1:lb≠mp:=λ e=>by have:=h.box;rw[e,hM.ob]at this;cases this
 have n2:lr≠mp:=λ e=>by have:=h.row;rw[e,hM.ob]at this;cases this
 exact⟨by rw[k.2 _ h1 (λ x hx=>(h.sep x hx).1) n1];exact h.box,by rw[k.2 _ h2 (λ x hx=>(h.sep x hx).2) n2];exact h.row,h.sep⟩
structure TyR(S:Net)(u0 bx kr:Nat->Nat)(lb lr:Nat)(ts:List aa)(i:Nat)(u:Nat->Nat)(ys:List AV)(k:Nat)(Q:List ae):Prop where
 lay:cD S u bx kr Q
 lt:∀z,z<S.N->u z<S.N
 eq:dy u0 u
 list:jQ S bx lb lr Q
 len:ys.length=i
 split:Split Q ys ((ts.take i).map aa.av)
 own:∀(a:Nat) y (j m:Nat),ys[a]? =some y->y.cells[j]? =some (.own m)->∃d,Q[m]? =some (.own d)
 row:ys≠[]->Q[k]? =some (.live 29 4 ys)
theorem TyR.step{S:Net}{u0 bx kr:Nat->Nat}{lb lr:Nat}{ts:List aa}{i:Nat}{u:Nat->Nat}{ys:List AV}{k:Nat}{Q:List ae}(hi:TyR S u0 bx kr lb lr ts i u ys k Q){t:aa}(ht:ts[i]? =some t){u':Nat->Nat}{O' Q3:List ae}{kk k':Nat}
  (h1:O'[kk]? =some (.own (.sl (t.Kids.map aa.av)))) (h2:Q.length<=kk) (h3:cD S u' bx kr O') (h4:∀x,x<S.N->u' x<S.N) (h5:dy u0 u') (h6:jL S bx Q O')
  (k1:ys= []->O'.length<=k') (k2:ys≠[]->k'=k) (h7:∀n,n<O'.length->n≠k'->Q3[n]? =O'[n]?)
  (hr:Q3[k']? =some (.live 29 4 (ys++ [.agg [aA t.Kind,aA t.N,ch t.Name,.own kk]]))):
  TyR S u0 bx kr lb lr ts (i+1) u' (ys++ [.agg [aA t.Kind,aA t.N,ch t.Name,.own kk]]) k' Q3:=by
 have hQO:=h6.1;have hkl:=(List.getElem?_eq_some_iff.1 h1).1;have I':=hi.list.same h6
 have hkO:ys≠[]->O'[k]? =some (.live 29 4 ys):=λ h=>by
  have hk:=hi.row h;rw[h6.2 k (List.getElem?_eq_some_iff.1 hk).1 λ x hx e=>by rw[e,hi.lay.box x hx]at hk;simp[fQ]at hk];exact hk
 have bB:∀(n:Nat) (ob:ae),O'[n]? =some ob->(∀zs,ob≠ae.live 29 4 zs)->n≠k':=λ (n:Nat) (ob:ae) hn mf e=>by
  by_cases h:ys= []
  ·have:=k1 h;have:=(List.getElem?_eq_some_iff.1 hn).1;omega
  ·rw[e,k2 h,hkO h]at hn;cases hn;exact mf _ rfl
 have aaB:∀(n:Nat) (ob:ae),O'[n]? =some ob->(∀zs,ob≠ae.live 29 4 zs)->Q3[n]? =some ob:=λ n ob hn mf=>by
  rw[h7 n (List.getElem?_eq_some_iff.1 hn).1 (bB n ob hn mf)];exact hn
 have zI:∀(a:Nat) y (j m:Nat),ys[a]? =some y->y.cells[j]? =some (.own m)->Q3[m]? =Q[m]? /\m≠kk:=λ a y j m hy hc=>by
  obtain⟨d,g2⟩:=hi.own a y j m hy hc;have o8:=(List.getElem?_eq_some_iff.1 g2).1
  have e1:O'[m]? =some (.own d):=by
   rw[h6.2 m o8 λ x hx e=>by rw[e,hi.lay.box x hx]at g2;simp[fQ]at g2];exact g2
  exact⟨by rw[aaB m _ e1 (λ _=>by simp),g2],by omega⟩
 have hkk:Q3[kk]? =some (.own (.sl (t.Kids.map aa.av))):=aaB kk _ h1 (λ _=>by simp);refine⟨h3.move λ x hx=>⟨?_,λ hk=> ?_⟩,h4,h5,⟨aaB lb _ I'.box (λ _=>by simp),aaB lr _ I'.row (λ _=>by simp),I'.sep⟩,by simp[hi.len],?_,λ a y j m hy hc=> ?_,λ _=>hr⟩
 ·rw[h3.box x hx];exact aaB _ _ (h3.box x hx) (λ _=>by simp[fQ])
 ·rw[h3.row x hx hk];exact aaB _ _ (h3.row x hx hk) (λ _=>by simp)
 ·have:=hi.split.add (O':=Q3) (K:=t.Kind) (N:=t.N) (S:=t.Name) (kk:=kk) (a:= .sl (t.Kids.map aa.av)) hkk zI;rw[aa.eta]at this;rw[List.take_add_one,ht,List.map_append];exact this
 ·by_cases ha:a<ys.length
  ·rw[List.getElem?_append_left ha]at hy;obtain⟨d,g4⟩:=hi.own a y j m hy hc;exact⟨d,by rw[(zI a y j m hy hc).1];exact g4⟩
  ·rw[List.getElem?_append_right (by omega)]at hy;generalize a- ys.length=q at hy;cases q with
   |succ q=>simp at hy
   |zero=>
    simp at hy;subst hy;have:=ala hc;subst this;exact⟨_,hkk⟩
open Classical in
theorem akn{S:Net}{u:Nat->Nat}{M:Nat}(h:∀k,k<M->∃t,iC S u k t):∃τ:Int->aa,∀k:Nat,k<M->iC S u k (τ k):=
 ⟨λ n=>if h:∃t,iC S u n.toNat t then h.choose else er n,λ k hk=>by
  have ot:∃t,iC S u ((k:Int)).toNat t:=by rw[toNat_natCast];exact h k hk
  simp only[dif_pos ot];exact ot.choose_spec⟩
theorem qe{M j:Nat}(h:j<M):(List.range M)[j]? =some j:=by rw[List.getElem?_range h]
theorem yc(m:Int)(a b:List aa)(hm:l9 m)(ha:(a.map aa.wt).sum+a.length<=1048576)(hb:(b.map aa.wt).sum+b.length<=1048576):
  ∃res O',UQ m a b res O'/\hD Try.prog F.ja [aA m,.sl (a.map aa.av),.sl (b.map aa.av)] [] res O':=by
 refine pQ A.zC rfl ?_;obtain⟨B,c1,_⟩:=xY m a b hm ha hb [];simp only[A.ja,aA,↓OD,OA,reduceEqDiff,reduceCtorEq,reduceAdd,reduceLT,reduceLeDiff,reduceIte];refine bj _ _ c1 ?_;cases mr:dA m a b with
 |false=>
  simp only[Bool.not_false,↓OD,OA,reduceEqDiff,reduceCtorEq,reduceAdd,reduceLT,reduceLeDiff,reduceIte];exact aeb (.inl rfl) (by simp only[↓OD,OA,reduceEqDiff,reduceCtorEq,reduceAdd,reduceLT,reduceLeDiff,reduceIte]) (.inl ⟨mr,rfl,rfl⟩)
 |true=>
 obtain⟨h1,h2,h3,h4,h5⟩:=qD mr;obtain⟨M,rfl⟩:∃M:Nat,m=(M:Int):=⟨m.toNat,by omega⟩;have no2:(¬∃σ:Int->aa,∀p∈a.zip b,p.1.sub σ=p.2.sub σ)->nc M a b [] 2:=λ h=> .inr ⟨mr,.inl ⟨rfl,rfl,h⟩⟩
 simp only[Bool.not_true,toNat_natCast,append_assoc,cons_append,nil_append,ag1,as1,tj,List.length_replicate,↓OD,OA,reduceEqDiff,reduceCtorEq,reduceAdd,reduceLT,reduceLeDiff,reduceIte];refine⟨by omega,by omega,by omega,by omega,?_⟩;try simp only[toNat_natCast,append_assoc,cons_append,nil_append,tj,ag1,as1,List.length_replicate,↓OD,OA,reduceEqDiff,reduceCtorEq,reduceAdd,reduceLT,reduceLeDiff,reduceIte]
 refine cR (ι:=Nat) (λ i=>i<=M) (λ i=>pc [(1,.sl (a.map aa.av)),(2,.sl (b.map aa.av)),(8,.ptr (B.length+1) 1 0 0),(29,.v (.int .i64 M)),(30,.v (.int .i64 i))])
  (λ i=>B++zv B.length M i::qI B.length M::(List.range i).map qK) (λ i=>M- i) 0 (zero_le _) (.of_eq rfl (by simp[zv,qI,jX])) ?_
 intro i hi;by_cases aF:i<M
 ·have d:decide ((i:Int)<(M:Int))=true:=decide_eq_true (by omega);have o8:(B++zv B.length M i::qI B.length M::(List.range i).map qK).length=B.length+2+i:=by simp;omega
  simp only[qI]at o8;simp only[d,qI,append_assoc,cons_append,nil_append,tj,ag1,as1,o8,↓OD,OA,reduceEqDiff,reduceCtorEq,reduceAdd,reduceLT,reduceLeDiff,reduceIte];simp only[zv,aiO hi,aiP aF,aiN aF,as0,toNat_natCast,AV.cells,↓OD,OA,reduceEqDiff,reduceCtorEq,reduceAdd,reduceLT,reduceLeDiff,reduceIte];refine⟨by omega,by omega,aF,b6 (i+1) aF (by show M- (i+1)<M- i;omega) (.of_eq (by rw[bm (by omega) (by omega)];rfl) ?_)⟩;simp[List.range_succ,qK,aA,ch]
 have d:decide ((i:Int)<(M:Int))=false:=decide_eq_false (by omega);obtain rfl:i=M:=by omega
 simp only[d,length_map,↓OD,OA,reduceEqDiff,reduceCtorEq,reduceAdd,reduceLT,reduceLeDiff,reduceIte]
 have q0:∀(k:Nat),k<i->(B++zv B.length i i::qI B.length i::(List.range i).map qK)[B.length+2+k]? =some (qK k):=λ k hk=>by
  rw[List.getElem?_append_right (by omega),show B.length+2+k- B.length=k+1+1 by omega,List.getElem?_cons_succ,List.getElem?_cons_succ,List.getElem?_map,List.getElem?_range hk];rfl
 have L0:cD (Net.oi i) id (λ k=>B.length+2+k) (λ _=>0) (B++zv B.length i i::qI B.length i::(List.range i).map qK):=
  ⟨λ k hk=>by rw[q0 k hk];simp[fQ,qK,Net.oi,er,kS,upC,aa.Kind,aa.N,aa.Name],λ k _ h=>(h rfl).elim,λ x y _ _ h=>by have h':B.length+2+x=B.length+2+y:=h;omega,λ x y _ _ h=>(h rfl).elim,λ x _=>by show 0<=_;omega⟩
 have I0:jQ (Net.oi i) (λ k=>B.length+2+k) (B.length+1) B.length (B++zv B.length i i::qI B.length i::(List.range i).map qK):=
  ⟨ag1,by rw[tj];simp[zv,Net.oi],λ x _=>⟨by omega,by omega⟩⟩
 have hQl:(B++zv B.length i i::qI B.length i::(List.range i).map qK).length=B.length+2+i:=by simp;omega
 generalize B++zv B.length i i::qI B.length i::(List.range i).map qK=Q0 at L0 I0 hQl⊢;clear q0;have hmp:B.length+((List.range i).length+1+1)=Q0.length:=by rw[hQl,length_range];omega
 rw[hmp]
 have P0:aeT i [] (B.length+1) B.length Q0.length (Net.oi i) id (λ k=>B.length+2+k) (λ _=>0) [] (Q0++ [.dc (.mp [])]):=
  ⟨.init i,rfl,L0.app _,I0.same (.app _ _),⟨nodup_nil,λ x hx=>by simp at hx,λ x _ h=>(h rfl).elim,tj⟩⟩
 clear L0 I0 hi aF d c1;generalize B.length+1=lb at P0⊢;generalize B.length=lr at P0 hQl;generalize aCO:Q0.length=mp at P0⊢;generalize Q0++ [.dc (.mp [])]=Q1 at P0⊢
 refine cR (ι:=Nat×Net×(Nat->Nat)×(Nat->Nat)×(Nat->Nat)×List (Nat×Nat)×List ae)
  (λ q=>q.1<=a.length/\aeT i ((a.zip b).take q.1) lb lr mp q.2.1 q.2.2.1 q.2.2.2.1 q.2.2.2.2.1 q.2.2.2.2.2.1 q.2.2.2.2.2.2)
  (λ q=>pc [(1,.sl (a.map aa.av)),(2,.sl (b.map aa.av)),(8,.ptr lb 1 0 0),(10,.fn F.dK [.ptr lb 1 0 0]),(11,.own mp),(43,.v (.int .i64 (a.length:Int))),(44,.v (.int .i64 q.1))])
  (λ q=>q.2.2.2.2.2.2) (λ q=>a.length- q.1) (0,Net.oi i,id,_,_,[],Q1) ⟨zero_le _,by rw[List.take_zero];exact P0⟩ (.of_eq (by first|rfl|simp) rfl) ?_
 rintro⟨j,S,u,bx,kr,qs,Q⟩ ⟨w1,hP⟩;simp only at w1 hP;by_cases hj:j<a.length
 ·have d:decide ((j:Int)<(a.length:Int))=true:=decide_eq_true (by omega);obtain⟨x,hx⟩:∃x,a[j]? =some x:=⟨_,List.getElem?_eq_getElem hj⟩;obtain⟨y,hy⟩:∃y,b[j]? =some y:=⟨_,List.getElem?_eq_getElem (by omega)⟩;have hxm:=List.mem_of_getElem? hx;have hym:=List.mem_of_getElem? hy;have hxw:=ca aa.wt hxm;have hyw:=ca aa.wt hym;obtain⟨x1,x2⟩:=h5 x (.inl hxm);obtain⟨y1,y2⟩:=h5 y (.inr hym);simp only[toNat_natCast]at x2 y2;obtain⟨S2,u2,bx2,kr2,Q2,r1,c1,s1,l1,e1,n1,f1,g1,t1⟩:=mY x hP.run.ok hP.lay hP.run.uf.lt hP.list x1 (by rw[hP.M];exact x2) (by omega);have hP2:=hP.ext s1 l1 e1 f1;obtain⟨S3,u3,bx3,kr3,Q3,r2,c2,s2,l2,e2,n2,f2,g2,t2⟩:=mY y s1 l1 hP2.run.uf.lt hP2.list y1 (by rw[hP2.M];exact y2) (by omega);have hP3:=hP2.ext s2 l2 e2 f2;have hr1:bx3 r1=bx2 r1:=(e2.gB r1 g1).2.2.2.1;have as8:r1<S3.N:=Nat.lt_of_lt_of_le g1 e2.N;have ht1:S3.ty r1=x:=by rw[(e2.gB r1 g1).1,t1]
  obtain⟨u4,Q4,ok,c3,j1,l3,m3,p3,q3,v3⟩:=adJ _ s2 l2 hP3.run.uf.lt hP3.run.uf.tot (le_refl _) as8 g2;rw[hr1]at c3;have hgx:(a.map aa.av).getD j .top=x.av:=by simp[List.getD,hx]
  have hgy:(b.map aa.av).getD j .top=y.av:=by simp[List.getD,hy]
  have htk:(a.zip b).take (j+1)=(a.zip b).take j++ [(S3.ty r1,S3.ty r2)]:=by
   rw[List.take_add_one,ht1,t2];have:(a.zip b)[j]? =some (x,y):=by rw[List.getElem?_zip_eq_some];exact⟨hx,hy⟩
   rw[this];rfl
  simp only[d,↓OD,OA,reduceEqDiff,reduceCtorEq,reduceAdd,reduceLT,reduceLeDiff,reduceIte];refine jl ?_;simp only[length_map,toNat_natCast,hgx,hgy,aa.width,aa.isAgg,aa.storable,↓OD,OA,reduceEqDiff,reduceCtorEq,reduceAdd,reduceLT,reduceLeDiff,reduceIte];refine⟨by omega,by omega,bj _ _ c1 ?_⟩;simp only[length_map,toNat_natCast,hgx,hgy,aa.width,aa.isAgg,aa.storable,↓OD,OA,reduceEqDiff,reduceCtorEq,reduceAdd,reduceLT,reduceLeDiff,reduceIte];refine⟨by omega,by omega,bj _ _ c2 ?_⟩;simp only[↓OD,OA,reduceEqDiff,reduceCtorEq,reduceAdd,reduceLT,reduceLeDiff,reduceIte];refine bj _ _ c3 ?_;cases ok with
  |false=>
   simp only[Bool.not_false,↓OD,OA,reduceEqDiff,reduceCtorEq,reduceAdd,reduceLT,reduceLeDiff,reduceIte];refine⟨by kernel_rfl,?_⟩;try simp only[↓OD,OA,reduceEqDiff,reduceCtorEq,reduceAdd,reduceLT,reduceLeDiff,reduceIte]
   refine aeb (.inl rfl) (by simp only[↓OD,OA,reduceEqDiff,reduceCtorEq,reduceAdd,reduceLT,reduceLeDiff,reduceIte]) (no2 λ ⟨σ,zH⟩=> ?_);have mw:=hP3.run.nQ as8 g2 j1;rw[←htk]at mw;exact mw ⟨σ,λ p hp=>zH p (List.mem_of_mem_take hp)⟩
  |true=>
   simp only[Bool.not_true,↓OD,OA,reduceEqDiff,reduceCtorEq,reduceAdd,reduceLT,reduceLeDiff,reduceIte];refine⟨by kernel_rfl,?_⟩;try simp only[↓OD,OA,reduceEqDiff,reduceCtorEq,reduceAdd,reduceLT,reduceLeDiff,reduceIte]
   have bK:=hP3.run.join as8 g2 j1;rw[←htk]at bK;exact b6 (j+1,S3,u4,bx3,kr3,_,Q4) ⟨hj,bK,hP3.M,l3,hP3.list.same m3,hP3.map.same hP3.lay m3⟩ (by show a.length- (j+1)<a.length- j;omega) (.of_eq (by rw[bm (by omega) (by omega)];rfl) rfl)
 have d:decide ((j:Int)<(a.length:Int))=false:=decide_eq_false (by omega);have jP:(a.zip b).take j=a.zip b:=List.take_of_length_le (by rw[List.length_zip];omega);rw[jP]at hP;have hlb:=hP.list.box;rw[hP.M]at hlb;have hlr:=hP.list.row;rw[hP.M]at hlr;simp only[d,hlb,hlr,cZ,length_range,true_and,↓OD,OA,reduceEqDiff,reduceCtorEq,reduceAdd,reduceLT,reduceLeDiff,reduceIte];clear P0 d hj
 refine cR (ι:=Nat×(Nat->Nat)×(Nat->Int)×List Nat×List ae)
  (λ q=>q.1<=i/\cD S q.2.1 bx kr q.2.2.2.2/\(∀z,z<S.N->q.2.1 z<S.N)/\dy u q.2.1/\kM S bx q.2.2.1 mp q.2.2.2.1 q.2.2.2.2/\jQ S bx lb lr q.2.2.2.2/\(∀g,g<S.N->q.2.2.1 g≠1)/\(∀g,g<S.N->q.2.2.1 g=2->∃t,iC S u g t)/\(∀g,g<S.N->q.2.2.1 g=0∨q.2.2.1 g=1∨q.2.2.1 g=2)/\∀k,k<q.1->∃t,iC S u k t)
  (λ q=>pc [(8,.ptr lb 1 0 0),(11,.own mp),(62,.row lr i),(63,.v (.int .i64 i)),(64,.v (.int .i64 q.1))]) (λ q=>q.2.2.2.2) (λ q=>i- q.1) (0,u,(λ _=>0),[],Q)
  ⟨zero_le _,hP.lay,hP.run.uf.lt,λ _ _ h=>h,hP.map,hP.list,λ g _ h=>by simp at h,λ g _ h=>by simp at h,λ g _=> .inl rfl,λ k hk=>by simp at hk⟩ (.of_eq rfl rfl) ?_
 rintro⟨j,u',st,ks,Q'⟩ ⟨w1,w2,w3,w4,w5,w6,w7,w8,w9,w10⟩;simp only at w1 w2 w3 w4 w5 w6 w7 w8 w9 w10;have amo:=w6.row;rw[hP.M]at amo;by_cases hj:j<i
 ·have d:decide ((j:Int)<(i:Int))=true:=decide_eq_true (by omega);have hjN:j<S.N:=Nat.lt_of_lt_of_le hj (by rw[←hP.M];exact hP.run.ok.le);obtain⟨u2,Q2,st2,ks2,res,hc,l1,l2,l3,l4,l5,l6,l7⟩:=x9 hP.run.ok hP.run.uf.lt hP.run.uf.tot _ w2 w3 w4 w5 hjN ⟨λ g hg h=>(w7 g hg h).elim,w8,w9⟩ (le_refl _);simp only[d,amo,cZ,length_range,ib (qe hj),toNat_natCast,AV.cells,↓OD,OA,reduceEqDiff,reduceCtorEq,reduceAdd,reduceLT,reduceLeDiff,reduceIte];refine⟨by omega,by omega,hj,bj _ _ hc ?_⟩;cases res with
  |true=>
   obtain⟨z,hz,hzd⟩:=l6 rfl;simp only[↓OD,OA,reduceEqDiff,reduceCtorEq,reduceAdd,reduceLT,reduceLeDiff,reduceIte];exact aeb (.inl rfl) (by simp only[↓OD,OA,reduceEqDiff,reduceCtorEq,reduceAdd,reduceLT,reduceLeDiff,reduceIte]) (no2 (hP.run.axK hz hzd))
  |false=>
   obtain⟨hv,g1,g2,g3,_⟩:=l7 rfl;simp only[↓OD,OA,reduceEqDiff,reduceCtorEq,reduceAdd,reduceLT,reduceLeDiff,reduceIte];refine b6 (j+1,u2,st2,ks2,Q2) ⟨hj,l1,l2,l3,l4,w6.aqA (up:=u) (kr:=kr) w5 l5,λ g hg h=>w7 g hg ((g1 g hg).1 h),g2,g3,λ k hk=> ?_⟩ (by show i- (j+1)<i- j;omega) (.of_eq (by rw[bm (by omega) (by omega)];rfl) rfl);by_cases e:k=j
   ·subst e;exact hv
   ·exact w10 k (by simp only at hk;omega)
 have d:decide ((j:Int)<(i:Int))=false:=decide_eq_false (by omega);obtain⟨τ,hτ⟩:=akn (M:=i) λ k hk=>w10 k (by omega)
 have hC:=hP.run.canon (τ:=τ) (by rw[hP.M];exact hτ);have atu:=hP.run.ash (τ:=τ) (by rw[hP.M];exact hτ);rw[hP.M]at hC atu;have apH:=w6.box;rw[hP.M]at apH;have awY:∀E:List ae,(Q'++E)[lb]? =Q'[lb]? :=λ E=>al (List.getElem?_eq_some_iff.1 apH).1
 have awU:∀E:List ae,(Q'++E)[lr]? =Q'[lr]? :=λ E=>al (List.getElem?_eq_some_iff.1 amo).1
 simp only[d,apH,amo,awY,awU,cZ,length_range,true_and,↓OD,OA,reduceEqDiff,reduceCtorEq,reduceAdd,reduceLT,reduceLeDiff,reduceIte];have L1:cD S u' bx kr (Q'++ [.dc (.mp [])]):=w2.app _;have I1:jQ S bx lb lr (Q'++ [.dc (.mp [])]):=w6.same (.app _ _);have M1:kM S bx (λ _=>0) Q'.length [] (Q'++ [.dc (.mp [])]):=⟨nodup_nil,λ x hx=>by simp at hx,λ x _ h=>(h rfl).elim,tj⟩;clear awY awU hlb hlr amo apH w5 w6 w7 w8 w9 w10 w2 d hj w1;generalize Q'.length=mp2 at M1⊢;generalize Q'++ [.dc (.mp [])]=Q1' at L1 I1 M1⊢
 refine cR (ι:=Nat×(Nat->Nat)×(Nat->Int)×List Nat×List ae)
  (λ q=>q.1<=i/\cD S q.2.1 bx kr q.2.2.2.2/\(∀z,z<S.N->q.2.1 z<S.N)/\dy u q.2.1/\kM S bx q.2.2.1 mp2 q.2.2.2.1 q.2.2.2.2/\jQ S bx lb lr q.2.2.2.2/\(∀g,g<S.N->q.2.2.1 g≠0->∃t,iC S u g t/\q.2.2.1 g=jc t.eW)/\∀k:Nat,k<q.1->(τ k).eW<=200)
  (λ q=>pc [(8,.ptr lb 1 0 0),(15,.own mp2),(16,.aw),(73,.row lr i),(74,.v (.int .i64 i)),(75,.v (.int .i64 q.1))]) (λ q=>q.2.2.2.2) (λ q=>i- q.1) (0,u',(λ _=>0),[],Q1')
  ⟨zero_le _,L1,w3,w4,M1,I1,λ g _ h=>(h rfl).elim,λ k hk=>by simp at hk⟩ (.of_eq rfl rfl) ?_
 clear L1 w3 w4 M1 I1;rintro⟨j,u',st,ks,Q'⟩ ⟨w1,w2,w3,w4,w5,w6,w7,w8⟩;simp only at w1 w2 w3 w4 w5 w6 w7 w8;have hlr:=w6.row;rw[hP.M]at hlr;have ans:∀{ts:List aa} {c:Int},((c=3/\ts= []/\∃k:Nat,k<i/\200<(τ k).eW)∨(c=0/\(∀k:Nat,k<i->(τ k).eW<=200)/\ts=(List.range i).map λ k:Nat=>τ k))->nc i a b ts c:=λ h=> .inr ⟨mr,.inr ⟨τ,by rw[toNat_natCast];exact hC,by rw[toNat_natCast];exact h⟩⟩
 by_cases hj:j<i
 ·have d:decide ((j:Int)<(i:Int))=true:=decide_eq_true (by omega);have hjN:j<S.N:=Nat.lt_of_lt_of_le hj (by rw[←hP.M];exact hP.run.ok.le);obtain⟨u2,Q2,st2,ks2,hc,l1,l2,l3,l4,l5,l6⟩:=vB hP.run.ok hP.run.uf.lt _ w2 w3 w4 w5 hjN (hτ j hj) w7 (le_refl _);simp only[d,hlr,cZ,length_range,ib (qe hj),toNat_natCast,AV.cells,↓OD,OA,reduceEqDiff,reduceCtorEq,reduceAdd,reduceLT,reduceLeDiff,reduceIte];refine⟨by omega,by omega,hj,bj _ _ hc ?_⟩;by_cases acf:(τ j).eW<=200
  ·have d2:decide ((200:Int)<jc (τ j).eW)=false:=decide_eq_false (by unfold jc;omega);simp only[d2,↓OD,OA,reduceEqDiff,reduceCtorEq,reduceAdd,reduceLT,reduceLeDiff,reduceIte];refine b6 (j+1,u2,st2,ks2,Q2) ⟨hj,l1,l2,l3,l4,w6.aqA (up:=u) (kr:=kr) w5 l5,l6,λ k hk=> ?_⟩ (by show i- (j+1)<i- j;omega) (.of_eq (by rw[bm (by omega) (by omega)];rfl) rfl);by_cases e:k=j
   ·subst e;exact acf
   ·exact w8 k (by simp only at hk;omega)
  ·have d2:decide ((200:Int)<jc (τ j).eW)=true:=decide_eq_true (by unfold jc;omega);simp only[d2,↓OD,OA,reduceEqDiff,reduceCtorEq,reduceAdd,reduceLT,reduceLeDiff,reduceIte];exact aeb (.inl rfl) (by simp only[↓OD,OA,reduceEqDiff,reduceCtorEq,reduceAdd,reduceLT,reduceLeDiff,reduceIte]) (ans (.inl ⟨rfl,rfl,j,hj,by omega⟩))
 have d:decide ((j:Int)<(i:Int))=false:=decide_eq_false (by omega);have hlb:=w6.box;rw[hP.M]at hlb;have amb:∀k:Nat,k<i->(τ k).eW<=200:=λ k hk=>w8 k (by omega)
 simp only[d,hlb,hlr,cZ,length_range,true_and,↓OD,OA,reduceEqDiff,reduceCtorEq,reduceAdd,reduceLT,reduceLeDiff,reduceIte]
 have asY:∀x,x<S.N->9<=(S.ty x).Kind->(S.ty x).Kind<=11->(S.ty x).Name=⟨#[]⟩/\S.kids x= []:=λ x hx h9 h11=>by
  obtain⟨e1,e2,_⟩:=aa.sy (hP.run.okm x hx) ⟨h9,h11⟩;refine⟨e1,?_⟩;rw[hP.run.ok.xT x hx]at e2;exact List.map_eq_nil_iff.1 e2
 generalize sa:(List.range i).map (λ k:Nat=>τ k)=ts at ans atu;have htl:ts.length=i:=by rw[←sa];simp
 have htg:∀k,k<i->ts[k]? =some (τ k):=λ k hk=>by rw[←sa,List.getElem?_map,qe hk];rfl
 refine cR (ι:=Nat×(Nat->Nat)×List AV×Nat×List ae)
  (λ q=>q.1<=i/\TyR S u bx kr lb lr ts q.1 q.2.1 q.2.2.1 q.2.2.2.1 q.2.2.2.2)
  (λ q=>pc [(16,if q.2.2.1= []then .aw else .row q.2.2.2.1 q.2.2.1.length),(84,.row lr i),(85,.v (.int .i64 i)),(86,.v (.int .i64 q.1))]) (λ q=>q.2.2.2.2) (λ q=>i- q.1) (0,u',[],0,Q')
  ⟨zero_le _,w2,w3,w4,w6,rfl,by rw[List.take_zero];exact .nil _,λ a y j m hy=>by simp at hy,λ h=>(h rfl).elim⟩ (.of_eq rfl rfl) ?_
 clear hlb hlr w1 w2 w3 w4 w5 w6 w7 w8 d hj;rintro⟨j,u',ys,k,Q'⟩ ⟨w1,hi⟩;simp only at w1 hi;have hlr:=hi.list.row;rw[hP.M]at hlr;have hyl:=hi.len;by_cases hj:j<i
 ·have d:decide ((j:Int)<(i:Int))=true:=decide_eq_true (by omega);have hjN:j<S.N:=Nat.lt_of_lt_of_le hj (by rw[←hP.M];exact hP.run.ok.le);obtain⟨u2,Q2,kk,hc,l1,l2,l3,l4,l5,l6⟩:=adI hP.run.ok hP.run.uf.lt asY _ hi.lay hi.lt hi.eq hjN (hτ j hj) (le_refl _);have hq:=l6.1
  have o8:ys.length+1<=maxLen:=by
   have:maxLen=9223372036854775807:=rfl;omega
  simp only[d,hlr,cZ,length_range,ib (qe hj),toNat_natCast,AV.cells,↓OD,OA,reduceEqDiff,reduceCtorEq,reduceAdd,reduceLT,reduceLeDiff,reduceIte];refine⟨by omega,by omega,hj,bj _ _ hc ?_⟩;by_cases tg:ys= []
  ·subst tg;simp only[if_true,aA,ch,tj,↓OD,OA,reduceEqDiff,reduceCtorEq,reduceAdd,reduceLT,reduceLeDiff,reduceIte];refine⟨λ y hy=>by rw[List.mem_singleton.1 hy];rfl,by decide,by decide,λ h=>h.elim,λ _=> ?_⟩;try simp only[append_assoc,cons_append,nil_append,↓OD,OA,reduceEqDiff,reduceCtorEq,reduceAdd,reduceLT,reduceLeDiff,reduceIte]
   refine b6 (j+1,u2,[]++ [_],Q2.length+1,_) ⟨hj,hi.step (k':=Q2.length+1) (htg j hj) l1 l2 l3 l4 l5 l6 (λ _=>by omega) (λ h=>(h rfl).elim) (λ n hn _=>al hn) ag1⟩ (by show i- (j+1)<i- j;omega) (.of_eq (by rw[bm (by omega) (by omega)];rfl) rfl)
  ·have hkr:=hi.row tg;have hkQ:=(List.getElem?_eq_some_iff.1 hkr).1
   have eh:∀E:List ae,(Q2++E)[k]? =some (.live 29 4 ys):=λ E=>by
    rw[al (by omega),l6.2 k hkQ λ x hx e=>by rw[e,hi.lay.box x hx]at hkr;simp[fQ]at hkr];exact hkr
   simp only[if_neg tg,eh,aA,ch,tj,↓OD,OA,reduceEqDiff,reduceCtorEq,reduceAdd,reduceLT,reduceLeDiff,reduceIte];refine⟨λ y hy=>by rw[List.mem_singleton.1 hy];rfl,by omega,o8,?_⟩;try simp only[↓OD,OA,reduceEqDiff,reduceCtorEq,reduceAdd,reduceLT,reduceLeDiff,reduceIte]
   refine b6 (j+1,u2,ys++ [_],k,_) ⟨hj,hi.step (k':=k) (htg j hj) l1 l2 l3 l4 l5 l6 (λ h=>(tg h).elim) (λ _=>rfl) (λ n hn h=>by rw[List.getElem?_set_ne (λ e=>h e.symm),al hn]) (List.getElem?_set_self (by simp;omega))⟩ (by show i- (j+1)<i- j;omega) (.of_eq ?_ rfl);rw[bm (by omega) (by omega)];simp
 have d:decide ((j:Int)<(i:Int))=false:=decide_eq_false (by omega);have qR:j=i:=by omega
 have htk:ts.take j=ts:=by rw[qR,←htl,List.take_length]
 have hsp:=hi.split;rw[htk]at hsp;by_cases tg:ys= []
 ·have as2:ts= []:=List.eq_nil_of_length_eq_zero (by rw[htl,←qR,←hyl,tg];rfl);simp only[d,if_pos tg,↓OD,OA,reduceEqDiff,reduceCtorEq,reduceAdd,reduceLT,reduceLeDiff,reduceIte];exact aeb (.inl rfl) (by simp only[↓OD,OA,reduceEqDiff,reduceCtorEq,reduceAdd,reduceLT,reduceLeDiff,reduceIte]) (ans (.inr ⟨rfl,amb,as2.symm⟩))
 ·simp only[d,if_neg tg,↓OD,OA,reduceEqDiff,reduceCtorEq,reduceAdd,reduceLT,reduceLeDiff,reduceIte];exact akH (nl:=true) (.inl rfl) (ys:=ys) (xs:=ts.map aa.av) (ty:=29) (z:=4) (k:=k) (len:=ys.length) (v:= .int .i64 0) (by simp only[↓OD,OA,reduceEqDiff,reduceCtorEq,reduceAdd,reduceLT,reduceLeDiff,reduceIte]) (by rw[hi.row tg];simp[cK,tg]) rfl hsp ⟨ts,0,rfl,rfl,ans (.inr ⟨rfl,amb,rfl⟩),atu⟩
theorem ab7(m:Int)(a b:List aa)(hm:l9 m)(ha:(a.map aa.wt).sum+a.length<=1048576)(hb:(b.map aa.wt).sum+b.length<=1048576):
  ∃ts code,nc m a b ts code/\(∀t∈ts,t.iU=true)/\hD Try.prog F.ja [aA m,.sl (a.map aa.av),.sl (b.map aa.av)] [] (.ba [.own 0,aA code]) [.own (.sl (ts.map aa.av))]:=by
 obtain⟨res,O',⟨ts,code,rfl,rfl,h,ho⟩,hc⟩:=yc m a b hm ha hb;exact⟨ts,code,h,ho,hc⟩
end Go.Proofs.Ab
