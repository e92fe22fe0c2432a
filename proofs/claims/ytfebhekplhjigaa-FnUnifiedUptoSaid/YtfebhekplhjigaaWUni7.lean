/-
  Unify of the program.
-/
import Derived.Test.YtfebhekplhjigaaWUok
import Derived.Test.YtfebhekplhjigaaWClo2
import Derived.Test.YtfebhekplhjigaaPUni4
open Int(toNat_natCast)
open Nat(zero_le le_refl)
open List(nodup_nil append_assoc cons_append nil_append length_map length_range)
open Nat(reduceEqDiff reduceLeDiff reduceAdd reduceLT reduceMul)
set_option linter.unusedSimpArgs false
set_option linter.unusedVariables false
namespace Go.Proofs.Ab
open Go.Ab
set_option maxRecDepth 100000
set_option maxHeartbeats 4000000
def UQ(m:Int)(a b:List aa)(res:AV)(O':List ad):Prop:=∃ts code,res= .a9 [.own 0,.v (.int .i64 code)]/\O'= [.own (.sl (ts.map aa.av))]/\gH m a b ts code/\∀t∈ts,t.jn=true
theorem afZ{m:Int}{a b:List aa}{rs:List dG}{x:AX}(hx:x= .ret∨x= .normal){e:Env}{O:List ad}{c:Int}(h:dK e O rs [] λ xs=>br xs= .a9 [.aw,.v (.int .i64 c)])(hu:gH m a b [] c):aeN 0 rs (UQ m a b) x e O:=
 akb hx h ⟨[],c,rfl,rfl,hu,λ t ht=>by simp at ht⟩
theorem as1{α:Type}{A C:List α}{x y z:α}:(A++x::y::C).set (A.length+1) z=A++x::z::C:=by
 rw[List.set_append_right _ _ (by omega),Nat.add_sub_cancel_left];rfl
def rP(k:Nat):ad:= .live 66 5 [.agg [au 11,au k,bZ ⟨#[]⟩,.aw,.v (.pointer none)]]
def aa4(c M i:Nat):ad:= .live 64 1 (kD (λ k=>c+2+k) (List.range i)++List.replicate (M- i) (.v (.pointer none)))
theorem akF{c M i:Nat}(h:i<=M):(kD (λ k=>c+2+k) (List.range i)++List.replicate (M- i) (AV.v (.pointer none))).length=M:=by simp[kD];omega
theorem akG{c M i:Nat}(h:i<M):(kD (λ k=>c+2+k) (List.range i)++List.replicate (M- i) (AV.v (.pointer none))).getD i .top= .v (.pointer none):=by
 obtain⟨q,hq⟩:∃q,M- i=q+1:=⟨M- i- 1,by omega⟩;rw[hq,List.replicate_succ];exact tB (by simp[kD])
theorem akE{c M i:Nat}(h:i<M):(kD (λ k=>c+2+k) (List.range i)++List.replicate (M- i) (AV.v (.pointer none))).set i (.ptr (c+2+i) 1 0 0)=kD (λ k=>c+2+k) (List.range (i+1))++List.replicate (M- (i+1)) (.v (.pointer none)):=by
 obtain⟨q,hq⟩:∃q,M- i=q+1:=⟨M- i- 1,by omega⟩;have hq2:M- (i+1)=q:=by omega
 rw[hq,hq2,List.replicate_succ,aq7 (by simp[kD]),List.range_succ];simp[kD]
def rO(c M:Nat):ad:= .live 63 1 [.row c M]
structure agI(M:Nat)(ps:List (aa×aa))(lb lr mp:Nat)(S:Net)(u bx kr:Nat->Nat)(qs:List (Nat×Nat))(Q:List ad):Prop where
 run:pQ S u qs ps
 M:S.M=M
 lay:cv S u bx kr Q
 list:kx S bx lb lr Q
 map:lx S bx (λ _=>0) mp [] Q
theorem akC{b:Nat}{S S':Net}{up bx kr bw nW qW:Nat->Nat}(h:qM b S up bx kr S' bw nW qW):vF S up S' bw:=
 ⟨h.N,h.M,λ x hx=>⟨(h.fx x hx).1,(h.fx x hx).2.1,(h.fx x hx).2.2.1⟩,λ x h1 h2=>⟨(h.new x h1 h2).1,(h.new x h1 h2).2.1⟩⟩
theorem agI.ext{M:Nat}{ps:List (aa×aa)}{lb lr mp:Nat}{S S':Net}{u bx kr u' nW qW:Nat->Nat}{qs:List (Nat×Nat)}{Q Q':List ad}(h:agI M ps lb lr mp S u bx kr qs Q)(hs:S'.ok)(hl:cv S' u' nW qW Q')(he:qM Q.length S u bx kr S' u' nW qW)(hf:∀n,n<Q.length->Q'[n]? =Q[n]?):agI M ps lb lr mp S' u' nW qW qs Q':=
 ⟨h.run.grow (akC he) hs λ x h1 h2=>(he.new x h1 h2).2.2.1,he.M.trans h.M,hl,h.list.ext h.run.ok he hf,⟨nodup_nil,λ x hx=>by simp at hx,λ x _ h=>(h rfl).elim,by
   have:=(List.getElem?_eq_some_iff.1 h.map.ob).1;rw[hf _ this];exact h.map.ob⟩⟩
theorem kx.asC{S:Net}{up bx kr:Nat->Nat}{st:Nat->Int}{ks:List Nat}{lb lr mp:Nat}{O O':List ad}(h:kx S bx lb lr O)(hM:lx S bx st mp ks O)(k:lS S bx mp O O'):kx S bx lb lr O':=by
 have h1:=(List.getElem?_eq_some_iff.1 h.box).1;have h2:=(List.getElem?_eq_some_iff.1 h.row).1;have n1:lb≠mp:=λ e=>by have:=h.box;rw[e,hM.ob]at this;cases this
 have n2:lr≠mp:=λ e=>by have:=h.row;rw[e,hM.ob]at this;cases this
 exact⟨by rw[k.2 _ h1 (λ x hx=>(h.sep x hx).1) n1];exact h.box,by rw[k.2 _ h2 (λ x hx=>(h.sep x hx).2) n2];exact h.row,h.sep⟩
structure TyR(S:Net)(u0 bx kr:Nat->Nat)(lb lr:Nat)(ts:List aa)(i:Nat)(u:Nat->Nat)(ys:List AV)(k:Nat)(Q:List ad):Prop where
 lay:cv S u bx kr Q
 lt:∀z,z<S.N->u z<S.N
 eq:dy u0 u
 list:kx S bx lb lr Q
 len:ys.length=i
 split:Split Q ys ((ts.take i).map aa.av)
 own:∀(a:Nat) y (j m:Nat),ys[a]? =some y->y.cells[j]? =some (.own m)->∃d,Q[m]? =some (.own d)
 row:ys≠[]->Q[k]? =some (.live 29 4 ys)
theorem TyR.step{S:Net}{u0 bx kr:Nat->Nat}{lb lr:Nat}{ts:List aa}{i:Nat}{u:Nat->Nat}{ys:List AV}{k:Nat}{Q:List ad}(hi:TyR S u0 bx kr lb lr ts i u ys k Q){t:aa}(ht:ts[i]? =some t){u':Nat->Nat}{O' Q3:List ad}{kk k':Nat}
  (h1:O'[kk]? =some (.own (.sl (t.Kids.map aa.av)))) (h2:Q.length<=kk) (h3:cv S u' bx kr O') (h4:∀x,x<S.N->u' x<S.N) (h5:dy u0 u') (h6:ke S bx Q O')
  (k1:ys= []->O'.length<=k') (k2:ys≠[]->k'=k) (h7:∀n,n<O'.length->n≠k'->Q3[n]? =O'[n]?)
  (hr:Q3[k']? =some (.live 29 4 (ys++ [.agg [au t.Kind,au t.N,bZ t.Name,.own kk]]))):
  TyR S u0 bx kr lb lr ts (i+1) u' (ys++ [.agg [au t.Kind,au t.N,bZ t.Name,.own kk]]) k' Q3:=by
 have hQO:=h6.1;have hkl:=(List.getElem?_eq_some_iff.1 h1).1;have I':=hi.list.same h6
 have hkO:ys≠[]->O'[k]? =some (.live 29 4 ys):=λ h=>by
  have hk:=hi.row h;rw[h6.2 k (List.getElem?_eq_some_iff.1 hk).1 λ x hx e=>by rw[e,hi.lay.box x hx]at hk;simp[fY]at hk];exact hk
 have bn:∀(n:Nat) (ob:ad),O'[n]? =some ob->(∀zs,ob≠ad.live 29 4 zs)->n≠k':=λ (n:Nat) (ob:ad) hn mY e=>by
  by_cases h:ys= []
  ·have:=k1 h;have:=(List.getElem?_eq_some_iff.1 hn).1;omega
  ·rw[e,k2 h,hkO h]at hn;cases hn;exact mY _ rfl
 have ov:∀(n:Nat) (ob:ad),O'[n]? =some ob->(∀zs,ob≠ad.live 29 4 zs)->Q3[n]? =some ob:=λ n ob hn mY=>by
  rw[h7 n (List.getElem?_eq_some_iff.1 hn).1 (bn n ob hn mY)];exact hn
 have pM:∀(a:Nat) y (j m:Nat),ys[a]? =some y->y.cells[j]? =some (.own m)->Q3[m]? =Q[m]? /\m≠kk:=λ a y j m hy hc=>by
  obtain⟨d,g2⟩:=hi.own a y j m hy hc;have mc:=(List.getElem?_eq_some_iff.1 g2).1
  have e1:O'[m]? =some (.own d):=by
   rw[h6.2 m mc λ x hx e=>by rw[e,hi.lay.box x hx]at g2;simp[fY]at g2];exact g2
  exact⟨by rw[ov m _ e1 (λ _=>by simp),g2],by omega⟩
 have xg:Q3[kk]? =some (.own (.sl (t.Kids.map aa.av))):=ov kk _ h1 (λ _=>by simp);refine⟨h3.move λ x hx=>⟨?_,λ hk=> ?_⟩,h4,h5,⟨ov lb _ I'.box (λ _=>by simp),ov lr _ I'.row (λ _=>by simp),I'.sep⟩,by simp[hi.len],?_,λ a y j m hy hc=> ?_,λ _=>hr⟩
 ·rw[h3.box x hx];exact ov _ _ (h3.box x hx) (λ _=>by simp[fY])
 ·rw[h3.row x hx hk];exact ov _ _ (h3.row x hx hk) (λ _=>by simp)
 ·have:=hi.split.add (O':=Q3) (K:=t.Kind) (N:=t.N) (S:=t.Name) (kk:=kk) (a:= .sl (t.Kids.map aa.av)) xg pM;rw[aa.eta]at this;rw[List.take_add_one,ht,List.map_append];exact this
 ·by_cases ha:a<ys.length
  ·rw[List.getElem?_append_left ha]at hy;obtain⟨d,g4⟩:=hi.own a y j m hy hc;exact⟨d,by rw[(pM a y j m hy hc).1];exact g4⟩
  ·rw[List.getElem?_append_right (by omega)]at hy;generalize a- ys.length=q at hy;cases q with
   |succ q=>simp at hy
   |zero=>
    simp at hy;subst hy;have:=ade hc;subst this;exact⟨_,xg⟩
open Classical in
theorem aeu{S:Net}{u:Nat->Nat}{M:Nat}(h:∀k,k<M->∃t,gP S u k t):∃τ:Int->aa,∀k:Nat,k<M->gP S u k (τ k):=
 ⟨λ n=>if h:∃t,gP S u n.toNat t then h.choose else cN n,λ k hk=>by
  have nH:∃t,gP S u ((k:Int)).toNat t:=by rw[toNat_natCast];exact h k hk
  simp only[dif_pos nH];exact nH.choose_spec⟩
theorem oi{M j:Nat}(h:j<M):(List.range M)[j]? =some j:=by rw[List.getElem?_range h]
theorem zy(m:Int)(a b:List aa)(hm:l8 m)(ha:(a.map aa.wt).sum+a.length<=1048576)(hb:(b.map aa.wt).sum+b.length<=1048576):
  ∃res O',UQ m a b res O'/\fE Try.prog F.jv [au m,.sl (a.map aa.av),.sl (b.map aa.av)] [] res O':=by
 refine jx A.abd rfl ?_;obtain⟨B,c1,_⟩:=zo m a b hm ha hb [];simp only[A.jv,au,↓OD,OA,reduceEqDiff,reduceCtorEq];refine aD _ _ c1 ?_;cases kV:ch m a b with
 |false=>
  simp only[Bool.not_false,↓OD,OA,reduceEqDiff,reduceCtorEq];exact afZ (.inl rfl) (by simp only[OA,reduceEqDiff]) (.inl ⟨kV,rfl,rfl⟩)
 |true=>
 obtain⟨h1,h2,h3,h4,h5⟩:=kP kV;obtain⟨M,rfl⟩:∃M:Nat,m=(M:Int):=⟨m.toNat,by omega⟩;have no2:(¬∃σ:Int->aa,∀p∈a.zip b,p.1.sub σ=p.2.sub σ)->gH M a b [] 2:=λ h=> .inr ⟨kV,.inl ⟨rfl,rfl,h⟩⟩
 simp only[Bool.not_true,toNat_natCast,append_assoc,cons_append,nil_append,ux,as1,ku,List.length_replicate,↓OD,OA,reduceEqDiff,reduceCtorEq];refine⟨by omega,by omega,by omega,by omega,?_⟩;try simp only[toNat_natCast,append_assoc,cons_append,nil_append,ku,ux,as1,List.length_replicate,↓OD,OA,reduceEqDiff,reduceCtorEq,reduceAdd,reduceLT,reduceLeDiff,reduceIte]
 refine bd (ι:=Nat) (λ i=>i<=M) (λ i=>jw [(1,.sl (a.map aa.av)),(2,.sl (b.map aa.av)),(8,.ptr (B.length+1) 1 0 0),(29,.v (.int .i64 M)),(30,.v (.int .i64 i))])
  (λ i=>B++aa4 B.length M i::rO B.length M::(List.range i).map rP) (λ i=>M- i) 0 (zero_le _) (.of_eq rfl (by simp[aa4,rO,kD])) ?_
 intro i hi;by_cases aF:i<M
 ·have d:decide ((i:Int)<(M:Int))=true:=decide_eq_true (by omega);have mc:(B++aa4 B.length M i::rO B.length M::(List.range i).map rP).length=B.length+2+i:=by simp;omega
  simp only[rO]at mc;simp only[d,rO,append_assoc,cons_append,nil_append,ku,ux,mc,↓OD,OA,reduceEqDiff,reduceAdd,reduceLeDiff];simp only[aa4,akF hi,akG aF,akE aF,as0,toNat_natCast,AV.cells,OA];refine⟨by omega,by omega,aF,a6 (i+1) aF (by show M- (i+1)<M- i;omega) (.of_eq (by rw[bh (by omega) (by omega)];rfl) ?_)⟩;simp[List.range_succ,rP,au,bZ]
 have d:decide ((i:Int)<(M:Int))=false:=decide_eq_false (by omega);obtain rfl:i=M:=by omega
 simp only[d,length_map,↓OD,OA,reduceEqDiff]
 have q0:∀(k:Nat),k<i->(B++aa4 B.length i i::rO B.length i::(List.range i).map rP)[B.length+2+k]? =some (rP k):=λ k hk=>by
  rw[List.getElem?_append_right (by omega),show B.length+2+k- B.length=k+1+1 by omega,List.getElem?_cons_succ,List.getElem?_cons_succ,List.getElem?_map,List.getElem?_range hk];rfl
 have L0:cv (Net.jq i) id (λ k=>B.length+2+k) (λ _=>0) (B++aa4 B.length i i::rO B.length i::(List.range i).map rP):=
  ⟨λ k hk=>by rw[q0 k hk];simp[fY,rP,Net.jq,cN,lE,upC,aa.Kind,aa.N,aa.Name],λ k _ h=>(h rfl).elim,λ x y _ _ h=>by have h':B.length+2+x=B.length+2+y:=h;omega,λ x y _ _ h=>(h rfl).elim,λ x _=>by show 0<=_;omega⟩
 have I0:kx (Net.jq i) (λ k=>B.length+2+k) (B.length+1) B.length (B++aa4 B.length i i::rO B.length i::(List.range i).map rP):=
  ⟨ux,by rw[ku];simp[aa4,Net.jq],λ x _=>⟨by omega,by omega⟩⟩
 have hQl:(B++aa4 B.length i i::rO B.length i::(List.range i).map rP).length=B.length+2+i:=by simp;omega
 generalize B++aa4 B.length i i::rO B.length i::(List.range i).map rP=Q0 at L0 I0 hQl⊢;clear q0;have hmp:B.length+((List.range i).length+1+1)=Q0.length:=by rw[hQl,length_range];omega
 rw[hmp]
 have P0:agI i [] (B.length+1) B.length Q0.length (Net.jq i) id (λ k=>B.length+2+k) (λ _=>0) [] (Q0++ [.cZ (.mp [])]):=
  ⟨.init i,rfl,L0.app _,I0.same (.app _ _),⟨nodup_nil,λ x hx=>by simp at hx,λ x _ h=>(h rfl).elim,ku⟩⟩
 clear L0 I0 hi aF d c1;generalize B.length+1=lb at P0⊢;generalize B.length=lr at P0 hQl;generalize aEU:Q0.length=mp at P0⊢;generalize Q0++ [.cZ (.mp [])]=Q1 at P0⊢
 refine bd (ι:=Nat×Net×(Nat->Nat)×(Nat->Nat)×(Nat->Nat)×List (Nat×Nat)×List ad)
  (λ q=>q.1<=a.length/\agI i ((a.zip b).take q.1) lb lr mp q.2.1 q.2.2.1 q.2.2.2.1 q.2.2.2.2.1 q.2.2.2.2.2.1 q.2.2.2.2.2.2)
  (λ q=>jw [(1,.sl (a.map aa.av)),(2,.sl (b.map aa.av)),(8,.ptr lb 1 0 0),(10,.fn F.dL [.ptr lb 1 0 0]),(11,.own mp),(43,.v (.int .i64 (a.length:Int))),(44,.v (.int .i64 q.1))])
  (λ q=>q.2.2.2.2.2.2) (λ q=>a.length- q.1) (0,Net.jq i,id,_,_,[],Q1) ⟨zero_le _,by rw[List.take_zero];exact P0⟩ (.of_eq (by first|rfl|simp) rfl) ?_
 rintro⟨j,S,u,bx,kr,qs,Q⟩ ⟨w1,hP⟩;simp only at w1 hP;by_cases hj:j<a.length
 ·have d:decide ((j:Int)<(a.length:Int))=true:=decide_eq_true (by omega);obtain⟨x,hx⟩:∃x,a[j]? =some x:=⟨_,List.getElem?_eq_getElem hj⟩;obtain⟨y,hy⟩:∃y,b[j]? =some y:=⟨_,List.getElem?_eq_getElem (by omega)⟩;have hxm:=List.mem_of_getElem? hx;have hym:=List.mem_of_getElem? hy;have hxw:=cY aa.wt hxm;have hyw:=cY aa.wt hym;obtain⟨x1,x2⟩:=h5 x (.inl hxm);obtain⟨y1,y2⟩:=h5 y (.inr hym);simp only[toNat_natCast]at x2 y2;obtain⟨S2,u2,bx2,kr2,Q2,r1,c1,s1,l1,e1,n1,f1,g1,t1⟩:=nO x hP.run.ok hP.lay hP.run.uf.lt hP.list x1 (by rw[hP.M];exact x2) (by omega);have hP2:=hP.ext s1 l1 e1 f1;obtain⟨S3,u3,bx3,kr3,Q3,r2,c2,s2,l2,e2,n2,f2,g2,t2⟩:=nO y s1 l1 hP2.run.uf.lt hP2.list y1 (by rw[hP2.M];exact y2) (by omega);have hP3:=hP2.ext s2 l2 e2 f2;have hr1:bx3 r1=bx2 r1:=(e2.fx r1 g1).2.2.2.1;have aia:r1<S3.N:=Nat.lt_of_lt_of_le g1 e2.N;have ht1:S3.ty r1=x:=by rw[(e2.fx r1 g1).1,t1]
  obtain⟨u4,Q4,ok,c3,j1,l3,m3,p3,q3,v3⟩:=afq _ s2 l2 hP3.run.uf.lt hP3.run.uf.tot (le_refl _) aia g2;rw[hr1]at c3;have hgx:(a.map aa.av).getD j .top=x.av:=by simp[List.getD,hx]
  have hgy:(b.map aa.av).getD j .top=y.av:=by simp[List.getD,hy]
  have htk:(a.zip b).take (j+1)=(a.zip b).take j++ [(S3.ty r1,S3.ty r2)]:=by
   rw[List.take_add_one,ht1,t2];have:(a.zip b)[j]? =some (x,y):=by rw[List.getElem?_zip_eq_some];exact⟨hx,hy⟩
   rw[this];rfl
  simp only[d,↓OD,OA,reduceEqDiff];refine dv ?_;simp only[length_map,toNat_natCast,hgx,aa.width,aa.isAgg,↓OD,OA,reduceEqDiff];refine⟨by omega,by omega,aD _ _ c1 ?_⟩;simp only[length_map,toNat_natCast,hgy,aa.width,aa.isAgg,↓OD,OA,reduceEqDiff];refine⟨by omega,by omega,aD _ _ c2 ?_⟩;simp only[↓OD,OA,reduceEqDiff];refine aD _ _ c3 ?_;cases ok with
  |false=>
   simp only[Bool.not_false,↓OD,OA,reduceEqDiff];refine⟨by kernel_rfl,?_⟩;try simp only[↓OD,OA,reduceEqDiff,reduceCtorEq,reduceAdd,reduceLT,reduceLeDiff,reduceIte]
   refine afZ (.inl rfl) (by simp only[OA,reduceEqDiff]) (no2 λ ⟨σ,zE⟩=> ?_);have mu:=hP3.run.jH aia g2 j1;rw[←htk]at mu;exact mu ⟨σ,λ p hp=>zE p (List.mem_of_mem_take hp)⟩
  |true=>
   simp only[Bool.not_true,↓OD,OA,reduceEqDiff];refine⟨by kernel_rfl,?_⟩;try simp only[↓OD,OA,reduceEqDiff,reduceCtorEq,reduceAdd,reduceLT,reduceLeDiff,reduceIte]
   have bo:=hP3.run.join aia g2 j1;rw[←htk]at bo;exact a6 (j+1,S3,u4,bx3,kr3,_,Q4) ⟨hj,bo,hP3.M,l3,hP3.list.same m3,hP3.map.same hP3.lay m3⟩ (by show a.length- (j+1)<a.length- j;omega) (.of_eq (by rw[bh (by omega) (by omega)];rfl) rfl)
 have d:decide ((j:Int)<(a.length:Int))=false:=decide_eq_false (by omega);have mf:(a.zip b).take j=a.zip b:=List.take_of_length_le (by rw[List.length_zip];omega);rw[mf]at hP;have hlb:=hP.list.box;rw[hP.M]at hlb;have hlr:=hP.list.row;rw[hP.M]at hlr;simp only[d,hlb,hlr,cU,length_range,true_and,↓OD,OA,reduceEqDiff];clear P0 d hj
 refine bd (ι:=Nat×(Nat->Nat)×(Nat->Int)×List Nat×List ad)
  (λ q=>q.1<=i/\cv S q.2.1 bx kr q.2.2.2.2/\(∀z,z<S.N->q.2.1 z<S.N)/\dy u q.2.1/\lx S bx q.2.2.1 mp q.2.2.2.1 q.2.2.2.2/\kx S bx lb lr q.2.2.2.2/\(∀g,g<S.N->q.2.2.1 g≠1)/\(∀g,g<S.N->q.2.2.1 g=2->∃t,gP S u g t)/\(∀g,g<S.N->q.2.2.1 g=0∨q.2.2.1 g=1∨q.2.2.1 g=2)/\∀k,k<q.1->∃t,gP S u k t)
  (λ q=>jw [(8,.ptr lb 1 0 0),(11,.own mp),(62,.row lr i),(63,.v (.int .i64 i)),(64,.v (.int .i64 q.1))]) (λ q=>q.2.2.2.2) (λ q=>i- q.1) (0,u,(λ _=>0),[],Q)
  ⟨zero_le _,hP.lay,hP.run.uf.lt,λ _ _ h=>h,hP.map,hP.list,λ g _ h=>by simp at h,λ g _ h=>by simp at h,λ g _=> .inl rfl,λ k hk=>by simp at hk⟩ (.of_eq rfl rfl) ?_
 rintro⟨j,u',st,ks,Q'⟩ ⟨w1,w2,w3,w4,w5,w6,w7,w8,w9,w10⟩;simp only at w1 w2 w3 w4 w5 w6 w7 w8 w9 w10;have aof:=w6.row;rw[hP.M]at aof;by_cases hj:j<i
 ·have d:decide ((j:Int)<(i:Int))=true:=decide_eq_true (by omega);have hjN:j<S.N:=Nat.lt_of_lt_of_le hj (by rw[←hP.M];exact hP.run.ok.le);obtain⟨u2,Q2,st2,ks2,res,hc,l1,l2,l3,l4,l5,l6,l7⟩:=zw hP.run.ok hP.run.uf.lt hP.run.uf.tot _ w2 w3 w4 w5 hjN ⟨λ g hg h=>(w7 g hg h).elim,w8,w9⟩ (le_refl _);simp only[d,aof,cU,length_range,iC (oi hj),toNat_natCast,AV.cells,↓OD,OA,reduceEqDiff];refine⟨by omega,by omega,hj,aD _ _ hc ?_⟩;cases res with
  |true=>
   obtain⟨z,hz,hzd⟩:=l6 rfl;simp only[↓OD,OA,reduceEqDiff];exact afZ (.inl rfl) (by simp only[OA,reduceEqDiff]) (no2 (hP.run.ath hz hzd))
  |false=>
   obtain⟨hv,g1,g2,g3,_⟩:=l7 rfl;simp only[↓OD,OA,reduceEqDiff];refine a6 (j+1,u2,st2,ks2,Q2) ⟨hj,l1,l2,l3,l4,w6.asC (up:=u) (kr:=kr) w5 l5,λ g hg h=>w7 g hg ((g1 g hg).1 h),g2,g3,λ k hk=> ?_⟩ (by show i- (j+1)<i- j;omega) (.of_eq (by rw[bh (by omega) (by omega)];rfl) rfl);by_cases e:k=j
   ·subst e;exact hv
   ·exact w10 k (by simp only at hk;omega)
 have d:decide ((j:Int)<(i:Int))=false:=decide_eq_false (by omega);obtain⟨τ,xb⟩:=aeu (M:=i) λ k hk=>w10 k (by omega)
 have hC:=hP.run.canon (τ:=τ) (by rw[hP.M];exact xb);have aih:=hP.run.am5 (τ:=τ) (by rw[hP.M];exact xb);rw[hP.M]at hC aih;have arG:=w6.box;rw[hP.M]at arG;have ayT:∀E:List ad,(Q'++E)[lb]? =Q'[lb]? :=λ E=>al (List.getElem?_eq_some_iff.1 arG).1
 have ayP:∀E:List ad,(Q'++E)[lr]? =Q'[lr]? :=λ E=>al (List.getElem?_eq_some_iff.1 aof).1
 simp only[d,arG,aof,ayT,ayP,cU,length_range,true_and,↓OD,OA,reduceEqDiff];have L1:cv S u' bx kr (Q'++ [.cZ (.mp [])]):=w2.app _;have I1:kx S bx lb lr (Q'++ [.cZ (.mp [])]):=w6.same (.app _ _);have M1:lx S bx (λ _=>0) Q'.length [] (Q'++ [.cZ (.mp [])]):=⟨nodup_nil,λ x hx=>by simp at hx,λ x _ h=>(h rfl).elim,ku⟩;clear ayT ayP hlb hlr aof arG w5 w6 w7 w8 w9 w10 w2 d hj w1;generalize Q'.length=mp2 at M1⊢;generalize Q'++ [.cZ (.mp [])]=Q1' at L1 I1 M1⊢
 refine bd (ι:=Nat×(Nat->Nat)×(Nat->Int)×List Nat×List ad)
  (λ q=>q.1<=i/\cv S q.2.1 bx kr q.2.2.2.2/\(∀z,z<S.N->q.2.1 z<S.N)/\dy u q.2.1/\lx S bx q.2.2.1 mp2 q.2.2.2.1 q.2.2.2.2/\kx S bx lb lr q.2.2.2.2/\(∀g,g<S.N->q.2.2.1 g≠0->∃t,gP S u g t/\q.2.2.1 g=ej t.dw)/\∀k:Nat,k<q.1->(τ k).dw<=200)
  (λ q=>jw [(8,.ptr lb 1 0 0),(15,.own mp2),(16,.aw),(73,.row lr i),(74,.v (.int .i64 i)),(75,.v (.int .i64 q.1))]) (λ q=>q.2.2.2.2) (λ q=>i- q.1) (0,u',(λ _=>0),[],Q1')
  ⟨zero_le _,L1,w3,w4,M1,I1,λ g _ h=>(h rfl).elim,λ k hk=>by simp at hk⟩ (.of_eq rfl rfl) ?_
 clear L1 w3 w4 M1 I1;rintro⟨j,u',st,ks,Q'⟩ ⟨w1,w2,w3,w4,w5,w6,w7,w8⟩;simp only at w1 w2 w3 w4 w5 w6 w7 w8;have hlr:=w6.row;rw[hP.M]at hlr;have ans:∀{ts:List aa} {c:Int},((c=3/\ts= []/\∃k:Nat,k<i/\200<(τ k).dw)∨(c=0/\(∀k:Nat,k<i->(τ k).dw<=200)/\ts=(List.range i).map λ k:Nat=>τ k))->gH i a b ts c:=λ h=> .inr ⟨kV,.inr ⟨τ,by rw[toNat_natCast];exact hC,by rw[toNat_natCast];exact h⟩⟩
 by_cases hj:j<i
 ·have d:decide ((j:Int)<(i:Int))=true:=decide_eq_true (by omega);have hjN:j<S.N:=Nat.lt_of_lt_of_le hj (by rw[←hP.M];exact hP.run.ok.le);obtain⟨u2,Q2,st2,ks2,hc,l1,l2,l3,l4,l5,l6⟩:=wP hP.run.ok hP.run.uf.lt _ w2 w3 w4 w5 hjN (xb j hj) w7 (le_refl _);simp only[d,hlr,cU,length_range,iC (oi hj),toNat_natCast,AV.cells,↓OD,OA,reduceEqDiff];refine⟨by omega,by omega,hj,aD _ _ hc ?_⟩;by_cases vp:(τ j).dw<=200
  ·have d2:decide ((200:Int)<ej (τ j).dw)=false:=decide_eq_false (by unfold ej;omega);simp only[d2,↓OD,OA,reduceEqDiff];refine a6 (j+1,u2,st2,ks2,Q2) ⟨hj,l1,l2,l3,l4,w6.asC (up:=u) (kr:=kr) w5 l5,l6,λ k hk=> ?_⟩ (by show i- (j+1)<i- j;omega) (.of_eq (by rw[bh (by omega) (by omega)];rfl) rfl);by_cases e:k=j
   ·subst e;exact vp
   ·exact w8 k (by simp only at hk;omega)
  ·have d2:decide ((200:Int)<ej (τ j).dw)=true:=decide_eq_true (by unfold ej;omega);simp only[d2,↓OD,OA,reduceEqDiff];exact afZ (.inl rfl) (by simp only[OA,reduceEqDiff]) (ans (.inl ⟨rfl,rfl,j,hj,by omega⟩))
 have d:decide ((j:Int)<(i:Int))=false:=decide_eq_false (by omega);have hlb:=w6.box;rw[hP.M]at hlb;have adM:∀k:Nat,k<i->(τ k).dw<=200:=λ k hk=>w8 k (by omega)
 simp only[d,hlb,hlr,cU,length_range,true_and,↓OD,OA,reduceEqDiff]
 have au0:∀x,x<S.N->9<=(S.ty x).Kind->(S.ty x).Kind<=11->(S.ty x).Name=⟨#[]⟩/\S.kids x= []:=λ x hx h9 h11=>by
  obtain⟨e1,e2,_⟩:=aa.ae4 (hP.run.okm x hx) ⟨h9,h11⟩;refine⟨e1,?_⟩;rw[hP.run.ok.zj x hx]at e2;exact List.map_eq_nil_iff.1 e2
 generalize oI:(List.range i).map (λ k:Nat=>τ k)=ts at ans aih;have htl:ts.length=i:=by rw[←oI];simp
 have htg:∀k,k<i->ts[k]? =some (τ k):=λ k hk=>by rw[←oI,List.getElem?_map,oi hk];rfl
 refine bd (ι:=Nat×(Nat->Nat)×List AV×Nat×List ad)
  (λ q=>q.1<=i/\TyR S u bx kr lb lr ts q.1 q.2.1 q.2.2.1 q.2.2.2.1 q.2.2.2.2)
  (λ q=>jw [(16,if q.2.2.1= []then .aw else .row q.2.2.2.1 q.2.2.1.length),(84,.row lr i),(85,.v (.int .i64 i)),(86,.v (.int .i64 q.1))]) (λ q=>q.2.2.2.2) (λ q=>i- q.1) (0,u',[],0,Q')
  ⟨zero_le _,w2,w3,w4,w6,rfl,by rw[List.take_zero];exact .nil _,λ a y j m hy=>by simp at hy,λ h=>(h rfl).elim⟩ (.of_eq rfl rfl) ?_
 clear hlb hlr w1 w2 w3 w4 w5 w6 w7 w8 d hj;rintro⟨j,u',ys,k,Q'⟩ ⟨w1,hi⟩;simp only at w1 hi;have hlr:=hi.list.row;rw[hP.M]at hlr;have hyl:=hi.len;by_cases hj:j<i
 ·have d:decide ((j:Int)<(i:Int))=true:=decide_eq_true (by omega);have hjN:j<S.N:=Nat.lt_of_lt_of_le hj (by rw[←hP.M];exact hP.run.ok.le);obtain⟨u2,Q2,kk,hc,l1,l2,l3,l4,l5,l6⟩:=afp hP.run.ok hP.run.uf.lt au0 _ hi.lay hi.lt hi.eq hjN (xb j hj) (le_refl _);have hq:=l6.1
  have mc:ys.length+1<=maxLen:=by
   have:maxLen=9223372036854775807:=rfl;omega
  simp only[d,hlr,cU,length_range,iC (oi hj),toNat_natCast,AV.cells,↓OD,OA,reduceEqDiff];refine⟨by omega,by omega,hj,aD _ _ hc ?_⟩;by_cases uv:ys= []
  ·subst uv;simp only[if_true,au,bZ,ku,↓OD,OA,reduceEqDiff,reduceCtorEq,reduceAdd];refine⟨λ y hy=>by rw[List.mem_singleton.1 hy];rfl,by decide,by decide,λ h=>h.elim,λ _=> ?_⟩;try simp only[append_assoc,cons_append,nil_append]
   refine a6 (j+1,u2,[]++ [_],Q2.length+1,_) ⟨hj,hi.step (k':=Q2.length+1) (htg j hj) l1 l2 l3 l4 l5 l6 (λ _=>by omega) (λ h=>(h rfl).elim) (λ n hn _=>al hn) ux⟩ (by show i- (j+1)<i- j;omega) (.of_eq (by rw[bh (by omega) (by omega)];rfl) rfl)
  ·have hkr:=hi.row uv;have hkQ:=(List.getElem?_eq_some_iff.1 hkr).1
   have dm:∀E:List ad,(Q2++E)[k]? =some (.live 29 4 ys):=λ E=>by
    rw[al (by omega),l6.2 k hkQ λ x hx e=>by rw[e,hi.lay.box x hx]at hkr;simp[fY]at hkr];exact hkr
   simp only[if_neg uv,dm,au,bZ,ku,↓OD,OA,reduceEqDiff,reduceAdd];refine⟨λ y hy=>by rw[List.mem_singleton.1 hy];rfl,by omega,mc,?_⟩;try simp only[↓OD,OA,reduceEqDiff,reduceCtorEq,reduceAdd,reduceLT,reduceLeDiff,reduceIte]
   refine a6 (j+1,u2,ys++ [_],k,_) ⟨hj,hi.step (k':=k) (htg j hj) l1 l2 l3 l4 l5 l6 (λ h=>(uv h).elim) (λ _=>rfl) (λ n hn h=>by rw[List.getElem?_set_ne (λ e=>h e.symm),al hn]) (List.getElem?_set_self (by simp;omega))⟩ (by show i- (j+1)<i- j;omega) (.of_eq ?_ rfl);rw[bh (by omega) (by omega)];simp
 have d:decide ((j:Int)<(i:Int))=false:=decide_eq_false (by omega);have rV:j=i:=by omega
 have htk:ts.take j=ts:=by rw[rV,←htl,List.take_length]
 have hsp:=hi.split;rw[htk]at hsp;by_cases uv:ys= []
 ·have au2:ts= []:=List.eq_nil_of_length_eq_zero (by rw[htl,←rV,←hyl,uv];rfl);simp only[d,if_pos uv,↓OD,OA,reduceEqDiff];exact afZ (.inl rfl) (by simp only[OA,reduceEqDiff]) (ans (.inr ⟨rfl,adM,au2.symm⟩))
 ·simp only[d,if_neg uv,↓OD,OA,reduceEqDiff];exact yy (nl:=true) (.inl rfl) (ys:=ys) (xs:=ts.map aa.av) (ty:=29) (z:=4) (k:=k) (len:=ys.length) (v:= .int .i64 0) (by simp only[OA,reduceEqDiff]) (by rw[hi.row uv];simp[cq,uv]) rfl hsp ⟨ts,0,rfl,rfl,ans (.inr ⟨rfl,adM,rfl⟩),aih⟩
theorem adJ(m:Int)(a b:List aa)(hm:l8 m)(ha:(a.map aa.wt).sum+a.length<=1048576)(hb:(b.map aa.wt).sum+b.length<=1048576):
  ∃ts code,gH m a b ts code/\(∀t∈ts,t.jn=true)/\fE Try.prog F.jv [au m,.sl (a.map aa.av),.sl (b.map aa.av)] [] (.a9 [.own 0,au code]) [.own (.sl (ts.map aa.av))]:=by
 obtain⟨res,O',⟨ts,code,rfl,rfl,h,ho⟩,hc⟩:=zy m a b hm ha hb;exact⟨ts,code,h,ho,hc⟩
end Go.Proofs.Ab
