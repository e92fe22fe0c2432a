/-
  Unify of the reference: join.
-/
import Derived.Test.YtfebhekplhjigaaWSu
open Int(toNat_natCast)
open Nat(le_refl)
open Nat(reduceEqDiff reduceLeDiff reduceAdd reduceLT reduceMul)
set_option linter.unusedSimpArgs false
set_option linter.unusedVariables false
namespace Go.Proofs.Ab
open Go.Ab
set_option maxRecDepth 100000
set_option maxHeartbeats 4000000
theorem asj{α:Type}{A C:List α}{x y z:α}:(A++x::y::C).set (A.length+1) z=A++x::z::C:=by
 rw[List.set_append_right _ _ (by omega),Nat.add_sub_cancel_left];rfl
def iJ(ur:Nat)(O O':List ad):Prop:=O.length<=O'.length/\∀n,n<O.length->n≠ur->O'[n]? =O[n]?
theorem iJ.refl{ur:Nat}(O:List ad):iJ ur O O:=⟨le_refl _,λ _ _ _=>rfl⟩
theorem iJ.trans{ur:Nat}{O O' nc:List ad}(h:iJ ur O O')(k:iJ ur O' nc):iJ ur O nc:=⟨Nat.le_trans h.1 k.1,λ n hn hx=>(k.2 n (Nat.lt_of_lt_of_le hn h.1) hx).trans (h.2 n hn hx)⟩
theorem iJ.app{ur:Nat}(O E:List ad):iJ ur O (O++E):=⟨by simp,λ n hn _=>al hn⟩
theorem iJ.set{ur:Nat}(O:List ad)(v:ad):iJ ur O (O.set ur v):=⟨by simp,λ n _ hx=>List.getElem?_set_ne (λ e=>hx e.symm)⟩
theorem kq.app{S:Net}{up aW:Nat->Nat}{nb tr kk ur:Nat}{O:List ad}(hL:kq S up nb tr kk ur aW O)(E:List ad):kq S up nb tr kk ur aW (O++E):=by
 have lt:∀{n:Nat} {ob:ad},O[n]? =some ob->(O++E)[n]? =some ob:=λ h=>by rw[al (List.getElem?_eq_some_iff.1 h).1];exact h
 exact⟨lt hL.box,lt hL.ty,lt hL.kids,λ x hx=>lt (hL.wK x hx),lt hL.up,hL.sep,hL.few,hL.small⟩
theorem awL(t:aa):(rY t).isAgg=true:=rfl
theorem avq(t:aa):(rY t).storable=true:=rfl
theorem as7(t:aa):(rY t).cells.length=4:=rfl
theorem aaK{S:Net}{aW:Nat->Nat}{nb tr kk ur:Nat}(hs:S.ok):∀(m:Nat) {up:Nat->Nat} {O:List ad},kq S up nb tr kk ur aW O->(∀x,x<S.N->up x<S.N)->(∀x,x<S.N->∃r,bI up x r)->cw S up<=m->∀{x y:Nat},x<S.N->y<S.N->
  ∃bw O' ok,fE Try.prog F.fT [.ptr nb 1 0 0,au (x:Nat),au (y:Nat)] O (.v (.bool ok)) O'/\Js S up [(x,y)] bw ok/\kq S bw nb tr kk ur aW O'/\iJ ur O O'/\(∀x,x<S.N->bw x<S.N)/\(∀x,x<S.N->∃r,bI bw x r)/\cw S bw<=cw S up:=by
 intro m
 induction m using Nat.strongRecOn with
 |_ m ih=>
 intro up O hL aF xd hm x y hx hy;obtain⟨a,ha⟩:=xd x hx;obtain⟨b,hb⟩:=xd y hy;have qv:=ha.lt aF hx;have pR:=hb.lt aF hy;have c1:=gR hL aF hx ha;have c2:=gR hL aF hy hb
 have key:∃res O',(∃bw ok,res= .v (.bool ok)/\Js S up [(x,y)] bw ok/\kq S bw nb tr kk ur aW O'/\iJ ur O O'/\(∀x,x<S.N->bw x<S.N)/\(∀x,x<S.N->∃r,bI bw x r)/\cw S bw<=cw S up)/\fE Try.prog F.fT [.ptr nb 1 0 0,au (x:Nat),au (y:Nat)] O res O':=by
  refine jx A.yc rfl ?_;simp only[A.fT,↓OD,OA,reduceEqDiff,reduceCtorEq];refine aD _ _ c1 ?_;simp only[↓OD,OA,reduceEqDiff,reduceCtorEq];refine aD _ _ c2 ?_;simp only[au,↓OD,OA,reduceEqDiff,reduceCtorEq];by_cases qw:a=b
  ·subst qw;simp only[decide_true,↓OD,OA,reduceEqDiff,reduceCtorEq];exact aY (.inl rfl) ⟨up,true,by simp only[OA],.same _ _ _ _ _ _ _ ha hb (.nil _),hL,.refl O,aF,xd,le_refl _⟩
  have d0:decide ((a:Int)=(b:Int))=false:=decide_eq_false (by omega);have hbE:∀E:List ad,(O++E)[nb]? =some _:=λ E=>(hL.app E).box
  have htE:∀E:List ad,(O++E)[tr]? =some _:=λ E=>(hL.app E).ty
  have huE:∀E:List ad,(O++E)[ur]? =some _:=λ E=>(hL.app E).up
  have hkE:∀E:List ad,(O++E)[kk]? =some _:=λ E=>(hL.app E).kids
  have vo:=hL.box;have hty:=hL.ty;have ga:=xS (S:=S) qv;have gb:=xS (S:=S) pR;simp only[rY,au,bZ]at ga gb;simp only[d0,vo,hty,kz,ga,toNat_natCast,↓OD,OA,reduceEqDiff,reduceCtorEq,reduceAdd,reduceLeDiff];refine⟨by omega,by omega,qv,?_⟩;simp only[hbE,htE,ku,as0,kz,gb,toNat_natCast,↓OD,OA,reduceEqDiff,reduceCtorEq,reduceAdd,reduceLeDiff];refine⟨by omega,by omega,pR,?_⟩;simp only[List.append_assoc,List.cons_append,List.nil_append,ku,ux,asj,↓OD,OA,reduceEqDiff,reduceCtorEq,reduceAdd,reduceLeDiff]
  have un:∀c p,(c=a/\p=b∨c=b/\p=a)->∀E:List ad,kq S (bV up c p) nb tr kk ur aW ((O++E).set ur (.live 3 1 (wy (bV up c p) S.N)))/\iJ ur O ((O++E).set ur (.live 3 1 (wy (bV up c p) S.N)))/\(∀x,x<S.N->bV up c p x<S.N)/\(∀x,x<S.N->∃r,bI (bV up c p) x r)/\cw S (bV up c p)<cw S up:=by
   intro c p h E
   have h6:up c=c/\up p=p/\c≠p/\c<S.N/\p<S.N:=by
    rcases h with⟨rfl,rfl⟩|⟨rfl,rfl⟩
    ·exact⟨ha.root,hb.root,qw,qv,pR⟩
    ·exact⟨hb.root,ha.root,λ e=>qw e.symm,pR,qv⟩
   obtain⟨g1,g2,g3,g4,g5⟩:=h6;exact⟨(hL.app E).aiZ c p,(iJ.app O E).trans (.set _ _),oM aF g5,λ z hz=>by obtain⟨r,hr⟩:=xd z hz;exact⟨_,hr.union g1 g2 g3⟩,tq g4 g1 g3⟩
  have us:∀c p:Nat,(wy up S.N).set c (.v (.int .i64 (p:Int)))=wy (bV up c p) S.N:=λ c p=>ap3
  have gua:=xR (up:=up) qv;have gub:=xR (up:=up) pR;simp only[au]at gua gub
  have aq9:∀c p,(c=a/\p=b∨c=b/\p=a)->S.lh c->(S.lh p->p<c)->∀E:List ad,∃bw ok,AV.v (.bool true)= .v (.bool ok)/\Js S up [(x,y)] bw ok/\kq S bw nb tr kk ur aW ((O++E).set ur (.live 3 1 (wy (bV up c p) S.N)))/\iJ ur O ((O++E).set ur (.live 3 1 (wy (bV up c p) S.N)))/\(∀x,x<S.N->bw x<S.N)/\(∀x,x<S.N->∃r,bI bw x r)/\cw S bw<=cw S up:=by
   intro c p h hc hp E;obtain⟨q1,q2,q3,q4,q5⟩:=un c p h E;exact⟨_,true,rfl,.mt _ _ _ _ _ _ _ _ _ _ ha hb qw h hc hp (.nil _),q1,q2,q3,q4,by omega⟩
  by_cases hma:S.lh a
  ·have k1':decide ((S.ty a).Kind=11)=true:=decide_eq_true hma;by_cases zJ:S.lh b
   ·have k2':decide ((S.ty b).Kind=11)=true:=decide_eq_true zJ;by_cases nh:a<b
    ·have k3':decide ((a:Int)<(b:Int))=true:=decide_eq_true (by omega);simp only[k1',k2',k3',hbE,huE,cE,us,gub,AV.cells,ux,toNat_natCast,↓OD,OA,reduceEqDiff,reduceCtorEq,reduceAdd,reduceLeDiff];refine⟨by omega,by omega,pR,?_⟩;try simp only[↓OD,OA,reduceEqDiff,reduceCtorEq,reduceAdd,reduceLT,reduceLeDiff,reduceIte]
     obtain⟨bw,ok,e1,e2⟩:=aq9 b a (.inr ⟨rfl,rfl⟩) zJ (λ _=>nh) [ad.live 29 4 [.agg [.v (.int .i64 (S.ty a).Kind),.v (.int .i64 (S.ty a).N),.v (.string (S.ty a).Name),.aw]],ad.live 29 4 [.agg [.v (.int .i64 (S.ty b).Kind),.v (.int .i64 (S.ty b).N),.v (.string (S.ty b).Name),.aw]]];cases e1;exact aY (.inl rfl) ⟨bw,true,by simp only[OA],e2⟩
    ·have k3':decide ((a:Int)<(b:Int))=false:=decide_eq_false (by omega);simp only[k1',k2',k3',hbE,huE,cE,us,gua,AV.cells,ux,toNat_natCast,↓OD,OA,reduceEqDiff,reduceCtorEq,reduceAdd,reduceLeDiff];refine⟨by omega,by omega,qv,?_⟩;try simp only[↓OD,OA,reduceEqDiff,reduceCtorEq,reduceAdd,reduceLT,reduceLeDiff,reduceIte]
     obtain⟨bw,ok,e1,e2⟩:=aq9 a b (.inl ⟨rfl,rfl⟩) hma (λ _=>by omega) [ad.live 29 4 [.agg [.v (.int .i64 (S.ty a).Kind),.v (.int .i64 (S.ty a).N),.v (.string (S.ty a).Name),.aw]],ad.live 29 4 [.agg [.v (.int .i64 (S.ty b).Kind),.v (.int .i64 (S.ty b).N),.v (.string (S.ty b).Name),.aw]]];cases e1;exact aY (.inl rfl) ⟨bw,true,by simp only[OA],e2⟩
   ·have k2':decide ((S.ty b).Kind=11)=false:=decide_eq_false zJ;simp only[k1',k2',hbE,huE,cE,us,gua,AV.cells,ku,ux,toNat_natCast,↓OD,OA,reduceEqDiff,reduceCtorEq,reduceAdd,reduceLeDiff];refine⟨by omega,by omega,qv,?_⟩;try simp only[↓OD,OA,reduceEqDiff,reduceCtorEq,reduceAdd,reduceLT,reduceLeDiff,reduceIte]
    obtain⟨bw,ok,e1,e2⟩:=aq9 a b (.inl ⟨rfl,rfl⟩) hma (λ h=>(zJ h).elim) [ad.live 29 4 [.agg [.v (.int .i64 (S.ty a).Kind),.v (.int .i64 (S.ty a).N),.v (.string (S.ty a).Name),.aw]],ad.live 29 4 [.agg [.v (.int .i64 (S.ty b).Kind),.v (.int .i64 (S.ty b).N),.v (.string (S.ty b).Name),.aw]]];cases e1;exact aY (.inl rfl) ⟨bw,true,by simp only[OA],e2⟩
  have k1':decide ((S.ty a).Kind=11)=false:=decide_eq_false hma;by_cases zJ:S.lh b
  ·have k2':decide ((S.ty b).Kind=11)=true:=decide_eq_true zJ;simp only[k1',k2',hbE,huE,cE,us,gub,AV.cells,ku,ux,toNat_natCast,↓OD,OA,reduceEqDiff,reduceCtorEq,reduceAdd,reduceLeDiff];refine⟨by omega,by omega,pR,?_⟩;try simp only[↓OD,OA,reduceEqDiff,reduceCtorEq,reduceAdd,reduceLT,reduceLeDiff,reduceIte]
   obtain⟨bw,ok,e1,e2⟩:=aq9 b a (.inr ⟨rfl,rfl⟩) zJ (λ h=>(hma h).elim) [ad.live 29 4 [.agg [.v (.int .i64 (S.ty a).Kind),.v (.int .i64 (S.ty a).N),.v (.string (S.ty a).Name),.aw]],ad.live 29 4 [.agg [.v (.int .i64 (S.ty b).Kind),.v (.int .i64 (S.ty b).N),.v (.string (S.ty b).Name),.aw]]];cases e1;exact aY (.inl rfl) ⟨bw,true,by simp only[OA],e2⟩
  have k2':decide ((S.ty b).Kind=11)=false:=decide_eq_false zJ;simp only[k1',k2',AV.cells,ku,ux,↓OD,OA,reduceEqDiff,reduceCtorEq,reduceAdd,reduceLeDiff];have jH:¬S.head a b->Js S up [(x,y)] up false:=λ hn=> .jH _ _ _ _ _ _ ha hb qw hma zJ hn
  have gka:=oZ (aW:=aW) qv;have gkb:=oZ (aW:=aW) pR;simp only[afj]at gka gkb;have hka:∀E:List ad,(O++E)[aW a]? =some _:=λ E=>(hL.app E).wK a qv
  have hkb:∀E:List ad,(O++E)[aW b]? =some _:=λ E=>(hL.app E).wK b pR
  refine dv ?_;by_cases g1:(S.ty a).Kind=(S.ty b).Kind;rotate_left
  ·have d1:decide ((S.ty a).Kind=(S.ty b).Kind)=false:=decide_eq_false g1;simp only[ku,ux,d1,Bool.not_false,↓OD,OA,reduceEqDiff,reduceCtorEq,reduceAdd,reduceLeDiff];refine⟨by kernel_rfl,?_⟩;try simp only[↓OD,OA,reduceEqDiff,reduceCtorEq,reduceAdd,reduceLT,reduceLeDiff,reduceIte]
   exact aY (.inl rfl) ⟨up,false,by simp only[OA],jH (λ h=>g1 h.1),hL.app _,.app _ _,aF,xd,le_refl _⟩
  have d1:decide ((S.ty a).Kind=(S.ty b).Kind)=true:=decide_eq_true g1;by_cases g2:(S.ty a).N=(S.ty b).N;rotate_left
  ·have d2:decide ((S.ty a).N=(S.ty b).N)=false:=decide_eq_false g2;simp only[ku,ux,d1,d2,Bool.not_true,Bool.not_false,↓OD,OA,reduceEqDiff,reduceCtorEq,reduceAdd,reduceLeDiff];refine⟨by kernel_rfl,?_⟩;try simp only[↓OD,OA,reduceEqDiff,reduceCtorEq,reduceAdd,reduceLT,reduceLeDiff,reduceIte]
   exact aY (.inl rfl) ⟨up,false,by simp only[OA],jH (λ h=>g2 h.2.1),hL.app _,.app _ _,aF,xd,le_refl _⟩
  have d2:decide ((S.ty a).N=(S.ty b).N)=true:=decide_eq_true g2;by_cases g3:(S.ty a).Name=(S.ty b).Name;rotate_left
  ·have d3:decide ((S.ty a).Name=(S.ty b).Name)=false:=decide_eq_false g3;simp only[ku,ux,d1,d2,d3,Bool.not_true,Bool.not_false,↓OD,OA,reduceEqDiff,reduceCtorEq,reduceAdd,reduceLeDiff];refine⟨by kernel_rfl,?_⟩;try simp only[↓OD,OA,reduceEqDiff,reduceCtorEq,reduceAdd,reduceLT,reduceLeDiff,reduceIte]
   exact aY (.inl rfl) ⟨up,false,by simp only[OA],jH (λ h=>g3 h.2.2.1),hL.app _,.app _ _,aF,xd,le_refl _⟩
  have d3:decide ((S.ty a).Name=(S.ty b).Name)=true:=decide_eq_true g3;simp only[ku,ux,d1,d2,d3,hbE,hkE,hka,hkb,gka,gkb,dg,dQ,Bool.not_true,toNat_natCast,AV.cells,↓OD,OA,reduceEqDiff,reduceCtorEq,reduceAdd,reduceLeDiff];refine⟨by omega,by omega,qv,by omega,by omega,pR,by kernel_rfl,?_⟩;by_cases g4:(S.kids a).length=(S.kids b).length;rotate_left
  ·have d4:decide (((S.kids a).length:Int)=((S.kids b).length:Int))=false:=decide_eq_false (by omega);simp only[d4,Bool.not_false,↓OD,OA,reduceEqDiff,reduceCtorEq];exact aY (.inl rfl) ⟨up,false,by simp only[OA],jH (λ h=>g4 h.2.2.2),hL.app _,.app _ _,aF,xd,le_refl _⟩
  have d4:decide (((S.kids a).length:Int)=((S.kids b).length:Int))=true:=decide_eq_true (by omega);obtain⟨O3,hO3,q1,q2,q3,q4,q5⟩:∃O3,(O++ [ad.live 29 4 [.agg [.v (.int .i64 (S.ty a).Kind),.v (.int .i64 (S.ty a).N),.v (.string (S.ty a).Name),.aw]],ad.live 29 4 [.agg [.v (.int .i64 (S.ty b).Kind),.v (.int .i64 (S.ty b).N),.v (.string (S.ty b).Name),.aw]]]).set ur (.live 3 1 (wy (bV up b a) S.N))=O3/\kq S (bV up b a) nb tr kk ur aW O3/\iJ ur O O3/\(∀x,x<S.N->bV up b a x<S.N)/\(∀x,x<S.N->∃r,bI (bV up b a) x r)/\cw S (bV up b a)<cw S up:=⟨_,rfl,un b a (.inr ⟨rfl,rfl⟩) _⟩;simp only[d4,Bool.not_true,hbE,huE,cE,us,gub,AV.cells,toNat_natCast,hO3,↓OD,OA,reduceEqDiff,reduceCtorEq,reduceAdd];refine⟨by omega,by omega,pR,?_⟩;try simp only[hO3,↓OD,OA,reduceEqDiff,reduceCtorEq,reduceAdd,reduceLT,reduceLeDiff,reduceIte]
  have hzl:((S.kids a).zip (S.kids b)).length=(S.kids a).length:=by rw[List.length_zip];omega
  generalize hz:(S.kids a).zip (S.kids b)=Z at hzl;have afD:∀(bw:Nat->Nat) (ok:Bool),Js S (bV up b a) Z bw ok->Js S up [(x,y)] bw ok:=λ bw ok h=> .node _ _ _ _ _ _ _ _ _ _ ha hb qw (.inr ⟨rfl,rfl⟩) hma zJ ⟨g1,g2,g3,g4⟩ (by rw[hz,List.append_nil];exact h)
  refine bd (ι:=Nat×(Nat->Nat)×List ad) (λ q=>q.1<=(S.kids a).length/\kq S q.2.1 nb tr kk ur aW q.2.2/\iJ ur O q.2.2/\(∀z,z<S.N->q.2.1 z<S.N)/\(∀z,z<S.N->∃r,bI q.2.1 z r)/\cw S q.2.1<cw S up/\Js S (bV up b a) (Z.take q.1) q.2.1 true)
   (λ q=>jw [(0,.ptr nb 1 0 0),(1,.v (.int .i64 (a:Nat))),(2,.v (.int .i64 (b:Nat))),(9,.v (.int .i64 (q.1:Nat)))]) (λ q=>q.2.2) (λ q=>(S.kids a).length- q.1) (0,bV up b a,O3)
   ⟨Nat.zero_le _,q1,q2,q3,q4,q5,by rw[List.take_zero];exact .nil _⟩ (.of_eq rfl rfl) ?_
  rintro⟨i,u,Q⟩ ⟨w1,w2,w3,w4,w5,w6,w7⟩;simp only at w1 w2 w3 w4 w5 w6 w7;have wb:=w2.box;have wk:=w2.kids;have wa:=w2.wK a qv;have wbk:=w2.wK b pR;by_cases hi:i<(S.kids a).length
  ·have di:decide ((i:Int)<((S.kids a).length:Int))=true:=decide_eq_true (by omega);obtain⟨p,hp⟩:∃p,(S.kids a)[i]? =some p:=⟨_,List.getElem?_eq_getElem hi⟩;obtain⟨q,hq⟩:∃q,(S.kids b)[i]? =some q:=⟨_,List.getElem?_eq_getElem (by omega)⟩;have uw:=hs.lt a qv p (List.mem_of_getElem? hp);have hql:=hs.lt b pR q (List.mem_of_getElem? hq);have hzi:Z[i]? =some (p,q):=by rw[←hz,List.getElem?_zip_eq_some];exact⟨hp,hq⟩
   have htk:Z.take (i+1)=Z.take i++ [(p,q)]:=by rw[List.take_add_one,hzi];rfl
   have gp:=qY hp;have gq:=qY hq;simp only[au]at gp gq;obtain⟨u',O',ok,hc,hj,l1,l2,l3,l4,l5⟩:=ih (cw S u) (by omega) w2 w4 w5 (le_refl _) uw hql;simp only[wb,wk,wa,dg,gka,dQ,AV.cells,toNat_natCast,di,↓OD,OA,reduceEqDiff,reduceCtorEq,reduceAdd,reduceLeDiff];refine⟨by omega,by omega,qv,?_⟩;refine dv ?_;simp only[wb,wk,wa,wbk,dg,gka,gkb,dQ,gp,gq,AV.cells,toNat_natCast,↓OD,OA,reduceEqDiff,reduceCtorEq,reduceAdd,reduceLeDiff];refine⟨by omega,by omega,qv,by omega,by omega,hi,by omega,by omega,pR,by omega,by omega,by omega,aD _ _ hc ?_⟩;have avn:=w2.few a qv;cases ok with
   |true=>
    simp only[Bool.not_true,↓OD,OA,reduceEqDiff,reduceCtorEq];refine⟨by kernel_rfl,?_⟩;try simp only[↓OD,OA,reduceEqDiff,reduceCtorEq,reduceAdd,reduceLT,reduceLeDiff,reduceIte]
    exact a6 (i+1,u',O') ⟨by show i+1<=_;omega,l1,w3.trans l2,l3,l4,by show cw S u'<_;omega,by show Js S _ (Z.take (i+1)) _ _;rw[htk];exact w7.append rfl hj⟩ (by show(S.kids a).length- (i+1)<(S.kids a).length- i;omega) (.of_eq (by rw[bh (by omega) (by omega)];rfl) rfl)
   |false=>
    simp only[Bool.not_false,↓OD,OA,reduceEqDiff,reduceCtorEq];refine⟨by kernel_rfl,?_⟩;try simp only[↓OD,OA,reduceEqDiff,reduceCtorEq,reduceAdd,reduceLT,reduceLeDiff,reduceIte]
    exact aY (.inl rfl) ⟨u',false,by simp only[OA],afD _ _ (by
     have h1:=w7.append rfl hj;rw[←htk]at h1;have h2:=h1.uc (m:=Z.drop (i+1)) rfl;rwa [List.take_append_drop]at h2),l1,w3.trans l2,l3,l4,by omega⟩
  ·have di:decide ((i:Int)<((S.kids a).length:Int))=false:=decide_eq_false (by omega);have hie:i=(S.kids a).length:=by omega
   simp only[wb,wk,wa,dg,gka,dQ,AV.cells,toNat_natCast,di,↓OD,OA,reduceEqDiff,reduceCtorEq,reduceAdd,reduceLeDiff];refine⟨by omega,by omega,qv,?_⟩;exact aY (.inl rfl) ⟨u,true,by simp only[OA],afD _ _ (by rw[hie,←hzl,List.take_length]at w7;exact w7),w2,w3,w4,w5,by omega⟩
 obtain⟨res,O',⟨bw,ok,rfl,h⟩,hc⟩:=key;exact⟨bw,O',ok,hc,h⟩
end Go.Proofs.Ab
