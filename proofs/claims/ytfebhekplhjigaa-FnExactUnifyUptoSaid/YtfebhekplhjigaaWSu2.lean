/-
  Unify of the reference: join.
-/
import Derived.Test.YtfebhekplhjigaaWSu
open Int(toNat_natCast)
open Nat(le_refl)
open Nat(reduceEqDiff reduceLeDiff reduceAdd reduceLT reduceMul)
set_option linter.unusedVariables false
set_option linter.unusedSimpArgs false
namespace Go.Proofs.Ab
open Go.Ab
set_option maxRecDepth 100000
set_option maxHeartbeats 4000000
theorem amE{α:Type}{A C:List α}{x y z:α}:(A++x::y::C).set (A.length+1) z=A++x::z::C:=by
 rw[List.set_append_right _ _ (by omega),Nat.add_sub_cancel_left];rfl
def iX(ur:Nat)(O O':List aa):Prop:=O.length<=O'.length/\∀n,n<O.length->n≠ur->O'[n]? =O[n]?
theorem iX.refl{ur:Nat}(O:List aa):iX ur O O:=⟨le_refl _,λ _ _ _=>rfl⟩
theorem iX.trans{ur:Nat}{O O' oR:List aa}(h:iX ur O O')(k:iX ur O' oR):iX ur O oR:=⟨Nat.le_trans h.1 k.1,λ n hn hx=>(k.2 n (Nat.lt_of_lt_of_le hn h.1) hx).trans (h.2 n hn hx)⟩
theorem iX.app{ur:Nat}(O E:List aa):iX ur O (O++E):=⟨by simp,λ n hn _=>al hn⟩
theorem iX.set{ur:Nat}(O:List aa)(v:aa):iX ur O (O.set ur v):=⟨by simp,λ n _ hx=>List.getElem?_set_ne (λ e=>hx e.symm)⟩
theorem kR.app{S:Net}{up aT:Nat->Nat}{nb tr kk ur:Nat}{O:List aa}(hL:kR S up nb tr kk ur aT O)(E:List aa):kR S up nb tr kk ur aT (O++E):=by
 have lt:∀{n:Nat} {ob:aa},O[n]? =some ob->(O++E)[n]? =some ob:=λ h=>by rw[al (List.getElem?_eq_some_iff.1 h).1];exact h
 exact⟨lt hL.box,lt hL.ty,lt hL.kids,λ x hx=>lt (hL.za x hx),lt hL.up,hL.sep,hL.few,hL.small⟩
theorem xZ(t:ad):(uU t).isAgg=true:=rfl
theorem vG(t:ad):(uU t).storable=true:=rfl
theorem tc(t:ad):(uU t).cells.length=4:=rfl
theorem acD{S:Net}{aT:Nat->Nat}{nb tr kk ur:Nat}(hs:S.ok):∀(m:Nat) {up:Nat->Nat} {O:List aa},kR S up nb tr kk ur aT O->(∀x,x<S.N->up x<S.N)->(∀x,x<S.N->∃r,bw up x r)->cc S up<=m->∀{x y:Nat},x<S.N->y<S.N->
  ∃bh O' ok,cF Try.prog F.fJ [.ptr nb 1 0 0,aO (x:Nat),aO (y:Nat)] O (.v (.bool ok)) O'/\Js S up [(x,y)] bh ok/\kR S bh nb tr kk ur aT O'/\iX ur O O'/\(∀x,x<S.N->bh x<S.N)/\(∀x,x<S.N->∃r,bw bh x r)/\cc S bh<=cc S up:=by
 intro m
 induction m using Nat.strongRecOn with
 |_ m ih=>
 intro up O hL aw zq hm x y hx hy;obtain⟨a,ha⟩:=zq x hx;obtain⟨b,hb⟩:=zq y hy;have te:=ha.lt aw hx;have si:=hb.lt aw hy;have c1:=gD hL aw hx ha;have c2:=gD hL aw hy hb
 have key:∃res O',(∃bh ok,res= .v (.bool ok)/\Js S up [(x,y)] bh ok/\kR S bh nb tr kk ur aT O'/\iX ur O O'/\(∀x,x<S.N->bh x<S.N)/\(∀x,x<S.N->∃r,bw bh x r)/\cc S bh<=cc S up)/\cF Try.prog F.fJ [.ptr nb 1 0 0,aO (x:Nat),aO (y:Nat)] O res O':=by
  refine jM A.aaj rfl ?_;simp only[A.fJ,↓OD,OA,reduceEqDiff,reduceCtorEq,reduceAdd,reduceLT,reduceLeDiff,reduceIte];refine aj _ _ c1 ?_;simp only[↓OD,OA,reduceEqDiff,reduceCtorEq,reduceAdd,reduceLT,reduceLeDiff,reduceIte];refine aj _ _ c2 ?_;simp only[aO,↓OD,OA,reduceEqDiff,reduceCtorEq,reduceAdd,reduceLT,reduceLeDiff,reduceIte];by_cases tW:a=b
  ·subst tW;simp only[decide_true,↓OD,OA,reduceEqDiff,reduceCtorEq,reduceAdd,reduceLT,reduceLeDiff,reduceIte];exact aU (.inl rfl) ⟨up,true,by simp only[↓OD,OA,reduceEqDiff,reduceCtorEq,reduceAdd,reduceLT,reduceLeDiff,reduceIte],.same _ _ _ _ _ _ _ ha hb (.nil _),hL,.refl O,aw,zq,le_refl _⟩
  have d0:decide ((a:Int)=(b:Int))=false:=decide_eq_false (by omega);have hbE:∀E:List aa,(O++E)[nb]? =some _:=λ E=>(hL.app E).box
  have htE:∀E:List aa,(O++E)[tr]? =some _:=λ E=>(hL.app E).ty
  have huE:∀E:List aa,(O++E)[ur]? =some _:=λ E=>(hL.app E).up
  have hkE:∀E:List aa,(O++E)[kk]? =some _:=λ E=>(hL.app E).kids
  have yI:=hL.box;have hty:=hL.ty;have ga:=z7 (S:=S) te;have gb:=z7 (S:=S) si;simp only[uU,aO,cv]at ga gb;simp only[d0,yI,hty,k8,ga,gb,tc,xZ,vG,toNat_natCast,↓OD,OA,reduceEqDiff,reduceCtorEq,reduceAdd,reduceLT,reduceLeDiff,reduceIte];refine⟨by omega,by omega,te,?_⟩;simp only[hbE,htE,kh,as0,k8,ga,gb,tc,xZ,vG,toNat_natCast,↓OD,OA,reduceEqDiff,reduceCtorEq,reduceAdd,reduceLT,reduceLeDiff,reduceIte];refine⟨by omega,by omega,si,?_⟩;simp only[List.append_assoc,List.cons_append,List.nil_append,kh,uu,amE,↓OD,OA,reduceEqDiff,reduceCtorEq,reduceAdd,reduceLT,reduceLeDiff,reduceIte]
  have un:∀c p,(c=a/\p=b∨c=b/\p=a)->∀E:List aa,kR S (bH up c p) nb tr kk ur aT ((O++E).set ur (.live 3 1 (yY (bH up c p) S.N)))/\iX ur O ((O++E).set ur (.live 3 1 (yY (bH up c p) S.N)))/\(∀x,x<S.N->bH up c p x<S.N)/\(∀x,x<S.N->∃r,bw (bH up c p) x r)/\cc S (bH up c p)<cc S up:=by
   intro c p h E
   have h6:up c=c/\up p=p/\c≠p/\c<S.N/\p<S.N:=by
    rcases h with⟨rfl,rfl⟩|⟨rfl,rfl⟩
    ·exact⟨ha.root,hb.root,tW,te,si⟩
    ·exact⟨hb.root,ha.root,λ e=>tW e.symm,si,te⟩
   obtain⟨g1,g2,g3,g4,g5⟩:=h6;exact⟨(hL.app E).ajZ c p,(iX.app O E).trans (.set _ _),qI aw g5,λ z hz=>by obtain⟨r,hr⟩:=zq z hz;exact⟨_,hr.union g1 g2 g3⟩,wc g4 g1 g3⟩
  have us:∀c p:Nat,(yY up S.N).set c (.v (.int .i64 (p:Int)))=yY (bH up c p) S.N:=λ c p=>aqu
  have gua:=z6 (up:=up) te;have gub:=z6 (up:=up) si;simp only[aO]at gua gub
  have aru:∀c p,(c=a/\p=b∨c=b/\p=a)->S.mq c->(S.mq p->p<c)->∀E:List aa,∃bh ok,AV.v (.bool true)= .v (.bool ok)/\Js S up [(x,y)] bh ok/\kR S bh nb tr kk ur aT ((O++E).set ur (.live 3 1 (yY (bH up c p) S.N)))/\iX ur O ((O++E).set ur (.live 3 1 (yY (bH up c p) S.N)))/\(∀x,x<S.N->bh x<S.N)/\(∀x,x<S.N->∃r,bw bh x r)/\cc S bh<=cc S up:=by
   intro c p h hc hp E;obtain⟨q1,q2,q3,q4,q5⟩:=un c p h E;exact⟨_,true,rfl,.mt _ _ _ _ _ _ _ _ _ _ ha hb tW h hc hp (.nil _),q1,q2,q3,q4,by omega⟩
  by_cases hma:S.mq a
  ·have k1':decide ((S.ty a).Kind=11)=true:=decide_eq_true hma;by_cases hmb:S.mq b
   ·have k2':decide ((S.ty b).Kind=11)=true:=decide_eq_true hmb;by_cases iQ:a<b
    ·have k3':decide ((a:Int)<(b:Int))=true:=decide_eq_true (by omega);simp only[k1',k2',k3',hbE,huE,b7,us,gua,gub,AV.cells,kh,uu,toNat_natCast,↓OD,OA,reduceEqDiff,reduceCtorEq,reduceAdd,reduceLT,reduceLeDiff,reduceIte];refine⟨by omega,by omega,si,?_⟩;try simp only[↓OD,OA,reduceEqDiff,reduceCtorEq,reduceAdd,reduceLT,reduceLeDiff,reduceIte]
     obtain⟨bh,ok,e1,e2⟩:=aru b a (.inr ⟨rfl,rfl⟩) hmb (λ _=>iQ) [aa.live 29 4 [.agg [.v (.int .i64 (S.ty a).Kind),.v (.int .i64 (S.ty a).N),.v (.string (S.ty a).Name),.aA]],aa.live 29 4 [.agg [.v (.int .i64 (S.ty b).Kind),.v (.int .i64 (S.ty b).N),.v (.string (S.ty b).Name),.aA]]];cases e1;exact aU (.inl rfl) ⟨bh,true,by simp only[↓OD,OA,reduceEqDiff,reduceCtorEq,reduceAdd,reduceLT,reduceLeDiff,reduceIte],e2⟩
    ·have k3':decide ((a:Int)<(b:Int))=false:=decide_eq_false (by omega);simp only[k1',k2',k3',hbE,huE,b7,us,gua,gub,AV.cells,kh,uu,toNat_natCast,↓OD,OA,reduceEqDiff,reduceCtorEq,reduceAdd,reduceLT,reduceLeDiff,reduceIte];refine⟨by omega,by omega,te,?_⟩;try simp only[↓OD,OA,reduceEqDiff,reduceCtorEq,reduceAdd,reduceLT,reduceLeDiff,reduceIte]
     obtain⟨bh,ok,e1,e2⟩:=aru a b (.inl ⟨rfl,rfl⟩) hma (λ _=>by omega) [aa.live 29 4 [.agg [.v (.int .i64 (S.ty a).Kind),.v (.int .i64 (S.ty a).N),.v (.string (S.ty a).Name),.aA]],aa.live 29 4 [.agg [.v (.int .i64 (S.ty b).Kind),.v (.int .i64 (S.ty b).N),.v (.string (S.ty b).Name),.aA]]];cases e1;exact aU (.inl rfl) ⟨bh,true,by simp only[↓OD,OA,reduceEqDiff,reduceCtorEq,reduceAdd,reduceLT,reduceLeDiff,reduceIte],e2⟩
   ·have k2':decide ((S.ty b).Kind=11)=false:=decide_eq_false hmb;simp only[k1',k2',hbE,huE,b7,us,gua,gub,AV.cells,kh,uu,toNat_natCast,↓OD,OA,reduceEqDiff,reduceCtorEq,reduceAdd,reduceLT,reduceLeDiff,reduceIte];refine⟨by omega,by omega,te,?_⟩;try simp only[↓OD,OA,reduceEqDiff,reduceCtorEq,reduceAdd,reduceLT,reduceLeDiff,reduceIte]
    obtain⟨bh,ok,e1,e2⟩:=aru a b (.inl ⟨rfl,rfl⟩) hma (λ h=>(hmb h).elim) [aa.live 29 4 [.agg [.v (.int .i64 (S.ty a).Kind),.v (.int .i64 (S.ty a).N),.v (.string (S.ty a).Name),.aA]],aa.live 29 4 [.agg [.v (.int .i64 (S.ty b).Kind),.v (.int .i64 (S.ty b).N),.v (.string (S.ty b).Name),.aA]]];cases e1;exact aU (.inl rfl) ⟨bh,true,by simp only[↓OD,OA,reduceEqDiff,reduceCtorEq,reduceAdd,reduceLT,reduceLeDiff,reduceIte],e2⟩
  have k1':decide ((S.ty a).Kind=11)=false:=decide_eq_false hma;by_cases hmb:S.mq b
  ·have k2':decide ((S.ty b).Kind=11)=true:=decide_eq_true hmb;simp only[k1',k2',hbE,huE,b7,us,gua,gub,AV.cells,kh,uu,toNat_natCast,↓OD,OA,reduceEqDiff,reduceCtorEq,reduceAdd,reduceLT,reduceLeDiff,reduceIte];refine⟨by omega,by omega,si,?_⟩;try simp only[↓OD,OA,reduceEqDiff,reduceCtorEq,reduceAdd,reduceLT,reduceLeDiff,reduceIte]
   obtain⟨bh,ok,e1,e2⟩:=aru b a (.inr ⟨rfl,rfl⟩) hmb (λ h=>(hma h).elim) [aa.live 29 4 [.agg [.v (.int .i64 (S.ty a).Kind),.v (.int .i64 (S.ty a).N),.v (.string (S.ty a).Name),.aA]],aa.live 29 4 [.agg [.v (.int .i64 (S.ty b).Kind),.v (.int .i64 (S.ty b).N),.v (.string (S.ty b).Name),.aA]]];cases e1;exact aU (.inl rfl) ⟨bh,true,by simp only[↓OD,OA,reduceEqDiff,reduceCtorEq,reduceAdd,reduceLT,reduceLeDiff,reduceIte],e2⟩
  have k2':decide ((S.ty b).Kind=11)=false:=decide_eq_false hmb;simp only[k1',k2',hbE,huE,b7,us,gua,gub,AV.cells,kh,uu,toNat_natCast,↓OD,OA,reduceEqDiff,reduceCtorEq,reduceAdd,reduceLT,reduceLeDiff,reduceIte];have j6:¬S.head a b->Js S up [(x,y)] up false:=λ hn=> .j6 _ _ _ _ _ _ ha hb tW hma hmb hn
  have gka:=ra (aT:=aT) te;have gkb:=ra (aT:=aT) si;simp only[agY]at gka gkb;have hka:∀E:List aa,(O++E)[aT a]? =some _:=λ E=>(hL.app E).za a te
  have hkb:∀E:List aa,(O++E)[aT b]? =some _:=λ E=>(hL.app E).za b si
  refine dc ?_;by_cases g1:(S.ty a).Kind=(S.ty b).Kind;rotate_left
  ·have d1:decide ((S.ty a).Kind=(S.ty b).Kind)=false:=decide_eq_false g1;simp only[kh,uu,d1,Bool.not_true,Bool.not_false,↓OD,OA,reduceEqDiff,reduceCtorEq,reduceAdd,reduceLT,reduceLeDiff,reduceIte];refine⟨by kernel_rfl,?_⟩;try simp only[↓OD,OA,reduceEqDiff,reduceCtorEq,reduceAdd,reduceLT,reduceLeDiff,reduceIte]
   exact aU (.inl rfl) ⟨up,false,by simp only[↓OD,OA,reduceEqDiff,reduceCtorEq,reduceAdd,reduceLT,reduceLeDiff,reduceIte],j6 (λ h=>g1 h.1),hL.app _,.app _ _,aw,zq,le_refl _⟩
  have d1:decide ((S.ty a).Kind=(S.ty b).Kind)=true:=decide_eq_true g1;by_cases g2:(S.ty a).N=(S.ty b).N;rotate_left
  ·have d2:decide ((S.ty a).N=(S.ty b).N)=false:=decide_eq_false g2;simp only[kh,uu,d1,d2,Bool.not_true,Bool.not_false,↓OD,OA,reduceEqDiff,reduceCtorEq,reduceAdd,reduceLT,reduceLeDiff,reduceIte];refine⟨by kernel_rfl,?_⟩;try simp only[↓OD,OA,reduceEqDiff,reduceCtorEq,reduceAdd,reduceLT,reduceLeDiff,reduceIte]
   exact aU (.inl rfl) ⟨up,false,by simp only[↓OD,OA,reduceEqDiff,reduceCtorEq,reduceAdd,reduceLT,reduceLeDiff,reduceIte],j6 (λ h=>g2 h.2.1),hL.app _,.app _ _,aw,zq,le_refl _⟩
  have d2:decide ((S.ty a).N=(S.ty b).N)=true:=decide_eq_true g2;by_cases g3:(S.ty a).Name=(S.ty b).Name;rotate_left
  ·have d3:decide ((S.ty a).Name=(S.ty b).Name)=false:=decide_eq_false g3;simp only[kh,uu,d1,d2,d3,Bool.not_true,Bool.not_false,↓OD,OA,reduceEqDiff,reduceCtorEq,reduceAdd,reduceLT,reduceLeDiff,reduceIte];refine⟨by kernel_rfl,?_⟩;try simp only[↓OD,OA,reduceEqDiff,reduceCtorEq,reduceAdd,reduceLT,reduceLeDiff,reduceIte]
   exact aU (.inl rfl) ⟨up,false,by simp only[↓OD,OA,reduceEqDiff,reduceCtorEq,reduceAdd,reduceLT,reduceLeDiff,reduceIte],j6 (λ h=>g3 h.2.2.1),hL.app _,.app _ _,aw,zq,le_refl _⟩
  have d3:decide ((S.ty a).Name=(S.ty b).Name)=true:=decide_eq_true g3;simp only[kh,uu,d1,d2,d3,hbE,hkE,hka,hkb,gka,gkb,cS,dB,Bool.not_true,toNat_natCast,AV.cells,↓OD,OA,reduceEqDiff,reduceCtorEq,reduceAdd,reduceLT,reduceLeDiff,reduceIte];refine⟨by omega,by omega,te,by omega,by omega,si,by kernel_rfl,?_⟩;by_cases g4:(S.kids a).length=(S.kids b).length;rotate_left
  ·have d4:decide (((S.kids a).length:Int)=((S.kids b).length:Int))=false:=decide_eq_false (by omega);simp only[d4,Bool.not_false,↓OD,OA,reduceEqDiff,reduceCtorEq,reduceAdd,reduceLT,reduceLeDiff,reduceIte];exact aU (.inl rfl) ⟨up,false,by simp only[↓OD,OA,reduceEqDiff,reduceCtorEq,reduceAdd,reduceLT,reduceLeDiff,reduceIte],j6 (λ h=>g4 h.2.2.2),hL.app _,.app _ _,aw,zq,le_refl _⟩
  have d4:decide (((S.kids a).length:Int)=((S.kids b).length:Int))=true:=decide_eq_true (by omega);obtain⟨O3,hO3,q1,q2,q3,q4,q5⟩:∃O3,(O++ [aa.live 29 4 [.agg [.v (.int .i64 (S.ty a).Kind),.v (.int .i64 (S.ty a).N),.v (.string (S.ty a).Name),.aA]],aa.live 29 4 [.agg [.v (.int .i64 (S.ty b).Kind),.v (.int .i64 (S.ty b).N),.v (.string (S.ty b).Name),.aA]]]).set ur (.live 3 1 (yY (bH up b a) S.N))=O3/\kR S (bH up b a) nb tr kk ur aT O3/\iX ur O O3/\(∀x,x<S.N->bH up b a x<S.N)/\(∀x,x<S.N->∃r,bw (bH up b a) x r)/\cc S (bH up b a)<cc S up:=⟨_,rfl,un b a (.inr ⟨rfl,rfl⟩) _⟩;simp only[d4,Bool.not_true,hbE,huE,b7,us,gua,gub,AV.cells,toNat_natCast,hO3,↓OD,OA,reduceEqDiff,reduceCtorEq,reduceAdd,reduceLT,reduceLeDiff,reduceIte];refine⟨by omega,by omega,si,?_⟩;try simp only[hO3,↓OD,OA,reduceEqDiff,reduceCtorEq,reduceAdd,reduceLT,reduceLeDiff,reduceIte]
  have hzl:((S.kids a).zip (S.kids b)).length=(S.kids a).length:=by rw[List.length_zip];omega
  generalize hz:(S.kids a).zip (S.kids b)=Z at hzl;have ahh:∀(bh:Nat->Nat) (ok:Bool),Js S (bH up b a) Z bh ok->Js S up [(x,y)] bh ok:=λ bh ok h=> .node _ _ _ _ _ _ _ _ _ _ ha hb tW (.inr ⟨rfl,rfl⟩) hma hmb ⟨g1,g2,g3,g4⟩ (by rw[hz,List.append_nil];exact h)
  refine aQ (ι:=Nat×(Nat->Nat)×List aa) (λ q=>q.1<=(S.kids a).length/\kR S q.2.1 nb tr kk ur aT q.2.2/\iX ur O q.2.2/\(∀z,z<S.N->q.2.1 z<S.N)/\(∀z,z<S.N->∃r,bw q.2.1 z r)/\cc S q.2.1<cc S up/\Js S (bH up b a) (Z.take q.1) q.2.1 true)
   (λ q=>iA [(0,.ptr nb 1 0 0),(1,.v (.int .i64 (a:Nat))),(2,.v (.int .i64 (b:Nat))),(9,.v (.int .i64 (q.1:Nat)))]) (λ q=>q.2.2) (λ q=>(S.kids a).length- q.1) (0,bH up b a,O3)
   ⟨Nat.zero_le _,q1,q2,q3,q4,q5,by rw[List.take_zero];exact .nil _⟩ (.of_eq rfl rfl) ?_
  rintro⟨i,u,Q⟩ ⟨w1,w2,w3,w4,w5,w6,w7⟩;simp only at w1 w2 w3 w4 w5 w6 w7;have wb:=w2.box;have wk:=w2.kids;have wa:=w2.za a te;have wbk:=w2.za b si;by_cases hi:i<(S.kids a).length
  ·have di:decide ((i:Int)<((S.kids a).length:Int))=true:=decide_eq_true (by omega);obtain⟨p,hp⟩:∃p,(S.kids a)[i]? =some p:=⟨_,List.getElem?_eq_getElem hi⟩;obtain⟨q,hq⟩:∃q,(S.kids b)[i]? =some q:=⟨_,List.getElem?_eq_getElem (by omega)⟩;have sn:=hs.lt a te p (List.mem_of_getElem? hp);have hql:=hs.lt b si q (List.mem_of_getElem? hq);have hzi:Z[i]? =some (p,q):=by rw[←hz,List.getElem?_zip_eq_some];exact⟨hp,hq⟩
   have htk:Z.take (i+1)=Z.take i++ [(p,q)]:=by rw[List.take_add_one,hzi];rfl
   have gp:=tV hp;have gq:=tV hq;simp only[aO]at gp gq;obtain⟨u',O',ok,hc,hj,l1,l2,l3,l4,l5⟩:=ih (cc S u) (by omega) w2 w4 w5 (le_refl _) sn hql;simp only[wb,wk,wa,cS,gka,dB,AV.cells,toNat_natCast,di,↓OD,OA,reduceEqDiff,reduceCtorEq,reduceAdd,reduceLT,reduceLeDiff,reduceIte];refine⟨by omega,by omega,te,?_⟩;refine dc ?_;simp only[wb,wk,wa,wbk,cS,gka,gkb,dB,gp,gq,AV.cells,toNat_natCast,↓OD,OA,reduceEqDiff,reduceCtorEq,reduceAdd,reduceLT,reduceLeDiff,reduceIte];refine⟨by omega,by omega,te,by omega,by omega,hi,by omega,by omega,si,by omega,by omega,by omega,aj _ _ hc ?_⟩;have avf:=w2.few a te;cases ok with
   |true=>
    simp only[Bool.not_true,↓OD,OA,reduceEqDiff,reduceCtorEq,reduceAdd,reduceLT,reduceLeDiff,reduceIte];refine⟨by kernel_rfl,?_⟩;try simp only[↓OD,OA,reduceEqDiff,reduceCtorEq,reduceAdd,reduceLT,reduceLeDiff,reduceIte]
    exact aL (i+1,u',O') ⟨by show i+1<=_;omega,l1,w3.trans l2,l3,l4,by show cc S u'<_;omega,by show Js S _ (Z.take (i+1)) _ _;rw[htk];exact w7.append rfl hj⟩ (by show(S.kids a).length- (i+1)<(S.kids a).length- i;omega) (.of_eq (by rw[da (by omega) (by omega)];rfl) rfl)
   |false=>
    simp only[Bool.not_false,↓OD,OA,reduceEqDiff,reduceCtorEq,reduceAdd,reduceLT,reduceLeDiff,reduceIte];refine⟨by kernel_rfl,?_⟩;try simp only[↓OD,OA,reduceEqDiff,reduceCtorEq,reduceAdd,reduceLT,reduceLeDiff,reduceIte]
    exact aU (.inl rfl) ⟨u',false,by simp only[↓OD,OA,reduceEqDiff,reduceCtorEq,reduceAdd,reduceLT,reduceLeDiff,reduceIte],ahh _ _ (by
     have h1:=w7.append rfl hj;rw[←htk]at h1;have h2:=h1.wW (m:=Z.drop (i+1)) rfl;rwa [List.take_append_drop]at h2),l1,w3.trans l2,l3,l4,by omega⟩
  ·have di:decide ((i:Int)<((S.kids a).length:Int))=false:=decide_eq_false (by omega);have hie:i=(S.kids a).length:=by omega
   simp only[wb,wk,wa,cS,gka,dB,AV.cells,toNat_natCast,di,↓OD,OA,reduceEqDiff,reduceCtorEq,reduceAdd,reduceLT,reduceLeDiff,reduceIte];refine⟨by omega,by omega,te,?_⟩;exact aU (.inl rfl) ⟨u,true,by simp only[↓OD,OA,reduceEqDiff,reduceCtorEq,reduceAdd,reduceLT,reduceLeDiff,reduceIte],ahh _ _ (by rw[hie,←hzl,List.take_length]at w7;exact w7),w2,w3,w4,w5,by omega⟩
 obtain⟨res,O',⟨bh,ok,rfl,h⟩,hc⟩:=key;exact⟨bh,O',ok,hc,h⟩
end Go.Proofs.Ab
