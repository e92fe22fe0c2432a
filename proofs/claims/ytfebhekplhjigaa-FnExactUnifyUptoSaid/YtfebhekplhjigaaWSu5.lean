/-
  Unify of the reference: a node more.
-/
import Derived.Test.YtfebhekplhjigaaWSu4
open List(range_succ map_append getElem?_set_self getElem?_set_ne append_assoc cons_append nil_append)
open Nat(reduceEqDiff reduceLeDiff reduceAdd reduceLT reduceMul)
set_option linter.unusedVariables false
set_option linter.unusedSimpArgs false
namespace Go.Proofs.Ab
open Go.Ab
set_option maxRecDepth 100000
set_option maxHeartbeats 4000000
def ng(S:Net)(up:Nat->Nat)(nb tr kk ur:Nat)(aT:Nat->Nat)(O:List aa):Prop:=
 (S.N=0/\tr=nb/\kk=nb/\ur=nb/\O[nb]? =some (.live 85 3 [.agg [.aA,.aA,.aA]]))∨kR S up nb tr kk ur aT O
structure iY(nb tr kk ur:Nat)(O:List aa)(u9 uy u5:Nat)(O':List aa):Prop where
 len:O.length<=O'.length
 ai:∀n,n<O.length->n≠nb->n≠tr->n≠kk->n≠ur->O'[n]? =O[n]?
 tr:u9=tr∨O.length<=u9
 kk:uy=kk∨O.length<=uy
 ur:u5=ur∨O.length<=u5
theorem aqv(up:Nat->Nat)(N:Nat):yY up N++ [.v (.int .i64 (N:Nat))]=yY (λ y=>if y=N then y else up y) (N+1):=by
 unfold yY;rw[range_succ,map_append];congr 1
 ·exact List.map_congr_left λ y hy=>by
   have:y≠N:=by have:=List.mem_range.1 hy;omega
   simp only[if_neg this]
 ·simp[aO]
theorem ajL(S:Net)(t:ad)(ks:List Nat):tys S++ [uU t]=tys (S.add t ks):=by
 unfold tys
 show _=(List.range (S.N+1)).map _;rw[range_succ,map_append];congr 1
 ·exact List.map_congr_left λ y hy=>by simp only[Net.add];rw[if_neg (by have:=List.mem_range.1 hy;omega)]
 ·simp[Net.add]
theorem adR(S:Net)(aT:Nat->Nat)(t:ad)(ks:List Nat)(k:Nat):pq S aT++ [.row k ks.length]=pq (S.add t ks) (λ y=>if y=S.N then k else aT y):=by
 unfold pq
 show _=(List.range (S.N+1)).map _;rw[range_succ,map_append];congr 1
 ·exact List.map_congr_left λ y hy=>by
   have:y≠S.N:=by have:=List.mem_range.1 hy;omega
   simp only[agY,Net.add,if_neg this]
 ·simp[Net.add,agY]
theorem z8{α:Type}(O E:List α){a b:Nat}{va vb:α}(ha:a<O.length)(hb:b<O.length)(tW:a≠b):∃O1,((O++E).set a va).set b vb=O1/\O1[b]? =some vb/\O1[a]? =some va/\(∀n,n<O.length->n≠a->n≠b->O1[n]? =O[n]?)/\O1.length=O.length+E.length:=
 ⟨_,rfl,getElem?_set_self (by simp;omega),by rw[getElem?_set_ne (λ e=>tW e.symm)];exact getElem?_set_self (by simp;omega),λ n hn h1 h2=>by rw[getElem?_set_ne (λ e=>h2 e.symm),getElem?_set_ne (λ e=>h1 e.symm),al hn],by simp⟩
theorem aeV{α:Type}(O:List α){b:Nat}{vb:α}(hb:b<O.length):∃O1,O.set b vb=O1/\O1[b]? =some vb/\(∀n,n<O.length->n≠b->O1[n]? =O[n]?)/\O1.length=O.length:=
 ⟨_,rfl,getElem?_set_self hb,λ n hn h=>getElem?_set_ne (λ e=>h e.symm),by simp⟩
theorem vW{S:Net}{up aT:Nat->Nat}{nb tr kk ur:Nat}{O:List aa}(hL:ng S up nb tr kk ur aT O){t:ad}{c:AV}(hc:c.bO=true){ks:List Nat}{kr:Nat}(hk:O[kr]? =some (.live 3 1 (ints ks)))(bk:kr≠nb/\kr≠tr/\kr≠kk/\kr≠ur)(hkl:ks.length<=1048576)(hN:S.N<1073741824):
  ∃u9 uy u5 O',cF Try.prog F.gW [.ptr nb 1 0 0,.agg [aO t.Kind,aO t.N,cv t.Name,c],.row kr ks.length] O (aO (S.N:Nat)) O'/\kR (S.add t ks) (λ y=>if y=S.N then y else up y) nb u9 uy u5 (λ y=>if y=S.N then kr else aT y) O'/\iY nb tr kk ur O u9 uy u5 O':=by
 have key:∃res O',(∃u9 uy u5,res=aO (S.N:Nat)/\kR (S.add t ks) (λ y=>if y=S.N then y else up y) nb u9 uy u5 (λ y=>if y=S.N then kr else aT y) O'/\iY nb tr kk ur O u9 uy u5 O')/\cF Try.prog F.gW [.ptr nb 1 0 0,.agg [aO t.Kind,aO t.N,cv t.Name,c],.row kr ks.length] O res O':=by
  refine jM A.acF rfl ?_;simp only[A.gW,aO,cv,hc,↓OD,OA,reduceEqDiff,reduceCtorEq,reduceAdd,reduceLT,reduceLeDiff,reduceIte];simp only[kh,as0,↓OD,OA,reduceEqDiff,reduceCtorEq,reduceAdd,reduceLT,reduceLeDiff,reduceIte];rcases hL with⟨hN0,e1,e2,e3,hb⟩|hL
  ·have si:=(List.getElem?_eq_some_iff.1 hb).1;have hbE:∀E:List aa,(O++E)[nb]? =some _:=λ E=>(al si).trans hb
   refine dc ?_;have g2:∀x y z:aa,(O++ [x,y,z])[O.length+2]? =some z:=λ x y z=>ag2
   have s2:∀x y z w:aa,(O++ [x,y,z]).set (O.length+2) w=O++ [x,y,w]:=λ x y z w=>by
    rw[List.set_append_right _ _ (by omega),show O.length+2- O.length=2 by omega];rfl
   simp only[hbE,kh,uu,as0,g2,s2,append_assoc,cons_append,nil_append,AV.cells,↓OD,OA,reduceEqDiff,reduceCtorEq,reduceAdd,reduceLT,reduceLeDiff,reduceIte];refine⟨λ y hy=>by rw[List.mem_singleton.1 hy];rfl,by decide,by decide,λ h=>h.elim,λ _=> ?_⟩;have i0:(0:Int).toNat=0:=rfl;have d0:∀x y:AV,[x].getD 0 y=x:=λ _ _=>rfl
   have d1:∀x y:AV,[x].set 0 y= [y]:=λ _ _=>rfl
   try simp only[hbE,g2,s2,i0,d0,d1,kh,uu,as0,append_assoc,cons_append,nil_append,AV.cells,↓OD,OA,reduceEqDiff,reduceCtorEq,reduceAdd,reduceLT,reduceLeDiff,reduceIte]
   refine⟨by omega,by omega,fp (λ n=>[nb,O.length,O.length+1,O.length+2].getD n 0) 4 [⟨[],.cu⟩,⟨[0],.cu⟩,⟨[0],.cu⟩,⟨[0],.cu⟩,⟨[1],.cu⟩,⟨[],.cu⟩,⟨[],.push 2⟩,⟨[],.any⟩,⟨[3],.cu⟩,⟨[3],.set 3⟩,⟨[0],.cu⟩,⟨[0],.cu⟩,⟨[0],.set 0⟩] (by kernel_rfl) (by kernel_rfl) (λ a b ha hb h=> ?_) (by kernel_rfl),?_⟩
   ·match a,b,ha,hb with
    |0,0,_,_|1,1,_,_|2,2,_,_|3,3,_,_=>rfl
    |0,1,_,_|0,2,_,_|0,3,_,_|1,0,_,_|1,2,_,_|1,3,_,_|2,0,_,_|2,1,_,_|2,3,_,_|3,0,_,_|3,1,_,_|3,2,_,_=>simp at h<;>omega
   try simp only[AV.cells,↓OD,OA,reduceEqDiff,reduceCtorEq,reduceAdd,reduceLT,reduceLeDiff,reduceIte]
   obtain⟨O1,zx,m1,m3,m4⟩:=aeV (O++ [_,_,_]) (b:=nb) (vb:=_) (by simp;omega);rw[zx];clear zx;have m4':O1.length=O.length+3:=by rw[m4];simp
   have m2:O1[O.length+2]? =some (.live 29 4 [uU t]):=(m3 (O.length+2) (by simp) (by omega)).trans (g2 _ _ _);have m5:∀n,n<O.length->n≠nb->O1[n]? =O[n]? :=λ n hn h=>(m3 n (by simp;omega) h).trans (al hn)
   have l1:O.length+3=O1.length:=m4'.symm;have nbl:nb<O1.length:=by omega
   have al5:∀E:List aa,(O1++E)[nb]? =some _:=λ E=>(al nbl).trans m1
   simp only[l1,m1,al5,kh,uu,as0,amE,append_assoc,cons_append,nil_append,AV.cells,↓OD,OA,reduceEqDiff,reduceCtorEq,reduceAdd,reduceLT,reduceLeDiff,reduceIte];refine⟨λ y hy=>by rw[List.mem_singleton.1 hy];rfl,by decide,by decide,λ h=>h.elim,λ _=> ?_⟩;try simp only[l1,m1,al5,kh,uu,as0,amE,append_assoc,cons_append,nil_append,AV.cells,↓OD,OA,reduceEqDiff,reduceCtorEq,reduceAdd,reduceLT,reduceLeDiff,reduceIte]
   obtain⟨O2,hO2,p1,p3,p4⟩:=aeV (O1++ [_,_]) (b:=nb) (vb:=_) (by simp;omega);rw[hO2];clear hO2;have p4':O2.length=O1.length+2:=by rw[p4];simp
   have p2:O2[O1.length+1]? =some _:=(p3 (O1.length+1) (by simp) (by omega)).trans uu;have p5:∀n,n<O1.length->n≠nb->O2[n]? =O1[n]? :=λ n hn h=>(p3 n (by simp;omega) h).trans (al hn)
   have l2:O1.length+2=O2.length:=p4'.symm;have al4:∀E:List aa,(O2++E)[nb]? =some _:=λ E=>(al (by omega)).trans p1
   refine dc ?_;simp only[l2,p1,al4,kh,uu,as0,amE,append_assoc,cons_append,nil_append,AV.cells,↓OD,OA,reduceEqDiff,reduceCtorEq,reduceAdd,reduceLT,reduceLeDiff,reduceIte];refine⟨λ y hy=>by rw[List.mem_singleton.1 hy];rfl,by decide,by decide,λ h=>h.elim,λ _=> ?_⟩;try simp only[l2,p1,al4,kh,uu,as0,amE,append_assoc,cons_append,nil_append,AV.cells,↓OD,OA,reduceEqDiff,reduceCtorEq,reduceAdd,reduceLT,reduceLeDiff,reduceIte]
   refine⟨fp (λ n=>[nb,O2.length].getD n 0) 2 [⟨[],.cu⟩,⟨[],.cu⟩,⟨[0],.cu⟩,⟨[0],.cu⟩,⟨[0],.cu⟩,⟨[],.cu⟩,⟨[0],.cu⟩,⟨[0],.cu⟩,⟨[0],.cu⟩,⟨[],.cu⟩,⟨[],.push 1⟩,⟨[],.any⟩,⟨[0],.cu⟩,⟨[0],.cu⟩,⟨[0],.set 0⟩] (by kernel_rfl) (by kernel_rfl) (λ a b ha hb h=> ?_) (by kernel_rfl),?_⟩
   ·match a,b,ha,hb with
    |0,0,_,_|1,1,_,_=>rfl
    |0,1,_,_|1,0,_,_=>simp at h<;>omega
   try simp only[AV.cells,↓OD,OA,reduceEqDiff,reduceCtorEq,reduceAdd,reduceLT,reduceLeDiff,reduceIte]
   obtain⟨O3,hO3,q1,q3,q4⟩:=aeV (O2++ [_,_]) (b:=nb) (vb:=_) (by simp;omega);rw[hO3];clear hO3;have q4':O3.length=O2.length+2:=by rw[q4];simp
   have q2:O3[O2.length+1]? =some _:=(q3 (O2.length+1) (by simp) (by omega)).trans uu;have q5:∀n,n<O2.length->n≠nb->O3[n]? =O2[n]? :=λ n hn h=>(q3 n (by simp;omega) h).trans (al hn)
   have hw:IntKind.i64.wrap ((1:Int)- 1)=0:=rfl;have hw2:IntKind.i64.wrap (((1:Nat):Int)- 1)=0:=rfl;simp only[q1,q2,AV.cells,hw,hw2,↓OD,OA,reduceEqDiff,reduceCtorEq,reduceAdd,reduceLT,reduceLeDiff,reduceIte]
   have qq:∀n,n<O.length->n≠nb->O3[n]? =O[n]? :=λ n hn h1=>by
    rw[q5 n (by omega) h1,p5 n (by omega) h1,m5 n hn h1]
   have au7:=(List.getElem?_eq_some_iff.1 hk).1;have ar1:(S.add t ks).N=1:=by show S.N+1=1;omega
   have hxz:∀x,x<(S.add t ks).N->x=S.N:=λ x hx=>by omega
   have k1:tys (S.add t ks)= [uU t]:=by rw[←ajL];simp[tys,hN0]
   have k2:pq (S.add t ks) (λ y=>if y=S.N then kr else aT y)= [.row kr ks.length]:=by rw[←adR];simp[pq,hN0]
   have k3:yY (λ y=>if y=S.N then y else up y) 1= [.v (.int .i64 0)]:=by simp[yY,hN0,aO,range_succ]
   refine aU (.inl rfl) ⟨O.length+2,O1.length+1,O2.length+1,by simp[hN0,↓OD,OA,reduceEqDiff,reduceCtorEq,reduceAdd,reduceLT,reduceLeDiff,reduceIte],⟨by rw[ar1];exact q1,?_,?_,λ x hx=> ?_,by rw[ar1,k3];exact q2,⟨by omega,by omega,by omega,by omega,by omega,by omega,λ x hx=> ?_⟩,λ x hx=> ?_,by omega⟩,⟨by omega,λ n hn h _ _ _=>qq n hn h,.inr (by omega),.inr (by omega),.inr (by omega)⟩⟩
   ·rw[q5 _ (by omega) (by omega),p5 _ (by omega) (by omega),m2,k1]
   ·rw[q5 _ (by omega) (by omega),p2,k2]
   ·have:=hxz x hx;subst this;simp only[if_true,Net.add];rw[qq kr au7 bk.1];exact hk
   ·have:=hxz x hx;subst this;simp only[if_true];exact⟨bk.1,by omega,by omega,by omega⟩
   ·have:=hxz x hx;subst this;simp only[if_true,Net.add];exact hkl
  ·have hb:=hL.box;have ht:=hL.ty;have zv:=hL.kids;have hu:=hL.up;have si:=(List.getElem?_eq_some_iff.1 hb).1;have htl:=(List.getElem?_eq_some_iff.1 ht).1;have aBG:=(List.getElem?_eq_some_iff.1 zv).1;have hul:=(List.getElem?_eq_some_iff.1 hu).1;have au7:=(List.getElem?_eq_some_iff.1 hk).1;have hbE:∀E:List aa,(O++E)[nb]? =some _:=λ E=>(al si).trans hb
   have htE:∀E:List aa,(O++E)[tr]? =some _:=λ E=>(al htl).trans ht
   refine dc ?_;obtain⟨n1,n2,n3,n4,n5,n6,n7⟩:=hL.sep;have t1:∀(E:List aa) (v:aa),((O++E).set tr v)[tr]? =some v:=λ E v=>getElem?_set_self (by simp;omega)
   have t2:∀(E:List aa) (v:aa),((O++E).set tr v)[nb]? =some _:=λ E v=>(getElem?_set_ne (by omega)).trans (hbE E)
   have oW:S.N+1<=maxLen:=by
    have:maxLen=9223372036854775807:=rfl;omega
   have hcs:∀y∈tys S,y.cells.length=4:=λ y hy=>by
    obtain⟨x,_,rfl⟩:=List.mem_map.1 hy;rfl
   have hgl:∀v:AV,(tys S++ [v]).getD S.N .top=v:=λ v=>by rw[←k8 S];simp[List.getD]
   have hsl:∀v w:AV,(tys S++ [v]).set S.N w=tys S++ [w]:=λ v w=>by rw[←k8 S];simp
   simp only[hbE,htE,t1,t2,List.set_set,k8,hgl,hsl,kh,uu,as0,append_assoc,cons_append,nil_append,List.length_append,Int.toNat_natCast,AV.cells,↓OD,OA,reduceEqDiff,reduceCtorEq,reduceAdd,reduceLT,reduceLeDiff,reduceIte];refine⟨λ y hy=>by rw[List.mem_singleton.1 hy];rfl,by omega,oW,by omega,by omega,fp (λ n=>[nb,O.length,tr,O.length+1].getD n 0) 4 [⟨[],.cu⟩,⟨[0],.cu⟩,⟨[0],.cu⟩,⟨[0],.cu⟩,⟨[1],.cu⟩,⟨[2],.cu⟩,⟨[],.push 3⟩,⟨[2,3],.set 2⟩,⟨[2],.cu⟩,⟨[2],.set 2⟩,⟨[0],.cu⟩,⟨[0],.cu⟩,⟨[0],.set 0⟩] (by kernel_rfl) (by kernel_rfl) (λ a b ha hb h=> ?_) (by kernel_rfl),?_⟩
   ·match a,b,ha,hb with
    |0,0,_,_|1,1,_,_|2,2,_,_|3,3,_,_=>rfl
    |0,1,_,_|0,2,_,_|0,3,_,_|1,0,_,_|1,2,_,_|1,3,_,_|2,0,_,_|2,1,_,_|2,3,_,_|3,0,_,_|3,1,_,_|3,2,_,_=>simp at h<;>omega
   try simp only[↓OD,OA,reduceEqDiff,reduceCtorEq,reduceAdd,reduceLT,reduceLeDiff,reduceIte]
   have e1:tys S++ [AV.agg [.v (.int .i64 t.Kind),.v (.int .i64 t.N),.v (.string t.Name),.aA]]=tys (S.add t ks):=ajL S t ks;rw[e1];obtain⟨O1,zx,m1,m2,m3,m4⟩:=z8 O [_,_] (a:=tr) (b:=nb) (va:=_) (vb:=_) htl si (λ e=>n1 e.symm);rw[zx];clear zx;have l1:O.length+2=O1.length:=by rw[m4];rfl
   clear m4;have nbl:nb<O1.length:=by omega
   have kkl:kk<O1.length:=by omega
   have xk:O1[kk]? =_:=(m3 kk aBG (λ e=>n4 e.symm) (λ e=>n2 e.symm)).trans zv;have al5:∀E:List aa,(O1++E)[nb]? =some _:=λ E=>(al nbl).trans m1
   have aBN:∀E:List aa,(O1++E)[kk]? =some _:=λ E=>(al kkl).trans xk
   have t3:∀(E:List aa) (v:aa),((O1++E).set kk v)[kk]? =some v:=λ E v=>getElem?_set_self (by simp;omega)
   have t4:∀(E:List aa) (v:aa),((O1++E).set kk v)[nb]? =some _:=λ E v=>(getElem?_set_ne (by omega)).trans (al5 E)
   have aEY:∀y∈pq S aT,y.cells.length=1:=λ y hy=>by
    obtain⟨x,_,rfl⟩:=List.mem_map.1 hy;rfl
   simp only[l1,m1,al5,aBN,t3,t4,cS,kh,AV.cells,↓OD,OA,reduceEqDiff,reduceCtorEq,reduceAdd,reduceLT,reduceLeDiff,reduceIte];refine⟨λ y hy=>by rw[List.mem_singleton.1 hy];rfl,by omega,oW,?_⟩;try simp only[al5,t4,AV.cells,↓OD,OA,reduceEqDiff,reduceCtorEq,reduceAdd,reduceLT,reduceLeDiff,reduceIte]
   rw[adR S aT t ks kr];obtain⟨O2,hO2,p1,p2,p3,p4⟩:=z8 O1 [_] (a:=kk) (b:=nb) (va:=_) (vb:=_) kkl nbl (λ e=>n2 e.symm);rw[hO2];clear hO2;have l2:O1.length+1=O2.length:=by rw[p4];rfl
   clear p4;have axJ:nb<O2.length:=by omega
   have awR:ur<O2.length:=by omega
   have hu2:O2[ur]? =_:=(p3 ur (by omega) (λ e=>n6 e.symm) (λ e=>n3 e.symm)).trans ((m3 ur hul (λ e=>n5 e.symm) (λ e=>n3 e.symm)).trans hu);have al4:∀E:List aa,(O2++E)[nb]? =some _:=λ E=>(al axJ).trans p1
   have aA6:∀E:List aa,(O2++E)[ur]? =some _:=λ E=>(al awR).trans hu2
   have t5:∀(E:List aa) (v:aa),((O2++E).set ur v)[ur]? =some v:=λ E v=>getElem?_set_self (by simp;omega)
   have t6:∀(E:List aa) (v:aa),((O2++E).set ur v)[nb]? =some _:=λ E v=>(getElem?_set_ne (by omega)).trans (al4 E)
   refine dc ?_;simp only[l2,p1,hu2,al4,aA6,t5,t6,b7,kh,AV.cells,↓OD,OA,reduceEqDiff,reduceCtorEq,reduceAdd,reduceLT,reduceLeDiff,reduceIte];refine⟨λ y hy=>by rw[List.mem_singleton.1 hy];rfl,by omega,oW,?_⟩;try simp only[al4,t6,AV.cells,↓OD,OA,reduceEqDiff,reduceCtorEq,reduceAdd,reduceLT,reduceLeDiff,reduceIte]
   refine⟨fp (λ n=>[nb,ur,O2.length].getD n 0) 3 [⟨[],.cu⟩,⟨[],.cu⟩,⟨[0],.cu⟩,⟨[0],.cu⟩,⟨[0],.cu⟩,⟨[],.cu⟩,⟨[0],.cu⟩,⟨[0],.cu⟩,⟨[0],.cu⟩,⟨[1],.cu⟩,⟨[],.push 2⟩,⟨[1,2],.set 1⟩,⟨[0],.cu⟩,⟨[0],.cu⟩,⟨[0],.set 0⟩] (by kernel_rfl) (by kernel_rfl) (λ a b ha hb h=> ?_) (by kernel_rfl),?_⟩
   ·match a,b,ha,hb with
    |0,0,_,_|1,1,_,_|2,2,_,_=>rfl
    |0,1,_,_|0,2,_,_|1,0,_,_|1,2,_,_|2,0,_,_|2,1,_,_=>simp at h<;>omega
   try simp only[↓OD,OA,reduceEqDiff,reduceCtorEq,reduceAdd,reduceLT,reduceLeDiff,reduceIte]
   rw[aqv];obtain⟨O3,hO3,q1,q2,q3,q4⟩:=z8 O2 [_] (a:=ur) (b:=nb) (va:=_) (vb:=_) awR axJ (λ e=>n3 e.symm);rw[hO3];clear hO3;have q4':O3.length=O2.length+1:=by rw[q4];rfl
   have hw:IntKind.i64.wrap (((S.N+1:Nat):Int)- 1)=((S.N:Nat):Int):=by rw[da (by omega) (by omega)];omega
   simp only[q1,q2,b7,AV.cells,hw,↓OD,OA,reduceEqDiff,reduceCtorEq,reduceAdd,reduceLT,reduceLeDiff,reduceIte]
   have qq:∀n,n<O.length->n≠nb->n≠tr->n≠kk->n≠ur->O3[n]? =O[n]? :=λ n hn h1 h2 h3 h4=>by
    rw[q3 n (by omega) h4 h1,p3 n (by omega) h3 h1,m3 n hn h2 h1]
   refine aU (.inl rfl) ⟨tr,kk,ur,by simp only[↓OD,OA,reduceEqDiff,reduceCtorEq,reduceAdd,reduceLT,reduceLeDiff,reduceIte],⟨q1,?_,?_,λ x hx=> ?_,q2,⟨n1,n2,n3,n4,n5,n6,λ x hx=> ?_⟩,λ x hx=> ?_,by show S.N+1<=_;omega⟩,⟨by omega,qq,.inl rfl,.inl rfl,.inl rfl⟩⟩
   ·rw[q3 tr (by omega) n5 (λ e=>n1 e.symm),p3 tr (by omega) n4 (λ e=>n1 e.symm)];exact m2
   ·rw[q3 kk (by omega) n6 (λ e=>n2 e.symm)];exact p2
   ·by_cases e:x=S.N
    ·subst e;simp only[if_true,Net.add];rw[qq kr au7 bk.1 bk.2.1 bk.2.2.1 bk.2.2.2];exact hk
    ·have sZ:x<S.N:=by have:x<S.N+1:=hx;omega
     obtain⟨s1,s2,s3,s4⟩:=n7 x sZ;have hkx:=hL.za x sZ;simp only[if_neg e,Net.add];rw[qq _ (List.getElem?_eq_some_iff.1 hkx).1 s1 s2 s3 s4];exact hkx
   ·by_cases e:x=S.N
    ·subst e;simp only[if_true];exact bk
    ·have sZ:x<S.N:=by have:x<S.N+1:=hx;omega
     simp only[if_neg e];exact n7 x sZ
   ·by_cases e:x=S.N
    ·subst e;simp only[if_true,Net.add];exact hkl
    ·have sZ:x<S.N:=by have:x<S.N+1:=hx;omega
     simp only[if_neg e,Net.add];exact hL.few x sZ
 obtain⟨res,O',⟨u9,uy,u5,rfl,h⟩,hc⟩:=key;exact⟨u9,uy,u5,O',hc,h⟩
end Go.Proofs.Ab
