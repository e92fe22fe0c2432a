/-
  Unify of the reference: a node more.
-/
import Derived.Test.YtfebhekplhjigaaWSu4
open List(range_succ map_append getElem?_set_self getElem?_set_ne append_assoc cons_append nil_append)
open Nat(reduceEqDiff reduceLeDiff reduceAdd reduceLT reduceMul)
set_option linter.unusedSimpArgs false
set_option linter.unusedVariables false
namespace Go.Proofs.Ab
open Go.Ab
set_option maxRecDepth 100000
set_option maxHeartbeats 4000000
def mn(S:Net)(up:Nat->Nat)(nb tr kk ur:Nat)(aW:Nat->Nat)(O:List ad):Prop:=
 (S.N=0/\tr=nb/\kk=nb/\ur=nb/\O[nb]? =some (.live 85 3 [.agg [.aw,.aw,.aw]]))∨kq S up nb tr kk ur aW O
structure iK(nb tr kk ur:Nat)(O:List ad)(sk rD si:Nat)(O':List ad):Prop where
 len:O.length<=O'.length
 ar:∀n,n<O.length->n≠nb->n≠tr->n≠kk->n≠ur->O'[n]? =O[n]?
 tr:sk=tr∨O.length<=sk
 kk:rD=kk∨O.length<=rD
 ur:si=ur∨O.length<=si
theorem ap4(up:Nat->Nat)(N:Nat):wy up N++ [.v (.int .i64 (N:Nat))]=wy (λ y=>if y=N then y else up y) (N+1):=by
 unfold wy;rw[range_succ,map_append];congr 1
 ·exact List.map_congr_left λ y hy=>by
   have:y≠N:=by have:=List.mem_range.1 hy;omega
   simp only[if_neg this]
 ·simp[au]
theorem aiR(S:Net)(t:aa)(ks:List Nat):tys S++ [rY t]=tys (S.add t ks):=by
 unfold tys
 show _=(List.range (S.N+1)).map _;rw[range_succ,map_append];congr 1
 ·exact List.map_congr_left λ y hy=>by simp only[Net.add];rw[if_neg (by have:=List.mem_range.1 hy;omega)]
 ·simp[Net.add]
theorem abX(S:Net)(aW:Nat->Nat)(t:aa)(ks:List Nat)(k:Nat):nF S aW++ [.row k ks.length]=nF (S.add t ks) (λ y=>if y=S.N then k else aW y):=by
 unfold nF
 show _=(List.range (S.N+1)).map _;rw[range_succ,map_append];congr 1
 ·exact List.map_congr_left λ y hy=>by
   have:y≠S.N:=by have:=List.mem_range.1 hy;omega
   simp only[afj,Net.add,if_neg this]
 ·simp[Net.add,afj]
theorem xT{α:Type}(O E:List α){a b:Nat}{va vb:α}(ha:a<O.length)(hb:b<O.length)(qw:a≠b):∃O1,((O++E).set a va).set b vb=O1/\O1[b]? =some vb/\O1[a]? =some va/\(∀n,n<O.length->n≠a->n≠b->O1[n]? =O[n]?)/\O1.length=O.length+E.length:=
 ⟨_,rfl,getElem?_set_self (by simp;omega),by rw[getElem?_set_ne (λ e=>qw e.symm)];exact getElem?_set_self (by simp;omega),λ n hn h1 h2=>by rw[getElem?_set_ne (λ e=>h2 e.symm),getElem?_set_ne (λ e=>h1 e.symm),al hn],by simp⟩
theorem adf{α:Type}(O:List α){b:Nat}{vb:α}(hb:b<O.length):∃O1,O.set b vb=O1/\O1[b]? =some vb/\(∀n,n<O.length->n≠b->O1[n]? =O[n]?)/\O1.length=O.length:=
 ⟨_,rfl,getElem?_set_self hb,λ n hn h=>getElem?_set_ne (λ e=>h e.symm),by simp⟩
theorem tg{S:Net}{up aW:Nat->Nat}{nb tr kk ur:Nat}{O:List ad}(hL:mn S up nb tr kk ur aW O){t:aa}{c:AV}(hc:c.cg=true){ks:List Nat}{kr:Nat}(hk:O[kr]? =some (.live 3 1 (ints ks)))(bn:kr≠nb/\kr≠tr/\kr≠kk/\kr≠ur)(hkl:ks.length<=1048576)(hN:S.N<1073741824):
  ∃sk rD si O',fE Try.prog F.hT [.ptr nb 1 0 0,.agg [au t.Kind,au t.N,bZ t.Name,c],.row kr ks.length] O (au (S.N:Nat)) O'/\kq (S.add t ks) (λ y=>if y=S.N then y else up y) nb sk rD si (λ y=>if y=S.N then kr else aW y) O'/\iK nb tr kk ur O sk rD si O':=by
 have key:∃res O',(∃sk rD si,res=au (S.N:Nat)/\kq (S.add t ks) (λ y=>if y=S.N then y else up y) nb sk rD si (λ y=>if y=S.N then kr else aW y) O'/\iK nb tr kk ur O sk rD si O')/\fE Try.prog F.hT [.ptr nb 1 0 0,.agg [au t.Kind,au t.N,bZ t.Name,c],.row kr ks.length] O res O':=by
  refine jx A.aaO rfl ?_;simp only[A.hT,au,bZ,hc,↓OD,OA,reduceEqDiff,reduceCtorEq,reduceAdd];simp only[ku,as0,OA,reduceAdd];rcases hL with⟨hN0,e1,e2,e3,hb⟩|hL
  ·have pR:=(List.getElem?_eq_some_iff.1 hb).1;have hbE:∀E:List ad,(O++E)[nb]? =some _:=λ E=>(al pR).trans hb
   refine dv ?_;have g2:∀x y z:ad,(O++ [x,y,z])[O.length+2]? =some z:=λ x y z=>ag2
   have s2:∀x y z w:ad,(O++ [x,y,z]).set (O.length+2) w=O++ [x,y,w]:=λ x y z w=>by
    rw[List.set_append_right _ _ (by omega),show O.length+2- O.length=2 by omega];rfl
   simp only[hbE,ku,ux,g2,s2,append_assoc,cons_append,nil_append,AV.cells,↓OD,OA,reduceEqDiff,reduceCtorEq,reduceAdd,reduceLeDiff];refine⟨λ y hy=>by rw[List.mem_singleton.1 hy];rfl,by decide,by decide,λ h=>h.elim,λ _=> ?_⟩;have i0:(0:Int).toNat=0:=rfl;have d0:∀x y:AV,[x].getD 0 y=x:=λ _ _=>rfl
   have d1:∀x y:AV,[x].set 0 y= [y]:=λ _ _=>rfl
   try simp only[i0,d0,d1,AV.cells,OA,reduceAdd]
   refine⟨by omega,by omega,fA (λ n=>[nb,O.length,O.length+1,O.length+2].getD n 0) 4 [⟨[],.cL⟩,⟨[0],.cL⟩,⟨[0],.cL⟩,⟨[0],.cL⟩,⟨[1],.cL⟩,⟨[],.cL⟩,⟨[],.push 2⟩,⟨[],.any⟩,⟨[3],.cL⟩,⟨[3],.set 3⟩,⟨[0],.cL⟩,⟨[0],.cL⟩,⟨[0],.set 0⟩] (by kernel_rfl) (by kernel_rfl) (λ a b ha hb h=> ?_) (by kernel_rfl),?_⟩
   ·match a,b,ha,hb with
    |0,0,_,_|1,1,_,_|2,2,_,_|3,3,_,_=>rfl
    |0,1,_,_|0,2,_,_|0,3,_,_|1,0,_,_|1,2,_,_|1,3,_,_|2,0,_,_|2,1,_,_|2,3,_,_|3,0,_,_|3,1,_,_|3,2,_,_=>simp at h<;>omega
   try simp only[AV.cells,↓OD,OA,reduceEqDiff,reduceCtorEq,reduceAdd,reduceLT,reduceLeDiff,reduceIte]
   obtain⟨O1,hO1,m1,m3,m4⟩:=adf (O++ [_,_,_]) (b:=nb) (vb:=_) (by simp;omega);rw[hO1];clear hO1;have m4':O1.length=O.length+3:=by rw[m4];simp
   have m2:O1[O.length+2]? =some (.live 29 4 [rY t]):=(m3 (O.length+2) (by simp) (by omega)).trans (g2 _ _ _);have m5:∀n,n<O.length->n≠nb->O1[n]? =O[n]? :=λ n hn h=>(m3 n (by simp;omega) h).trans (al hn)
   have l1:O.length+3=O1.length:=m4'.symm;have nbl:nb<O1.length:=by omega
   have alb:∀E:List ad,(O1++E)[nb]? =some _:=λ E=>(al nbl).trans m1
   simp only[l1,m1,alb,ku,append_assoc,cons_append,nil_append,AV.cells,↓OD,OA,reduceEqDiff,reduceCtorEq,reduceAdd,reduceLT,reduceLeDiff];refine⟨λ y hy=>by rw[List.mem_singleton.1 hy];rfl,by decide,by decide,λ h=>h.elim,λ _=> ?_⟩;try simp only[l1,m1,alb,ku,ux,as0,asj,append_assoc,cons_append,nil_append,AV.cells,↓OD,OA,reduceEqDiff,reduceCtorEq,reduceAdd,reduceLT,reduceLeDiff,reduceIte]
   obtain⟨O2,zS,p1,p3,p4⟩:=adf (O1++ [_,_]) (b:=nb) (vb:=_) (by simp;omega);rw[zS];clear zS;have p4':O2.length=O1.length+2:=by rw[p4];simp
   have p2:O2[O1.length+1]? =some _:=(p3 (O1.length+1) (by simp) (by omega)).trans ux;have p5:∀n,n<O1.length->n≠nb->O2[n]? =O1[n]? :=λ n hn h=>(p3 n (by simp;omega) h).trans (al hn)
   have l2:O1.length+2=O2.length:=p4'.symm;have ala:∀E:List ad,(O2++E)[nb]? =some _:=λ E=>(al (by omega)).trans p1
   refine dv ?_;simp only[p1,ala,ku,append_assoc,cons_append,nil_append,AV.cells,↓OD,OA,reduceEqDiff,reduceCtorEq,reduceAdd];refine⟨λ y hy=>by rw[List.mem_singleton.1 hy];rfl,by decide,by decide,λ h=>h.elim,λ _=> ?_⟩;try simp only[l2,p1,ala,ku,ux,as0,asj,append_assoc,cons_append,nil_append,AV.cells,↓OD,OA,reduceEqDiff,reduceCtorEq,reduceAdd,reduceLT,reduceLeDiff,reduceIte]
   refine⟨fA (λ n=>[nb,O2.length].getD n 0) 2 [⟨[],.cL⟩,⟨[],.cL⟩,⟨[0],.cL⟩,⟨[0],.cL⟩,⟨[0],.cL⟩,⟨[],.cL⟩,⟨[0],.cL⟩,⟨[0],.cL⟩,⟨[0],.cL⟩,⟨[],.cL⟩,⟨[],.push 1⟩,⟨[],.any⟩,⟨[0],.cL⟩,⟨[0],.cL⟩,⟨[0],.set 0⟩] (by kernel_rfl) (by kernel_rfl) (λ a b ha hb h=> ?_) (by kernel_rfl),?_⟩
   ·match a,b,ha,hb with
    |0,0,_,_|1,1,_,_=>rfl
    |0,1,_,_|1,0,_,_=>simp at h<;>omega
   try simp only[AV.cells,↓OD,OA,reduceEqDiff,reduceCtorEq,reduceAdd,reduceLT,reduceLeDiff,reduceIte]
   obtain⟨O3,hO3,q1,q3,q4⟩:=adf (O2++ [_,_]) (b:=nb) (vb:=_) (by simp;omega);rw[hO3];clear hO3;have q4':O3.length=O2.length+2:=by rw[q4];simp
   have q2:O3[O2.length+1]? =some _:=(q3 (O2.length+1) (by simp) (by omega)).trans ux;have q5:∀n,n<O2.length->n≠nb->O3[n]? =O2[n]? :=λ n hn h=>(q3 n (by simp;omega) h).trans (al hn)
   have hw:IntKind.i64.wrap ((1:Int)- 1)=0:=rfl;have hw2:IntKind.i64.wrap (((1:Nat):Int)- 1)=0:=rfl;simp only[q1,q2,hw2,↓OD,OA,reduceEqDiff,reduceCtorEq,reduceAdd]
   have ov:∀n,n<O.length->n≠nb->O3[n]? =O[n]? :=λ n hn h1=>by
    rw[q5 n (by omega) h1,p5 n (by omega) h1,m5 n hn h1]
   have avf:=(List.getElem?_eq_some_iff.1 hk).1;have arL:(S.add t ks).N=1:=by show S.N+1=1;omega
   have hxz:∀x,x<(S.add t ks).N->x=S.N:=λ x hx=>by omega
   have k1:tys (S.add t ks)= [rY t]:=by rw[←aiR];simp[tys,hN0]
   have k2:nF (S.add t ks) (λ y=>if y=S.N then kr else aW y)= [.row kr ks.length]:=by rw[←abX];simp[nF,hN0]
   have k3:wy (λ y=>if y=S.N then y else up y) 1= [.v (.int .i64 0)]:=by simp[wy,hN0,au,range_succ]
   refine aY (.inl rfl) ⟨O.length+2,O1.length+1,O2.length+1,by simp[hN0,OA,reduceIte],⟨by rw[arL];exact q1,?_,?_,λ x hx=> ?_,by rw[arL,k3];exact q2,⟨by omega,by omega,by omega,by omega,by omega,by omega,λ x hx=> ?_⟩,λ x hx=> ?_,by omega⟩,⟨by omega,λ n hn h _ _ _=>ov n hn h,.inr (by omega),.inr (by omega),.inr (by omega)⟩⟩
   ·rw[q5 _ (by omega) (by omega),p5 _ (by omega) (by omega),m2,k1]
   ·rw[q5 _ (by omega) (by omega),p2,k2]
   ·have:=hxz x hx;subst this;simp only[if_true,Net.add];rw[ov kr avf bn.1];exact hk
   ·have:=hxz x hx;subst this;simp only[if_true];exact⟨bn.1,by omega,by omega,by omega⟩
   ·have:=hxz x hx;subst this;simp only[if_true,Net.add];exact hkl
  ·have hb:=hL.box;have ht:=hL.ty;have xg:=hL.kids;have hu:=hL.up;have pR:=(List.getElem?_eq_some_iff.1 hb).1;have htl:=(List.getElem?_eq_some_iff.1 ht).1;have aBY:=(List.getElem?_eq_some_iff.1 xg).1;have hul:=(List.getElem?_eq_some_iff.1 hu).1;have avf:=(List.getElem?_eq_some_iff.1 hk).1;have hbE:∀E:List ad,(O++E)[nb]? =some _:=λ E=>(al pR).trans hb
   have htE:∀E:List ad,(O++E)[tr]? =some _:=λ E=>(al htl).trans ht
   refine dv ?_;obtain⟨n1,n2,n3,n4,n5,n6,n7⟩:=hL.sep;have t1:∀(E:List ad) (v:ad),((O++E).set tr v)[tr]? =some v:=λ E v=>getElem?_set_self (by simp;omega)
   have t2:∀(E:List ad) (v:ad),((O++E).set tr v)[nb]? =some _:=λ E v=>(getElem?_set_ne (by omega)).trans (hbE E)
   have mc:S.N+1<=maxLen:=by
    have:maxLen=9223372036854775807:=rfl;omega
   have zQ:∀y∈tys S,y.cells.length=4:=λ y hy=>by
    obtain⟨x,_,rfl⟩:=List.mem_map.1 hy;rfl
   have hgl:∀v:AV,(tys S++ [v]).getD S.N .top=v:=λ v=>by rw[←kz S];simp[List.getD]
   have hsl:∀v w:AV,(tys S++ [v]).set S.N w=tys S++ [w]:=λ v w=>by rw[←kz S];simp
   simp only[hbE,htE,t1,t2,List.set_set,kz,hgl,hsl,ku,ux,append_assoc,cons_append,nil_append,List.length_append,Int.toNat_natCast,AV.cells,↓OD,OA,reduceEqDiff,reduceCtorEq,reduceAdd,reduceLeDiff];refine⟨λ y hy=>by rw[List.mem_singleton.1 hy];rfl,by omega,mc,by omega,by omega,fA (λ n=>[nb,O.length,tr,O.length+1].getD n 0) 4 [⟨[],.cL⟩,⟨[0],.cL⟩,⟨[0],.cL⟩,⟨[0],.cL⟩,⟨[1],.cL⟩,⟨[2],.cL⟩,⟨[],.push 3⟩,⟨[2,3],.set 2⟩,⟨[2],.cL⟩,⟨[2],.set 2⟩,⟨[0],.cL⟩,⟨[0],.cL⟩,⟨[0],.set 0⟩] (by kernel_rfl) (by kernel_rfl) (λ a b ha hb h=> ?_) (by kernel_rfl),?_⟩
   ·match a,b,ha,hb with
    |0,0,_,_|1,1,_,_|2,2,_,_|3,3,_,_=>rfl
    |0,1,_,_|0,2,_,_|0,3,_,_|1,0,_,_|1,2,_,_|1,3,_,_|2,0,_,_|2,1,_,_|2,3,_,_|3,0,_,_|3,1,_,_|3,2,_,_=>simp at h<;>omega
   try simp only[↓OD,OA,reduceEqDiff,reduceCtorEq,reduceAdd,reduceLT,reduceLeDiff,reduceIte]
   have e1:tys S++ [AV.agg [.v (.int .i64 t.Kind),.v (.int .i64 t.N),.v (.string t.Name),.aw]]=tys (S.add t ks):=aiR S t ks;rw[e1];obtain⟨O1,hO1,m1,m2,m3,m4⟩:=xT O [_,_] (a:=tr) (b:=nb) (va:=_) (vb:=_) htl pR (λ e=>n1 e.symm);rw[hO1];clear hO1;have l1:O.length+2=O1.length:=by rw[m4];rfl
   clear m4;have nbl:nb<O1.length:=by omega
   have kkl:kk<O1.length:=by omega
   have vj:O1[kk]? =_:=(m3 kk aBY (λ e=>n4 e.symm) (λ e=>n2 e.symm)).trans xg;have alb:∀E:List ad,(O1++E)[nb]? =some _:=λ E=>(al nbl).trans m1
   have aB5:∀E:List ad,(O1++E)[kk]? =some _:=λ E=>(al kkl).trans vj
   have t3:∀(E:List ad) (v:ad),((O1++E).set kk v)[kk]? =some v:=λ E v=>getElem?_set_self (by simp;omega)
   have t4:∀(E:List ad) (v:ad),((O1++E).set kk v)[nb]? =some _:=λ E v=>(getElem?_set_ne (by omega)).trans (alb E)
   have aFm:∀y∈nF S aW,y.cells.length=1:=λ y hy=>by
    obtain⟨x,_,rfl⟩:=List.mem_map.1 hy;rfl
   simp only[l1,m1,alb,aB5,t4,dg,ku,AV.cells,↓OD,OA,reduceEqDiff,reduceCtorEq,reduceAdd,reduceLT,reduceLeDiff];refine⟨λ y hy=>by rw[List.mem_singleton.1 hy];rfl,by omega,mc,?_⟩;try simp only[alb,t4,AV.cells,↓OD,OA,reduceEqDiff,reduceCtorEq,reduceAdd,reduceLT,reduceLeDiff,reduceIte]
   rw[abX S aW t ks kr];obtain⟨O2,zS,p1,p2,p3,p4⟩:=xT O1 [_] (a:=kk) (b:=nb) (va:=_) (vb:=_) kkl nbl (λ e=>n2 e.symm);rw[zS];clear zS;have l2:O1.length+1=O2.length:=by rw[p4];rfl
   clear p4;have ax0:nb<O2.length:=by omega
   have aw5:ur<O2.length:=by omega
   have hu2:O2[ur]? =_:=(p3 ur (by omega) (λ e=>n6 e.symm) (λ e=>n3 e.symm)).trans ((m3 ur hul (λ e=>n5 e.symm) (λ e=>n3 e.symm)).trans hu);have ala:∀E:List ad,(O2++E)[nb]? =some _:=λ E=>(al ax0).trans p1
   have aBv:∀E:List ad,(O2++E)[ur]? =some _:=λ E=>(al aw5).trans hu2
   have t5:∀(E:List ad) (v:ad),((O2++E).set ur v)[ur]? =some v:=λ E v=>getElem?_set_self (by simp;omega)
   have t6:∀(E:List ad) (v:ad),((O2++E).set ur v)[nb]? =some _:=λ E v=>(getElem?_set_ne (by omega)).trans (ala E)
   refine dv ?_;simp only[p1,hu2,ala,aBv,t6,cE,ku,AV.cells,↓OD,OA,reduceEqDiff,reduceCtorEq,reduceAdd];refine⟨λ y hy=>by rw[List.mem_singleton.1 hy];rfl,by omega,mc,?_⟩;try simp only[ala,t6,AV.cells,↓OD,OA,reduceEqDiff,reduceCtorEq,reduceAdd,reduceLT,reduceLeDiff,reduceIte]
   refine⟨fA (λ n=>[nb,ur,O2.length].getD n 0) 3 [⟨[],.cL⟩,⟨[],.cL⟩,⟨[0],.cL⟩,⟨[0],.cL⟩,⟨[0],.cL⟩,⟨[],.cL⟩,⟨[0],.cL⟩,⟨[0],.cL⟩,⟨[0],.cL⟩,⟨[1],.cL⟩,⟨[],.push 2⟩,⟨[1,2],.set 1⟩,⟨[0],.cL⟩,⟨[0],.cL⟩,⟨[0],.set 0⟩] (by kernel_rfl) (by kernel_rfl) (λ a b ha hb h=> ?_) (by kernel_rfl),?_⟩
   ·match a,b,ha,hb with
    |0,0,_,_|1,1,_,_|2,2,_,_=>rfl
    |0,1,_,_|0,2,_,_|1,0,_,_|1,2,_,_|2,0,_,_|2,1,_,_=>simp at h<;>omega
   try simp only[↓OD,OA,reduceEqDiff,reduceCtorEq,reduceAdd,reduceLT,reduceLeDiff,reduceIte]
   rw[ap4];obtain⟨O3,hO3,q1,q2,q3,q4⟩:=xT O2 [_] (a:=ur) (b:=nb) (va:=_) (vb:=_) aw5 ax0 (λ e=>n3 e.symm);rw[hO3];clear hO3;have q4':O3.length=O2.length+1:=by rw[q4];rfl
   have hw:IntKind.i64.wrap (((S.N+1:Nat):Int)- 1)=((S.N:Nat):Int):=by rw[bh (by omega) (by omega)];omega
   simp only[q1,q2,cE,hw,↓OD,OA,reduceEqDiff,reduceCtorEq,reduceAdd]
   have ov:∀n,n<O.length->n≠nb->n≠tr->n≠kk->n≠ur->O3[n]? =O[n]? :=λ n hn h1 h2 h3 h4=>by
    rw[q3 n (by omega) h4 h1,p3 n (by omega) h3 h1,m3 n hn h2 h1]
   refine aY (.inl rfl) ⟨tr,kk,ur,by simp only[OA],⟨q1,?_,?_,λ x hx=> ?_,q2,⟨n1,n2,n3,n4,n5,n6,λ x hx=> ?_⟩,λ x hx=> ?_,by show S.N+1<=_;omega⟩,⟨by omega,ov,.inl rfl,.inl rfl,.inl rfl⟩⟩
   ·rw[q3 tr (by omega) n5 (λ e=>n1 e.symm),p3 tr (by omega) n4 (λ e=>n1 e.symm)];exact m2
   ·rw[q3 kk (by omega) n6 (λ e=>n2 e.symm)];exact p2
   ·by_cases e:x=S.N
    ·subst e;simp only[if_true,Net.add];rw[ov kr avf bn.1 bn.2.1 bn.2.2.1 bn.2.2.2];exact hk
    ·have qo:x<S.N:=by have:x<S.N+1:=hx;omega
     obtain⟨s1,s2,s3,s4⟩:=n7 x qo;have hkx:=hL.wK x qo;simp only[if_neg e,Net.add];rw[ov _ (List.getElem?_eq_some_iff.1 hkx).1 s1 s2 s3 s4];exact hkx
   ·by_cases e:x=S.N
    ·subst e;simp only[if_true];exact bn
    ·have qo:x<S.N:=by have:x<S.N+1:=hx;omega
     simp only[if_neg e];exact n7 x qo
   ·by_cases e:x=S.N
    ·subst e;simp only[if_true,Net.add];exact hkl
    ·have qo:x<S.N:=by have:x<S.N+1:=hx;omega
     simp only[if_neg e,Net.add];exact hL.few x qo
 obtain⟨res,O',⟨sk,rD,si,rfl,h⟩,hc⟩:=key;exact⟨sk,rD,si,O',hc,h⟩
end Go.Proofs.Ab
