/-
  Unify of the reference: a type is laid.
-/
import Derived.Test.YtfebhekplhjigaaWSu5
open Nat(le_refl)
open List(getElem?_set_ne map_append length_map)
open Nat(reduceEqDiff reduceLeDiff reduceAdd reduceLT reduceMul)
set_option linter.unusedVariables false
set_option linter.unusedSimpArgs false
namespace Go.Proofs.Ab
open Go.Ab
set_option maxRecDepth 100000
set_option maxHeartbeats 4000000
structure vP(b:Nat)(S:Net)(up aT:Nat->Nat)(S':Net)(bh ik:Nat->Nat):Prop where
 N:S.N<=S'.N
 M:S'.M=S.M
 fk:∀x,x<S.N->S'.ty x=S.ty x/\S'.kids x=S.kids x/\bh x=up x/\ik x=aT x
 new:∀x,S.N<=x->x<S'.N->bh x=x/\¬S'.mq x/\(S'.ty x).mO=true/\b<=ik x
theorem vP.refl{b:Nat}{S:Net}{up aT:Nat->Nat}:vP b S up aT S up aT:=⟨le_refl _,rfl,λ _ _=>⟨rfl,rfl,rfl,rfl⟩,λ x h k=>by omega⟩
theorem vP.trans{b c:Nat}{S S' S'':Net}{up aT bh ik aga aon:Nat->Nat}(h:vP b S up aT S' bh ik)(k:vP c S' bh ik S'' aga aon)(hbc:b<=c):vP b S up aT S'' aga aon:=by
 refine⟨Nat.le_trans h.N k.N,k.M.trans h.M,λ x hx=> ?_,λ x h1 h2=> ?_⟩
 ·obtain⟨a1,a2,a3,a4⟩:=h.fk x hx;obtain⟨b1,b2,b3,b4⟩:=k.fk x (Nat.lt_of_lt_of_le hx h.N);exact⟨b1.trans a1,b2.trans a2,b3.trans a3,b4.trans a4⟩
 ·by_cases hx:x<S'.N
  ·obtain⟨a1,a2,a3,a4⟩:=h.new x h1 hx;obtain⟨b1,b2,b3,b4⟩:=k.fk x hx;exact⟨b3.trans a1,by unfold Net.mq at a2⊢;rwa [b1],by rwa [b1],by rwa [b4]⟩
  ·obtain⟨a1,a2,a3,a4⟩:=k.new x (by omega) h2;exact⟨a1,a2,a3,by omega⟩
theorem vP.grow{b:Nat}{S S':Net}{up aT bh ik:Nat->Nat}(h:vP b S up aT S' bh ik):yo S up S' bh:=
 ⟨h.N,h.M,λ x hx=>⟨(h.fk x hx).1,(h.fk x hx).2.1,(h.fk x hx).2.2.1⟩,λ x h1 h2=>⟨(h.new x h1 h2).1,(h.new x h1 h2).2.1⟩⟩
theorem vP.add{b kr:Nat}{S:Net}{up aT:Nat->Nat}{t:ad}{ks:List Nat}(hk:t.Kind≠11)(ho:t.mO=true)(hb:b<=kr):vP b S up aT (S.add t ks) (λ y=>if y=S.N then y else up y) (λ y=>if y=S.N then kr else aT y):=by
 refine⟨Nat.le_succ _,rfl,λ x hx=> ?_,λ x h1 h2=> ?_⟩
 ·have:x≠S.N:=by omega
  simp only[Net.add,if_neg this,and_self]
 ·have:x=S.N:=by have:x<S.N+1:=h2;omega
  subst this;unfold Net.mq;simp only[Net.add,if_true];exact⟨trivial,hk,ho,hb⟩
theorem iY.refl(nb tr kk ur:Nat)(O:List aa):iY nb tr kk ur O tr kk ur O:=⟨le_refl _,λ _ _ _ _ _ _=>rfl,.inl rfl,.inl rfl,.inl rfl⟩
theorem iY.trans{nb tr kk ur u9 uy u5 awY axX awS:Nat}{O O' oR:List aa}(h:iY nb tr kk ur O u9 uy u5 O')(k:iY nb u9 uy u5 O' awY axX awS oR):iY nb tr kk ur O awY axX awS oR:=by
 have l1:=h.len;refine⟨Nat.le_trans h.len k.len,λ n hn a1 a2 a3 a4=> ?_,?_,?_,?_⟩
 ·rw[k.ai n (by omega) a1 (by rcases h.tr with e|e<;>omega) (by rcases h.kk with e|e<;>omega) (by rcases h.ur with e|e<;>omega)];exact h.ai n hn a1 a2 a3 a4
 ·rcases h.tr with e|e<;>rcases k.tr with e'|e'<;>omega
 ·rcases h.kk with e|e<;>rcases k.kk with e'|e'<;>omega
 ·rcases h.ur with e|e<;>rcases k.ur with e'|e'<;>omega
theorem iY.app{nb tr kk ur u9 uy u5:Nat}{O O':List aa}(h:iY nb tr kk ur O u9 uy u5 O')(E:List aa):iY nb tr kk ur O u9 uy u5 (O'++E):=
 ⟨by have:=h.len;simp;omega,λ n hn a1 a2 a3 a4=>by rw[al (by have:=h.len;omega)];exact h.ai n hn a1 a2 a3 a4,h.tr,h.kk,h.ur⟩
theorem iY.set{nb tr kk ur u9 uy u5 m:Nat}{O O':List aa}(h:iY nb tr kk ur O u9 uy u5 O')(hm:O.length<=m)(v:aa):iY nb tr kk ur O u9 uy u5 (O'.set m v):=
 ⟨by have:=h.len;simp;omega,λ n hn a1 a2 a3 a4=>by rw[getElem?_set_ne (by omega)];exact h.ai n hn a1 a2 a3 a4,h.tr,h.kk,h.ur⟩
section
variable {S:Net} {up aT:Nat->Nat} {nb tr kk ur:Nat} {O O':List aa}
theorem ng.lts(h:ng S up nb tr kk ur aT O):nb<O.length/\tr<O.length/\kk<O.length/\ur<O.length/\∀x,x<S.N->aT x<O.length:=by
 rcases h with⟨h0,rfl,rfl,rfl,hb⟩|h
 ·have:=(List.getElem?_eq_some_iff.1 hb).1;exact⟨this,this,this,this,λ x hx=>by omega⟩
 ·exact⟨(List.getElem?_eq_some_iff.1 h.box).1,(List.getElem?_eq_some_iff.1 h.ty).1,(List.getElem?_eq_some_iff.1 h.kids).1,(List.getElem?_eq_some_iff.1 h.up).1,λ x hx=>(List.getElem?_eq_some_iff.1 (h.za x hx)).1⟩
theorem ng.move(h:ng S up nb tr kk ur aT O)(k:O'[nb]? =O[nb]? /\O'[tr]? =O[tr]? /\O'[kk]? =O[kk]? /\O'[ur]? =O[ur]? /\∀x,x<S.N->O'[aT x]? =O[aT x]?):ng S up nb tr kk ur aT O':=by
 rcases h with⟨h0,h1,h2,h3,hb⟩|h
 ·exact .inl ⟨h0,h1,h2,h3,by rw[k.1];exact hb⟩
 ·exact .inr ⟨by rw[k.1];exact h.box,by rw[k.2.1];exact h.ty,by rw[k.2.2.1];exact h.kids,λ x hx=>by rw[k.2.2.2.2 x hx];exact h.za x hx,by rw[k.2.2.2.1];exact h.up,h.sep,h.few,h.small⟩
theorem ng.app(h:ng S up nb tr kk ur aT O)(E:List aa):ng S up nb tr kk ur aT (O++E):=by
 obtain⟨a,b,c,d,e⟩:=h.lts;exact h.move ⟨al a,al b,al c,al d,λ x hx=>al (e x hx)⟩
theorem ng.set(h:ng S up nb tr kk ur aT O){m:Nat}(k:m≠nb/\m≠tr/\m≠kk/\m≠ur/\∀x,x<S.N->m≠aT x)(v:aa):ng S up nb tr kk ur aT (O.set m v):=
 h.move ⟨getElem?_set_ne k.1,getElem?_set_ne k.2.1,getElem?_set_ne k.2.2.1,getElem?_set_ne k.2.2.2.1,λ x hx=>getElem?_set_ne (k.2.2.2.2 x hx)⟩
end
structure asB(x:ad)(S0:Net)(up0 abi:Nat->Nat)(nb tr0 kk0 ur0:Nat)(O:List aa)(done rest:List ad)(S:Net)(up aT:Nat->Nat)(tr kk ur:Nat)(ks:List Nat)(Q:List aa):Prop where
 all:done++rest=x.Kids
 ok:S.ok
 lay:ng S up nb tr kk ur aT Q
 ext:vP O.length S0 up0 abi S up aT
 len:O.length+2<=Q.length
 ai:iY nb tr0 kk0 ur0 O tr kk ur Q
 box:Q[O.length]? =some (.live 29 4 [x.av])
 row:Q[O.length+1]? =some (.live 3 1 (ints ks))
 sep:O.length≠nb/\O.length≠tr/\O.length≠kk/\O.length≠ur/\O.length+1≠nb/\O.length+1≠tr/\O.length+1≠kk/\O.length+1≠ur/\∀y,y<S.N->O.length+1≠aT y
 aiU:∀j∈ks,j<S.N
 kids:ks.map S.ty=done
 cnt:S.N<=S0.N+(done.map ad.dP).sum
theorem asB.step{x:ad}{S0:Net}{up0 abi:Nat->Nat}{nb tr0 kk0 ur0:Nat}{O:List aa}{done rest:List ad}{S1:Net}{u7 aom:Nat->Nat}{tr1 kk1 ur1:Nat}{ks:List Nat}{Q:List aa}{t:ad}(hi:asB x S0 up0 abi nb tr0 kk0 ur0 O done (t::rest) S1 u7 aom tr1 kk1 ur1 ks Q)
  {S2:Net} {xi abh:Nat->Nat} {tr2 kk2 ur2 rr:Nat} {O2:List aa} (c2:S2.ok) (c3:ng S2 xi nb tr2 kk2 ur2 abh O2) (c4:vP Q.length S1 u7 aom S2 xi abh) (c5:iY nb tr1 kk1 ur1 Q tr2 kk2 ur2 O2) (c7:rr<S2.N) (c8:S2.ty rr=t) (c9:S2.N<=S1.N+t.dP) (E:List aa):
  asB x S0 up0 abi nb tr0 kk0 ur0 O (done++ [t]) rest S2 xi abh tr2 kk2 ur2 (ks++ [rr]) ((O2++E).set (O.length+1) (.live 3 1 (ints (ks++ [rr])))):=by
 obtain⟨s1,s2,s3,s4,s5,s6,s7,s8,s9⟩:=hi.sep;have hQl:=hi.len;have hQO:=c5.len
 have afr:O.length≠nb/\O.length≠tr2/\O.length≠kk2/\O.length≠ur2/\O.length+1≠nb/\O.length+1≠tr2/\O.length+1≠kk2/\O.length+1≠ur2/\∀y,y<S2.N->O.length+1≠abh y:=by
  refine⟨s1,?_,?_,?_,s5,?_,?_,?_,λ y hy=> ?_⟩
  ·rcases c5.tr with e|e<;>omega
  ·rcases c5.kk with e|e<;>omega
  ·rcases c5.ur with e|e<;>omega
  ·rcases c5.tr with e|e<;>omega
  ·rcases c5.kk with e|e<;>omega
  ·rcases c5.ur with e|e<;>omega
  ·by_cases hyn:y<S1.N
   ·rw[(c4.fk y hyn).2.2.2];exact s9 y hyn
   ·have:=(c4.new y (by omega) hy).2.2.2;omega
 refine⟨by rw[List.append_assoc];exact hi.all,c2,(c3.app E).set ⟨afr.2.2.2.2.1,afr.2.2.2.2.2.1,afr.2.2.2.2.2.2.1,afr.2.2.2.2.2.2.2.1,afr.2.2.2.2.2.2.2.2⟩ _,hi.ext.trans c4 (by omega),by simp;omega,((hi.ai.trans c5).app E).set (by omega) _,?_,List.getElem?_set_self (by simp;omega),afr,λ j hj=> ?_,?_,?_⟩
 ·rw[getElem?_set_ne (by omega),al (by omega),c5.ai _ (by omega) s1 s2 s3 s4];exact hi.box
 ·rcases List.mem_append.1 hj with h|h
  ·exact Nat.lt_of_lt_of_le (hi.aiU j h) c4.N
  ·rw[List.mem_singleton.1 h];exact c7
 ·rw[map_append,←hi.kids];congr 1
  ·exact List.map_congr_left λ j hj=>(c4.fk j (hi.aiU j hj)).1
  ·simp[c8]
 ·have:=hi.cnt;rw[map_append,List.sum_append];simp only[List.map_cons,List.map_nil,List.sum_cons,List.sum_nil];omega
theorem qM(x:ad){S:Net}{up aT:Nat->Nat}{nb tr kk ur:Nat}{O:List aa}(hs:S.ok)(hL:ng S up nb tr kk ur aT O)(oS:x.mO=true)(hm:x.allM λ n=>∃j:Nat,j<S.M/\n=j)(hb:x.wt<=1048576)(hN:S.N+x.dP<=1073741824):
  ∃S' bh ik u9 uy u5 O' r,cF Try.prog F.fi [.ptr nb 1 0 0,x.av] O (aO (r:Nat)) O'/\S'.ok/\ng S' bh nb u9 uy u5 ik O'/\vP O.length S up aT S' bh ik/\iY nb tr kk ur O u9 uy u5 O'/\r<S'.N/\S'.ty r=x/\S'.N<=S.N+x.dP:=by
 have hw:=x.gR;have ta:=x.pz;obtain⟨a1,a2,a3,a4,a5⟩:=hL.lts
 have key:∃res O',(∃S' bh ik u9 uy u5 r,res=aO ((r:Nat):Int)/\S'.ok/\ng S' bh nb u9 uy u5 ik O'/\vP O.length S up aT S' bh ik/\iY nb tr kk ur O u9 uy u5 O'/\r<S'.N/\S'.ty r=x/\S'.N<=S.N+x.dP)/\cF Try.prog F.fi [.ptr nb 1 0 0,x.av] O res O':=by
  refine jM A.acC rfl ?_;rw[←ad.eta x];by_cases hk:x.Kind=11
  ·obtain⟨h1,h2,j,hj,h3⟩:=ad.akK hm hk;have d:decide (x.Kind=11)=true:=decide_eq_true hk;simp only[A.fi,aO,cv,↓OD,OA,reduceEqDiff,reduceCtorEq,reduceAdd,reduceLT,reduceLeDiff,reduceIte];simp only[kh,d,h3,↓OD,OA,reduceEqDiff,reduceCtorEq,reduceAdd,reduceLT,reduceLeDiff,reduceIte];refine aU (.inl rfl) ⟨S,up,aT,tr,kk,ur,j,by simp only[↓OD,OA,reduceEqDiff,reduceCtorEq,reduceAdd,reduceLT,reduceLeDiff,reduceIte],hs,hL.app _,.refl,(iY.refl _ _ _ _ _).app _,Nat.lt_of_lt_of_le hj hs.le,?_,by omega⟩;rw[(hs.pj j hj).1,x.vI,hk,h1,h2,h3];rfl
  ·have d:decide (x.Kind=11)=false:=decide_eq_false hk;simp only[A.fi,aO,cv,↓OD,OA,reduceEqDiff,reduceCtorEq,reduceAdd,reduceLT,reduceLeDiff,reduceIte];simp only[kh,d,↓OD,OA,reduceEqDiff,reduceCtorEq,reduceAdd,reduceLT,reduceLeDiff,reduceIte];simp only[kh,uu,d,List.append_assoc,List.cons_append,List.nil_append,↓OD,OA,reduceEqDiff,reduceCtorEq,reduceAdd,reduceLT,reduceLeDiff,reduceIte];have ayV:AV.agg [.v (.int .i64 x.Kind),.v (.int .i64 x.N),.v (.string x.Name),.sl (x.Kids.map ad.av)]=x.av:=ad.eta x
   refine aQ (ι:=List ad×List ad×Net×(Nat->Nat)×(Nat->Nat)×Nat×Nat×Nat×List Nat×List aa)
    (λ q=>asB x S up aT nb tr kk ur O q.1 q.2.1 q.2.2.1 q.2.2.2.1 q.2.2.2.2.1 q.2.2.2.2.2.1 q.2.2.2.2.2.2.1 q.2.2.2.2.2.2.2.1 q.2.2.2.2.2.2.2.2.1 q.2.2.2.2.2.2.2.2.2)
    (λ q=>iA [(0,.ptr nb 1 0 0),(3,.ptr O.length 1 0 0),(5,.row (O.length+1) q.1.length),(6,.v (.int .i64 (q.1.length:Int)))])
    (λ q=>q.2.2.2.2.2.2.2.2.2) (λ q=>q.2.1.length) ([],x.Kids,S,up,aT,tr,kk,ur,[],_) ?_ (.of_eq rfl rfl) ?_
   ·exact⟨rfl,hs,hL.app _,.refl,by simp,(iY.refl _ _ _ _ _).app _,by rw[←ayV];exact kh,uu,⟨by first|omega|(dsimp only;omega),by first|omega|(dsimp only;omega),by first|omega|(dsimp only;omega),by first|omega|(dsimp only;omega),by first|omega|(dsimp only;omega),by first|omega|(dsimp only;omega),by first|omega|(dsimp only;omega),by first|omega|(dsimp only;omega),λ y hy=>by have:=a5 y hy;first|omega|(dsimp only;omega)⟩,λ j hj=>by simp at hj,rfl,by simp⟩
   rintro⟨done,rest,S1,u7,aom,tr1,kk1,ur1,ks,Q⟩ hi;simp only at hi;have hlen:done.length+rest.length=x.Kids.length:=by rw[←hi.all,List.length_append]
   have hkl:ks.length=done.length:=by rw[←hi.kids,length_map]
   have yI:=hi.box;rw[←ayV]at yI;have hQl:=hi.len;have hrw:=hi.row
   have oW:ks.length+1<=maxLen:=by
    have:maxLen=9223372036854775807:=rfl;omega
   cases rest with
   |nil=>
    have dl:decide ((done.length:Int)<(x.Kids.length:Int))=false:=decide_eq_false (by simp at hlen;omega);simp only[yI,dl,length_map,↓OD,OA,reduceEqDiff,reduceCtorEq,reduceAdd,reduceLT,reduceLeDiff,reduceIte];have m9:=hi.all;rw[List.append_nil]at m9;obtain⟨s1,s2,s3,s4,s5,s6,s7,s8,s9⟩:=hi.sep;have avk:=hi.cnt;rw[m9]at avk;have hex:=hi.ext;obtain⟨tr2,kk2,ur2,O2,c1,c2,c3⟩:=vW hi.lay (t:=x) (c:= .sl (x.Kids.map ad.av)) rfl hrw ⟨s5,s6,s7,s8⟩ (by omega) (by omega);rw[hkl]at c1;simp only[aO,cv]at c1;refine aj _ _ c1 ?_;simp only[aO,↓OD,OA,reduceEqDiff,reduceCtorEq,reduceAdd,reduceLT,reduceLeDiff,reduceIte];have zv:x.Kids=ks.map S1.ty:=by rw[hi.kids,m9]
    refine aU (.inl rfl) ⟨_,_,_,tr2,kk2,ur2,S1.N,by simp only[↓OD,OA,reduceEqDiff,reduceCtorEq,reduceAdd,reduceLT,reduceLeDiff,reduceIte],Net.aqc hi.ok hi.aiU zv hk,.inr c2,hex.trans (.add hk oS (by omega)) (le_refl _),hi.ai.trans c3,by show S1.N<S1.N+1;omega,by simp only[Net.add,if_true],by show S1.N+1<=_;omega⟩
   |cons t r=>
    have iP:t∈x.Kids:=by rw[←hi.all];simp
    have hkw:=de ad.wt iP;have iQ:done.length<x.Kids.length:=by simp at hlen;omega
    have dl:decide ((done.length:Int)<(x.Kids.length:Int))=true:=decide_eq_true (by omega);have hg:(x.Kids.map ad.av).getD done.length .top=t.av:=by rw[←hi.all,map_append,List.map_cons];exact mY (by simp)
    have au1:t.mO=true:=akd oS iP;have hmt:t.allM λ n=>∃j:Nat,j<S1.M/\n=j:=by rw[hi.ext.M];exact ad.ael hm t iP
    have avk:=hi.cnt
    have aBf:(x.Kids.map ad.dP).sum=(done.map ad.dP).sum+(t.dP+(r.map ad.dP).sum):=by
     rw[←hi.all,map_append,List.sum_append];simp
    obtain⟨S2,xi,abh,tr2,kk2,ur2,O2,rr,c1,c2,c3,c4,c5,c6,c7,c8⟩:=qM t (O:=Q) hi.ok hi.lay au1 hmt (by omega) (by omega);have c5l:=c5.len;obtain⟨s1,s2,s3,s4,s5,s6,s7,s8,s9⟩:=hi.sep;have ayk:O2[O.length+1]? =some _:=(c5.ai _ (by omega) s5 s6 s7 s8).trans hrw;have ayj:∀E:List aa,(O2++E)[O.length+1]? =some _:=λ E=>(al (by omega)).trans ayk
    simp only[yI,dl,length_map,Int.toNat_natCast,hg,ad.width,ad.isAgg,ad.storable,↓OD,OA,reduceEqDiff,reduceCtorEq,reduceAdd,reduceLT,reduceLeDiff,reduceIte];refine⟨by omega,by omega,?_⟩;try simp only[hg,ad.width,ad.isAgg,ad.storable,↓OD,OA,reduceEqDiff,reduceCtorEq,reduceAdd,reduceLT,reduceLeDiff,reduceIte]
    refine aj _ _ c1 ?_;simp only[ayj,dB,kh,aO,↓OD,OA,reduceEqDiff,reduceCtorEq,reduceAdd,reduceLT,reduceLeDiff,reduceIte];have e1:ints ks++ [.v (.int .i64 ((rr:Nat):Int))]=ints (ks++ [rr]):=by simp[ints,aO]
    refine⟨λ y hy=>by rw[List.mem_singleton.1 hy];rfl,hkl,by omega,by omega,?_⟩;rw[e1];refine aL (done++ [t],r,S2,xi,abh,tr2,kk2,ur2,ks++ [rr],_) (hi.step c2 c3 c4 c5 c6 c7 c8 _) (by show r.length<(t::r).length;simp) (.of_eq ?_ rfl);rw[da (by omega) (by omega),List.length_append];rfl
 obtain⟨res,O',⟨S',bh,ik,u9,uy,u5,r,rfl,h⟩,hc⟩:=key;exact⟨S',bh,ik,u9,uy,u5,O',r,hc,h⟩
termination_by SizeOf.sizeOf x
decreasing_by exact ad.fg iP
end Go.Proofs.Ab
