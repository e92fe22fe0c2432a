/-
  Unify of the reference: a type is laid.
-/
import Derived.Test.YtfebhekplhjigaaWSu5
open Nat(le_refl)
open List(getElem?_set_ne map_append length_map)
open Nat(reduceEqDiff reduceLeDiff reduceAdd reduceLT reduceMul)
set_option linter.unusedSimpArgs false
set_option linter.unusedVariables false
namespace Go.Proofs.Ab
open Go.Ab
set_option maxRecDepth 100000
set_option maxHeartbeats 4000000
structure sZ(b:Nat)(S:Net)(up aW:Nat->Nat)(S':Net)(bw ig:Nat->Nat):Prop where
 N:S.N<=S'.N
 M:S'.M=S.M
 fx:∀x,x<S.N->S'.ty x=S.ty x/\S'.kids x=S.kids x/\bw x=up x/\ig x=aW x
 new:∀x,S.N<=x->x<S'.N->bw x=x/\¬S'.lh x/\(S'.ty x).jn=true/\b<=ig x
theorem sZ.refl{b:Nat}{S:Net}{up aW:Nat->Nat}:sZ b S up aW S up aW:=⟨le_refl _,rfl,λ _ _=>⟨rfl,rfl,rfl,rfl⟩,λ x h k=>by omega⟩
theorem sZ.trans{b c:Nat}{S S' S'':Net}{up aW bw ig aex anG:Nat->Nat}(h:sZ b S up aW S' bw ig)(k:sZ c S' bw ig S'' aex anG)(hbc:b<=c):sZ b S up aW S'' aex anG:=by
 refine⟨Nat.le_trans h.N k.N,k.M.trans h.M,λ x hx=> ?_,λ x h1 h2=> ?_⟩
 ·obtain⟨a1,a2,a3,a4⟩:=h.fx x hx;obtain⟨b1,b2,b3,b4⟩:=k.fx x (Nat.lt_of_lt_of_le hx h.N);exact⟨b1.trans a1,b2.trans a2,b3.trans a3,b4.trans a4⟩
 ·by_cases hx:x<S'.N
  ·obtain⟨a1,a2,a3,a4⟩:=h.new x h1 hx;obtain⟨b1,b2,b3,b4⟩:=k.fx x hx;exact⟨b3.trans a1,by unfold Net.lh at a2⊢;rwa [b1],by rwa [b1],by rwa [b4]⟩
  ·obtain⟨a1,a2,a3,a4⟩:=k.new x (by omega) h2;exact⟨a1,a2,a3,by omega⟩
theorem sZ.grow{b:Nat}{S S':Net}{up aW bw ig:Nat->Nat}(h:sZ b S up aW S' bw ig):vF S up S' bw:=
 ⟨h.N,h.M,λ x hx=>⟨(h.fx x hx).1,(h.fx x hx).2.1,(h.fx x hx).2.2.1⟩,λ x h1 h2=>⟨(h.new x h1 h2).1,(h.new x h1 h2).2.1⟩⟩
theorem sZ.add{b kr:Nat}{S:Net}{up aW:Nat->Nat}{t:aa}{ks:List Nat}(hk:t.Kind≠11)(ho:t.jn=true)(hb:b<=kr):sZ b S up aW (S.add t ks) (λ y=>if y=S.N then y else up y) (λ y=>if y=S.N then kr else aW y):=by
 refine⟨Nat.le_succ _,rfl,λ x hx=> ?_,λ x h1 h2=> ?_⟩
 ·have:x≠S.N:=by omega
  simp only[Net.add,if_neg this,and_self]
 ·have:x=S.N:=by have:x<S.N+1:=h2;omega
  subst this;unfold Net.lh;simp only[Net.add,if_true];exact⟨trivial,hk,ho,hb⟩
theorem iK.refl(nb tr kk ur:Nat)(O:List ad):iK nb tr kk ur O tr kk ur O:=⟨le_refl _,λ _ _ _ _ _ _=>rfl,.inl rfl,.inl rfl,.inl rfl⟩
theorem iK.trans{nb tr kk ur sk rD si axf aye aw6:Nat}{O O' nc:List ad}(h:iK nb tr kk ur O sk rD si O')(k:iK nb sk rD si O' axf aye aw6 nc):iK nb tr kk ur O axf aye aw6 nc:=by
 have l1:=h.len;refine⟨Nat.le_trans h.len k.len,λ n hn a1 a2 a3 a4=> ?_,?_,?_,?_⟩
 ·rw[k.ar n (by omega) a1 (by rcases h.tr with e|e<;>omega) (by rcases h.kk with e|e<;>omega) (by rcases h.ur with e|e<;>omega)];exact h.ar n hn a1 a2 a3 a4
 ·rcases h.tr with e|e<;>rcases k.tr with e'|e'<;>omega
 ·rcases h.kk with e|e<;>rcases k.kk with e'|e'<;>omega
 ·rcases h.ur with e|e<;>rcases k.ur with e'|e'<;>omega
theorem iK.app{nb tr kk ur sk rD si:Nat}{O O':List ad}(h:iK nb tr kk ur O sk rD si O')(E:List ad):iK nb tr kk ur O sk rD si (O'++E):=
 ⟨by have:=h.len;simp;omega,λ n hn a1 a2 a3 a4=>by rw[al (by have:=h.len;omega)];exact h.ar n hn a1 a2 a3 a4,h.tr,h.kk,h.ur⟩
theorem iK.set{nb tr kk ur sk rD si m:Nat}{O O':List ad}(h:iK nb tr kk ur O sk rD si O')(hm:O.length<=m)(v:ad):iK nb tr kk ur O sk rD si (O'.set m v):=
 ⟨by have:=h.len;simp;omega,λ n hn a1 a2 a3 a4=>by rw[getElem?_set_ne (by omega)];exact h.ar n hn a1 a2 a3 a4,h.tr,h.kk,h.ur⟩
section
variable {S:Net} {up aW:Nat->Nat} {nb tr kk ur:Nat} {O O':List ad}
theorem mn.lts(h:mn S up nb tr kk ur aW O):nb<O.length/\tr<O.length/\kk<O.length/\ur<O.length/\∀x,x<S.N->aW x<O.length:=by
 rcases h with⟨h0,rfl,rfl,rfl,hb⟩|h
 ·have:=(List.getElem?_eq_some_iff.1 hb).1;exact⟨this,this,this,this,λ x hx=>by omega⟩
 ·exact⟨(List.getElem?_eq_some_iff.1 h.box).1,(List.getElem?_eq_some_iff.1 h.ty).1,(List.getElem?_eq_some_iff.1 h.kids).1,(List.getElem?_eq_some_iff.1 h.up).1,λ x hx=>(List.getElem?_eq_some_iff.1 (h.wK x hx)).1⟩
theorem mn.move(h:mn S up nb tr kk ur aW O)(k:O'[nb]? =O[nb]? /\O'[tr]? =O[tr]? /\O'[kk]? =O[kk]? /\O'[ur]? =O[ur]? /\∀x,x<S.N->O'[aW x]? =O[aW x]?):mn S up nb tr kk ur aW O':=by
 rcases h with⟨h0,h1,h2,h3,hb⟩|h
 ·exact .inl ⟨h0,h1,h2,h3,by rw[k.1];exact hb⟩
 ·exact .inr ⟨by rw[k.1];exact h.box,by rw[k.2.1];exact h.ty,by rw[k.2.2.1];exact h.kids,λ x hx=>by rw[k.2.2.2.2 x hx];exact h.wK x hx,by rw[k.2.2.2.1];exact h.up,h.sep,h.few,h.small⟩
theorem mn.app(h:mn S up nb tr kk ur aW O)(E:List ad):mn S up nb tr kk ur aW (O++E):=by
 obtain⟨a,b,c,d,e⟩:=h.lts;exact h.move ⟨al a,al b,al c,al d,λ x hx=>al (e x hx)⟩
theorem mn.set(h:mn S up nb tr kk ur aW O){m:Nat}(k:m≠nb/\m≠tr/\m≠kk/\m≠ur/\∀x,x<S.N->m≠aW x)(v:ad):mn S up nb tr kk ur aW (O.set m v):=
 h.move ⟨getElem?_set_ne k.1,getElem?_set_ne k.2.1,getElem?_set_ne k.2.2.1,getElem?_set_ne k.2.2.2.1,λ x hx=>getElem?_set_ne (k.2.2.2.2 x hx)⟩
end
structure asu(x:aa)(S0:Net)(up0 zg:Nat->Nat)(nb tr0 kk0 ur0:Nat)(O:List ad)(done rest:List aa)(S:Net)(up aW:Nat->Nat)(tr kk ur:Nat)(ks:List Nat)(Q:List ad):Prop where
 all:done++rest=x.Kids
 ok:S.ok
 lay:mn S up nb tr kk ur aW Q
 ext:sZ O.length S0 up0 zg S up aW
 len:O.length+2<=Q.length
 ar:iK nb tr0 kk0 ur0 O tr kk ur Q
 box:Q[O.length]? =some (.live 29 4 [x.av])
 row:Q[O.length+1]? =some (.live 3 1 (ints ks))
 sep:O.length≠nb/\O.length≠tr/\O.length≠kk/\O.length≠ur/\O.length+1≠nb/\O.length+1≠tr/\O.length+1≠kk/\O.length+1≠ur/\∀y,y<S.N->O.length+1≠aW y
 ahM:∀j∈ks,j<S.N
 kids:ks.map S.ty=done
 cnt:S.N<=S0.N+(done.map aa.dw).sum
theorem asu.step{x:aa}{S0:Net}{up0 zg:Nat->Nat}{nb tr0 kk0 ur0:Nat}{O:List ad}{done rest:List aa}{S1:Net}{sj anF:Nat->Nat}{tr1 kk1 ur1:Nat}{ks:List Nat}{Q:List ad}{t:aa}(hi:asu x S0 up0 zg nb tr0 kk0 ur0 O done (t::rest) S1 sj anF tr1 kk1 ur1 ks Q)
  {S2:Net} {uu zf:Nat->Nat} {tr2 kk2 ur2 rr:Nat} {O2:List ad} (c2:S2.ok) (c3:mn S2 uu nb tr2 kk2 ur2 zf O2) (c4:sZ Q.length S1 sj anF S2 uu zf) (c5:iK nb tr1 kk1 ur1 Q tr2 kk2 ur2 O2) (c7:rr<S2.N) (c8:S2.ty rr=t) (c9:S2.N<=S1.N+t.dw) (E:List ad):
  asu x S0 up0 zg nb tr0 kk0 ur0 O (done++ [t]) rest S2 uu zf tr2 kk2 ur2 (ks++ [rr]) ((O2++E).set (O.length+1) (.live 3 1 (ints (ks++ [rr])))):=by
 obtain⟨s1,s2,s3,s4,s5,s6,s7,s8,s9⟩:=hi.sep;have hQl:=hi.len;have hQO:=c5.len
 have adN:O.length≠nb/\O.length≠tr2/\O.length≠kk2/\O.length≠ur2/\O.length+1≠nb/\O.length+1≠tr2/\O.length+1≠kk2/\O.length+1≠ur2/\∀y,y<S2.N->O.length+1≠zf y:=by
  refine⟨s1,?_,?_,?_,s5,?_,?_,?_,λ y hy=> ?_⟩
  ·rcases c5.tr with e|e<;>omega
  ·rcases c5.kk with e|e<;>omega
  ·rcases c5.ur with e|e<;>omega
  ·rcases c5.tr with e|e<;>omega
  ·rcases c5.kk with e|e<;>omega
  ·rcases c5.ur with e|e<;>omega
  ·by_cases hyn:y<S1.N
   ·rw[(c4.fx y hyn).2.2.2];exact s9 y hyn
   ·have:=(c4.new y (by omega) hy).2.2.2;omega
 refine⟨by rw[List.append_assoc];exact hi.all,c2,(c3.app E).set ⟨adN.2.2.2.2.1,adN.2.2.2.2.2.1,adN.2.2.2.2.2.2.1,adN.2.2.2.2.2.2.2.1,adN.2.2.2.2.2.2.2.2⟩ _,hi.ext.trans c4 (by omega),by simp;omega,((hi.ar.trans c5).app E).set (by omega) _,?_,List.getElem?_set_self (by simp;omega),adN,λ j hj=> ?_,?_,?_⟩
 ·rw[getElem?_set_ne (by omega),al (by omega),c5.ar _ (by omega) s1 s2 s3 s4];exact hi.box
 ·rcases List.mem_append.1 hj with h|h
  ·exact Nat.lt_of_lt_of_le (hi.ahM j h) c4.N
  ·rw[List.mem_singleton.1 h];exact c7
 ·rw[map_append,←hi.kids];congr 1
  ·exact List.map_congr_left λ j hj=>(c4.fx j (hi.ahM j hj)).1
  ·simp[c8]
 ·have:=hi.cnt;rw[map_append,List.sum_append];simp only[List.map_cons,List.map_nil,List.sum_cons,List.sum_nil];omega
theorem oN(x:aa){S:Net}{up aW:Nat->Nat}{nb tr kk ur:Nat}{O:List ad}(hs:S.ok)(hL:mn S up nb tr kk ur aW O)(kV:x.jn=true)(hm:x.allM λ n=>∃j:Nat,j<S.M/\n=j)(hb:x.wt<=1048576)(hN:S.N+x.dw<=1073741824):
  ∃S' bw ig sk rD si O' r,fE Try.prog F.fw [.ptr nb 1 0 0,x.av] O (au (r:Nat)) O'/\S'.ok/\mn S' bw nb sk rD si ig O'/\sZ O.length S up aW S' bw ig/\iK nb tr kk ur O sk rD si O'/\r<S'.N/\S'.ty r=x/\S'.N<=S.N+x.dw:=by
 have hw:=x.dH;have qp:=x.lA;obtain⟨a1,a2,a3,a4,a5⟩:=hL.lts
 have key:∃res O',(∃S' bw ig sk rD si r,res=au ((r:Nat):Int)/\S'.ok/\mn S' bw nb sk rD si ig O'/\sZ O.length S up aW S' bw ig/\iK nb tr kk ur O sk rD si O'/\r<S'.N/\S'.ty r=x/\S'.N<=S.N+x.dw)/\fE Try.prog F.fw [.ptr nb 1 0 0,x.av] O res O':=by
  refine jx A.aaJ rfl ?_;rw[←aa.eta x];by_cases hk:x.Kind=11
  ·obtain⟨h1,h2,j,hj,h3⟩:=aa.rq hm hk;have d:decide (x.Kind=11)=true:=decide_eq_true hk;simp only[A.fw,au,↓OD,OA,reduceEqDiff,reduceCtorEq,reduceAdd];simp only[ku,d,h3,↓OD,OA,reduceEqDiff,reduceCtorEq,reduceAdd,reduceLeDiff];refine aY (.inl rfl) ⟨S,up,aW,tr,kk,ur,j,by simp only[OA],hs,hL.app _,.refl,(iK.refl _ _ _ _ _).app _,Nat.lt_of_lt_of_le hj hs.le,?_,by omega⟩;rw[(hs.nC j hj).1,x.qC,hk,h1,h2,h3];rfl
  ·have d:decide (x.Kind=11)=false:=decide_eq_false hk;simp only[A.fw,au,↓OD,OA,reduceEqDiff,reduceCtorEq,reduceAdd];simp only[ku,d,↓OD,OA,reduceEqDiff,reduceCtorEq,reduceAdd,reduceLeDiff];simp only[List.append_assoc,List.cons_append,List.nil_append];have ay6:AV.agg [.v (.int .i64 x.Kind),.v (.int .i64 x.N),.v (.string x.Name),.sl (x.Kids.map aa.av)]=x.av:=aa.eta x
   refine bd (ι:=List aa×List aa×Net×(Nat->Nat)×(Nat->Nat)×Nat×Nat×Nat×List Nat×List ad)
    (λ q=>asu x S up aW nb tr kk ur O q.1 q.2.1 q.2.2.1 q.2.2.2.1 q.2.2.2.2.1 q.2.2.2.2.2.1 q.2.2.2.2.2.2.1 q.2.2.2.2.2.2.2.1 q.2.2.2.2.2.2.2.2.1 q.2.2.2.2.2.2.2.2.2)
    (λ q=>jw [(0,.ptr nb 1 0 0),(3,.ptr O.length 1 0 0),(5,.row (O.length+1) q.1.length),(6,.v (.int .i64 (q.1.length:Int)))])
    (λ q=>q.2.2.2.2.2.2.2.2.2) (λ q=>q.2.1.length) ([],x.Kids,S,up,aW,tr,kk,ur,[],_) ?_ (.of_eq rfl rfl) ?_
   ·exact⟨rfl,hs,hL.app _,.refl,by simp,(iK.refl _ _ _ _ _).app _,by rw[←ay6];exact ku,ux,⟨by first|omega|(dsimp only;omega),by first|omega|(dsimp only;omega),by first|omega|(dsimp only;omega),by first|omega|(dsimp only;omega),by first|omega|(dsimp only;omega),by first|omega|(dsimp only;omega),by first|omega|(dsimp only;omega),by first|omega|(dsimp only;omega),λ y hy=>by have:=a5 y hy;first|omega|(dsimp only;omega)⟩,λ j hj=>by simp at hj,rfl,by simp⟩
   rintro⟨done,rest,S1,sj,anF,tr1,kk1,ur1,ks,Q⟩ hi;simp only at hi;have hlen:done.length+rest.length=x.Kids.length:=by rw[←hi.all,List.length_append]
   have hkl:ks.length=done.length:=by rw[←hi.kids,length_map]
   have vo:=hi.box;rw[←ay6]at vo;have hQl:=hi.len;have hrw:=hi.row
   have mc:ks.length+1<=maxLen:=by
    have:maxLen=9223372036854775807:=rfl;omega
   cases rest with
   |nil=>
    have dl:decide ((done.length:Int)<(x.Kids.length:Int))=false:=decide_eq_false (by simp at hlen;omega);simp only[vo,dl,length_map,↓OD,OA,reduceEqDiff,reduceCtorEq,reduceAdd];have mf:=hi.all;rw[List.append_nil]at mf;obtain⟨s1,s2,s3,s4,s5,s6,s7,s8,s9⟩:=hi.sep;have avr:=hi.cnt;rw[mf]at avr;have hex:=hi.ext;obtain⟨tr2,kk2,ur2,O2,c1,c2,c3⟩:=tg hi.lay (t:=x) (c:= .sl (x.Kids.map aa.av)) rfl hrw ⟨s5,s6,s7,s8⟩ (by omega) (by omega);rw[hkl]at c1;simp only[au,bZ]at c1;refine aD _ _ c1 ?_;simp only[↓OD,OA,reduceEqDiff,reduceCtorEq];have xg:x.Kids=ks.map S1.ty:=by rw[hi.kids,mf]
    refine aY (.inl rfl) ⟨_,_,_,tr2,kk2,ur2,S1.N,by simp only[OA],Net.apF hi.ok hi.ahM xg hk,.inr c2,hex.trans (.add hk kV (by omega)) (le_refl _),hi.ar.trans c3,by show S1.N<S1.N+1;omega,by simp only[Net.add,if_true],by show S1.N+1<=_;omega⟩
   |cons t r=>
    have j2:t∈x.Kids:=by rw[←hi.all];simp
    have hkw:=cY aa.wt j2;have nh:done.length<x.Kids.length:=by simp at hlen;omega
    have dl:decide ((done.length:Int)<(x.Kids.length:Int))=true:=decide_eq_true (by omega);have hg:(x.Kids.map aa.av).getD done.length .top=t.av:=by rw[←hi.all,map_append,List.map_cons];exact tB (by simp)
    have au8:t.jn=true:=tx kV j2;have hmt:t.allM λ n=>∃j:Nat,j<S1.M/\n=j:=by rw[hi.ext.M];exact aa.mB hm t j2
    have avr:=hi.cnt
    have aBC:(x.Kids.map aa.dw).sum=(done.map aa.dw).sum+(t.dw+(r.map aa.dw).sum):=by
     rw[←hi.all,map_append,List.sum_append];simp
    obtain⟨S2,uu,zf,tr2,kk2,ur2,O2,rr,c1,c2,c3,c4,c5,c6,c7,c8⟩:=oN t (O:=Q) hi.ok hi.lay au8 hmt (by omega) (by omega);have c5l:=c5.len;obtain⟨s1,s2,s3,s4,s5,s6,s7,s8,s9⟩:=hi.sep;have ayy:O2[O.length+1]? =some _:=(c5.ar _ (by omega) s5 s6 s7 s8).trans hrw;have ayx:∀E:List ad,(O2++E)[O.length+1]? =some _:=λ E=>(al (by omega)).trans ayy
    simp only[vo,dl,length_map,Int.toNat_natCast,hg,aa.width,aa.isAgg,↓OD,OA,reduceEqDiff,reduceCtorEq,reduceAdd];refine⟨by omega,by omega,?_⟩;try simp only[hg,aa.width,aa.isAgg,aa.storable,↓OD,OA,reduceEqDiff,reduceCtorEq,reduceAdd,reduceLT,reduceLeDiff,reduceIte]
    refine aD _ _ c1 ?_;simp only[ayx,dQ,ku,au,↓OD,OA,reduceEqDiff,reduceCtorEq];have e1:ints ks++ [.v (.int .i64 ((rr:Nat):Int))]=ints (ks++ [rr]):=by simp[ints,au]
    refine⟨λ y hy=>by rw[List.mem_singleton.1 hy];rfl,hkl,by omega,by omega,?_⟩;rw[e1];refine a6 (done++ [t],r,S2,uu,zf,tr2,kk2,ur2,ks++ [rr],_) (hi.step c2 c3 c4 c5 c6 c7 c8 _) (by show r.length<(t::r).length;simp) (.of_eq ?_ rfl);rw[bh (by omega) (by omega),List.length_append];rfl
 obtain⟨res,O',⟨S',bw,ig,sk,rD,si,r,rfl,h⟩,hc⟩:=key;exact⟨S',bw,ig,sk,rD,si,O',r,hc,h⟩
termination_by SizeOf.sizeOf x
decreasing_by exact aa.cW j2
end Go.Proofs.Ab
