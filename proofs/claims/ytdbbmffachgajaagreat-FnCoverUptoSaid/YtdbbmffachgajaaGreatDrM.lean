/- Part of a proof: the functions that the law reaches, walked by the abstract logic of the texts Ab. -/
import Derived.Test.YtdbbmffachgajaaGreatPreM
import Derived.Test.YtdbbmffachgajaaGreatSM
import Derived.Test.YtdbbmffachgajaaGreatRigM
import Derived.Test.YtdbbmffachgajaaGreatAbM5
import Derived.Test.YtdbbmffachgajaaGreatSTP
import Derived.Test.YtdbbmffachgajaaGreatCDr
import Derived.Test.YtdbbmffachgajaaGreatST3
import Derived.Test.YtdbbmffachgajaaGreatCDrawTy
set_option maxHeartbeats 4000000
set_option maxRecDepth 100000
open Int(toNat_natCast)
open Nat(le_trans)
open List(getElem_mem getElem?_map length_map map_append mem_cons not_mem_nil length_cons length_nil)
open Nat(reduceEqDiff reduceLeDiff reduceAdd reduceLT reduceMul)
set_option linter.unusedVariables false
set_option linter.unusedSimpArgs false
namespace Go.Proofs.Ab
open Go.Ab
def pI(n:Int):AV:= .agg [aD 3,aD n,.v (.string ⟨#[]⟩),aD 0,aD 0,.v (.string ⟨#[]⟩),.an,.an]
structure DD(D:ai->Prop):Prop where
 wt:∀t,D t->t.wt<=1000
 kids:∀t,D t->t.Kind=6->t.Kids.length<=6/\∀u∈t.Kids,D u
 put:∀t,D t->t.Kind=7->∀d∈aN,fh aN t.Name=some d->∀c∈d.br,c.Has=true->D (c.Arg.put 10 t.Kids)
 name:∀t,D t->t.Kind=7->t.Name=⟨#[108,105,115,116]⟩∨t.Name=⟨#[116,114,101,101]⟩
def aFX(D:ai->Prop)(O:List aj)(h:AV):Prop:=∃(kd nm:Int) (s:ByteArray) (pt:ai) (tk yX:AV) (ks:List ai),h= .agg [aD kd,aD nm,.v (.string s),aD pt.Kind,aD pt.N,.v (.string pt.Name),tk,yX]/\AV.oY tk (.sl (pt.Kids.map ai.av))/\tk.ag=true/\tk.cB=true/\s.size<=100/\pt.wt<=1000/\ks.length<=6/\(∀u∈ks,D u)/\
 ((yX= .an/\ks= [])∨(yX= .sl []/\ks= [])∨∃j,yX= .row j ks.length/\O[j]? =some (.live 32 8 ((ks.map cw).map aa.av)))
def HO(D:ai->Prop)(res:AV)(O:List aj):Prop:=∃(k:Nat) (hs:List AV),res= .row k hs.length/\1<=hs.length/\hs.length<=10/\O[k]? =some (.live 32 8 hs)/\∀h∈hs,aFX D O h
theorem qu{D:ai->Prop}(O:List aj)(kd nm:Int):aFX D O (.agg [aD kd,aD nm,.v (.string ⟨#[]⟩),aD 0,aD 0,.v (.string ⟨#[]⟩),.an,.an]):=
 ⟨kd,nm,⟨#[]⟩,.mk 0 0 ⟨#[]⟩ [],.an,.an,[],rfl,.nil,rfl,rfl,by decide,by decide,by simp,(λ u hu=>by cases hu),Or.inl ⟨rfl,rfl⟩⟩
theorem xz(P:Program)(e:Env)(O:List aj)(K:KT)(t s:Nat)(z:AV)(x:bj):Go.Ab.wpOp P (.ep t s 1 z [(0,x)]) e O K=((x.ev e).cells.length=s/\(x.ev e).storable=true/\AV.ae [x.ev e]=true/\k1 (.sl [x.ev e]) O K):=by
 simp[Go.Ab.wpOp,uO,k1]
theorem aP1:maxLen=9223372036854775807:=rfl
theorem auD{s:ByteArray}(h:s=⟨#[108,105,115,116]⟩∨s=⟨#[116,114,101,101]⟩):∃(j:Nat) (d:ad) (c0 c1:ak),fQ (λ d=>decide (d.Name=s)) aN 0=(j:Int)/\d∈aN/\(j<(aN.map ad.av).length/\(aN.map ad.av).getD j .top=d.av)/\d.br= [c0,c1]/\c0.Has=false/\c1.Has=true/\fh aN s=some d/\c0.Name.size<=100/\c1.Name.size<=100:=by
 rcases h with rfl|rfl
 ·exact⟨0,aN[0],aN[0].br[0],aN[0].br[1],by kernel_rfl,by simp[aN],⟨by decide,rfl⟩,rfl,rfl,rfl,by kernel_rfl,by decide,by decide⟩
 ·exact⟨1,aN[1],aN[1].br[0],aN[1].br[1],by kernel_rfl,by simp[aN],⟨by decide,rfl⟩,rfl,rfl,rfl,by kernel_rfl,by decide,by decide⟩
theorem atO{D:ai->Prop}(hD:DD D)(t:ai)(ht:D t)(n:Int):∃res O',HO D res O'/\j7 Tryz.prog F.dV [.sl (aN.map ad.av),t.av,.sl [.sl [pI n]]] [] res O':=by
 have htw:=hD.wt t ht;have htl:cA (some 4) t.av 0=t.av:=eg (ai.isAgg t) (ai.width t);have htk:=t.dY;refine azZ A.ab7 rfl ?_;simp only[A.dV,ai.B,↓OD,OA,reduceEqDiff,reduceCtorEq,reduceAdd,reduceLeDiff];refine mj (λ h6=> ?_) (λ h6=> ?_)
 ·rw[decide_eq_true_eq]at h6;obtain⟨hkl,hkg⟩:=hD.kids t ht h6;simp only[↓OD,OA,reduceEqDiff,reduceCtorEq,reduceAdd,reduceLeDiff];refine eV (ι:=Nat) (λ i=>i<=t.Kids.length) (λ i=>fx [(4,.ptr 0 1 0 0),(7,.row 1 0),(8,.ptr 2 1 0 0),(9,aD i)]) (λ i=>if i=0 then [.live 27 4 [t.av],.live 32 8 [],.live 32 8 [(AV.agg [.v (.int .i64 6),.v (.int .i64 0),.v (.string ⟨#[]⟩),.v (.int .i64 0),.v (.int .i64 0),.v (.string ⟨#[]⟩),.an,.an])]]else [.live 27 4 [t.av],.live 32 8 [],.live 32 8 [(AV.agg [.v (.int .i64 6),.v (.int .i64 0),.v (.string ⟨#[]⟩),.v (.int .i64 0),.v (.int .i64 0),.v (.string ⟨#[]⟩),.an,.row 3 i])],.live 32 8 (((t.Kids.take i).map cw).map aa.av)]) (λ i=>t.Kids.length- i) 0 (Nat.zero_le _) (.of_eq rfl rfl) λ i hi=> ?_
  by_cases aK:i<t.Kids.length
  ·have di:decide ((i:Int)<(t.Kids.length:Int))=true:=decide_eq_true (by omega);have hm:t.Kids[i]∈t.Kids:=getElem_mem aK;have hgi:(t.Kids.map ai.av).getD i .top=t.Kids[i].av:=by simp[List.getD,getElem?_map,List.getElem?_eq_getElem aK]
   have e1:IntKind.i64.wrap ((i:Int)+1)=((i+1:Nat):Int):=by rw[cE (by omega) (by omega)];rfl
   have hts:t.Kids.take (i+1)=t.Kids.take i++ [t.Kids[i]]:=by rw[List.take_add_one,List.getElem?_eq_getElem aK];rfl
   have huw:=hD.wt _ (hkg _ hm);generalize t.Kids[i]=u at hm hgi hts huw;have hul:cA (some 4) u.av 0=u.av:=eg (ai.isAgg u) (ai.width u);have nu:AV.ae [u.av]=true:=by simp only[AV.ae,ai.ag,Bool.and_true]
   have np:AV.ae [(cw u).av]=true:=by simp only[AV.ae,aa.ag,Bool.and_true]
   by_cases h0:i=0
   ·subst h0;simp only[if_true,aD,di,length_map,ai.B,↓OD,OA,reduceEqDiff,reduceAdd];refine oG (al:=[⟨none,(some 30),.bX 7 (.t 8)⟩,⟨none,(some 31),.load none (.t 30)⟩,⟨none,(some 32),.bX 3 (.t 4)⟩,⟨none,(some 33),.load none (.t 32)⟩,⟨none,(some 34),.bD (.t 9)⟩,⟨none,(some 35),.dO 4 (.t 33) (.t 34)⟩,⟨none,(some 36),.load (some 4) (.t 35)⟩,⟨none,(some 37),.fA F.fa [(.t 36)]⟩,⟨none,(some 38),.ep 32 8 1 (.agg [(.v (.int .i64 0)),(.v (.int .i64 0)),(.v (.string ⟨#[]⟩)),(.v (.int .i64 0)),(.v (.int .i64 0)),(.v (.string ⟨#[]⟩)),.an,.an]) [(0,(.t 37))]⟩,⟨none,(some 39),.app 32 8 112 (.t 31) (.t 38)⟩,⟨none,(some 40),.bX 7 (.t 8)⟩,⟨none,none,.store 1 (.t 40) (.t 39)⟩]) rfl ?_;simp only[length_map,toNat_natCast,hgi,hul,ai.B,↓OD,OA,reduceEqDiff,reduceAdd];refine⟨by omega,by omega,?_⟩;refine eE _ (qX u (by omega)) nu ?_;simp only[xz,np,aa.B,↓OD,OA,reduceEqDiff,reduceCtorEq,reduceAdd];refine⟨λ y hy=>by rw[List.mem_singleton.1 hy];exact aa.width _,by decide,by decide,λ h=>h.elim,λ _=>⟨by kernel_rfl,?_⟩⟩;refine dz 1 (by omega) (by show t.Kids.length- 1<t.Kids.length- 0;omega) (.of_eq rfl ?_);rw[if_neg (by decide),hts]
    rfl
   ·have hil:((((t.Kids.take i).map cw).map aa.av)).length=i:=by simp;omega
    simp only[if_neg h0,aD,di,length_map,ai.B,↓OD,OA,reduceEqDiff,reduceAdd];refine oG (al:=[⟨none,(some 30),.bX 7 (.t 8)⟩,⟨none,(some 31),.load none (.t 30)⟩,⟨none,(some 32),.bX 3 (.t 4)⟩,⟨none,(some 33),.load none (.t 32)⟩,⟨none,(some 34),.bD (.t 9)⟩,⟨none,(some 35),.dO 4 (.t 33) (.t 34)⟩,⟨none,(some 36),.load (some 4) (.t 35)⟩,⟨none,(some 37),.fA F.fa [(.t 36)]⟩,⟨none,(some 38),.ep 32 8 1 (.agg [(.v (.int .i64 0)),(.v (.int .i64 0)),(.v (.string ⟨#[]⟩)),(.v (.int .i64 0)),(.v (.int .i64 0)),(.v (.string ⟨#[]⟩)),.an,.an]) [(0,(.t 37))]⟩,⟨none,(some 39),.app 32 8 112 (.t 31) (.t 38)⟩,⟨none,(some 40),.bX 7 (.t 8)⟩,⟨none,none,.store 1 (.t 40) (.t 39)⟩]) rfl ?_;simp only[length_map,toNat_natCast,hgi,hul,ai.B,↓OD,OA,reduceEqDiff,reduceAdd];refine⟨by omega,by omega,?_⟩;refine eE _ (qX u (by omega)) nu ?_;simp only[xz,np,aa.B,↓OD,OA,reduceEqDiff,reduceAdd];refine⟨λ y hy=>by rw[List.mem_singleton.1 hy];exact aa.width _,hil,by omega,by rw[aP1];omega,by kernel_rfl,?_⟩;refine dz (i+1) (by omega) (by show t.Kids.length- (i+1)<t.Kids.length- i;omega) (.of_eq ?_ ?_)
    ·rw[e1]
    ·rw[if_neg (by omega),hts,map_append,map_append]
     rfl
  ·have hie:i=t.Kids.length:=by omega
   subst hie;have di:decide ((t.Kids.length:Int)<(t.Kids.length:Int))=false:=decide_eq_false (by omega);by_cases h0:t.Kids.length=0
   ·simp only[if_pos h0,aD,di,length_map,ai.B,↓OD,OA,reduceEqDiff,reduceAdd];refine⟨λ y hy=>by rw[List.mem_singleton.1 hy];rfl,by decide,by decide,?_⟩;refine se (.inl rfl) ⟨1,_,rfl,by decide,by decide,rfl,λ h hh=> ?_⟩;rw[List.mem_singleton.1 hh];exact qu _ 6 0
   ·simp only[if_neg h0,aD,di,length_map,ai.B,↓OD,OA,reduceEqDiff,reduceAdd];refine⟨λ y hy=>by rw[List.mem_singleton.1 hy];rfl,by decide,by decide,?_⟩;refine se (.inl rfl) ⟨1,_,rfl,by simp,by simp,rfl,λ h hh=> ?_⟩;rw[List.mem_singleton.1 hh,List.take_length];exact⟨6,0,⟨#[]⟩,.mk 0 0 ⟨#[]⟩ [],.an,_,t.Kids,rfl,.nil,rfl,rfl,by decide,by decide,hkl,hkg,Or.inr (Or.inr ⟨3,rfl,rfl⟩)⟩
 ·rw[decide_eq_false_iff_not]at h6;simp only[↓OD,OA,reduceEqDiff,reduceCtorEq];refine mj (λ h3=> ?_) (λ h3=> ?_)
  ·simp only[↓OD,OA,reduceEqDiff,reduceCtorEq,reduceAdd,reduceLeDiff];refine⟨λ y hy=>by rw[List.mem_singleton.1 hy];rfl,by decide,by decide,?_⟩;refine se (.inl rfl) ⟨1,_,rfl,by decide,by decide,rfl,λ h hh=> ?_⟩;rw[List.mem_singleton.1 hh];exact qu _ 5 0
  ·simp only[↓OD,OA,reduceEqDiff,reduceCtorEq];refine mj (λ h2=> ?_) (λ h2=> ?_)
   ·simp only[↓OD,OA,reduceEqDiff,reduceCtorEq,reduceAdd,reduceLeDiff];refine⟨λ y hy=>by simp only[mem_cons,not_mem_nil,or_false]at hy;rcases hy with rfl|rfl<;>rfl,by decide,by decide,?_⟩;refine se (.inl rfl) ⟨1,_,rfl,by decide,by decide,rfl,λ h hh=> ?_⟩;simp only[mem_cons,not_mem_nil,or_false]at hh;rcases hh with rfl|rfl
    ·exact qu _ 4 0
    ·exact qu _ 4 1
   ·simp only[↓OD,OA,reduceEqDiff,reduceCtorEq];refine mj (λ h7=> ?_) (λ h7=> ?_)
    ·rw[decide_eq_true_eq]at h7;simp only[ai.B,↓OD,OA,reduceEqDiff,reduceCtorEq,reduceAdd,reduceLeDiff];have hna:AV.ae [.sl (aN.map ad.av),.v (.string t.Name)]=true:=by simp only[AV.ae,AV.ag,fq,Bool.and_true]
     refine sB (yV aN t.Name (by decide)) hna rfl ?_;obtain⟨j,d,c0,c1,hj,hd,hjd,hct,hh0,hh1,hm1,hs0,hs2⟩:=auD (hD.name t ht h7);obtain⟨aQx,hw1⟩:=((pw.ct d hd).2 c1 (by rw[hct];simp) hh1);have hu':D (c1.Arg.put 10 t.Kids):=hD.put t ht h7 d hd hm1 c1 (by rw[hct];simp) hh1;have hdl:cA (some 3) d.av 0=d.av:=eg (ad.isAgg d) (ad.width d);rw[hj];have hj2:j<(aN.map ad.av).length:=hjd.1;have hjg:(aN.map ad.av).getD j .top=d.av:=hjd.2;simp only[aD,toNat_natCast,hjg,hdl,ad.B,↓OD,OA,reduceEqDiff,reduceCtorEq,reduceAdd];refine⟨by omega,by omega,?_⟩;have nR:(d.br.map ak.av).length=2:=by rw[hct];rfl
     have g0:(d.br.map ak.av).getD 0 .top=c0.av:=by rw[hct];rfl
     have g1:(d.br.map ak.av).getD 1 .top=c1.av:=by rw[hct];rfl
     refine eV (ι:=Nat) (λ i=>i<=2) (λ i=>fx [(4,.ptr 0 1 0 0),(7,.row 1 (match i with
      |0=>0
      |1=>1
      |_=>2)),(10,.ptr 2 1 0 0),(11,aD i)]) (λ i=>match i with
      |0=>[.live 27 4 [t.av],.live 32 8 [],.live 111 3 [d.av]]
      |1=>[.live 27 4 [t.av],.live 32 8 [(AV.agg [.v (.int .i64 7),.v (.int .i64 0),.v (.string c0.Name),.v (.int .i64 t.Kind),.v (.int .i64 t.N),.v (.string t.Name),.sl (t.Kids.map ai.av),.an])],.live 111 3 [d.av],.live 32 8 [(AV.agg [.v (.int .i64 7),.v (.int .i64 0),.v (.string c0.Name),.v (.int .i64 t.Kind),.v (.int .i64 t.N),.v (.string t.Name),.sl (t.Kids.map ai.av),.an])],.live 32 8 [(AV.agg [.v (.int .i64 7),.v (.int .i64 0),.v (.string c0.Name),.v (.int .i64 t.Kind),.v (.int .i64 t.N),.v (.string t.Name),.sl (t.Kids.map ai.av),.an])]]
      |_=>[.live 27 4 [t.av],.live 32 8 [(AV.agg [.v (.int .i64 7),.v (.int .i64 0),.v (.string c0.Name),.v (.int .i64 t.Kind),.v (.int .i64 t.N),.v (.string t.Name),.sl (t.Kids.map ai.av),.an]),(AV.agg [.v (.int .i64 7),.v (.int .i64 0),.v (.string c1.Name),.v (.int .i64 t.Kind),.v (.int .i64 t.N),.v (.string t.Name),.sl (t.Kids.map ai.av),.row 6 1])],.live 111 3 [d.av],.live 32 8 [(AV.agg [.v (.int .i64 7),.v (.int .i64 0),.v (.string c0.Name),.v (.int .i64 t.Kind),.v (.int .i64 t.N),.v (.string t.Name),.sl (t.Kids.map ai.av),.an])],.live 32 8 [(AV.agg [.v (.int .i64 7),.v (.int .i64 0),.v (.string c0.Name),.v (.int .i64 t.Kind),.v (.int .i64 t.N),.v (.string t.Name),.sl (t.Kids.map ai.av),.an])],.live 32 8 [(AV.agg [.v (.int .i64 7),.v (.int .i64 0),.v (.string c1.Name),.v (.int .i64 t.Kind),.v (.int .i64 t.N),.v (.string t.Name),.sl (t.Kids.map ai.av),.row 6 1])],.live 32 8 [(cw (c1.Arg.put 10 t.Kids)).av],.live 32 8 [(AV.agg [.v (.int .i64 7),.v (.int .i64 0),.v (.string c1.Name),.v (.int .i64 t.Kind),.v (.int .i64 t.N),.v (.string t.Name),.sl (t.Kids.map ai.av),.row 6 1])]]) (λ i=>2- i) 0 (by omega) (.of_eq rfl rfl) λ i hi=> ?_
     have hnt:AV.ae [t.av]=true:=by simp only[AV.ae,ai.ag,Bool.and_true]
     match i,hi with
     |0,_=>
      have d0:decide (((0:Nat):Int)<((2:Nat):Int))=true:=rfl;simp only[aD,nR,d0,ad.B,↓OD,OA,reduceEqDiff,reduceAdd];refine kB ?_;have i0:Int.toNat (((0:Nat):Int))=0:=rfl;simp only[i0,nR,g0,ai.B,ad.B,ak.B,htl,↓OD,OA,reduceEqDiff,reduceAdd,reduceLeDiff];refine⟨by decide,by decide,?_⟩;refine eE _ (gm t (by omega)) hnt ?_;simp only[i0,nR,g0,hh0,ai.B,ad.B,ak.B,↓OD,OA,reduceEqDiff,reduceAdd,reduceLeDiff];refine⟨by kernel_rfl,?_⟩;refine⟨by decide,by decide,λ y hy=>by rw[List.mem_singleton.1 hy];rfl,by decide,by decide,?_⟩;exact dz 1 (by omega) (by decide) (.of_eq rfl rfl)
     |1,_=>
      have d1:decide (((1:Nat):Int)<((2:Nat):Int))=true:=rfl;simp only[aD,nR,d1,ad.B,↓OD,OA,reduceEqDiff,reduceAdd];refine kB ?_;have i1:Int.toNat (((1:Nat):Int))=1:=rfl;simp only[i1,nR,g1,ai.B,ad.B,ak.B,htl,↓OD,OA,reduceEqDiff,reduceAdd,reduceLeDiff];refine⟨by decide,by decide,?_⟩;refine eE _ (gm t (by omega)) hnt ?_;simp only[i1,nR,g1,hh1,ai.B,ad.B,ak.B,↓OD,OA,reduceEqDiff,reduceAdd,reduceLeDiff];refine⟨by kernel_rfl,?_⟩;refine⟨by decide,by decide,?_⟩;refine kB ?_;have hal:cA (some 4) c1.Arg.av 0=c1.Arg.av:=eg (ai.isAgg _) (ai.width _);have hpw:=hD.wt _ hu';have hnq:AV.ae [c1.Arg.av,.v (.int .i64 10),.sl (t.Kids.map ai.av)]=true:=by simp only[AV.ae,AV.ag,ai.ag,mO,Bool.and_true]
      have hnr:AV.ae [(c1.Arg.put 10 t.Kids).av]=true:=by simp only[AV.ae,ai.ag,Bool.and_true]
      have hla:cA (some 4) c1.av 2=c1.Arg.av:=ak.ov c1;have aQf:t.Kids.length+(t.Kids.map ai.wt).sum<=1048576:=by omega
      simp only[i1,nR,g1,hh1,hla,ai.B,ad.B,ak.B,↓OD,OA,reduceEqDiff,reduceAdd];refine⟨by decide,by decide,?_⟩;refine eE _ (pd c1.Arg 10 t.Kids aQx (.inr (.inl rfl)) (by omega) aQf) hnq ?_;simp only[↓OD,OA,reduceEqDiff,reduceAdd];refine eE _ (qX (c1.Arg.put 10 t.Kids) (by omega)) hnr ?_;simp only[aa.B,↓OD,OA,reduceEqDiff,reduceAdd];refine⟨by kernel_rfl,?_⟩;refine⟨λ y hy=>by rw[List.mem_singleton.1 hy];rfl,by decide,by decide,?_⟩;exact dz 2 (by omega) (by decide) (.of_eq rfl rfl)
     |2,_=>
      have d2:decide (((2:Nat):Int)<((2:Nat):Int))=false:=rfl;simp only[aD,nR,d2,ad.B,↓OD,OA,reduceEqDiff,reduceCtorEq,reduceAdd];refine se (.inl rfl) ⟨1,_,rfl,by simp,by simp,rfl,λ h hh=> ?_⟩;simp only[mem_cons,not_mem_nil,or_false]at hh;rcases hh with rfl|rfl
      ·exact⟨7,0,c0.Name,t,_,.an,[],rfl,.refl _,mO t.Kids,rfl,hs0,htw,by simp,(λ u hu=>by cases hu),Or.inl ⟨rfl,rfl⟩⟩
      ·exact⟨7,0,c1.Name,t,_,_,[c1.Arg.put 10 t.Kids],rfl,.refl _,mO t.Kids,rfl,hs2,htw,by simp,(λ u hu=>by rw[List.mem_singleton.1 hu];exact hu'),Or.inr (Or.inr ⟨6,rfl,rfl⟩)⟩
    ·simp only[↓OD,OA,reduceEqDiff,reduceCtorEq,reduceAdd];refine eV (ι:=Bool) (λ _=>True) (λ b=>fx [(2,.sl [.sl [pI n]]),(4,.ptr 0 1 0 0),(7,.row 1 0),(13,.row 2 (if b=true then 1 else 0)),(14,aD (if b=true then 1 else 0))]) (λ b=>if b=true then [.live 27 4 [t.av],.live 32 8 [],.live 3 1 [aD n],.live 3 1 [aD n]]else [.live 27 4 [t.av],.live 32 8 [],.live 3 1 []]) (λ b=>if b=true then 0 else 1) false trivial (.of_eq rfl rfl) λ b _=> ?_
     cases b with
     |false=>
      have d01:decide ((0:Int)<((1:Nat):Int))=true:=rfl;have tn0:Int.toNat 0=0:=rfl;simp only[Bool.false_eq_true,if_false,aD,pI,d01,tn0,length_cons,length_nil,↓OD,OA,reduceEqDiff,reduceAdd,reduceLeDiff];refine⟨by decide,by decide,?_⟩
      have aNo:j7 Tryz.prog F.kc [.row 2 0,.v (.int .i64 n)] [.live 27 4 [t.av],.live 32 8 [],.live 3 1 []] (.v (.bool (wh n []))) [.live 27 4 [t.av],.live 32 8 [],.live 3 1 []]:=by
       have:=j7.aP2 (args:=[.row 2 0,.v (.int .i64 n)]) (O:=[.live 27 4 [t.av],.live 32 8 [],.live 3 1 []]) (sI [] n (by decide)) rfl (λ i a b ha hb=>by
        match i,ha,hb with
        |0,ha,hb=>cases ha;cases hb;exact .row 2 0 3 1 [] rfl rfl rfl
        |1,ha,hb=>cases ha;cases hb;exact .same _ rfl) rfl rfl
       have h2:AV.bL (λ n=>3+n) (.v (.bool (wh n [])))= .v (.bool (wh n [])):=rfl;simp only[length_cons,length_nil,List.map_nil,List.append_nil]at this;exact this
      refine⟨by decide,by decide,by decide,by decide,by decide,by decide,?_⟩;refine bS _ _ aNo ?_;have hhn:wh n []=false:=rfl;simp only[hhn,Bool.not_false,tn0,length_cons,length_nil,↓OD,OA,reduceEqDiff,reduceAdd,reduceLeDiff];refine⟨by decide,by decide,by decide,by decide,λ y hy=>by rw[List.mem_singleton.1 hy];rfl,by decide,by decide,?_⟩;have dg:decide ((0:Int)<0)=false:=rfl
      refine eV (ι:=Unit) (λ _=>True) (λ _=>fx [(2,.sl [.sl [pI n]]),(4,.ptr 0 1 0 0),(7,.row 1 0),(13,.row 2 1),(14,aD 0),(15,aD 0)]) (λ _=>[.live 27 4 [t.av],.live 32 8 [],.live 3 1 [aD n],.live 3 1 [aD n]]) (λ _=>0) () trivial (.env λ u=>by
       by_cases hu:u=132
       ·exact .inl (by simp[fx,hu])
       ·exact .inr (by simp[fx,pI,aD])) λ b _=> ?_
      simp only[↓OD];refine kB ?_;simp only[aD,dg,↓OD,OA,reduceEqDiff,reduceAdd];refine⟨by kernel_rfl,?_⟩;simp only[aD,pI,tn0,length_cons,length_nil,↓OD,OA,reduceEqDiff,reduceAdd,reduceLeDiff];refine⟨by decide,by decide,by decide,by decide,by decide,by decide,?_⟩;exact dz true trivial (by decide) (.of_eq rfl rfl)
     |true=>
      have d11:decide ((1:Int)<((1:Nat):Int))=false:=rfl;simp only[if_true,aD,d11,length_cons,length_nil,↓OD,OA,reduceEqDiff];refine eV (ι:=Bool) (λ _=>True) (λ b=>fx [(4,.ptr 0 1 0 0),(7,.row 1 (if b=true then 1 else 0)),(13,.row 2 1),(16,aD (if b=true then 1 else 0))]) (λ b=>if b=true then [.live 27 4 [t.av],.live 32 8 [.agg [aD 3,aD n,.v (.string ⟨#[]⟩),aD 0,aD 0,.v (.string ⟨#[]⟩),.an,.an]],.live 3 1 [aD n],.live 3 1 [aD n],.live 32 8 [.agg [aD 3,aD n,.v (.string ⟨#[]⟩),aD 0,aD 0,.v (.string ⟨#[]⟩),.an,.an]]]else [.live 27 4 [t.av],.live 32 8 [],.live 3 1 [aD n],.live 3 1 [aD n]]) (λ b=>if b=true then 0 else 1) false trivial (.of_eq rfl rfl) λ b _=> ?_
      cases b with
      |false=>
       have d01:decide ((0:Int)<((1:Nat):Int))=true:=rfl;have tn0:Int.toNat 0=0:=rfl;simp only[Bool.false_eq_true,if_false,aD,d01,tn0,length_cons,length_nil,↓OD,OA,reduceEqDiff,reduceAdd,reduceLeDiff];refine⟨by decide,by decide,λ y hy=>by rw[List.mem_singleton.1 hy];rfl,by decide,by decide,?_⟩;exact dz true trivial (by decide) (.of_eq rfl rfl)
      |true=>
       simp only[if_true,aD,d11,length_cons,length_nil,ai.B,htl,↓OD,OA,reduceEqDiff,reduceAdd];have hnt:AV.ae [t.av]=true:=by simp only[AV.ae,ai.ag,Bool.and_true]
       refine sB (qX t (by omega)) hnt (aa.ag _) ?_;simp only[aa.B,↓OD,OA,reduceEqDiff,reduceAdd];refine⟨λ y hy=>by rw[List.mem_singleton.1 hy];exact aa.width _,by decide,by decide,?_⟩;refine se (.inl rfl) ⟨1,_,rfl,by simp,by simp,rfl,λ h hh=> ?_⟩;simp only[mem_cons,not_mem_nil,or_false]at hh;rcases hh with rfl|rfl
       ·exact qu _ 3 n
       ·rw[zI];exact⟨1,0,⟨#[]⟩,t,_,_,[],rfl,.refl _,mO t.Kids,rfl,by decide,htw,by simp,(λ u hu=>by cases hu),Or.inr (Or.inl ⟨rfl,rfl⟩)⟩
theorem xu{rs:List ff}{Q:AV->List aj->Prop}{res:AV}{x:AX}(hx:x= .ret∨x= .normal){e:Env}{t z:Nat}{xs:List AV}{B:List aj}(h:fm e (.live t z xs::B) rs [] λ ys=>cv ys=res)(hr:res.ag=true)(hn:AV.ae xs=true)(hq:Q res [.live t z xs]):
  axs 1 rs Q x e (.live t z xs::B):=by
 have:fm e (.live t z xs::B) rs [] λ ys=>∃e' O',WK 1 (λ t=>if t=0 then cv ys else .top) (.live t z xs::B) e' O'/\Q (e' 0) O':=by
  refine vF rs _ _ _ (λ ys hp=> ?_) h;refine⟨λ t=>if t=0 then res else .top,[.live t z xs],WK.forget (k:=1) rfl (Nat.le_refl _) (by simp) (λ ob hb=> ?_) λ u=> ?_,by simpa using hq⟩
  ·rw[List.mem_singleton]at hb;rw[hb];exact aki hn
  ·by_cases hu:u=0
   ·subst hu;exact .inr ⟨by simp[hp],by simpa using aM _ hr⟩
   ·exact .inl (by simp[hu])
 rcases hx with rfl|rfl<;>exact this
theorem atb{rs:List ff}{Q:AV->List aj->Prop}{cs:List AV}{j k len ty zz:Nat}{ks:List AV}{x:AX}(hx:x= .ret∨x= .normal){e:Env}{t z:Nat}{xs:List AV}{B:List aj}(h:fm e (.live t z xs::B) rs [] λ ys=>cv ys= .agg cs)
  (hj:cs[j]? =some (.row (k+1) len)) (hk:B[k]? =some (.live ty zz ks)) (hl:ks.length=len) (hr:(AV.agg (cs.set j (.sl ks))).ag=true) (hks:AV.ae ks=true) (hn:AV.ae xs=true) (hq:Q (.agg (cs.set j (.sl ks))) [.live t z xs]):
  axs 1 rs Q x e (.live t z xs::B):=by
 subst hl;have hkl:k<B.length:=(List.getElem?_eq_some_iff.1 hk).1
 have:fm e (.live t z xs::B) rs [] λ ys=>∃e' O',WK 1 (λ t=>if t=0 then cv ys else .top) (.live t z xs::B) e' O'/\Q (e' 0) O':=by
  refine vF rs _ _ _ (λ ys hp=> ?_) h;refine⟨λ t=>if t=0 then .agg (cs.set j (.sl ks))else .top,[.live t z xs],WK.trans (e':=λ t=>if t=0 then .agg (cs.set j (.sl ks))else .top) (O':=(.live t z xs::B).set (k+1) .dead) ?_ (WK.forget (k:=1) ?_ (Nat.le_refl _) (by simp) (λ ob hb=> ?_) λ u=> ?_),by simpa using hq⟩
  ·refine WK.lh (n:=k+1) (t:=ty) (s:=zz) (xs:=ks) (.inl (by simpa using hk)) hks (by simp) (by simp[hkl]) (λ m hm=> .inl ?_) λ u=> ?_
   ·rw[List.getElem?_set_ne (λ h=>hm h.symm)]
   ·by_cases hu:u=0
    ·subst hu;simp only[if_true,hp];refine .agg _ _ (by simp) λ i c d hc hd=> ?_
     by_cases hi:i=j
     ·subst hi;rw[hj]at hc;rw[List.getElem?_set_self (List.getElem?_eq_some_iff.1 hj).1]at hd;cases hc;cases hd;exact .row
     ·rw[List.getElem?_set_ne (λ h=>hi h.symm)]at hd;rw[hc]at hd;cases hd;exact .refl _
    ·simp only[if_neg hu];exact .refl _
  ·rfl
  ·rw[List.mem_singleton]at hb;rw[hb];exact aki hn
  ·by_cases hu:u=0
   ·subst hu;exact .inr ⟨rfl,aM _ hr⟩
   ·exact .inl (by simp[hu])
 rcases hx with rfl|rfl<;>exact this
def cO(c:et):aj:= .live 65 3 [.agg [.sl (rk c.l),aD c.i,aD c.h]]
theorem oP(c:et):AV.ae [.agg [.sl (rk c.l),aD c.i,aD c.h]]=true:=by
 simp only[AV.ae,AV.ag,cH,Bool.and_true]
theorem adj{c:et}(hc:c.ok)(n:Int)(hn:0<n)(B:List aj):∃(m:Int) (c':et),0<=m/\m<n/\c'.ok/\j7 Tryz.prog F.aH [.ptr 0 1 0 0,aD n] (cO c::B) (aD m) (cO c'::B):=by
 obtain⟨h1,h2,h3⟩:=et.vp hc n;exact⟨_,_,h2,h3 hn,h1,lj (mI hc n) rfl (oP c) (oP _) rfl B⟩
theorem aGN{c:et}(hc:c.ok)(n:Int)(B:List aj):∃(b:Bool) (c':et),c'.ok/\j7 Tryz.prog F.cY [.ptr 0 1 0 0,aD n] (cO c::B) (.v (.bool b)) (cO c'::B):=by
 obtain⟨h1,h2,h3⟩:=et.vp hc n;exact⟨_,_,h1,lj (wJ hc n) rfl (oP c) (oP _) rfl B⟩
def PB9:Nat->Nat
 |0=>1000
 |n+1=>1110+6*PB9 n
theorem aIp(n:Nat):1000<=PB9 n:=by cases n<;>simp only[PB9]<;>omega
theorem am9{k:Int}{t:ai}:AV.oY (.agg [aD k,aD 0,.v (.string ⟨#[]⟩),aD t.Kind,aD t.N,.v (.string t.Name),.sl (t.Kids.map ai.av),.an]) (aa.mk k 0 ⟨#[]⟩ t []).av:=by
 rw[←aa.eta (aa.mk k 0 ⟨#[]⟩ t [])];exact afb (cs:=[aD k,aD 0,.v (.string ⟨#[]⟩),aD t.Kind,aD t.N,.v (.string t.Name),.sl (t.Kids.map ai.av)])
theorem asC{a1 a3:AV}{len:Nat}{s:Nat->Nat}{m:Nat}(h0:s 0=0)(h2:s 2=2)(h3:s 3=len+3)(hm:3<m)(n1:a1.ag=true)(n3:a3.ag=true):∀t,(fx [(0,.ptr 0 1 0 0),(1,a1),(3,a3),(8,.ptr 2 1 0 0),(10,.ptr 3 1 0 0)]) t= .top∨
  ((fx [(0,.ptr 0 1 0 0),(1,a1),(3,a3),(8,.ptr 2 1 0 0),(10,.ptr (len+3) 1 0 0)]) t=((fx [(0,.ptr 0 1 0 0),(1,a1),(3,a3),(8,.ptr 2 1 0 0),(10,.ptr 3 1 0 0)]) t).bL s/\((fx [(0,.ptr 0 1 0 0),(1,a1),(3,a3),(8,.ptr 2 1 0 0),(10,.ptr 3 1 0 0)]) t).inScope m=true):=by
 intro t;by_cases t0:t=0
 ·subst t0;exact .inr ⟨by show AV.ptr 0 1 0 0= .ptr (s 0) 1 0 0;rw[h0],by show decide (0<m)=true;exact decide_eq_true (by omega)⟩
 by_cases t1:t=1
 ·subst t1;exact .inr ⟨(cU a1 n1).symm,aM a1 n1⟩
 by_cases t3:t=3
 ·subst t3;exact .inr ⟨(cU a3 n3).symm,aM a3 n3⟩
 by_cases t8:t=8
 ·subst t8;exact .inr ⟨by show AV.ptr 2 1 0 0= .ptr (s 2) 1 0 0;rw[h2],by show decide (2<m)=true;exact decide_eq_true (by omega)⟩
 by_cases t10:t=10
 ·subst t10;exact .inr ⟨by show AV.ptr (len+3) 1 0 0= .ptr (s 3) 1 0 0;rw[h3],by show decide (3<m)=true;exact decide_eq_true (by omega)⟩
 ·exact .inl (by simp[fx,t0,t1,t3,t8,t10])
theorem axk{e e':Env}{t0 z0 t1 z1 t2 z2 t3 z3:Nat}{x0 x1 x2 x3:List AV}{R:List aj}(n0:AV.ae x0=true)(n1:AV.ae x1=true)(n2:AV.ae x2=true)(n3:AV.ae x3=true)
  (he:∀t,e' t= .top∨(e t=(e' t).bL (λ i=>if i=3 then R.length+3 else i)/\(e' t).inScope 4=true)):
  WK 1 e (.live t0 z0 x0:: .live t1 z1 x1:: .live t2 z2 x2::(R++ [.live t3 z3 x3])) e' [.live t0 z0 x0,.live t1 z1 x1,.live t2 z2 x2,.live t3 z3 x3]:=by
 have hr:∀{x:List AV},AV.ae x=true->x.map (AV.bL λ i=>if i=3 then R.length+3 else i)=x:=λ h=>by rw[←dM,db _ h]
 have hs:∀{x:List AV},AV.ae x=true->AV.bK 4 x=true:=λ {x} h=>by
  have:=aM (k:=4) (AV.sl x) h;simpa only[AV.inScope]using this
 refine WK.ajZ (λ i=>if i=3 then R.length+3 else i) (by simp) (λ i hi=>by rw[if_neg (by omega)]) (λ i hi=> ?_) (λ i j hi hj h=> ?_) (λ ob hb=> ?_) he
 ·simp only[length_cons,length_nil]at hi;rcases(show i=0∨i=1∨i=2∨i=3 by omega)with rfl|rfl|rfl|rfl
  ·show some (aj.live t0 z0 x0)=some (.live t0 z0 (x0.map _));rw[hr n0]
  ·show some (aj.live t1 z1 x1)=some (.live t1 z1 (x1.map _));rw[hr n1]
  ·show some (aj.live t2 z2 x2)=some (.live t2 z2 (x2.map _));rw[hr n2]
  ·show(R++ [aj.live t3 z3 x3])[R.length]? =some (.live t3 z3 (x3.map _));rw[hr n3,List.getElem?_concat_length]
 ·simp only[length_cons,length_nil]at hi hj
  split at h<;>split at h<;>omega
 ·simp only[mem_cons,not_mem_nil,or_false,length_cons,length_nil]at hb⊢;rcases hb with rfl|rfl|rfl|rfl
  ·exact hs n0
  ·exact hs n1
  ·exact hs n2
  ·exact hs n3
theorem aBe{e e':Env}{t0 z0 t1 z1 t2 z2 t3 z3 t4 z4:Nat}{x0 x1 x2 x4 cs:List AV}{R:List aj}{j len:Nat}(n0:AV.ae x0=true)(n1:AV.ae x1=true)(n2:AV.ae x2=true)(n3:AV.ae cs=true)(n4:AV.ae x4=true)(hj:R[j]? =some (.live t4 z4 x4))
  (he:∀t,e' t= .top∨(e t=(e' t).bL (λ i=>if i=3 then R.length+3 else if i=4 then j+3 else i)/\(e' t).inScope 5=true)):
  WK 1 e (.live t0 z0 x0:: .live t1 z1 x1:: .live t2 z2 x2::(R++ [.live t3 z3 [.agg (cs++ [.row (3+j) len])]])) e' [.live t0 z0 x0,.live t1 z1 x1,.live t2 z2 x2,.live t3 z3 [.agg (cs++ [.row 4 len])],.live t4 z4 x4]:=by
 have hjl:j<R.length:=(List.getElem?_eq_some_iff.1 hj).1;have hr:∀{x:List AV},AV.ae x=true->x.map (AV.bL λ i=>if i=3 then R.length+3 else if i=4 then j+3 else i)=x:=λ h=>by rw[←dM,db _ h]
 have hs:∀{x:List AV},AV.ae x=true->AV.bK 5 x=true:=λ {x} h=>by
  have:=aM (k:=5) (AV.sl x) h;simpa only[AV.inScope]using this
 refine WK.ajZ (λ i=>if i=3 then R.length+3 else if i=4 then j+3 else i) (by simp) (λ i hi=>by rw[if_neg (by omega),if_neg (by omega)]) (λ i hi=> ?_) (λ i j hi hj h=> ?_) (λ ob hb=> ?_) he
 ·simp only[length_cons,length_nil]at hi;rcases(show i=0∨i=1∨i=2∨i=3∨i=4 by omega)with rfl|rfl|rfl|rfl|rfl
  ·show some (aj.live t0 z0 x0)=some (.live t0 z0 (x0.map _));rw[hr n0]
  ·show some (aj.live t1 z1 x1)=some (.live t1 z1 (x1.map _));rw[hr n1]
  ·show some (aj.live t2 z2 x2)=some (.live t2 z2 (x2.map _));rw[hr n2]
  ·show(R++ [aj.live t3 z3 [.agg (cs++ [.row (3+j) len])]])[R.length]? =some (.live t3 z3 [AV.bL _ (.agg (cs++ [.row 4 len]))]);rw[List.getElem?_concat_length];simp only[AV.bL,if_neg (show¬(4=3) by decide)];rw[dM,map_append,hr n3,Nat.add_comm]
   rfl
  ·show(R++ [aj.live t3 z3 _])[j]? =some (.live t4 z4 (x4.map _));rw[List.getElem?_append_left hjl,hj,hr n4]
 ·simp only[length_cons,length_nil]at hi hj
  split at h<;>split at h<;>(try split at h)<;>(try split at h)<;>omega
 ·simp only[mem_cons,not_mem_nil,or_false,length_cons,length_nil]at hb⊢;rcases hb with rfl|rfl|rfl|rfl|rfl
  ·exact hs n0
  ·exact hs n1
  ·exact hs n2
  ·have h1:=hs n3
   show AV.bK 5 [.agg (cs++ [.row 4 len])]=true
   have app:∀a b:List AV,AV.bK 5 (a++b)=(AV.bK 5 a&&AV.bK 5 b):=by
    intro a b
    induction a with
    |nil=>simp[AV.bK]
    |cons x a ih=>simp only[List.cons_append,AV.bK,ih,Bool.and_assoc]
   simp only[AV.bK,AV.inScope,app,h1,Bool.and_true,Bool.true_and]
   decide
  ·exact hs n4
theorem uV(n:Nat)(k:Int){t:ai}(h:t.wt<=1000):(aa.mk k 0 ⟨#[]⟩ t []).wt<=PB9 n:=by
 have:=aIp n;rw[aa.dY]
 show 0+t.wt+(0+0)<=_;omega
theorem ar5{kd nm:Int}{s:ByteArray}{pt:ai}{tk yX:AV}{ks:List aa}(h1:AV.oY tk (.sl (pt.Kids.map ai.av)))(h2:AV.oY yX (.sl (ks.map aa.av))):AV.oY (.agg [aD kd,aD nm,.v (.string s),aD pt.Kind,aD pt.N,.v (.string pt.Name),tk,yX]) (aa.mk kd nm s pt ks).av:=by
 rw[←aa.eta (aa.mk kd nm s pt ks)];refine .agg _ _ rfl λ i c d hc hd=> ?_
 match i,hc,hd with
 |0,hc,hd|1,hc,hd|2,hc,hd|3,hc,hd|4,hc,hd|5,hc,hd=>cases hc;cases hd;exact .refl _
 |6,hc,hd=>cases hc;cases hd;exact h1
 |7,hc,hd=>cases hc;cases hd;exact h2
theorem aA8{l:List aa}{b:Nat}(h:∀p∈l,p.wt<=b):(l.map aa.wt).sum<=l.length*b:=by
 induction l with
 |nil=>simp
 |cons a l ih=>
  have h1:=h a (by simp);have h2:=ih λ p hp=>h p (by simp[hp])
  simp only[List.map_cons,List.sum_cons,length_cons,Nat.add_mul,Nat.one_mul];omega
theorem ar4{n:Nat}(hn:0<n){kd nm:Int}{s:ByteArray}{pt:ai}{ks:List aa}(hs:s.size<=100)(ht:pt.wt<=1000)(hk:ks.length<=6)(hw:∀q∈ks,q.wt<=PB9 (n- 1)):(aa.mk kd nm s pt ks).wt<=PB9 n:=by
 obtain⟨m,rfl⟩:∃m,n=m+1:=⟨n- 1,by omega⟩;have h1:=aA8 hw;have h2:ks.length*PB9 m<=6*PB9 m:=Nat.mul_le_mul_right _ hk;have e:m+1- 1=m:=by omega
 rw[e]at h1;rw[aa.dY]
 show s.size+pt.wt+(ks.length+(ks.map aa.wt).sum)<=1110+6*PB9 m;omega
def DQ9(n:Nat)(res:AV)(O:List aj):Prop:=∃(p:aa) (c:et),AV.oY res p.av/\p.wt<=PB9 n/\c.ok/\O= [cO c]
theorem aji{D:ai->Prop}(hD:DD D)(n:Nat)(t:ai)(k:Int)(ht:D t)(hk:k<=n)(hk0: -100<=k)(hn:n<=100)(c:et)(hc:c.ok)
  (ih:0<k->∀(m:Nat),n=m+1->∀u,D u->∀c:et,c.ok->∃(p:aa) (c':et),p.wt<=PB9 m/\c'.ok/\j7 Tryz.prog F.bx [.ptr 0 1 0 0,.sl (aN.map ad.av),u.av,aD (k- 1)] [cO c] p.av [cO c']):
  ∃res O',DQ9 n res O'/\j7 Tryz.prog F.bx [.ptr 0 1 0 0,.sl (aN.map ad.av),t.av,aD k] [cO c] res O':=by
 have htw:=hD.wt t ht;have htl:cA (some 4) t.av 0=t.av:=eg (ai.isAgg t) (ai.width t);have hnt:AV.ae [t.av]=true:=by simp only[AV.ae,ai.ag,Bool.and_true]
 refine azZ AW.yt rfl ?_;simp only[AW.bx,ai.B,↓OD,OA,seval];by_cases hk1:k<=0
 ·have dk:decide (k<=0)=true:=decide_eq_true hk1;simp only[aD,dk,↓OD,OA,seval];try simp only[ai.B,aa.B,htl,↓OD,OA,seval]
  obtain⟨m1,c1,hm1,hm2,hc1,hb1⟩:=adj hc 2 (by omega) [.live 27 4 [t.av],.live 32 8 [(AV.agg [.v (.int .i64 0),.v (.int .i64 0),.v (.string ⟨#[]⟩),.v (.int .i64 0),.v (.int .i64 0),.v (.string ⟨#[]⟩),.an,.an])]];refine oG (al:=[⟨none,(some 18),.bD (.t 0)⟩,⟨none,(some 19),.n6 [1] F.aH [(.t 18),(.c (.v (.int .i64 2)))]⟩,⟨none,(some 20),.bin .add (.c (.v (.int .i64 1))) (.t 19)⟩,⟨none,(some 21),.load (some 4) (.t 6)⟩,⟨none,(some 22),.fA F.eO [(.t 21)]⟩,⟨none,(some 23),.build [(.v (.int .i64 0)),(.v (.int .i64 0)),(.v (.string ⟨#[]⟩)),(.v (.int .i64 0)),(.v (.int .i64 0)),(.v (.string ⟨#[]⟩)),.an,.an] [(0,1,(.t 20)),(3,4,(.t 22))]⟩,⟨none,none,.store 8 (.t 8) (.t 23)⟩]) rfl ?_;simp only[↓OD,OA,seval];refine kE hb1 (λ n hn=>by rw[List.mem_singleton.1 hn];rfl) ?_;have e1:IntKind.i64.wrap (1+m1)=1+m1:=cE (by omega) (by omega);simp only[aD,cO,e1,ai.B,htl,↓OD,OA,seval];refine eE _ (gm t (by omega)) hnt ?_;simp only[ai.B,↓OD,OA,seval];refine⟨by kernel_rfl,?_⟩;refine xu (.inl rfl) (res:= .agg [aD (1+m1),aD 0,.v (.string ⟨#[]⟩),aD t.Kind,aD t.N,.v (.string t.Name),.sl (t.Kids.map ai.av),.an]) (by simp only[OA,seval]<;>rfl) (by simp only[AV.ag,AV.ae,mO,Bool.and_true]) (oP c1) ⟨.mk (1+m1) 0 ⟨#[]⟩ t [],c1,am9,uV _ _ htw,hc1,rfl⟩
 ·have dk:decide (k<=0)=false:=decide_eq_false hk1;simp only[aD,dk,↓OD,OA,seval];obtain⟨b,c0,hc0,hb0⟩:=aGN hc 3 [.live 27 4 [t.av],.live 32 8 [(AV.agg [.v (.int .i64 0),.v (.int .i64 0),.v (.string ⟨#[]⟩),.v (.int .i64 0),.v (.int .i64 0),.v (.string ⟨#[]⟩),.an,.an])]];refine bS _ _ hb0 ?_;cases b with
  |true=>
   try simp only[↓OD,OA,seval]
   obtain⟨m1,c1,hm1,hm2,hc1,hb1⟩:=adj hc0 2 (by omega) [.live 27 4 [t.av],.live 32 8 [(AV.agg [.v (.int .i64 0),.v (.int .i64 0),.v (.string ⟨#[]⟩),.v (.int .i64 0),.v (.int .i64 0),.v (.string ⟨#[]⟩),.an,.an])]];refine oG (al:=[⟨none,(some 18),.bD (.t 0)⟩,⟨none,(some 19),.n6 [1] F.aH [(.t 18),(.c (.v (.int .i64 2)))]⟩,⟨none,(some 20),.bin .add (.c (.v (.int .i64 1))) (.t 19)⟩,⟨none,(some 21),.load (some 4) (.t 6)⟩,⟨none,(some 22),.fA F.eO [(.t 21)]⟩,⟨none,(some 23),.build [(.v (.int .i64 0)),(.v (.int .i64 0)),(.v (.string ⟨#[]⟩)),(.v (.int .i64 0)),(.v (.int .i64 0)),(.v (.string ⟨#[]⟩)),.an,.an] [(0,1,(.t 20)),(3,4,(.t 22))]⟩,⟨none,none,.store 8 (.t 8) (.t 23)⟩]) rfl ?_;simp only[↓OD,OA,seval];refine kE hb1 (λ n hn=>by rw[List.mem_singleton.1 hn];rfl) ?_;have e1:IntKind.i64.wrap (1+m1)=1+m1:=cE (by omega) (by omega);simp only[aD,cO,e1,ai.B,htl,↓OD,OA,seval];refine eE _ (gm t (by omega)) hnt ?_;simp only[ai.B,↓OD,OA,seval];refine⟨by kernel_rfl,?_⟩;refine xu (.inl rfl) (res:= .agg [aD (1+m1),aD 0,.v (.string ⟨#[]⟩),aD t.Kind,aD t.N,.v (.string t.Name),.sl (t.Kids.map ai.av),.an]) (by simp only[OA,seval]<;>rfl) (by simp only[AV.ag,AV.ae,mO,Bool.and_true]) (oP c1) ⟨.mk (1+m1) 0 ⟨#[]⟩ t [],c1,am9,uV _ _ htw,hc1,rfl⟩
  |false=>
   simp only[↓OD,OA,seval];obtain⟨m1,c1,hm1,hm2,hc1,hb1⟩:=adj hc0 3 (by omega) [.live 27 4 [t.av],.live 32 8 [(AV.agg [.v (.int .i64 0),.v (.int .i64 0),.v (.string ⟨#[]⟩),.v (.int .i64 0),.v (.int .i64 0),.v (.string ⟨#[]⟩),.an,.an])]];obtain⟨u3,hO,⟨kr,hs,rfl,hn1,hn2,mz,aHx⟩,iU⟩:=atO hD t ht m1;have aFK:=j7.fresh iU (by simp only[AV.ae,AV.ag,fq,ai.ag,pI,Bool.and_true]) [cO c1,.live 27 4 [t.av],.live 32 8 [(AV.agg [.v (.int .i64 0),.v (.int .i64 0),.v (.string ⟨#[]⟩),.v (.int .i64 0),.v (.int .i64 0),.v (.string ⟨#[]⟩),.an,.an])]];have e3:([cO c1,.live 27 4 [t.av],.live 32 8 [(AV.agg [.v (.int .i64 0),.v (.int .i64 0),.v (.string ⟨#[]⟩),.v (.int .i64 0),.v (.int .i64 0),.v (.string ⟨#[]⟩),.an,.an])]]:List aj).length=3:=rfl;rw[e3]at aFK;refine oG (al:=[⟨none,(some 24),.bD (.t 1)⟩,⟨none,(some 25),.load (some 4) (.t 6)⟩,⟨none,(some 26),.bD (.t 0)⟩,⟨none,(some 27),.n6 [1] F.aH [(.t 26),(.c (.v (.int .i64 3)))]⟩,⟨none,(some 28),.build [(.v (.int .i64 0)),(.v (.int .i64 0)),(.v (.string ⟨#[]⟩)),(.v (.int .i64 0)),(.v (.int .i64 0)),(.v (.string ⟨#[]⟩)),.an,.an] [(0,1,(.c (.v (.int .i64 3)))),(1,1,(.t 27))]⟩,⟨none,(some 29),.ep 32 8 1 (.agg [(.v (.int .i64 0)),(.v (.int .i64 0)),(.v (.string ⟨#[]⟩)),(.v (.int .i64 0)),(.v (.int .i64 0)),(.v (.string ⟨#[]⟩)),.an,.an]) [(0,(.t 28))]⟩,⟨none,(some 30),.ep 28 1 1 .an [(0,(.t 29))]⟩,⟨none,(some 31),.n6 [] F.dV [(.t 24),(.t 25),(.t 30)]⟩,⟨none,(some 9),.bD (.t 31)⟩]) rfl ?_;simp only[ai.B,htl,↓OD,OA,seval];refine kE hb1 (λ n hn=>by rw[List.mem_singleton.1 hn];rfl) ?_;simp only[xz,↓OD,OA,seval];refine kE aFK (λ n hn=>by cases hn) ?_
   have er:AV.bL (λ n=>3+n) (.row kr hs.length)= .row (kr+3) hs.length:=by
    show AV.row (3+kr) _=_;rw[Nat.add_comm]
   rw[er];simp only[List.cons_append,List.nil_append,↓OD,OA,seval];refine⟨by kernel_rfl,?_⟩;generalize hOr:hO.map (aj.bL λ n=>3+n)=Or';obtain⟨m2,c2,hm3,hm4,hc2,hb2⟩:=adj hc1 (hs.length:Int) (by omega) (.live 27 4 [t.av]:: .live 32 8 [(AV.agg [.v (.int .i64 0),.v (.int .i64 0),.v (.string ⟨#[]⟩),.v (.int .i64 0),.v (.int .i64 0),.v (.string ⟨#[]⟩),.an,.an])]::Or');have hOk:Or'[kr]? =some (.live 32 8 (hs.map (AV.bL λ n=>3+n))):=by rw[←hOr,getElem?_map,mz];rfl
   obtain⟨i2,rfl⟩:=Int.eq_ofNat_of_zero_le hm3;have hi2:i2<hs.length:=by omega
   obtain⟨kd,nm,sn,pt,tk,yX,ks,hh,htk,htn,htc,hsn,aNa,hkl,hkD,aNv⟩:=aHx _ (getElem_mem hi2)
   have hgi:(hs.map (AV.bL λ n=>3+n)).getD i2 .top= .agg [aD kd,aD nm,.v (.string sn),aD pt.Kind,aD pt.N,.v (.string pt.Name),tk,yX.bL λ n=>3+n]:=by
    have:(hs.map (AV.bL λ n=>3+n))[i2]? =some ((hs[i2]).bL λ n=>3+n):=by rw[getElem?_map,List.getElem?_eq_getElem hi2];rfl
    simp only[List.getD,this,Option.getD_some,hh];simp only[AV.bL,AV.mZ,cU tk htn]
   have hkc:(yX.bL λ n=>3+n).cB=true:=by
    rcases aNv with⟨rfl,_⟩|⟨rfl,_⟩|⟨j,rfl,_⟩<;>rfl
   simp only[cO]at hb2;have aUj:=hb2;simp only[cO,hOk,length_map,aD,OA,seval];refine bS _ _ hb2 ?_;have hw8:∀a b c d e f g h:AV,(AV.agg [a,b,c,d,e,f,g,h]).cells.length=8:=λ _ _ _ _ _ _ _ _=>rfl
   have aNl:(i2:Int)<(hs.length:Int):=hm4;simp only[hOk,length_map,aD,toNat_natCast,hgi,htc,hkc,↓OD,OA,seval];refine⟨by omega,aNl,hi2,?_⟩;have mst:∀(x y:aj),(Or'++ [x]).set Or'.length y=Or'++ [y]:=λ x y=>ax8
   simp only[List.getElem?_concat_length,mst,OA,seval];have hnl:(AV.sl (aN.map ad.av)).ag=true:=fq aN;have aMQ:AV.ae [(AV.agg [.v (.int .i64 0),.v (.int .i64 0),.v (.string ⟨#[]⟩),.v (.int .i64 0),.v (.int .i64 0),.v (.string ⟨#[]⟩),.an,.an])]=true:=rfl
   have aNX:AV.ae [aD kd,aD nm,.v (.string sn),aD pt.Kind,aD pt.N,.v (.string pt.Name),tk]=true:=by
    simp only[AV.ae,AV.ag,htn,Bool.and_true]
   have aNu:(yX.ag=true/\ks= []/\(yX= .an∨yX= .sl []))∨∃j,yX= .row j ks.length/\hO[j]? =some (.live 32 8 ((ks.map cw).map aa.av)):=by
    rcases aNv with⟨rfl,h⟩|⟨rfl,h⟩|h
    ·exact .inl ⟨rfl,h,.inl rfl⟩
    ·exact .inl ⟨rfl,h,.inr rfl⟩
    ·exact .inr h
   rcases aNu with hkk|⟨j,rfl,hOj⟩
   ·rw[cU yX hkk.1];refine sF _ _ (axk (e':=fx [(0,.ptr 0 1 0 0),(1,.sl (aN.map ad.av)),(3,aD k),(8,.ptr 2 1 0 0),(10,.ptr 3 1 0 0)]) (oP c2) hnt aMQ ?_ (asC rfl rfl rfl (by decide) hnl rfl)) ?_
    ·have h1:=hkk.1;simp only[AV.ae,AV.ag,htn,h1,Bool.and_true]
    simp only[↓OD,OA,seval];refine eV (ι:=Unit) (λ _=>True) (λ _=>fx [(0,.ptr 0 1 0 0),(1,.sl (aN.map ad.av)),(3,aD k),(8,.ptr 2 1 0 0),(10,.ptr 3 1 0 0),(11,aD 0)]) (λ _=>[cO c2,.live 27 4 [t.av],.live 32 8 [(AV.agg [.v (.int .i64 0),.v (.int .i64 0),.v (.string ⟨#[]⟩),.v (.int .i64 0),.v (.int .i64 0),.v (.string ⟨#[]⟩),.an,.an])],.live 32 8 [.agg [aD kd,aD nm,.v (.string sn),aD pt.Kind,aD pt.N,.v (.string pt.Name),tk,yX]]]) (λ _=>0) () trivial (.of_eq rfl rfl) λ _ _=> ?_
    have dg:decide ((0:Int)<0)=false:=rfl;have dg':decide ((0:Int)<((0:Nat):Int))=false:=rfl
    have fin:axs 1 [.cell 8 (some 8)] (DQ9 n) .ret (fx [(8,.ptr 2 1 0 0)]) [cO c2,.live 27 4 [t.av],.live 32 8 [.agg [aD kd,aD nm,.v (.string sn),aD pt.Kind,aD pt.N,.v (.string pt.Name),tk,yX]],.live 32 8 [.agg [aD kd,aD nm,.v (.string sn),aD pt.Kind,aD pt.N,.v (.string pt.Name),tk,yX]]]:=by
     refine xu (.inl rfl) (res:= .agg [aD kd,aD nm,.v (.string sn),aD pt.Kind,aD pt.N,.v (.string pt.Name),tk,yX]) (by simp only[OA,seval]<;>rfl) ?_ (oP c2) ⟨.mk kd nm sn pt [],c2,?_,?_,hc2,rfl⟩
     ·have h1:=hkk.1;simp only[AV.ae,AV.ag,htn,h1,Bool.and_true]
     ·refine ar5 htk ?_;rcases hkk.2.2 with rfl|rfl
      ·exact .nil
      ·exact .refl _
     ·refine ar4 (by omega) hsn aNa (by simp) λ q hq=>by cases hq
    rcases hkk.2.2 with rfl|rfl
    ·simp only[aD,cO,htc,↓OD,OA,seval];simp only[cO]at fin;exact fin
    ·simp only[aD,cO,htc,length_nil,↓OD,OA,seval];simp only[cO]at fin;exact fin
   ·have aRm:Or'[j]? =some (.live 32 8 ((ks.map cw).map aa.av)):=by
      rw[←hOr,getElem?_map,hOj];simp only[Option.map_some,aj.bL,←dM,db _ (iq (ks.map cw))]
    refine sF _ _ (aBe (e':=fx [(0,.ptr 0 1 0 0),(1,.sl (aN.map ad.av)),(3,aD k),(8,.ptr 2 1 0 0),(10,.ptr 3 1 0 0)]) (cs:=[aD kd,aD nm,.v (.string sn),aD pt.Kind,aD pt.N,.v (.string pt.Name),tk]) (oP c2) hnt aMQ aNX (iq (ks.map cw)) aRm (asC rfl rfl rfl (by decide) hnl rfl)) ?_;simp only[↓OD,OA,seval];obtain⟨m,rfl⟩:∃m,n=m+1:=⟨n- 1,by omega⟩;have ih':=ih (by omega) m rfl;refine eV (ι:=Nat×List aa×et) (λ q=>q.1<=ks.length/\q.2.1.length=q.1/\(∀p∈q.2.1,p.wt<=PB9 m)/\q.2.2.ok) (λ q=>fx [(0,.ptr 0 1 0 0),(1,.sl (aN.map ad.av)),(3,aD k),(8,.ptr 2 1 0 0),(10,.ptr 3 1 0 0),(11,aD q.1)]) (λ q=>[cO q.2.2,.live 27 4 [t.av],.live 32 8 [(AV.agg [.v (.int .i64 0),.v (.int .i64 0),.v (.string ⟨#[]⟩),.v (.int .i64 0),.v (.int .i64 0),.v (.string ⟨#[]⟩),.an,.an])],.live 32 8 [.agg [aD kd,aD nm,.v (.string sn),aD pt.Kind,aD pt.N,.v (.string pt.Name),tk,.row 4 ks.length]],.live 32 8 (q.2.1.map aa.av++((ks.drop q.1).map cw).map aa.av)]) (λ q=>ks.length- q.1) (0,[],c2) ⟨Nat.zero_le _,rfl,(λ p hp=>by cases hp),hc2⟩ (.of_eq rfl rfl) λ q hq=> ?_
    obtain⟨i,ps,c3⟩:=q;obtain⟨hi,hpl,hpw,hc3⟩:=hq;simp only at hi hpl hpw hc3;by_cases aK:i<ks.length
    ·have di:decide ((i:Int)<(ks.length:Int))=true:=decide_eq_true (by omega);have e1:IntKind.i64.wrap ((i:Int)+1)=((i+1:Nat):Int):=by rw[cE (by omega) (by omega)];rfl
     have ek:IntKind.i64.wrap (k- 1)=k- 1:=cE (by omega) (by omega);have hdr:ks.drop i=ks[i]::ks.drop (i+1):=List.drop_eq_getElem_cons aK;have huD:=hkD _ (getElem_mem aK);generalize ks[i]=u at hdr huD;obtain⟨p,c4,aQq,hc4,aNP⟩:=ih' u huD c3 hc3
     have hsc:AV.bK 1 [.ptr 0 1 0 0,.sl (aN.map ad.av),u.av,aD (k- 1)]=true:=by
      simp only[AV.bK,aM _ hnl,aM _ (ai.ag u),Bool.and_true]
      rfl
     have aNO:=λ B=>lj (B:=B) aNP hsc (oP c3) (oP c4) (aa.ag p)
     have hlu:cA (some 4) (cw u).av 3=u.av:=aa.ji (cw u);have aNj:(ps.map aa.av++(cw u).av::((ks.drop (i+1)).map cw).map aa.av).getD i .top=(cw u).av:=aBU (by simp[hpl])
     have u2:(ps.map aa.av++(cw u).av::((ks.drop (i+1)).map cw).map aa.av).set i p.av=(ps++ [p]).map aa.av++((ks.drop (i+1)).map cw).map aa.av:=by
      rw[asc (by simp[hpl])];simp
     have hll:(ps.map aa.av++(cw u).av::((ks.drop (i+1)).map cw).map aa.av).length=ks.length:=by
      simp only[List.length_append,length_map,length_cons,List.length_drop,hpl];omega
     have anG:(ps.map aa.av).length+((((ks.drop (i+1)).map cw).map aa.av).length+1)=ks.length:=by
      simp only[length_map,List.length_drop,hpl];omega
     simp only[hdr,List.map_cons,aD,cO,di,htc,↓OD,OA,seval];refine⟨anG,?_⟩;refine oG (al:=[⟨none,(some 46),.bX 7 (.t 10)⟩,⟨none,(some 47),.load none (.t 46)⟩,⟨none,(some 48),.bD (.t 11)⟩,⟨none,(some 49),.bD (.t 0)⟩,⟨none,(some 50),.bD (.t 1)⟩,⟨none,(some 51),.bX 7 (.t 10)⟩,⟨none,(some 52),.load none (.t 51)⟩,⟨none,(some 53),.bD (.t 11)⟩,⟨none,(some 54),.dO 8 (.t 52) (.t 53)⟩,⟨none,(some 55),.bX 3 (.t 54)⟩,⟨none,(some 56),.load (some 4) (.t 55)⟩,⟨none,(some 57),.bD (.t 3)⟩,⟨none,(some 58),.bin .sub (.t 57) (.c (.v (.int .i64 1)))⟩,⟨none,(some 59),.n6 [3,4] F.bx [(.t 49),(.t 50),(.t 56),(.t 58)]⟩,⟨none,(some 60),.dO 8 (.t 47) (.t 48)⟩,⟨none,none,.store 8 (.t 60) (.t 59)⟩]) rfl ?_;have h7w:7<=(cw u).av.cells.length:=by rw[aa.width];decide
     simp only[toNat_natCast,aNj,hlu,ek,aa.B,↓OD,OA,seval];refine⟨anG,by omega,by omega,anG,anG,aK,?_⟩
     refine kE (aNO _) (λ n hn=>by
      simp only[mem_cons,not_mem_nil,or_false]at hn;rcases hn with rfl|rfl<;>rfl) ?_
     simp only[aD,toNat_natCast,aNj,u2,aa.B,↓OD,OA,seval];refine⟨anG,by omega,by omega,anG,aK,by kernel_rfl,?_⟩;refine dz (i+1,ps++ [p],c4) ⟨by show i+1<=_;omega,by simp[hpl],λ q hq=> ?_,hc4⟩ (by show ks.length- (i+1)<ks.length- i;omega) (.of_eq ?_ rfl)
     ·rcases List.mem_append.1 hq with hq|hq
      ·exact hpw q hq
      ·rw[List.mem_singleton.1 hq];exact aQq
     ·rw[e1]
    ·have hie:i=ks.length:=by omega
     have di:decide ((i:Int)<(ks.length:Int))=false:=decide_eq_false (by omega);have hd0:ks.drop i= []:=List.drop_of_length_le (by omega);have aHk:AV.ae (ps.map aa.av)=true:=iq ps;have hpn:(AV.sl (ps.map aa.av)).ag=true:=aHk;simp only[hd0,List.map_nil,List.append_nil,aD,cO,di,htc,↓OD,OA,seval];refine⟨by simp only[length_map];omega,?_⟩;have hq:DQ9 (m+1) (.agg [aD kd,aD nm,.v (.string sn),aD pt.Kind,aD pt.N,.v (.string pt.Name),tk,.sl (ps.map aa.av)]) [cO c3]:=⟨.mk kd nm sn pt ps,c3,ar5 htk (.refl _),ar4 (by omega) hsn aNa (by omega) hpw,hc3,rfl⟩;refine atb (.inl rfl) (cs:=[aD kd,aD nm,.v (.string sn),aD pt.Kind,aD pt.N,.v (.string pt.Name),tk,.row 4 ks.length]) (j:=7) (k:=3) (ty:=32) (zz:=8) (ks:=ps.map aa.av) (by simp only[OA,seval]<;>rfl) rfl rfl (by simp only[length_map];omega) ?_ aHk (oP c3) hq
     show(AV.agg [aD kd,aD nm,.v (.string sn),aD pt.Kind,aD pt.N,.v (.string pt.Name),tk,.sl (ps.map aa.av)]).ag=true;simp only[AV.ae,AV.ag,htn,aHk,Bool.and_true]
theorem auA{D:ai->Prop}(hD:DD D):∀(n:Nat) (t:ai) (k:Int),D t->k<=n-> -100<=k->n<=100->∀c:et,c.ok->∃(p:aa) (c':et),p.wt<=PB9 n/\c'.ok/\j7 Tryz.prog F.bx [.ptr 0 1 0 0,.sl (aN.map ad.av),t.av,aD k] [cO c] p.av [cO c']:=by
 intro n
 induction n with
 |zero=>
  intro t k ht hk hk0 hn c hc;obtain⟨res,O',⟨p,c',h1,h2,h3,rfl⟩,h5⟩:=aji hD 0 t k ht hk hk0 hn c hc (λ h m hm=>by omega);exact⟨p,c',h2,h3,j7.ahb h5 h1⟩
 |succ n ih=>
  intro t k ht hk hk0 hn c hc
  obtain⟨res,O',⟨p,c',h1,h2,h3,rfl⟩,h5⟩:=aji hD (n+1) t k ht hk hk0 hn c hc (λ h m hm u hu c hc=>by
   obtain rfl:n=m:=by omega
   exact ih u (k- 1) hu (by omega) (by omega) (by omega) c hc)
  exact⟨p,c',h2,h3,j7.ahb h5 h1⟩
end Go.Proofs.Ab
namespace Go.Ab
def lfT(k:Int):ai:= .mk k 0 ⟨#[]⟩ []
def asX(l:List ai):ai:= .mk 6 0 ⟨#[]⟩ l
def DT(t:ai):Prop:=(∃k:Int,(k=1∨k=2∨k=3)/\(t=lfT k∨t=yN (lfT k)∨t=asX [lfT k,yN (lfT k)]∨t=asX [lfT 2,lfT k]∨t= .mk 8 0 ⟨#[]⟩ [lfT k]))∨t=ig∨t=asX [ig,wF,ig]∨t=asX [yN (lfT 2),lfT 2]
theorem DT.gb{t:ai}(h:DT t):t.wt<=150:=by
 rcases h with⟨k,hk,h⟩|h|h|h
 ·rcases hk with rfl|rfl|rfl<;>rcases h with rfl|rfl|rfl|rfl|rfl<;>decide
 ·rw[h];decide
 ·rw[h];decide
 ·rw[h];decide
theorem apU:fh aN ⟨#[108,105,115,116]⟩=some aN[0]:=by kernel_rfl
theorem apT:fh aN ⟨#[116,114,101,101]⟩=some aN[1]:=by kernel_rfl
theorem DT.kids{t:ai}(h:DT t)(h6:t.Kind=6):t.Kids.length<=6/\∀u∈t.Kids,DT u:=by
 have l:∀k:Int,(k=1∨k=2∨k=3)->DT (lfT k):=λ k hk=> .inl ⟨k,hk,.inl rfl⟩
 have ll:∀k:Int,(k=1∨k=2∨k=3)->DT (yN (lfT k)):=λ k hk=> .inl ⟨k,hk,.inr (.inl rfl)⟩
 have tr:DT ig:= .inr (.inl rfl);have b2:(2:Int)=1∨(2:Int)=2∨(2:Int)=3:= .inr (.inl rfl);rcases h with⟨k,hk,h⟩|h|h|h
 ·rcases h with rfl|rfl|rfl|rfl|rfl
  ·exfalso;have:k=6:=h6;omega
  ·cases h6
  ·refine⟨by show 2<=6;omega,λ u hu=> ?_⟩;rcases List.mem_cons.1 hu with rfl|hu
   ·exact l k hk
   ·rw[List.mem_singleton.1 hu];exact ll k hk
  ·refine⟨by show 2<=6;omega,λ u hu=> ?_⟩;rcases List.mem_cons.1 hu with rfl|hu
   ·exact l 2 b2
   ·rw[List.mem_singleton.1 hu];exact l k hk
  ·cases h6
 ·rw[h]at h6;cases h6
 ·rw[h];refine⟨by show 3<=6;omega,λ u hu=> ?_⟩;rcases List.mem_cons.1 hu with rfl|hu
  ·exact tr
  rcases List.mem_cons.1 hu with rfl|hu
  ·exact l 1 (.inl rfl)
  ·rw[List.mem_singleton.1 hu];exact tr
 ·rw[h];refine⟨by show 2<=6;omega,λ u hu=> ?_⟩;rcases List.mem_cons.1 hu with rfl|hu
  ·exact ll 2 b2
  ·rw[List.mem_singleton.1 hu];exact l 2 b2
theorem DT.dat{t:ai}(h:DT t)(h7:t.Kind=7):(∃k:Int,(k=1∨k=2∨k=3)/\t=yN (lfT k))∨t=ig:=by
 rcases h with⟨k,hk,h⟩|h|h|h
 ·rcases h with rfl|rfl|rfl|rfl|rfl
  ·exfalso;have:k=7:=h7;omega
  ·exact .inl ⟨k,hk,rfl⟩
  ·cases h7
  ·cases h7
  ·cases h7
 ·exact .inr h
 ·rw[h]at h7;cases h7
 ·rw[h]at h7;cases h7
end Go.Ab
namespace Go.Proofs.Ab
open Go.Ab
theorem aON:DD DT where
 wt:=λ t h=>by have:=h.gb;omega
 kids:=λ t h h6=>h.kids h6
 put:=λ t h h7 d hd hi c hc hh=>by
  rcases h.dat h7 with⟨k,hk,rfl⟩|rfl
  ·rw[show(yN (lfT k)).Name=⟨#[108,105,115,116]⟩from rfl,apU]at hi;injection hi with hi;subst hi;rcases ajk hc with rfl|rfl
   ·cases hh
   ·rw[aeE];exact .inl ⟨k,hk,.inr (.inr (.inl rfl))⟩
  ·rw[show ig.Name=⟨#[116,114,101,101]⟩from rfl,apT]at hi;injection hi with hi;subst hi;rcases ajj hc with rfl|rfl
   ·cases hh
   ·rw[aeD];exact .inr (.inr (.inl rfl))
 name:=λ t h h7=>by
  rcases h.dat h7 with⟨k,hk,rfl⟩|rfl
  ·exact .inl rfl
  ·exact .inr rfl
theorem j7.aOH{P:Program}{f:FuncId}{tq bs:List AV}{O O':List aj}{res:AV}(h:j7 P f bs O res O')(hl:tq.length=bs.length)(hle:∀(i:Nat) (a b:AV),tq[i]? =some a->bs[i]? =some b->AV.oY a b):j7 P f tq O res O':=
 ⟨h.1,λ I L w vs hi hr=>h.2 I L w vs hi ⟨by rw[←hl];exact hr.1,λ i b x hb hx=>by
   obtain⟨a,ha⟩:=pJ hl hb;exact(hle i a b ha hb).sound (hr.2 i a x ha hx)⟩⟩
structure TA(ta:AV)(t:ai):Prop where
 eq:∃tk,ta= .agg [aD t.Kind,aD t.N,.v (.string t.Name),tk]/\AV.oY tk (.sl (t.Kids.map ai.av))/\tk.ag=true/\tk.cB=true
theorem TA.le{ta:AV}{t:ai}(h:TA ta t):AV.oY ta t.av:=by
 obtain⟨tk,rfl,h1,_,_⟩:=h.eq;rw[←ai.eta t];refine .agg _ _ rfl λ i c d hc hd=> ?_
 match i,hc,hd with
 |0,hc,hd|1,hc,hd|2,hc,hd=>cases hc;cases hd;exact .refl _
 |3,hc,hd=>cases hc;cases hd;exact h1
theorem TA.nor{ta:AV}{t:ai}(h:TA ta t):ta.ag=true:=by
 obtain⟨tk,rfl,_,h1,_⟩:=h.eq;simp only[AV.ag,AV.ae,h1,Bool.and_true]
theorem aCS{t:ai}(ht:DT t){ta:AV}(hta:TA ta t){c:et}(hc:c.ok){K:AV->Prop}(k:∀(p:aa) (c':et),p.wt<=1000000->c'.ok->gn K (.aZ [p.av,.sl (rk c'.l),aD c'.i,aD c'.h])):
  rB Tryz.prog F.bx G.bx [.sl (rk c.l),aD c.i,aD c.h,.sl (aN.map ad.av),ta,aD 3] K:=by
 obtain⟨p,c',h1,h2,h3⟩:=auA aON 3 t 3 ht (by decide) (by decide) (by decide) c hc
 have h4:j7 Tryz.prog F.bx [.ptr 0 1 0 0,.sl (aN.map ad.av),ta,aD 3] [cO c] p.av [cO c']:=j7.aOH h3 rfl λ i a b ha hb=>by
  match i,ha,hb with
  |0,ha,hb|1,ha,hb|3,ha,hb=>cases ha;cases hb;exact .refl _
  |2,ha,hb=>cases ha;cases hb;exact hta.le
 have h5:jY Tryz.prog F.bx G.bx [.sl (rk c.l),aD c.i,aD c.h,.sl (aN.map ad.av),ta,aD 3] (p.av::et.gL c'):=h4;have hw:p.wt<=1000000:=le_trans h1 (by decide);exact fj h5 rfl (by have:=c'.ag;have:=aa.ag p;simp only[AV.ae,et.gL]at*;simp_all) (k p c' hw h2)
def aFp:ByteArray:=⟨#[116,121,112,101,32,39,97,32,108,105,115,116,32,61,32,78,105,108,32,124,32,67,111,110,115,32,111,102,32,39,97,32,42,32,108,105,115,116,32,39,97,59,10,116,121,112,101,32,116,114,101,101,32,61,32,76,101,97,102,32,124,32,78,111,100,101,32,111,102,32,116,114,101,101,32,42,32,105,110,116,32,42,32,116,114,101,101,59,10]⟩
theorem axG:aFp++⟨#[49]⟩=aGD:=by kernel_rfl
theorem aL2:aW Tryz.prog F.j9 [] (.v (.string aFp)):=T.xi rfl rfl (by simp only[T.j9,WA,seval];rfl)
theorem ape:amU.isAgg=true:=rfl
theorem apd:amU.cells.length=8:=rfl
theorem ahd:amU.storable=true:=by kernel_rfl
theorem axH:(AV.aZ [amU,akb]).ag=true:=by kernel_rfl
theorem aeG:akb.isAgg=true:=rfl
theorem aeF:akb.cells.length=2:=rfl
theorem wM:akb.storable=true:=by kernel_rfl
theorem axa:(AV.aZ [.sl (aN.map ad.av),akb]).ag=true:=by kernel_rfl
theorem aCP{l:List AV}{m:Int}{K:AV->Prop}(h0:0<=m)(h1:m<(l.length:Int))(hl:∀a∈l,∃t,DT t/\TA a t)(k:∀ta t,DT t->TA ta t->gn K ta):jE 4 (.sl l) (aD m) K:=by
 obtain⟨i,rfl⟩:=Int.eq_ofNat_of_zero_le h0;have hi:i<l.length:=by omega
 obtain⟨t,ht,hta⟩:=hl _ (getElem_mem hi);refine xT l[i] (List.getElem?_eq_getElem hi) ?_ (k _ t ht hta);obtain⟨tk,e,_⟩:=hta.eq;rw[e];rfl
theorem TA.flat(k n:Int)(s:ByteArray):TA (.agg [aD k,aD n,.v (.string s),.an]) (.mk k n s []):=⟨.an,rfl,.nil,rfl,rfl⟩
theorem TA.lea{ta:AV}{t:ai}(h:TA ta t):LeA ta t.av:=by
 obtain⟨tk,rfl,h1,_,_⟩:=h.eq;rw[←ai.eta t];exact .mk (.cons (.refl _) (.cons (.refl _) (.cons (.refl _) (.cons h1 .nil))))
theorem TA.one{ta:AV}{t:ai}(k n:Int)(s:ByteArray)(h:TA ta t):TA (.agg [aD k,aD n,.v (.string s),.sl [ta]]) (.mk k n s [t]):=
 ⟨.sl [ta],rfl,(lH.cons h.lea .nil).sl,by simp only[AV.ag,AV.ae,h.nor,Bool.and_true],rfl⟩
theorem TA.two{ta tb:AV}{t u:ai}(k n:Int)(s:ByteArray)(h:TA ta t)(h':TA tb u):TA (.agg [aD k,aD n,.v (.string s),.sl [ta,tb]]) (.mk k n s [t,u]):=
 ⟨.sl [ta,tb],rfl,(lH.cons h.lea (.cons h'.lea .nil)).sl,by simp only[AV.ag,AV.ae,h.nor,h'.nor,Bool.and_true],rfl⟩
structure LQ(outs:List AV):Prop where
 eq:∃(ta:AV) (t:ai) (c:et) (pa:List AV) (ps:List aa),outs= [.sl (aN.map ad.av),.sl (rk c.l),aD c.i,aD c.h,ta,.sl pa]/\AV.oY ta t.av/\ta.ag=true/\ta.isAgg=true/\ta.cells.length=4/\ta.storable=true/\t.wt<=150/\c.ok/\lH pa (ps.map aa.av)/\AV.ae pa=true/\RB5 ps
theorem aas:∀l:List AV,AV.ae l=l.all AV.ag
 | []=>rfl
 |a::l=>by rw[AV.ae,aas l];rfl
theorem amI{c:et}(hc:c.ok){ta:AV}{t:ai}{pa:List AV}{ps:List aa}(h1:AV.oY ta t.av)(h2:ta.ag=true)(h3:ta.isAgg=true)(h4:ta.cells.length=4)(h5:ta.storable=true)(h6:t.wt<=150)(h7:lH pa (ps.map aa.av))(h8:AV.ae pa=true)(h9:RB5 ps):
  aj8 (ex 6 LQ) [.sl (aN.map ad.av),.sl (rk c.l),aD c.i,aD c.h,ta,.sl pa]:=by
 unfold aj8 ex;exact⟨_,rfl,⟨ta,t,c,pa,ps,rfl,h1,h2,h3,h4,h5,h6,hc,h7,h8,h9⟩,rfl⟩
theorem ac5(p:aa):LeA p.av p.av:=by
 rw[←aa.eta p];exact .mk (.cons (.refl _) (.cons (.refl _) (.cons (.refl _) (.cons (.refl _) (.cons (.refl _) (.cons (.refl _) (.cons (.refl _) (.cons (.refl _) .nil))))))))
theorem aeN{kd nm:Int}{s:ByteArray}{pt:ai}{tk yX:AV}{ks:List aa}(h1:AV.oY tk (.sl (pt.Kids.map ai.av)))(h2:AV.oY yX (.sl (ks.map aa.av))):LeA (.agg [aD kd,aD nm,.v (.string s),aD pt.Kind,aD pt.N,.v (.string pt.Name),tk,yX]) (aa.mk kd nm s pt ks).av:=by
 rw[←aa.eta (aa.mk kd nm s pt ks)];exact .mk (.cons (.refl _) (.cons (.refl _) (.cons (.refl _) (.cons (.refl _) (.cons (.refl _) (.cons (.refl _) (.cons h1 (.cons h2 .nil))))))))
theorem ane{a b:AV}(h:LeA a b):∀n:Nat,lH (List.replicate n a) (List.replicate n b)
 |0=> .nil
 |n+1=> .cons h (ane h n)
theorem ays{c:et}(hc:c.ok)(ax6:Int)(hm1:1<=ax6)(hm8:ax6<=8):∃outs,outs.length=6/\LQ outs/\jY Tryz.prog F.dI G3.dI [.sl (rk c.l),aD c.i,aD c.h,aD ax6] outs:=by
 have ej:∃outs:List AV,outs.length=6/\LQ outs:=⟨_,rfl,⟨(lfT 1).av,lfT 1,c,[],[],rfl,.refl _,ai.ag _,ai.isAgg _,ai.width _,ai.storable _,by decide,hc,.nil,rfl,⟨by simp,λ p hp=>by cases hp⟩⟩⟩
 have hw:cL Tryz.prog LF (ex 6 LQ) T3.dI [.sl (rk c.l),aD c.i,aD c.h,aD ax6] []:=by
  simp only[T3.dI,WA];refine aJ aL2 ?_;simp only[axG,WA];refine⟨of_decide_eq_true (by kernel_rfl),?_⟩;refine bH atq axH ?_;simp only[ape,apd,ahd,aeG,aeF,wM,WA,reduceAdd];refine bH asY axa ?_;simp only[aeG,aeF,wM,WA,reduceAdd];refine oH hc 3 (by omega) λ m c1 h0 h1 hc1=> ?_
  have e1:IntKind.i64.wrap (1+m)=1+m:=cE (by omega) (by omega);simp only[aD,e1,WA,reduceAdd];refine oH hc1 7 (by omega) λ m2 c2 g0 g1 hc2=> ?_
  simp only[WA];have hk:1+m=1∨1+m=2∨1+m=3:=by omega
  refine aCP g0 (by simp only[length_cons,length_nil];omega) (λ a ha=> ?_) λ ta t hdt hta=> ?_
  ·simp only[mem_cons,not_mem_nil,or_false]at ha;rcases ha with rfl|rfl|rfl|rfl|rfl|rfl|rfl
   ·exact⟨lfT (1+m),.inl ⟨_,hk,.inl rfl⟩,TA.flat _ _ _⟩
   ·exact⟨lfT 2,.inl ⟨2,.inr (.inl rfl),.inl rfl⟩,TA.flat 2 0 _⟩
   ·exact⟨yN (lfT (1+m)),.inl ⟨_,hk,.inr (.inl rfl)⟩,TA.one 7 0 _ (TA.flat _ _ _)⟩
   ·exact⟨ig,.inr (.inl rfl),TA.flat 7 0 _⟩
   ·exact⟨asX [lfT 2,lfT (1+m)],.inl ⟨_,hk,.inr (.inr (.inr (.inl rfl)))⟩,TA.two 6 0 _ (TA.flat 2 0 _) (TA.flat _ _ _)⟩
   ·exact⟨asX [yN (lfT 2),lfT 2],.inr (.inr (.inr rfl)),TA.two 6 0 _ (TA.one 7 0 _ (TA.flat 2 0 _)) (TA.flat 2 0 _)⟩
   ·exact⟨.mk 8 0 ⟨#[]⟩ [lfT (1+m)],.inl ⟨_,hk,.inr (.inr (.inr (.inr rfl)))⟩,TA.one 8 0 _ (TA.flat _ _ _)⟩
  have hle:=hta.le;have hnr:=hta.nor;have hgb:=hdt.gb;have aQh:=hta;obtain⟨tk,rfl,aMX,aQg,anA⟩:=hta.eq;simp only[anA,WA,reduceAdd];refine bN (λ ws=>∃(c:et) (ps:List aa),ws= [.sl (rk c.l),aD c.i,aD c.h,.sl (ps.map aa.av)]/\c.ok/\(∀p∈ps,p.wt<=1000000)/\1<=ps.length/\ps.length<=8) ?_ ?_
  ·simp only[WA];refine oH hc2 ax6 (by omega) λ m3 c3 k0 k1 hc3=> ?_
   have e3:IntKind.i64.wrap (1+m3)=1+m3:=cE (by omega) (by omega);simp only[aD,e3,WA];refine atF aa.av (λ p=>p.wt<=1000000) hc3 (1+m3) (by omega) λ c xs i nS hxs hi0 hin=> ?_
   simp only[WA];refine aC (λ hgt=> ?_) (λ hgt=> ?_)
   ·simp only[anA,WA,reduceAdd];refine aCS hdt aQh nS λ p c' hp aRc=> ?_
    have e4:IntKind.i64.wrap (i- 1)=i- 1:=cE (by omega) (by omega);simp only[aD,e4,aa.B,length_map,WA,reduceAdd,reduceLeDiff];exact⟨λ y hy=>by rw[hy];exact aa.width _,by omega,by omega,hgt,c',p,aRc,hp,rfl⟩
   ·simp only[WA];exact⟨c,xs,rfl,nS,hxs,by omega,by omega⟩
  ·rintro ws ⟨c4,ps,rfl,hc4,hps,hl1,hl8⟩ _;simp only[WA];refine oH hc4 30 (by omega) λ m5 c5 j0 j1 hc5=> ?_
   simp only[aD,WA];have hpa:lH (ps.map aa.av) (ps.map aa.av):=lH.map λ p _=>ac5 p
   have hpn:AV.ae (ps.map aa.av)=true:=iq ps;have hrb:RB5 ps:=⟨by omega,hps⟩
   have nQ:(AV.agg [aD t.Kind,aD t.N,.v (.string t.Name),tk]).storable=true:=by
    show(true&&(true&&(true&&(tk.cB&&true))))=true;rw[anA];rfl
   have hnA:∀x:Int,(AV.agg [aD x,aD 0,.v (.string ⟨#[]⟩),aD t.Kind,aD t.N,.v (.string t.Name),tk,.an]).ag=true:=λ x=>by simp only[AV.ae,AV.ag,aQg,Bool.and_true]
   refine aC (λ q0=> ?_) (λ q0=> ?_)
   ·simp only[WA];refine(azS 2 2 1 (by decide) (by decide) (by decide) (by decide) hc5).use rfl ai.ag λ x c6 hx hc6=> ?_
    simp only[aD,ai.E,WA,reduceAdd];exact amI hc6 (.refl _) (ai.ag x) (ai.isAgg x) (ai.width x) (ai.storable x) (le_trans hx.wt (by decide)) hpa hpn hrb
   simp only[WA];refine aC (λ q1=> ?_) (λ q1=> ?_)
   ·simp only[anA,WA,reduceAdd];exact amI (ps:=[]) hc5 hle hnr rfl rfl nQ hgb .nil rfl ⟨by simp,λ p hp=>by cases hp⟩
   simp only[WA];refine aC (λ q2=> ?_) (λ q2=> ?_)
   ·simp only[WA];refine fK (ι:=et×Nat) (λ q=>q.1.ok/\ps.length+q.2<=31) (λ q=>[.sl (rk q.1.l),aD q.1.i,aD q.1.h,.sl (ps.map aa.av++List.replicate q.2 (.agg [.v (.int .i64 1),.v (.int .i64 0),.v (.string ⟨#[]⟩),.v (.int .i64 t.Kind),.v (.int .i64 t.N),.v (.string t.Name),tk,.an]))]) (λ q=>31- (ps.length+q.2)) (c5,0) ⟨hc5,by omega⟩ (by simp) λ q hq=> ?_
    obtain⟨c6,j⟩:=q;obtain⟨hc6,hj⟩:=hq;simp only at hc6 hj;simp only[aD,List.length_append,List.length_replicate,length_map,WA];refine oH hc6 2 (by omega) λ m7 c7 r0 r1 hc7=> ?_
    have e7:IntKind.i64.wrap (30+m7)=30+m7:=cE (by omega) (by omega);simp only[aD,e7,WA];refine aC (λ aK=> ?_) (λ aK=> ?_)
    ·simp only[length_map,anA,WA,reduceAdd,reduceLeDiff];refine⟨λ y hy=>by rw[hy];rfl,by omega,by omega,(c7,j+1),⟨hc7,by show ps.length+(j+1)<=31;omega⟩,by show 31- (ps.length+(j+1))<_;omega,?_⟩;rw[List.append_assoc,←List.replicate_succ']
    ·simp only[anA,WA,reduceAdd];refine amI hc7 hle hnr rfl rfl nQ hgb (ps:=ps++List.replicate j (cw t)) ?_ ?_ ⟨by simp;omega,λ p hp=> ?_⟩
     ·rw[map_append,List.map_replicate];exact hpa.app (ane (aeN (kd:=1) (nm:=0) (s:=⟨#[]⟩) (ks:=[]) aMX .nil) j)
     ·rw[aas];simp only[List.all_append,Bool.and_eq_true];exact⟨by rw[←aas];exact hpn,List.all_eq_true.2 λ y hy=>by rw[List.eq_of_mem_replicate hy];exact hnA 1⟩
     ·rcases List.mem_append.1 hp with hp|hp
      ·exact hps p hp
      ·rw[List.eq_of_mem_replicate hp];exact le_trans (uV 3 1 (by omega)) (by decide)
   simp only[WA];refine aC (λ q3=> ?_) (λ q3=> ?_)
   ·simp only[WA];refine oH hc5 8 (by omega) λ m8 c8 s0 s1 hc8=> ?_
    simp only[aD,length_map,anA,WA,reduceAdd,Int.reduceLE]
    obtain⟨p0,pr,rfl⟩:∃p0 pr,ps=p0::pr:=by
     cases ps with
     |nil=>simp at hl1
     |cons a b=>exact⟨a,b,rfl⟩
    have hup:ua p0.av 0 (.agg [aD m8,aD 0,.v (.string ⟨#[]⟩),aD t.Kind,aD t.N,.v (.string t.Name),tk,.an])= .agg [aD m8,aD 0,.v (.string ⟨#[]⟩),aD t.Kind,aD t.N,.v (.string t.Name),tk,.an]:=aip (by rw[aa.width];rfl);refine⟨by simp only[length_cons];omega,by simp only[length_cons];exact Nat.zero_lt_succ _,?_,?_⟩
    ·show 8<=p0.av.cells.length;rw[aa.width];decide
    have hg0:(List.map aa.av (p0::pr)).getD (Int.toNat 0) AV.top=p0.av:=rfl;rw[hg0];simp only[aD]at hup;rw[hup];refine amI (ps:= .mk m8 0 ⟨#[]⟩ t []::pr) hc8 hle hnr rfl rfl nQ hgb (.cons (aeN (ks:=[]) aMX .nil) (lH.map λ p _=>ac5 p)) ?_ ⟨hrb.len,λ p hp=> ?_⟩
    ·have:=iq pr;have h2:=hnA m8;simp only[aD]at h2
     show AV.ae (_::pr.map aa.av)=true;simp only[AV.ae,this,Bool.and_true];exact h2
    ·rcases List.mem_cons.1 hp with rfl|hp
     ·exact le_trans (uV 3 m8 (by omega)) (by decide)
     ·exact hps p (by simp[hp])
   ·simp only[anA,WA,reduceAdd];exact amI hc5 hle hnr rfl rfl nQ hgb hpa hpn hrb
 obtain⟨outs,hl,hq,h⟩:=anS ej hw;exact⟨outs,hl,hq,T3.z8 rfl hl (by simp[AV.ae,AV.ag,cH]) h⟩
theorem aW.aLX{P:Program}{f:FuncId}{tq:List AV}{v a b a' b':AV}(h:aW P f tq (.aZ [v,a,b]))(h1:AV.oY a a')(h2:AV.oY b b'):aW P f tq (.aZ [v,a',b']):=by
 refine⟨h.1,λ I L w vs hi hr=>(h.2 I L w vs hi hr).mono ?_⟩;rintro e w' ⟨x,I',L',he,hx,hg⟩;refine⟨x,I',L',he,?_,hg⟩;cases hx with
 |aZ cs xs hl hc=>
  refine .aZ _ _ hl λ i c x h1' h2'=> ?_
  match i,h1' with
  |0,h=>cases h;exact hc 0 v x rfl h2'
  |1,h=>cases h;exact h1.sound (hc 1 a x rfl h2')
  |2,h=>cases h;exact h2.sound (hc 2 b x rfl h2')
theorem aB2(l:List Int)(hl:l.length<=1048576):∃n:Int,1<=n/\n<=8/\aW Tryz.prog F.mb [.sl (rk l),aD 8] (aD n):=by
 have h0:(0:Int)<=(l.length:Int)/12:=Int.ediv_nonneg (by omega) (by omega);have h1:(l.length:Int)/12<=l.length:=Int.ediv_le_self _ (by omega)
 have w:IntKind.i64.wrap (Int.tdiv (l.length:Int) 12)=(l.length:Int)/12:=by
  rw[Int.tdiv_eq_ediv_of_nonneg (by omega)];exact cE (by omega) (by omega)
 have w2:IntKind.i64.wrap (3+(l.length:Int)/12)=3+(l.length:Int)/12:=cE (by omega) (by omega);by_cases h:8<3+(l.length:Int)/12
 ·refine⟨8,by omega,by omega,T.tI rfl (by simp[AV.ae,AV.ag,cH]) ?_⟩;simp only[T.mb,length_map,w,w2,decide_eq_true h,WA,seval]
 ·refine⟨3+(l.length:Int)/12,by omega,by omega,T.tI rfl (by simp[AV.ae,AV.ag,cH]) ?_⟩;simp only[T.mb,length_map,w,w2,decide_eq_false h,WA,seval]
theorem ahF(l:List Int)(hl:l.length<=1048576)(hb:∀x∈l,0<=x/\x<256):∃(t:ai) (aB:List aa),t.wt<=150/\RB5 aB/\aW Tryz.prog F.iJ [.sl (rk l)] (.aZ [.sl (aN.map ad.av),t.av,.sl (aB.map aa.av)]):=by
 obtain⟨c,hc,rfl,jB⟩:=ajS l hl hb;obtain⟨n,n1,n8,rI⟩:=aB2 c.l hl;obtain⟨outs,hlo,⟨ta,t,c',pa,ps,rfl,h1,h2,h3,h4,h5,h6,h7,h8,h9,h10⟩,iU⟩:=ays hc n n1 n8;refine⟨t,ps,h6,h10,aW.aLX ?_ h1 h8.sl⟩;refine T3.uI rfl (by simp[AV.ae,AV.ag,cH]) ?_;obtain⟨a0,a1,a2,a3,rfl⟩:∃a0 a1 a2 a3,ta= .agg [a0,a1,a2,a3]:=aDj h3 h4
 have cJ:AV.ae [.sl (aN.map ad.av),.sl (rk c'.l),aD c'.i,aD c'.h,.agg [a0,a1,a2,a3],.sl pa]=true:=by
  have e1:=fq aN;have e2:(AV.agg [a0,a1,a2,a3]).ag=true:=h2;have e3:(AV.sl pa).ag=true:=h9;have e4:AV.ae [AV.agg [a0,a1,a2,a3],AV.sl pa]=true:=by rw[AV.ae,AV.ae,e2,e3];rfl
  have e5:AV.ae [.sl (aN.map ad.av),.sl (rk c'.l),aD c'.i,aD c'.h]=true:=by simp only[AV.ae,AV.ag,e1,cH,Bool.and_true]
  exact(b9 (a:=[.sl (aN.map ad.av),.sl (rk c'.l),aD c'.i,aD c'.h]) (b:=[AV.agg [a0,a1,a2,a3],AV.sl pa])).trans (by rw[e4,e5];rfl)
 simp only[T3.iJ,WA,seval];refine fj jB rfl (by have:=c.ag;simpa [et.gL]using this) ?_;simp only[et.gL,WA,seval];refine aJ rI ?_;simp only[WA,seval];refine fj iU rfl cJ ?_;simp only[h5,WA,seval]
end Go.Proofs.Ab
