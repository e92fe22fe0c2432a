/-
  TEXTS OF CODE PARSED: the whole text, by the reference.
-/
import Derived.Test.YtkinchcjijhmgaaGreatDoorPCode2
import Derived.Test.YtkinchcjijhmgaaGreatDoorWPc3
open List(append_nil cons_append nil_append)
open Nat(reduceEqDiff reduceLeDiff reduceAdd reduceLT reduceMul)
set_option linter.unusedVariables false
set_option linter.unusedSimpArgs false
namespace Go.Proofs.Ab
open Go.Ab
set_option maxRecDepth 100000
theorem kM(k:Nat)(c:ai)(w:ByteArray):kg k c [w]=if w=⟨#[]⟩/\k≠0/\c.qW=true then(c,-1)else(ic,(k:Int)):=by rw[kg]
theorem akC{s:ByteArray}(h:s.size=0):s=⟨#[]⟩:=by
 have hl:=ep s;apply abP;rw[List.eq_nil_of_length_eq_zero (hl.trans h)];rfl
def aas(q:ai×Int):AV:=if q.2= -1 then q.1.av else .agg [.aQ,.aQ]
theorem amp{q:ai×Int}(h:q.2= -1∨q.1=ic):AV.leD (aas q) q.1.av:=by
 unfold aas
 split
 ·exact .refl _
 ·rename_i h1;rcases h with h|h
  ·exact absurd h h1
  ·rw[h,←ai.eta];refine .agg _ _ rfl λ i c d h1 h2=> ?_
   match i,h1,h2 with
   |0,h1,h2=>cases h1;cases h2;exact .nil
   |1,h1,h2=>cases h1;cases h2;exact .nil
theorem aar:∀(l:List ByteArray) (k:Nat) (c:ai),(kg k c l).2= -1∨(kg k c l).1=ic
 | [],k,c=> .inr rfl
 | [w],k,c=>by
   rw[kM]
   split
   ·exact .inl rfl
   ·exact .inr rfl
 |w::v::r,k,c=>by
  rw[jL _ _ _ _ (by simp)];cases gK k c w with
  |none=>exact .inr rfl
  |some d=>exact aar (v::r) (k+1) d
theorem sW(s:ByteArray)(hs:s.size<=1048576):aI Tryz.prog F.dF [bE s] (.aK [aas (ef s),br (ef s).2]):=by
 have hl:=ep s;generalize hq:ef s=q
 have dp:s.extract 0 s.size=s:=by
  apply fP;rw[j2,List.drop_zero]
 have bad:∀k:Nat,q=(ic,(k:Int))->AV.aK [aas q,br q.2]= .aK [.agg [.aQ,.aQ],br k]:=λ k h=>by
  rw[h];unfold aas;rw[if_neg (by simp only;omega)]
 refine T.qi rfl rfl ?_;simp only[T.dF,WA,reduceEqDiff,reduceAdd,reduceLT,reduceLeDiff,reduceMul,reduceIte,reduceCtorEq,Int.reduceEq,Int.reduceLT,Int.reduceLE,Int.reduceNe];refine dx (λ vs=>∃(k:Nat) (c:ai),k≠0/\c.wt<=s.size/\q=kg k c [⟨#[]⟩]/\vs= [.sl (c.aM.map br),.sl (c.ar.map aa.av),br k]) ?_ ?_
 ·simp only[WA,reduceEqDiff,reduceAdd,reduceLT,reduceLeDiff,reduceMul,reduceIte,reduceCtorEq,Int.reduceEq,Int.reduceLT,Int.reduceLE,Int.reduceNe]
  refine cM (ι:=Nat×ai×Nat) (λ z=>z.2.2<=s.size/\q=kg z.1 z.2.1 (df 10 (s.extract z.2.2 s.size))/\z.2.1.wt<=z.2.2/\(z.1=0->z.2.1=ic/\z.2.2=0)/\z.1<=z.2.2)
   (λ z=>[if z.1=0 then .aQ else .sl (z.2.1.aM.map br),.sl (z.2.1.ar.map aa.av),br z.1,br z.2.2]) (λ z=>s.size+1- z.1) (0,ic,0)
   ⟨Nat.zero_le _,by rw[dp];exact hq.symm,by decide,λ _=>⟨rfl,rfl⟩,Nat.le_refl _⟩ rfl ?_
  rintro⟨k,c,i⟩ ⟨hi,hI,hw,h0,hki⟩;simp only at hi hI hw h0 hki;simp only[WA,reduceEqDiff,reduceAdd,reduceLT,reduceLeDiff,reduceMul,reduceIte,reduceCtorEq,Int.reduceEq,Int.reduceLT,Int.reduceLE,Int.reduceNe];refine dx (λ _=>i<s.size∨k=0) ?_ ?_
  ·simp only[WA,reduceEqDiff,reduceAdd,reduceLT,reduceLeDiff,reduceMul,reduceIte,reduceCtorEq,Int.reduceEq,Int.reduceLT,Int.reduceLE,Int.reduceNe];refine bw [.v (.bool (decide (i<s.size∨k=0)))] rfl ?_ ?_
   ·simp only[WA,reduceEqDiff,reduceAdd,reduceLT,reduceLeDiff,reduceMul,reduceIte,reduceCtorEq,Int.reduceEq,Int.reduceLT,Int.reduceLE,Int.reduceNe];refine aq (λ h=> ?_) (λ h=> ?_)
    ·have:decide (i<s.size∨k=0)=true:=decide_eq_true (.inl (by omega));simp only[this,WA,reduceEqDiff,reduceAdd,reduceLT,reduceLeDiff,reduceMul,reduceIte,reduceCtorEq,Int.reduceEq,Int.reduceLT,Int.reduceLE,Int.reduceNe]
    ·have:decide (i<s.size∨k=0)=decide ((k:Int)=0):=decide_eq_decide.2 (by omega);simp only[this,WA,reduceEqDiff,reduceAdd,reduceLT,reduceLeDiff,reduceMul,reduceIte,reduceCtorEq,Int.reduceEq,Int.reduceLT,Int.reduceLE,Int.reduceNe]
   ·simp only[WA,reduceEqDiff,reduceAdd,reduceLT,reduceLeDiff,reduceMul,reduceIte,reduceCtorEq,Int.reduceEq,Int.reduceLT,Int.reduceLE,Int.reduceNe];refine aq (λ h=> ?_) (λ h=> ?_)
    ·simp only[WA,reduceEqDiff,reduceAdd,reduceLT,reduceLeDiff,reduceMul,reduceIte,reduceCtorEq,Int.reduceEq,Int.reduceLT,Int.reduceLE,Int.reduceNe];exact h
    ·have hk:k≠0:=λ e=>h (.inr e)
     have he:i=s.size:=by
      have:¬i<s.size:=λ e=>h (.inl e)
      omega
     simp only[if_neg hk,WA,reduceEqDiff,reduceAdd,reduceLT,reduceLeDiff,reduceMul,reduceIte,reduceCtorEq,Int.reduceEq,Int.reduceLT,Int.reduceLE,Int.reduceNe];refine⟨k,c,hk,by omega,?_,rfl⟩;rw[hI];have:s.extract i s.size=⟨#[]⟩:=akC (by rw[ByteArray.size_extract];omega);rw[this];rfl
  ·rintro vs hik hv;obtain rfl:=List.eq_nil_of_length_eq_zero hv;simp only[append_nil,WA,reduceEqDiff,reduceAdd,reduceLT,reduceLeDiff,reduceMul,reduceIte,reduceCtorEq,Int.reduceEq,Int.reduceLT,Int.reduceLE,Int.reduceNe];refine dx (λ vs=>∃(d:ai) (i':Nat),i'<=s.size/\q=kg (k+1) d (df 10 (s.extract i' s.size))/\d.wt<=i'/\k+1<=i'/\vs= [.sl (d.aM.map br),.sl (d.ar.map aa.av),br i']) ?_ ?_
   ·simp only[WA,reduceEqDiff,reduceAdd,reduceLT,reduceLeDiff,reduceMul,reduceIte,reduceCtorEq,Int.reduceEq,Int.reduceLT,Int.reduceLE,Int.reduceNe];refine dx (λ vs=>∃e:Nat,i<=e/\e<=s.size/\(∀j,i<=j->j<e->s.data.toList[j]? ≠some 10)/\(e=s.size∨s.data.toList[e]? =some 10)/\vs= [br e]) ?_ ?_
    ·simp only[WA,reduceEqDiff,reduceAdd,reduceLT,reduceLeDiff,reduceMul,reduceIte,reduceCtorEq,Int.reduceEq,Int.reduceLT,Int.reduceLE,Int.reduceNe];refine cM (ι:=Nat) (λ e=>i<=e/\e<=s.size/\∀j,i<=j->j<e->s.data.toList[j]? ≠some 10) (λ e=>[br e]) (λ e=>s.size- e) i ⟨Nat.le_refl _,hi,λ j h1 h2=>by omega⟩ rfl ?_;rintro e ⟨he1,he2,he3⟩;simp only[WA,reduceEqDiff,reduceAdd,reduceLT,reduceLeDiff,reduceMul,reduceIte,reduceCtorEq,Int.reduceEq,Int.reduceLT,Int.reduceLE,Int.reduceNe];refine dx (λ _=>e<s.size/\s.data.toList[e]? ≠some 10) ?_ ?_
     ·simp only[WA,reduceEqDiff,reduceAdd,reduceLT,reduceLeDiff,reduceMul,reduceIte,reduceCtorEq,Int.reduceEq,Int.reduceLT,Int.reduceLE,Int.reduceNe];refine bw [.v (.bool (decide (e<s.size/\s.data.toList[e]? ≠some 10)))] rfl ?_ ?_
      ·simp only[WA,reduceEqDiff,reduceAdd,reduceLT,reduceLeDiff,reduceMul,reduceIte,reduceCtorEq,Int.reduceEq,Int.reduceLT,Int.reduceLE,Int.reduceNe];refine aq (λ h=> ?_) (λ h=> ?_)
       ·have au:e<(bs s).length:=by omega
        have hx:(bs s)[e]? =some (bs s)[e]:=List.getElem?_eq_getElem au;have gV:e<s.data.toList.length:=by rw[←Lib.size_eq];omega
        have yH:s.data.toList[e]? =some s.data.toList[e]:=List.getElem?_eq_getElem gV;have hg:(bs s)[e]=(s.data.toList[e].toNat:Int):=by simp only[bs,List.getElem_map]
        have hd:decide (e<s.size/\s.data.toList[e]? ≠some 10)= !decide ((bs s)[e]=10):=by
         rw[yH,hg,Bool.eq_iff_iff];simp only[decide_eq_true_eq,Bool.not_eq_true',decide_eq_false_iff_not,ne_eq,Option.some.injEq];have h10:(10:UInt8).toNat=10:=rfl;constructor
         ·rintro⟨_,h2⟩ h3;exact h2 (UInt8.toNat_inj.1 (by omega))
         ·intro h2;exact⟨by omega,λ h3=>h2 (by rw[h3];rfl)⟩
        simp only[oG hx,hd,WA,reduceEqDiff,reduceAdd,reduceLT,reduceLeDiff,reduceMul,reduceIte,reduceCtorEq,Int.reduceEq,Int.reduceLT,Int.reduceLE,Int.reduceNe]
       ·have hd:decide (e<s.size/\s.data.toList[e]? ≠some 10)=false:=decide_eq_false (λ h2=>h (by omega));simp only[hd,WA,reduceEqDiff,reduceAdd,reduceLT,reduceLeDiff,reduceMul,reduceIte,reduceCtorEq,Int.reduceEq,Int.reduceLT,Int.reduceLE,Int.reduceNe]
      ·simp only[WA,reduceEqDiff,reduceAdd,reduceLT,reduceLeDiff,reduceMul,reduceIte,reduceCtorEq,Int.reduceEq,Int.reduceLT,Int.reduceLE,Int.reduceNe];refine aq (λ h=> ?_) (λ h=> ?_)
       ·simp only[WA,reduceEqDiff,reduceAdd,reduceLT,reduceLeDiff,reduceMul,reduceIte,reduceCtorEq,Int.reduceEq,Int.reduceLT,Int.reduceLE,Int.reduceNe];exact h
       ·simp only[WA,reduceEqDiff,reduceAdd,reduceLT,reduceLeDiff,reduceMul,reduceIte,reduceCtorEq,Int.reduceEq,Int.reduceLT,Int.reduceLE,Int.reduceNe];refine⟨e,he1,he2,he3,?_,rfl⟩;by_cases hes:e=s.size
        ·exact .inl hes
        ·refine .inr ?_;by_cases h10:s.data.toList[e]? =some 10
         ·exact h10
         ·exact absurd ⟨by omega,h10⟩ h
     ·rintro vs ⟨h1,h2⟩ hv;obtain rfl:=List.eq_nil_of_length_eq_zero hv;simp(disch:=omega) only[append_nil,aD,WA,reduceEqDiff,reduceAdd,reduceLT,reduceLeDiff,reduceMul,reduceIte,reduceCtorEq,Int.reduceEq,Int.reduceLT,Int.reduceLE,Int.reduceNe];refine⟨e+1,⟨by omega,by omega,λ j h3 h4=> ?_⟩,by omega,rfl⟩;by_cases hje:j=e
      ·rw[hje];exact h2
      ·exact he3 j h3 (by omega)
    ·rintro vs ⟨e,he1,he2,he3,he4,rfl⟩ _;simp only[cons_append,nil_append,WA,reduceEqDiff,reduceAdd,reduceLT,reduceLeDiff,reduceMul,reduceIte,reduceCtorEq,Int.reduceEq,Int.reduceLT,Int.reduceLE,Int.reduceNe];refine dx (λ _=>e<s.size/\e- i<=10000) ?_ ?_
     ·simp only[WA,reduceEqDiff,reduceAdd,reduceLT,reduceLeDiff,reduceMul,reduceIte,reduceCtorEq,Int.reduceEq,Int.reduceLT,Int.reduceLE,Int.reduceNe];refine bw [.v (.bool (decide (e=s.size∨10000<e- i)))] rfl ?_ ?_
      ·simp only[WA,reduceEqDiff,reduceAdd,reduceLT,reduceLeDiff,reduceMul,reduceIte,reduceCtorEq,Int.reduceEq,Int.reduceLT,Int.reduceLE,Int.reduceNe];refine aq (λ h=> ?_) (λ h=> ?_)
       ·have hd:decide (e=s.size∨10000<e- i)=true:=decide_eq_true (.inl (by omega));simp only[hd,WA,reduceEqDiff,reduceAdd,reduceLT,reduceLeDiff,reduceMul,reduceIte,reduceCtorEq,Int.reduceEq,Int.reduceLT,Int.reduceLE,Int.reduceNe]
       ·have alk:IntKind.i64.wrap ((e:Int)- (i:Int))=((e- i:Nat):Int):=by rw[gv (by omega) (by omega)];omega
        have hd:decide (e=s.size∨10000<e- i)=decide (((e- i:Nat):Int)>10000):=decide_eq_decide.2 (by omega);simp only[hd,alk,WA,reduceEqDiff,reduceAdd,reduceLT,reduceLeDiff,reduceMul,reduceIte,reduceCtorEq,Int.reduceEq,Int.reduceLT,Int.reduceLE,Int.reduceNe]
      ·simp only[WA,reduceEqDiff,reduceAdd,reduceLT,reduceLeDiff,reduceMul,reduceIte,reduceCtorEq,Int.reduceEq,Int.reduceLT,Int.reduceLE,Int.reduceNe];refine aq (λ h=> ?_) (λ h=> ?_)
       ·simp only[WA,reduceEqDiff,reduceAdd,reduceLT,reduceLeDiff,reduceMul,reduceIte,reduceCtorEq,Int.reduceEq,Int.reduceLT,Int.reduceLE,Int.reduceNe];refine(bad k ?_).symm;rw[hI];rcases he4 with he4|he4
        ·have cd:=akD (c:=10) (s:=s) (i:=i) (λ j h1=>by
           by_cases hje:j<e
           ·exact he3 j h1 hje
           ·rw[List.getElem?_eq_none (by rw[←Lib.size_eq];omega)];simp)
         rw[gJ cd,kM,if_neg];rintro⟨h1,h2,_⟩;have:=congrArg ByteArray.size h1;rw[ByteArray.size_extract]at this;have hz:(⟨#[]⟩:ByteArray).size=0:=rfl;omega
        ·have nY:=acP he1 he4 he3
         have hes:e<s.size:=by
          have:=(List.getElem?_eq_some_iff.1 he4).1;rw[←Lib.size_eq]at this;exact this
         rw[iF nY,jL _ _ _ _ (aca _ _)]
         have iu:gK k c (s.extract i e)=none:=by
          unfold gK;rw[if_neg];rw[ByteArray.size_extract];omega
         rw[iu]
       ·simp only[WA,reduceEqDiff,reduceAdd,reduceLT,reduceLeDiff,reduceMul,reduceIte,reduceCtorEq,Int.reduceEq,Int.reduceLT,Int.reduceLE,Int.reduceNe];omega
     ·rintro vs ⟨h1,h2⟩ hv;obtain rfl:=List.eq_nil_of_length_eq_zero hv
      have he5:s.data.toList[e]? =some 10:=by
       rcases he4 with he4|he4
       ·omega
       ·exact he4
      have nY:=acP he1 he5 he3;rw[iF nY,jL _ _ _ _ (aca _ _)]at hI;have hls:(s.extract i e).size=e- i:=by rw[ByteArray.size_extract];omega
      simp only[append_nil,WA,reduceEqDiff,reduceAdd,reduceLT,reduceLeDiff,reduceMul,reduceIte,reduceCtorEq,Int.reduceEq,Int.reduceLT,Int.reduceLE,Int.reduceNe];refine dx (λ vs=>∃(o:Option ai) (a b:AV),vs= [a,b,.v (.bool o.isSome)]/\gK k c (s.extract i e)=o/\∀d,o=some d->a= .sl (d.aM.map br)/\b= .sl (d.ar.map aa.av)) ?_ ?_
      ·simp only[WA,reduceEqDiff,reduceAdd,reduceLT,reduceLeDiff,reduceMul,reduceIte,reduceCtorEq,Int.reduceEq,Int.reduceLT,Int.reduceLE,Int.reduceNe];refine aq (λ h=> ?_) (λ h=> ?_)
       ·have hk:k=0:=by omega
        have iu:gK k c (s.extract i e)=if(ct (s.extract i e)).2=true then some (.mk c.ar (ct (s.extract i e)).1)else none:=by
         unfold gK;rw[if_pos (by omega),if_pos hk]
        simp only[Int.toNat_natCast,WA,reduceEqDiff,reduceAdd,reduceLT,reduceLeDiff,reduceMul,reduceIte,reduceCtorEq,Int.reduceEq,Int.reduceLT,Int.reduceLE,Int.reduceNe]
        repeat (refine And.intro (by omega) ?_)
        refine eo (sQ (s.extract i e) (by omega)) (by simp only[AV.ag,AV.ad,Bool.and_true];exact bu λ _=>rfl) ?_;simp only[dU,WA,reduceEqDiff,reduceAdd,reduceLT,reduceLeDiff,reduceMul,reduceIte,reduceCtorEq,Int.reduceEq,Int.reduceLT,Int.reduceLE,Int.reduceNe];refine⟨gK k c (s.extract i e),.sl ((ct (s.extract i e)).1.map br),.sl (c.ar.map aa.av),?_,rfl,?_⟩
        ·rw[iu];by_cases hb:(ct (s.extract i e)).2=true
         ·rw[if_pos hb,hb];rfl
         ·rw[if_neg hb,Bool.eq_false_iff.2 hb];rfl
        ·intro d hd;rw[iu]at hd
         split at hd
         ·injection hd with hd;subst hd;exact⟨rfl,rfl⟩
         ·cases hd
       ·have hk:¬k=0:=by omega
        obtain⟨x,cQ,hx⟩:=vi (s.extract i e) (by omega)
        have iu:gK k c (s.extract i e)=(eR (s.extract i e)).map λ x=> .mk (c.ar++ [x]) c.aM:=by
         unfold gK;rw[if_pos (by omega),if_neg hk]
        have hcw:=c.jy;simp only[if_neg hk,Int.toNat_natCast,WA,reduceEqDiff,reduceAdd,reduceLT,reduceLeDiff,reduceMul,reduceIte,reduceCtorEq,Int.reduceEq,Int.reduceLT,Int.reduceLE,Int.reduceNe]
        repeat (refine And.intro (by omega) ?_)
        refine eo cQ (by simp only[AV.ag,AV.ad,Bool.and_true];exact aa.ag x) ?_;simp only[dU,aa.width,aa.isAgg,aa.storable,List.length_map,WA,reduceEqDiff,reduceAdd,reduceLT,reduceLeDiff,reduceMul,reduceIte,reduceCtorEq,Int.reduceEq,Int.reduceLT,Int.reduceLE,Int.reduceNe]
        repeat (refine And.intro (by first|omega|rfl|(intro y hy;subst hy;exact aa.width _)) ?_)
        refine⟨gK k c (s.extract i e),.sl (c.aM.map br),.sl (c.ar.map aa.av++ [x.av]),?_,rfl,?_⟩
        ·rw[iu];cases eR (s.extract i e)<;>rfl
        ·intro d hd;rw[iu]at hd;cases hp:eR (s.extract i e)with
         |none=>rw[hp]at hd;cases hd
         |some y=>
          rw[hp]at hd;simp only[Option.map_some,Option.some.injEq]at hd;subst hd;rw[hx y hp];exact⟨rfl,by simp only[ai.ar,List.map_append,List.map_cons,List.map_nil]⟩
      ·rintro vs ⟨o,a,b,rfl,iu,ho⟩ _;rw[iu]at hI;cases o with
       |none=>
        simp only[Option.isSome_none,Bool.not_false,cons_append,nil_append,WA,reduceEqDiff,reduceAdd,reduceLT,reduceLeDiff,reduceMul,reduceIte,reduceCtorEq,Int.reduceEq,Int.reduceLT,Int.reduceLE,Int.reduceNe];exact(bad k hI).symm
       |some d=>
        obtain⟨rfl,rfl⟩:=ho d rfl;have hdw:=aaI iu (λ hk=>(h0 hk).1);simp(disch:=omega) only[Option.isSome_some,Bool.not_true,cons_append,nil_append,aD,WA,reduceEqDiff,reduceAdd,reduceLT,reduceLeDiff,reduceMul,reduceIte,reduceCtorEq,Int.reduceEq,Int.reduceLT,Int.reduceLE,Int.reduceNe];exact⟨d,e+1,by omega,hI,by omega,by omega,rfl⟩
   ·rintro vs ⟨d,i',h1,h2,h3,h4,rfl⟩ _;simp(disch:=omega) only[cons_append,nil_append,aD,WA,reduceEqDiff,reduceAdd,reduceLT,reduceLeDiff,reduceMul,reduceIte,reduceCtorEq,Int.reduceEq,Int.reduceLT,Int.reduceLE,Int.reduceNe];exact⟨(k+1,d,i'),⟨h1,h2,h3,λ e=>by omega,h4⟩,by simp only;omega,by rw[if_neg (by omega)]⟩
 ·rintro vs ⟨k,c,hk,hw,hI,rfl⟩ _;have hco:=yS c (by omega);rw[←ai.eta]at hco;rw[kM]at hI;simp only[WA,reduceEqDiff,reduceAdd,reduceLT,reduceLeDiff,reduceMul,reduceIte,reduceCtorEq,Int.reduceEq,Int.reduceLT,Int.reduceLE,Int.reduceNe];refine bj hco ?_;cases hb:c.qW with
  |false=>
   rw[hb,if_neg (by simp)]at hI;simp only[dU,Bool.not_false,WA,reduceEqDiff,reduceAdd,reduceLT,reduceLeDiff,reduceMul,reduceIte,reduceCtorEq,Int.reduceEq,Int.reduceLT,Int.reduceLE,Int.reduceNe];exact(bad k hI).symm
  |true=>
   rw[hb,if_pos ⟨rfl,hk,rfl⟩]at hI;simp only[dU,Bool.not_true,WA,reduceEqDiff,reduceAdd,reduceLT,reduceLeDiff,reduceMul,reduceIte,reduceCtorEq,Int.reduceEq,Int.reduceLT,Int.reduceLE,Int.reduceNe];rw[hI];unfold aas;rw[if_pos rfl,←ai.eta]
end Go.Proofs.Ab
