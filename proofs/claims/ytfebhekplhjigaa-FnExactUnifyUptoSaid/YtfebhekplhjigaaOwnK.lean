/-
  MARKS THAT ARE KEPT, by types (printed by wip/tool/ownk.py).
-/
import Derived.Test.YtfebhekplhjigaaOwn
open Nat(add_assoc)
open List(cons_append map_cons length_map map_append length_append map_nil length_cons length_nil)
open Nat(reduceEqDiff reduceLeDiff reduceAdd reduceLT reduceMul)
set_option linter.unusedVariables false
set_option linter.unusedSimpArgs false
namespace Go.Ab
set_option maxRecDepth 100000
mutual
def ad.mark:ad->Nat->ad
 | .mk aAL q_N aAK atZ,k=> .mk (((k:Nat):Int)) (((k+1:Nat):Int)) (aa4 (k+1+1)) (ad.eH atZ (k+1+1+1))
def ad.eH:List ad->Nat->List ad
 | [],_=>[]
 |x::l,k=>x.mark k::ad.eH l (k+x.av.cnt)
end
theorem ad.qh:∀(l:List ad) (k:Nat),(ad.eH l k).length=l.length
 | [],_=>rfl
 |x::l,k=>by simp[ad.eH,ad.qh l]
theorem ad.aa6(x:ad):∀(l:List ad) (k:Nat),ad.eH (l++ [x]) k=ad.eH l k++ [x.mark (k+AV.dS (l.map ad.av))]
 | [],k=>by simp[ad.eH,AV.dS]
 |y::l,k=>by simp only[cons_append,ad.eH,ad.aa6 x l,map_cons,AV.dS,add_assoc]
theorem ad.adK(x:ad)(k:Nat):(x.mark k).Kind=((k:Nat):Int):=by cases x;simp only[ad.mark];rfl
theorem ad.aoc(x:ad)(k:Nat):(x.mark k).N=((k+1:Nat):Int):=by cases x;simp only[ad.mark];rfl
theorem ad.adJ(x:ad)(k:Nat):(x.mark k).Name=aa4 (k+1+1):=by cases x;simp only[ad.mark];rfl
theorem ad.adL(x:ad)(k:Nat):(x.mark k).Kids=ad.eH x.Kids (k+1+1+1):=by cases x;simp only[ad.mark];rfl
theorem ad.ank(x:ad)(k n:Nat):Go.Ab.pW n (x.mark k).av=(.agg [.v (.int .i64 (((k:Nat):Int))),.v (.int .i64 (((k+1:Nat):Int))),.v (.string (aa4 (k+1+1))),.own (n)],[.own (.sl ((ad.eH x.Kids (k+1+1+1)).map ad.av))]):=by rw[ad.pW];simp only[ad.adK,ad.aoc,ad.adJ,ad.adL]
theorem yR:∀l m:List AV,AV.dS (l++m)=AV.dS l+AV.dS m
 | [],m=>by simp[AV.dS]
 |x::l,m=>by simp only[cons_append,AV.dS,yR l m,add_assoc]
theorem aed(x:AV):∀l:List AV,AV.dS (l++ [x])=AV.dS l+x.cnt
 | []=>by simp[AV.dS]
 |y::l=>by simp only[cons_append,AV.dS,aed x l,add_assoc]
end Go.Ab
namespace Go.Proofs.Ab
open Go.Ab
set_option maxRecDepth 100000
set_option maxHeartbeats 4000000
theorem wu(l:List ad)(k:Nat)(h:k+AV.dS (l.map ad.av)<=4611686018427387904):cF Try.prog F.cp [.own 0,.v (.int .i64 (k:Int))] [.own (.sl (l.map ad.av))] (.v (.int .i64 ((k+AV.dS (l.map ad.av):Nat):Int))) [.own (.sl ((ad.eH l k).map ad.av))]:=by
 by_cases hl:l= []
 ·subst hl;exact(adM k).yC (.cons (.own 0 _ rfl) (.cons (.same _ rfl) .nil))
 have he:∀(l:List ad),∀x∈l.map ad.av,x.elem=true:=λ l y hy=>by obtain⟨z,_,rfl⟩:=List.mem_map.1 hy;exact ad.elem z
 refine cF.aue 4 (by simpa using hl) (λ y hy=>by obtain⟨z,_,rfl⟩:=List.mem_map.1 hy;exact ad.width z) (ado (λ y hy=>by obtain⟨z,_,rfl⟩:=List.mem_map.1 hy;exact ad.isAgg z)) (λ e=>tE (he l) _) rfl rfl
  (by rw[length_map,length_map,ad.qh]) (λ e=>tE (he _) _) (λ e=> ?_)
 have hlen:=ti ad.akD l;generalize hK:k+AV.dS (l.map ad.av)=K at*;refine cY A.mE rfl ?_;simp only[A.cp,↓OD,OA,reduceEqDiff,reduceCtorEq,reduceAdd,reduceLT,reduceLeDiff,reduceIte]
 refine aQ (ι:=List ad×List ad) (λ p=>p.1++p.2=l)
  (λ p=>iA [(0,.row 0 (l.map ad.av).length),(1,.v (.int .i64 ((k+AV.dS (p.1.map ad.av):Nat):Int))),(5,.v (.int .i64 (p.1.length:Int)))])
  (λ p=> .live e 4 ((gJ 1 ((ad.eH p.1 k).map ad.av)).1++(gJ (1+(gJ 1 ((ad.eH p.1 k).map ad.av)).2.length) (p.2.map ad.av)).1)::((gJ 1 ((ad.eH p.1 k).map ad.av)).2++(gJ (1+(gJ 1 ((ad.eH p.1 k).map ad.av)).2.length) (p.2.map ad.av)).2)) (λ p=>p.2.length) ([],l) rfl
  (.of_eq (by simp[AV.dS]) (by simp[ad.eH,gJ])) ?_
 rintro⟨pre,rest⟩ sn;simp only at sn;have mS:AV.dS (l.map ad.av)=AV.dS (pre.map ad.av)+AV.dS (rest.map ad.av):=by rw[←sn,map_append,yR]
 have zu:pre.length+rest.length=l.length:=by rw[←sn,length_append]
 have hB:(gJ 1 ((ad.eH pre k).map ad.av)).1.length=pre.length:=by rw[fU,length_map,ad.qh]
 have hsn:∀x,gJ 1 ((ad.eH (pre++ [x]) k).map ad.av)=((gJ 1 ((ad.eH pre k).map ad.av)).1++ [(pW (1+(gJ 1 ((ad.eH pre k).map ad.av)).2.length) (x.mark (k+AV.dS (pre.map ad.av))).av).1],(gJ 1 ((ad.eH pre k).map ad.av)).2++(pW 0 (x.mark (k+AV.dS (pre.map ad.av))).av).2):=λ x=>by
  rw[ad.aa6,map_append,map_cons,map_nil,aae]
 simp only[length_map,fU,ad.qh,↓OD,OA,reduceEqDiff,reduceCtorEq,reduceAdd,reduceLT,reduceLeDiff,reduceIte];refine⟨by omega,?_⟩;refine my (λ hc=> ?_) (λ hc=> ?_)
 ·cases rest with
  |nil=>simp at hc zu;omega
  |cons x r=>
  have hx:=ad.acb x;have hxl:x∈l:=by rw[←sn];simp
  have hlp:=List.length_pos_of_mem hxl;have rh:=de ad.wt hxl;have hxw:=ad.gR x;have aBh:=hsn x;generalize hBB:(gJ 1 ((ad.eH pre k).map ad.av)).1=B at*;generalize hDD:(gJ 1 ((ad.eH pre k).map ad.av)).2=D at*;generalize hj:k+AV.dS (pre.map ad.av)=j at*;simp only[map_cons,AV.dS,hx]at mS;have h0s:=wu x.Kids;have uC:(gJ (1+D.length+1) (r.map ad.av)).1.length=r.length:=by rw[fU,length_map]
  simp only[length_cons]at zu;have hBl:∀y:AV,(B++y::(gJ (1+D.length+1) (r.map ad.av)).1).length=l.length:=λ y=>by rw[length_append,length_cons,uC,hB];omega
  have hmg:∀(y d:AV),(B++y::(gJ (1+D.length+1) (r.map ad.av)).1).getD pre.length d=y:=λ y d=>mY hB
  have hms:∀(y z:AV),(B++y::(gJ (1+D.length+1) (r.map ad.av)).1).set pre.length z=B++z::(gJ (1+D.length+1) (r.map ad.av)).1:=λ y z=>zN hB
  try simp only[←add_assoc]at uC hBl hmg hms
  simp only[map_cons,gJ,ad.pW];simp only[←add_assoc,↓OD,OA,reduceEqDiff,reduceCtorEq,reduceAdd,reduceLT,reduceLeDiff,reduceIte];try simp only[Int.toNat_natCast,hmg,hms,uC,hB,zu,←add_assoc,↓OD,OA,reduceEqDiff,reduceCtorEq,reduceAdd,reduceLT,reduceLeDiff,reduceIte]
  repeat (refine And.intro (by omega) ?_)
  try simp(disch:=omega) only[aG]
  refine aj _ _ ((vA _ (by omega)).any rfl rfl _) ?_;simp only[↓OD,OA,reduceEqDiff,reduceCtorEq,reduceAdd,reduceLT,reduceLeDiff,reduceIte];try simp only[Int.toNat_natCast,hmg,hms,uC,hB,zu,←add_assoc,↓OD,OA,reduceEqDiff,reduceCtorEq,reduceAdd,reduceLT,reduceLeDiff,reduceIte]
  repeat (refine And.intro (by omega) ?_)
  try simp(disch:=omega) only[aG]
  refine aj _ _ (cF.agc (h0s _ (by omega)) _ (agO (by first|omega|(simp only[length_append,length_cons,length_nil];omega)))) ?_;rw[agN (by first|omega|(simp only[length_append,length_cons,length_nil];omega))];simp only[↓OD,OA,reduceEqDiff,reduceCtorEq,reduceAdd,reduceLT,reduceLeDiff,reduceIte];try simp only[Int.toNat_natCast,hmg,hms,uC,hB,zu,←add_assoc,↓OD,OA,reduceEqDiff,reduceCtorEq,reduceAdd,reduceLT,reduceLeDiff,reduceIte]
  repeat (refine And.intro (by omega) ?_)
  try simp(disch:=omega) only[aG]
  refine aL (pre++ [x],r) (by simp[←sn]) (by simp) (.of_eq ?_ ?_)
  ·simp(disch:=omega) only[aG,length_append,length_cons,length_nil,Nat.zero_add,map_append,map_cons,map_nil,aed,hx,←add_assoc,hj];try rfl
  ·simp only[aBh,ad.ank,length_append,length_cons,length_nil,Nat.zero_add,List.append_assoc,cons_append,List.nil_append,←add_assoc];try rfl
 ·have mG:rest= []:=by
    cases rest with
    |nil=>rfl
    |cons x r=>simp at hc zu;omega
  subst mG;simp only[List.append_nil]at sn;subst sn;simp only[map_nil,gJ,List.append_nil,hK,↓OD,OA,reduceEqDiff,reduceCtorEq,reduceAdd,reduceLT,reduceLeDiff,reduceIte];exact mf (.inl rfl) (by simp only[↓OD,OA,reduceEqDiff,reduceCtorEq,reduceAdd,reduceLT,reduceLeDiff,reduceIte])
termination_by l.length+(l.map ad.wt).sum
decreasing_by all_goals omega
end Go.Proofs.Ab
