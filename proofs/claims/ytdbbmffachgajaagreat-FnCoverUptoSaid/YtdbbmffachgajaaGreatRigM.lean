/- Part of a proof: the functions that the law reaches, walked by the abstract logic of the texts Ab. -/
import Derived.Test.YtdbbmffachgajaaGreatCovC
import Derived.Test.YtdbbmffachgajaaGreatWCov1
import Derived.Test.YtdbbmffachgajaaGreatSM
set_option maxHeartbeats 4000000
set_option maxRecDepth 100000
open Nat(add_zero zero_le le_refl)
open Bool(not_eq_true' not_eq_false' and_eq_true false_eq_true or_eq_true)
open Option(isSome_none isSome_some map_some getD_some)
open List(length_cons length_nil length_map map_cons sum_cons all_cons all_nil find?_some mem_of_getElem? map_append length_append cons_append take_add_one getElem?_eq_getElem take_append_drop append_nil map_nil getElem_mem sum_append take_length)
set_option linter.unusedVariables false
set_option linter.unusedSimpArgs false
namespace Go.Ab
def x5(list:List ad)(ts:List ai)(ms:List Int)(d:Int):AV:= .agg [.sl (list.map ad.av),.sl (ts.map ai.av),.sl (ms.map aD),aD d]
theorem bB(list:List ad)(ts:List ai)(ms:List Int)(d:Int):(x5 list ts ms d).cells= [.sl (list.map ad.av),.sl (ts.map ai.av),.sl (ms.map aD),aD d]:=nr rfl
theorem jJ(list:List ad)(ts:List ai)(ms:List Int)(d:Int):(x5 list ts ms d).cells.length=4:=nr rfl
theorem bQ(list:List ad)(ts:List ai)(ms:List Int)(d:Int):(x5 list ts ms d).isAgg=true:=nr rfl
theorem a8(list:List ad)(ts:List ai)(ms:List Int)(d:Int):(x5 list ts ms d).storable=true:=nr rfl
theorem gV(list:List ad)(ts:List ai)(ms:List Int)(d:Int):AV.agg [.sl (list.map ad.av),.sl (ts.map ai.av),.sl (ms.map aD),aD d]=x5 list ts ms d:=nr rfl
theorem ph(list:List ad)(ts:List ai)(ms:List Int)(d:Int):(x5 list ts ms d).ag=true:=by
 have h1:AV.ae (list.map ad.av)=true:=bt ad.ag;have h2:AV.ae (ts.map ai.av)=true:=bt ai.ag;have h3:AV.ae (ms.map aD)=true:=bt (f:=aD) λ _=>rfl
 simp[x5,AV.ag,AV.ae,h1,h2,h3]
theorem atw{x:ai}{list:List ad}{d g:Int}(h:x.wN=true):x.names list d g=(if x.Kind=9 then decide (x.N<d)else if x.Kind=10 then decide (x.N<g)else if x.Kind=11 then false else(if x.Kind=7 then(match fh list x.Name with|some i=>decide (i.qz=(x.Kids.length:Int))|none=>false)else true)&&x.Kids.all λ y=>y.names list d g):=by
 rw[x.yJ];unfold ai.aiL;by_cases h9:x.Kind=9
 ·have:=(x.ac2 h (.inl h9)).2;rw[if_pos h9,if_pos h9,this];simp
 ·rw[if_neg h9,if_neg h9];by_cases h10:x.Kind=10
  ·have:=(x.ac2 h (.inr (.inl h10))).2;rw[if_pos h10,if_pos h10,this];simp
  ·rw[if_neg h10,if_neg h10];by_cases h11:x.Kind=11
   ·rw[if_pos h11,if_pos h11];rfl
   ·rw[if_neg h11,if_neg h11];by_cases h7:x.Kind=7
    ·rw[if_pos h7,if_pos h7];cases fh list x.Name<;>rfl
    ·rw[if_neg h7,if_neg h7]
end Go.Ab
namespace Go.Proofs.Ab
open Go.Ab
theorem yU(t:ai):aW Tryz.prog F.l7 [t.av] (.v (.bool t.none)):=by
 refine T.ab9 rfl (by simp[AV.ae,ai.ag]) ?_;simp only[T.l7,ai.B,WA,seval]
 repeat' (first|(simp(disch:=(first|omega|rfl|exact rfl|(simp only[au,length_cons,length_nil];done)|exact ai.width _)) only[ai.E,length_map,WA,seval])|(refine aC (λ hq=> ?_) (λ hq=> ?_)<;>(try simp only[hq,BN]))|(refine aP (λ hq=> ?_) (λ hq=> ?_)<;>(try simp only[hq,BN]))|(refine aA (λ hq=> ?_) (λ hq=> ?_)<;>(try simp only[hq,BN]))|(refine aw ?_))
 all_goals simp_all [ai.none]
theorem auy(t:ai):aW Tryz.prog F.kP [t.av] (.v (.bool t.none)):=by
 refine T.aaJ rfl (by simp[AV.ae,ai.ag]) ?_;simp only[T.kP,ai.B,WA,seval]
 repeat' (first|(simp(disch:=(first|omega|rfl|exact rfl|(simp only[au,length_cons,length_nil];done)|exact ai.width _)) only[ai.E,length_map,WA,seval])|(refine aC (λ hq=> ?_) (λ hq=> ?_)<;>(try simp only[hq,BN]))|(refine aP (λ hq=> ?_) (λ hq=> ?_)<;>(try simp only[hq,BN]))|(refine aA (λ hq=> ?_) (λ hq=> ?_)<;>(try simp only[hq,BN]))|(refine aw ?_))
 all_goals simp_all [ai.none]
theorem aa.aeq(p:aa):p.dZ<=p.wt+1:=by
 have h1:=p.jV;have h2:=p.dY
 have h3:(p.Kids.map aa.dZ).sum<=p.Kids.length+(p.Kids.map aa.wt).sum:=by
  have:∀l:List aa,(∀q∈l,q.dZ<=q.wt+1)->(l.map aa.dZ).sum<=l.length+(l.map aa.wt).sum:=by
   intro l
   induction l with
   |nil=>intro _;simp
   |cons a l ih=>
    intro h;have:=h a (by simp);have:=ih λ q hq=>h q (by simp[hq])
    simp only[map_cons,sum_cons,length_cons];omega
  exact this p.Kids λ q hq=>aa.aeq q
 omega
termination_by SizeOf.sizeOf p
decreasing_by exact aa.cT hq
theorem abH(p:aa)(hb:p.wt<=1048576):aW Tryz.prog F.iI [p.av] (aD p.dZ):=by
 have hw:=p.dY;have hv:=p.jV;have hvl:=aa.aeq p;refine T.xh rfl (by simp[AV.ae,aa.ag]) ?_;simp only[T.iI,aa.B,WA,seval];refine aG [aD p.dZ] rfl ?_ ?_
 ·repeat' (first|(simp(disch:=(first|omega|rfl|exact rfl|(simp only[au,length_cons,length_nil];done)|exact aa.width _)) only[ez,wg,hd,xP,aa.E,aa.ji,ai.eta,length_map,cD,cu,aI,mP,WA,seval])|(simp(disch:=(first|omega|rfl|exact rfl|(simp only[au,length_cons,length_nil];done)|exact aa.width _)) only[ez,hd,aa.E,length_map,aI,WA,seval])|(simp(disch:=(first|omega|rfl|exact rfl|(simp only[au,length_cons,length_nil];done)|exact aa.width _)) only[hd,xP,aa.E,aa.ji,ai.eta,length_map,cD,cu,aI,mP,WA,seval])|(simp(disch:=(first|omega|rfl|exact rfl|(simp only[au,length_cons,length_nil];done)|exact aa.width _)) only[hix,hd,aa.E,aa.ji,ai.eta,length_map,cD,cu,aI,mP,WA,seval])|(simp(disch:=(first|omega|rfl|exact rfl|(simp only[au,length_cons,length_nil];done)|exact aa.width _)) only[hd,aa.E,length_map,WA,seval])|(simp(disch:=(first|omega|rfl|exact rfl|(simp only[au,length_cons,length_nil];done)|exact aa.width _)) only[WA,seval])|(refine aC (λ hq=> ?_) (λ hq=> ?_)<;>(try simp only[hq,BN]))|(refine aP (λ hq=> ?_) (λ hq=> ?_)<;>(try simp only[hq,BN]))|(refine aA (λ hq=> ?_) (λ hq=> ?_)<;>(try simp only[hq,BN]))|(refine aw ?_)|(refine bk p.Kids (λ i (q:Nat)=>[aD (q:Int),aD i]) (λ i rest q=>q+(rest.map aa.dZ).sum=p.dZ) 1 rfl ?_ (λ i k rest b hi hx hm ez hd hg=> ?_) (λ b hd hg=> ?_))|(refine aJ (abH k (by have:=eH aa.wt hm;omega)) ?_))
  ·omega
  ·rw[map_cons,sum_cons]at hg;refine⟨hi,b+k.dZ,by omega,?_⟩;rw[cE (by omega) (by omega)]
   rfl
  ·have j6:b=p.dZ:=by simpa using hg
   rw[j6]
 ·simp only[WA,seval]
termination_by SizeOf.sizeOf p
decreasing_by exact aa.cT hm
theorem xU(p:aa)(hb:p.wt<=1048576):aW Tryz.prog F.jP [p.av] (aD p.dZ):=by
 have hw:=p.dY;have hv:=p.jV;have hvl:=aa.aeq p;refine T.y9 rfl (by simp[AV.ae,aa.ag]) ?_;simp only[T.jP,aa.B,WA,seval];refine aG [aD p.dZ] rfl ?_ ?_
 ·repeat' (first|(simp(disch:=(first|omega|rfl|exact rfl|(simp only[au,length_cons,length_nil];done)|exact aa.width _)) only[ez,wg,hd,xP,aa.E,aa.ji,ai.eta,length_map,cD,cu,aI,mP,WA,seval])|(simp(disch:=(first|omega|rfl|exact rfl|(simp only[au,length_cons,length_nil];done)|exact aa.width _)) only[ez,hd,aa.E,aI,WA,seval])|(simp(disch:=(first|omega|rfl|exact rfl|(simp only[au,length_cons,length_nil];done)|exact aa.width _)) only[hd,xP,aa.E,aa.ji,ai.eta,length_map,cD,cu,aI,mP,WA,seval])|(simp(disch:=(first|omega|rfl|exact rfl|(simp only[au,length_cons,length_nil];done)|exact aa.width _)) only[hix,hd,aa.E,aa.ji,ai.eta,length_map,cD,cu,aI,mP,WA,seval])|(simp(disch:=(first|omega|rfl|exact rfl|(simp only[au,length_cons,length_nil];done)|exact aa.width _)) only[hd,WA,seval])|(simp(disch:=(first|omega|rfl|exact rfl|(simp only[au,length_cons,length_nil];done)|exact aa.width _)) only[aa.E,length_map,WA,seval])|(refine aC (λ hq=> ?_) (λ hq=> ?_)<;>(try simp only[hq,BN]))|(refine aP (λ hq=> ?_) (λ hq=> ?_)<;>(try simp only[hq,BN]))|(refine aA (λ hq=> ?_) (λ hq=> ?_)<;>(try simp only[hq,BN]))|(refine aw ?_)|(refine bk p.Kids (λ i (q:Nat)=>[aD (q:Int),aD i]) (λ i rest q=>q+(rest.map aa.dZ).sum=p.dZ) 1 rfl ?_ (λ i k rest b hi hx hm ez hd hg=> ?_) (λ b hd hg=> ?_))|(refine aJ (xU k (by have:=eH aa.wt hm;omega)) ?_))
  ·omega
  ·rw[map_cons,sum_cons]at hg;refine⟨hi,b+k.dZ,by omega,?_⟩;rw[cE (by omega) (by omega)]
   rfl
  ·have j6:b=p.dZ:=by simpa using hg
   rw[j6]
 ·simp only[WA,seval]
termination_by SizeOf.sizeOf p
decreasing_by exact aa.cT hm
theorem amV(d:ad)(t:ai):aW Tryz.prog F.dC [d.av,.bW t.av 0] (.v (.bool (decide (d.Name=t.Name)))):=by
 refine T.qq rfl (by simp[AV.ae,AV.ag,ad.ag,ai.ag]) ?_;simp only[T.dC,ad.B,ai.cells,WA,seval]
def chA(list:List ad):AV:= .bW (.agg [.sl (list.map ad.av)]) 0
theorem vR(list:List ad):(chA list).ag=true:=by
 have h1:=fq list;simp[chA,AV.ag,AV.ae,h1]
theorem aa3(list:List ad):(chA list).cells= [chA list]:=nr rfl
theorem af1(list:List ad):(chA list).cB=true:=nr rfl
theorem aGS(list:List ad)(t:ai):(decide (0<=fQ (λ d=>decide (d.Name=t.Name)) list 0))=(fh list t.Name).isSome:=by
 cases h:fh list t.Name with
 |none=>rw[xE (λ _=>rfl) list 0 h];rfl
 |some d=>
  obtain⟨i,h1,_⟩:=kN (p:=λ d=>decide (d.Name=t.Name)) (λ _=>rfl) list 0 h;rw[h1];exact decide_eq_true (Int.natCast_nonneg _)
theorem aaq(list:List ad)(hl:list.length<=1000)(t:ai)(d g:Int)(hb:t.wt<=1048576):aW Tryz.prog F.dp [chA list,t.av,aD d,aD g] (.v (.bool (t.names list d g))):=by
 have hw:=t.dY;have vN:=ai.yJ t list d g;have hn:AV.ae [chA list,t.av,aD d,aD g]=true:=by simp only[AV.ae,vR,ai.ag,AV.ag,Bool.and_true]
 have h2:∀y∈t.Kids,aW Tryz.prog F.dB [y.av,.bW (chA list) 0,.bW (aD d) 0,.bW (aD g) 0] (.v (.bool (!(y.names list d g)))):=λ y hy=>by
  have hnd:=fq list;have hyw:=eH ai.wt hy;refine T.qp rfl (by simp[AV.ae,AV.ag,chA,hnd,ai.ag]) ?_;simp only[T.dB,ai.B,aa3,au,WA,seval];refine aJ (aaq list hl y d g (by omega)) ?_;simp only[WA,seval]
 refine T.rF rfl hn ?_;simp only[T.dp,ai.B,aa3,af1,au,jy,WA,seval];refine aG [.v (.bool (t.aiL list d g))] rfl ?_ ?_
 ·unfold ai.aiL;simp only[ai.cells,WA,seval];refine aC (λ h9=> ?_) (λ h9=> ?_)
  ·rw[if_pos h9];simp only[ai.cells,au,jy,WA,seval]
  rw[if_neg h9];simp only[ai.cells,WA,seval];refine aC (λ h10=> ?_) (λ h10=> ?_)
  ·rw[if_pos h10];simp only[ai.cells,au,jy,WA,seval]
  rw[if_neg h10];simp only[ai.cells,WA,seval];refine aC (λ h11=> ?_) (λ h11=> ?_)
  ·rw[if_pos h11];simp only[WA,seval]
  rw[if_neg h11];simp only[ai.cells,WA,seval];refine aC (λ h7=> ?_) (λ h7=> ?_)
  ·rw[if_pos h7];simp only[aa3,af1,WA,seval];unfold chA;simp only[ai.cells,ai.eta,WA,seval];have aqb:=wR list F.dC [.bW t.av 0] (λ d=>decide (d.Name=t.Name)) (by omega) (by simp[AV.ae,AV.ag,ai.ag]) (λ x _=>amV x t);refine aJ aqb ?_;simp only[aGS,WA,seval];cases hi:fh list t.Name with
   |none=>simp only[isSome_none,WA,seval]
   |some i=>
    obtain⟨n,hn1,hn2⟩:=kN (p:=λ d=>decide (d.Name=t.Name)) (λ _=>rfl) list 0 hi;have hnl:n<list.length:=(List.getElem?_eq_some_iff.1 hn2).1;have hdn:list[n]=i:=(List.getElem?_eq_some_iff.1 hn2).2;simp only[isSome_some,hn1,add_zero,WA,seval];refine⟨rfl,rfl,fS ad.av hnl (ad.width _) ?_⟩;rw[hdn];simp only[ad.cells,ai.cells,length_map,WA,seval]
  ·rw[if_neg h7];simp only[WA,seval]
 ·rw[vN];simp only[WA,seval];refine aw ?_;simp only[WA,seval];refine aA (λ h=> ?_) (λ h=> ?_)
  ·rw[h];simp only[ai.cells,WA,seval];refine aJ (asM t.Kids F.dB [.bW (chA list) 0,.bW (aD d) 0,.bW (aD g) 0] (λ y=> !(y.names list d g)) (by omega) ?_ h2) ?_
   ·have hnd:=fq list;simp[AV.ae,AV.ag,chA,hnd]
   ·simp only[WA,seval];congr 3;generalize t.Kids=l
    induction l with
    |nil=>rfl
    |cons a l ih=>simp only[List.any_cons,all_cons,Bool.not_or,Bool.not_not,ih]
  ·rw[h];simp only[WA,seval]
   rfl
termination_by SizeOf.sizeOf t
decreasing_by exact ai.cT hy
theorem asW(list:List ad)(hl:list.length<=1000)(t:ai)(d:Int)(hb:t.wt<=1048576):aW Tryz.prog F.ft [chA list,t.av,aD d,aD 0] (.v (.bool (wE list d t))):=by
 have hn:AV.ae [chA list,t.av,aD d,aD 0]=true:=by simp only[AV.ae,vR,ai.ag,AV.ag,Bool.and_true]
 have hs:=t.xn;refine T.rE rfl hn ?_;simp only[T.ft,ai.B,WA,seval];refine aG [.v (.bool (wE list d t))] rfl ?_ ?_
 ·unfold wE;simp only[ai.B,WA,seval];refine aJ (qY t hb) ?_;simp only[WA,seval];refine aA (λ h=> ?_) (λ h=> ?_)
  ·simp only[ai.B,WA,seval];refine aJ (wP t hb) ?_;simp only[WA,seval];refine aC (λ h2=> ?_) (λ h2=> ?_)
   ·simp only[ai.B,WA,seval];refine aJ (aaq list hl t d 0 hb) ?_;simp only[h,decide_eq_true (show t.dZ<=200 by omega),Bool.true_and,WA,seval]
   ·simp only[h,decide_eq_false (show¬t.dZ<=200 by omega),Bool.true_and,Bool.false_and,WA,seval]
  ·simp only[h,Bool.false_and,WA,seval]
 ·simp only[WA,seval]
theorem aiT(list:List ad)(hl:list.length<=1000)(ts:List ai)(ms:List Int)(t:ai)(d g:Int)(hb:t.wt<=1048576)(vM:t.wN=true):aW Tryz.prog F.jc [x5 list ts ms d,t.av,aD g] (.v (.bool (t.names list d g))):=by
 have hw:=t.dY;have vN:=atw (list:=list) (d:=d) (g:=g) vM;have hn:AV.ae [x5 list ts ms d,t.av,aD g]=true:=by simp only[AV.ae,ph,ai.ag,AV.ag,Bool.and_true]
 refine T.aab rfl hn ?_;simp only[T.jc,bB,bQ,a8,ai.B,WA,seval]
 have fin:(t.Kids.all λ y=>y.names list d g)=t.names list d g->cL Tryz.prog (λ _ _ _=>False) (λ a=>a= .v (.bool (t.names list d g))) (.bind 0 (.loop [(.c (.v (.int .i64 0)))] (.op (.ch (.cell 1 3)) (.op (.bin .lss (.x 3) (.x 4)) (.ite (.x 5) (.aq (.cells (.x 0) 4) (.op (.elem 4 (.cell 1 3) (.x 3)) (.aq (.cells (.x 6) 4) (.op (.call F.jc [(.x 0),(.x 6),(.x 2)] true) (.op (.un .not (.x 7)) (.ite (.x 8) (.cM (.cM (.ret [(.c (.v (.bool false)))]))) (.op (.bin .add (.x 3) (.c (.v (.int .i64 1)))) (.jump [(.x 9)])))))))) (.cM (.jump [])))))) (.ret [(.c (.v (.bool true)))])) [x5 list ts ms d,t.av,aD g] []:=λ hf=>by
  simp only[WA,seval];refine aw ?_;simp only[WA,seval];refine bk t.Kids (λ i (_:Unit)=>[aD i]) (λ i rest _=>(t.Kids.all λ y=>y.names list d g)=rest.all λ y=>y.names list d g) () rfl rfl (λ i k rest b hi hx hm ez hd' hg=> ?_) (λ b hd' hg=> ?_)
  ·have hkw:=eH ai.wt hm;simp only[ai.cells,length_map,hd',jJ,bQ,a8,WA,seval];rw[ez ai.av 4 _ _ (ai.width _)];simp only[ai.B,WA,seval];refine aJ (aiT list hl ts ms k d g (by omega) (ai.akg vM hm)) ?_;simp only[WA,seval];rw[all_cons]at hg;refine aA (λ h=> ?_) (λ h=> ?_)
   ·rw[not_eq_true']at h;rw[h,Bool.false_and]at hg;simp only[←hf,hg,WA,seval]
   ·rw[not_eq_false']at h;rw[h,Bool.true_and]at hg;simp(disch:=omega) only[aI,WA,seval];exact⟨hi,(),hg⟩
  ·rw[all_nil]at hg;simp only[ai.cells,length_map,hd',←hf,hg,WA,seval]
 refine bN (λ ws=>(t.Kids.all λ y=>y.names list d g)=t.names list d g/\ws= []) ?_ ?_
 ·simp only[ai.cells,WA,seval];refine aC (λ h9=> ?_) (λ h9=> ?_)
  ·rw[if_pos h9]at vN;simp only[bB,ai.cells,vN,WA,seval]
  rw[if_neg h9]at vN;simp only[ai.cells,WA,seval];refine aC (λ h10=> ?_) (λ h10=> ?_)
  ·rw[if_pos h10]at vN;simp only[ai.cells,vN,WA,seval]
  rw[if_neg h10]at vN;simp only[ai.cells,WA,seval];refine aC (λ h11=> ?_) (λ h11=> ?_)
  ·rw[if_pos h11]at vN;simp only[vN,WA,seval]
  rw[if_neg h11]at vN;simp only[ai.cells,WA,seval];refine aC (λ h7=> ?_) (λ h7=> ?_)
  ·rw[if_pos h7]at vN;simp only[bB,ai.cells,WA,seval];refine aJ (yV list t.Name hl) ?_;simp only[WA,seval];cases hi:fh list t.Name with
   |none=>
    rw[hi]at vN;simp only[Bool.false_and]at vN;rw[xE (λ _=>rfl) list 0 hi];refine aG [.v (.bool true)] rfl ?_ ?_
    ·simp only[WA,seval]
    ·simp only[vN,WA,seval]
   |some j=>
    rw[hi]at vN;simp only at vN;obtain⟨n,hn1,hn2⟩:=kN (p:=λ d=>decide (d.Name=t.Name)) (λ _=>rfl) list 0 hi;have hnl:n<list.length:=(List.getElem?_eq_some_iff.1 hn2).1;have hdn:list[n]=j:=(List.getElem?_eq_some_iff.1 hn2).2;rw[hn1,add_zero];refine aG [.v (.bool (decide (j.qz≠(t.Kids.length:Int))))] rfl ?_ ?_
    ·simp only[show decide ((n:Int)<0)=false from decide_eq_false (by omega),bB,WA,seval];refine fS ad.av hnl (ad.width _) ?_;rw[hdn];simp only[ad.cells,ai.cells,length_map,WA,seval];rw[decide_not]
    ·simp only[WA,seval];refine aC (λ hq=> ?_) (λ hq=> ?_)
     ·rw[decide_eq_false hq,Bool.false_and]at vN;simp only[vN,WA,seval]
     ·rw[decide_eq_true (Decidable.not_not.1 hq),Bool.true_and]at vN;simp only[WA,seval];exact vN.symm
  ·rw[if_neg h7,Bool.true_and]at vN;simp only[WA,seval];exact vN.symm
 ·rintro ws ⟨hf,rfl⟩ _;exact fin hf
termination_by SizeOf.sizeOf t
decreasing_by exact ai.cT hm
theorem aku(list:List ad)(hl:list.length<=1000)(ts:List ai)(ms:List Int)(t:ai)(d:Int)(hb:t.wt<=1048576):aW Tryz.prog F.pE [x5 list ts ms d,t.av,aD 0] (.v (.bool (wE list d t))):=by
 have hn:AV.ae [x5 list ts ms d,t.av,aD 0]=true:=by simp only[AV.ae,ph,ai.ag,AV.ag,Bool.and_true]
 have hs:=t.xn;refine T.agD rfl hn ?_;simp only[T.pE,jJ,bQ,a8,ai.B,WA,seval];refine aG [.v (.bool (wE list d t))] rfl ?_ ?_
 ·unfold wE;simp only[ai.B,WA,seval];refine aJ (uF t hb) ?_;simp only[WA,seval];refine aA (λ h=> ?_) (λ h=> ?_)
  ·simp only[ai.B,WA,seval];refine aJ (wK t hb) ?_;simp only[WA,seval];refine aC (λ h2=> ?_) (λ h2=> ?_)
   ·simp only[jJ,bQ,a8,ai.B,WA,seval];refine aJ (aiT list hl ts ms t d 0 hb h) ?_;simp only[h,decide_eq_true (show t.dZ<=200 by omega),Bool.true_and,WA,seval]
   ·simp only[h,decide_eq_false (show¬t.dZ<=200 by omega),Bool.true_and,Bool.false_and,WA,seval]
  ·simp only[h,Bool.false_and,WA,seval]
 ·simp only[WA,seval]
end Go.Proofs.Ab
namespace Go.Ab
structure UL(list:List ad):Prop extends DU list where
 nm:∀(i j:Nat) d e,list[i]? =some d->list[j]? =some e->d.Name=e.Name->i=j
 ct2:∀(i j:Nat) d e c c',list[i]? =some d->list[j]? =some e->c∈d.br->c'∈e.br->c.Name=c'.Name->i=j
theorem abU(n:ByteArray):∀(l:List ak) (k:Nat),(l.find? (λ c=>decide (c.Name=n))=none/\fQ (λ c=>decide (c.Name=n)) l k= -1)∨∃(i:Nat) (c:ak),l.find? (λ c=>decide (c.Name=n))=some c/\fQ (λ c=>decide (c.Name=n)) l k=((i+k:Nat):Int)/\l[i]? =some c
 | [],_=> .inl ⟨rfl,rfl⟩
 |x::l,k=>by
  rw[List.find?_cons,fQ];by_cases hx:x.Name=n
  ·rw[decide_eq_true hx,if_pos rfl];exact .inr ⟨0,x,rfl,by simp,rfl⟩
  ·rw[decide_eq_false hx,if_neg (by simp)];rcases abU n l (k+1)with⟨h1,h2⟩|⟨i,c,h1,h2,h3⟩
   ·exact .inl ⟨h1,h2⟩
   ·exact .inr ⟨i+1,c,h1,by rw[h2];congr 1;omega,by simpa using h3⟩
theorem xQ(n:ByteArray):∀(l:List ad) (k:Nat),(iB n l k=(-1,-1)/\∀d∈l,d.br.find? (λ c=>decide (c.Name=n))=none)∨∃(i j:Nat) (d:ad) (c:ak),iB n l k=(((i+k:Nat):Int),(j:Int))/\l[i]? =some d/\d.br[j]? =some c/\d.br.find? (λ c=>decide (c.Name=n))=some c
 | [],_=> .inl ⟨rfl,λ d h=>by cases h⟩
 |d::l,k=>by
  rw[iB];rcases abU n d.br 0 with⟨h1,h2⟩|⟨i,c,h1,h2,h3⟩
  ·have e:iv n d.br= -1:=h2;rw[e,if_neg (by omega)];rcases xQ n l (k+1)with⟨h4,h5⟩|⟨i,j,d',c,h4,h5,h6,h7⟩
   ·refine .inl ⟨h4,λ e he=> ?_⟩;rcases List.mem_cons.1 he with rfl|he
    ·exact h1
    ·exact h5 e he
   ·exact .inr ⟨i+1,j,d',c,by rw[h4];congr 2;omega,by simpa using h5,h6,h7⟩
  ·have e:iv n d.br=(i:Int):=by
     have:iv n d.br=((i+0:Nat):Int):=h2;simpa using this
   rw[e,if_pos (Int.natCast_nonneg _)];exact .inr ⟨0,i,d,c,by simp,rfl,h3,h1⟩
theorem aga{list:List ad}(hU:UL list){name:ByteArray}{t:ai}{i:Nat}{d:ad}{c:ak}(hi:list[i]? =some d)(hc:d.br.find? (λ c=>decide (c.Name=name))=some c):
  oK list name t=if t.Kind=7/\d.Name=t.Name then some (if c.Has=true then some (c.Arg.put 10 t.Kids)else none)else none:=by
 unfold oK;have hcm:=List.mem_of_find?_eq_some hc;have hcn:=find?_some hc;simp only[decide_eq_true_eq]at hcn;by_cases h7:t.Kind=7
 ·rw[if_pos h7];by_cases hn:d.Name=t.Name
  ·rw[if_pos ⟨h7,hn⟩];cases hj:fh list t.Name with
   |none=>
    have:=List.find?_eq_none.1 hj d (mem_of_getElem? hi);simp[hn]at this
   |some e=>
    obtain⟨j,_,hj2⟩:=kN (p:=λ d=>decide (d.Name=t.Name)) (λ _=>rfl) list 0 hj;have hen:=find?_some hj;simp only[decide_eq_true_eq]at hen;have:=hU.nm i j d e hi hj2 (by rw[hn,hen]);subst this;rw[hi]at hj2;injection hj2 with hj2;subst hj2;simp only[hc]
  ·rw[if_neg (λ h=>hn h.2)];cases hj:fh list t.Name with
   |none=>rfl
   |some e=>
    simp only;cases hf:e.br.find? (λ c=>decide (c.Name=name))with
    |none=>rfl
    |some c'=>
     exfalso;obtain⟨j,_,hj2⟩:=kN (p:=λ d=>decide (d.Name=t.Name)) (λ _=>rfl) list 0 hj;have hen:=find?_some hj;simp only[decide_eq_true_eq]at hen;have aNR:=find?_some hf;simp only[decide_eq_true_eq]at aNR;have:=hU.ct2 i j d e c c' hi hj2 hcm (List.mem_of_find?_eq_some hf) (by rw[hcn,aNR]);subst this;rw[hi]at hj2;injection hj2 with hj2;subst hj2;exact hn hen
 ·rw[if_neg h7,if_neg (λ h=>h7 h.1)]
theorem zH{list:List ad}{name:ByteArray}{t:ai}(h:∀d∈list,d.br.find? (λ c=>decide (c.Name=name))=none):oK list name t=none:=by
 unfold oK
 split
 ·split
  ·rename_i d hi;rw[h d (List.mem_of_find?_eq_some hi)]
  ·rfl
 ·rfl
def amk:AV:= .agg [aD 0,aD 0,.v (.string ⟨#[]⟩),.an]
def aqC:Option (Option ai)->AV
 |none=> .aZ [amk,aD 0,.v (.bool false)]
 |some none=> .aZ [amk,aD 0,.v (.bool true)]
 |some (some a)=> .aZ [a.av,aD 1,.v (.bool true)]
def auV:Option (Option ai)->AV
 |none=> .aZ [amk,.v (.bool false),.v (.bool false)]
 |some none=> .aZ [amk,.v (.bool false),.v (.bool true)]
 |some (some a)=> .aZ [a.av,.v (.bool true),.v (.bool true)]
theorem aAo(o:Option (Option ai)):(aqC o).ag=true:=by
 rcases o with _|_|a
 ·rfl
 ·rfl
 ·simp[aqC,AV.ag,AV.ae,ai.ag]
theorem aAp(o:Option (Option ai)):(auV o).ag=true:=by
 rcases o with _|_|a
 ·rfl
 ·rfl
 ·simp[auV,AV.ag,AV.ae,ai.ag]
end Go.Ab
namespace Go.Proofs.Ab
open Go.Ab
theorem aB1(list:List ad)(hU:UL list)(hlw:list.length+(list.map ad.wt).sum<=1000000)(ts:List ai)(ms:List Int)(name:ByteArray)(t:ai)(d:Int)(hb:t.wt<=1000000):aW Tryz.prog F.pW [x5 list ts ms d,.v (.string name),t.av] (aqC (oK list name t)):=by
 have hlen:=hU.len;have htw:=t.dY;have hn:AV.ae [x5 list ts ms d,.v (.string name),t.av]=true:=by simp only[AV.ae,ph,ai.ag,AV.ag,Bool.and_true]
 refine T.ad8 rfl hn ?_;simp only[T.pW,bB,bQ,a8,ai.B,WA,seval];refine bH (acq list name (by omega)) rfl ?_;rcases xQ name list 0 with⟨h1,h2⟩|⟨i,j,e,c,h1,h2,h3,h4⟩
 ·rw[h1,zH h2];simp only[WA,seval];refine aw ?_;simp only[WA,seval];refine aG [.v (.bool true)] rfl ?_ ?_
  ·simp only[WA,seval]
  ·simp only[WA,seval]
   rfl
 ·rw[h1,add_zero,aga hU h2 h4];have hil:i<list.length:=(List.getElem?_eq_some_iff.1 h2).1;have hie:list[i]=e:=(List.getElem?_eq_some_iff.1 h2).2;have hem:e∈list:=mem_of_getElem? h2;have hjl:j<e.br.length:=(List.getElem?_eq_some_iff.1 h3).1;have hjc:e.br[j]=c:=(List.getElem?_eq_some_iff.1 h3).2;have hcm:c∈e.br:=mem_of_getElem? h3;simp only[WA,seval];refine bN (λ ws=>(t.Kind=7/\e.Name=t.Name)/\ws= []) ?_ ?_
  ·simp only[WA,seval];refine aG [.v (.bool (!(decide (t.Kind=7)&&decide (e.Name=t.Name))))] rfl ?_ ?_
   ·simp only[show decide ((i:Int)<0)=false from decide_eq_false (by omega),ai.cells,WA,seval];refine aP (λ h7=> ?_) (λ h7=> ?_)
    ·rw[decide_eq_false h7,Bool.false_and,Bool.not_false];simp only[WA,seval]
    ·simp only[bB,WA,seval];refine fS ad.av hil (ad.width _) ?_;rw[hie];simp only[ad.cells,ai.cells,WA,seval];refine aP (λ vN=> ?_) (λ vN=> ?_)
     ·rw[decide_eq_false vN,Bool.and_false,Bool.not_false];simp only[WA,seval]
     ·rw[decide_eq_true h7,decide_eq_true vN,Bool.true_and,Bool.not_true];simp only[bB,ai.cells,WA,seval];refine aJ (yV list t.Name hlen) ?_
      have hii:fQ (λ d=>decide (d.Name=t.Name)) list 0=(i:Int):=by
       cases hj:fh list t.Name with
       |none=>
        have:=List.find?_eq_none.1 hj e hem;simp[vN]at this
       |some e'=>
        obtain⟨k,hk1,hk2⟩:=kN (p:=λ d=>decide (d.Name=t.Name)) (λ _=>rfl) list 0 hj;have hen:=find?_some hj;simp only[decide_eq_true_eq]at hen;have:=hU.nm i k e e' h2 hk2 (by rw[vN,hen]);rw[hk1,this];simp
      simp only[hii,WA,seval];try simp
   ·simp only[WA,seval];refine aA (λ h=> ?_) (λ h=> ?_)
    ·rw[not_eq_true',Bool.and_eq_false_iff,decide_eq_false_iff_not,decide_eq_false_iff_not]at h;rw[if_neg (λ hh=>h.elim (λ h=>h hh.1) (λ h=>h hh.2))];simp only[WA,seval]
     rfl
    ·rw[not_eq_false',and_eq_true,decide_eq_true_eq,decide_eq_true_eq]at h;simp only[WA,seval]
     first|exact h|exact⟨h,trivial⟩|exact⟨h.1,h.2,trivial⟩
  ·rintro ws ⟨hk,rfl⟩ _;rw[if_pos hk];simp only[bB,WA,seval];refine fS ad.av hil (ad.width _) ?_;rw[hie];simp only[ad.cells,WA,seval];refine fS ak.av hjl (ak.width _) ?_;rw[hjc];simp only[ak.B,WA,seval];cases hh:c.Has with
   |false=>
    simp only[false_eq_true,WA,seval]
    rfl
   |true=>
    obtain⟨q1,q2⟩:=(hU.ct e hem).2 c hcm hh;simp only[ak.cells,ai.cells,ai.eta,WA,seval];refine bH (pd c.Arg 10 t.Kids q1 (.inr (.inl rfl)) (by omega) (by omega)) (ai.ag _) ?_;simp only[ai.E,WA,seval]
    rfl
theorem auE(list:List ad)(hU:UL list)(hlw:list.length+(list.map ad.wt).sum<=1000000)(name:ByteArray)(t:ai)(hb:t.wt<=1000000):aW Tryz.prog F.mQ [.sl (list.map ad.av),.v (.string name),t.av] (auV (oK list name t)):=by
 have hlen:=hU.len;have htw:=t.dY;have hn:AV.ae [.sl (list.map ad.av),.v (.string name),t.av]=true:=by simp only[AV.ae,fq,ai.ag,AV.ag,Bool.and_true]
 refine T.aaK rfl hn ?_;simp only[T.mQ,ai.B,WA,seval];refine bH (acL list name (by omega)) rfl ?_;rcases xQ name list 0 with⟨h1,h2⟩|⟨i,j,e,c,h1,h2,h3,h4⟩
 ·rw[h1,zH h2];simp only[WA,seval];refine aw ?_;simp only[WA,seval];refine aG [.v (.bool true)] rfl ?_ ?_
  ·simp only[WA,seval]
  ·simp only[WA,seval]
   rfl
 ·rw[h1,add_zero,aga hU h2 h4];have hil:i<list.length:=(List.getElem?_eq_some_iff.1 h2).1;have hie:list[i]=e:=(List.getElem?_eq_some_iff.1 h2).2;have hem:e∈list:=mem_of_getElem? h2;have hjl:j<e.br.length:=(List.getElem?_eq_some_iff.1 h3).1;have hjc:e.br[j]=c:=(List.getElem?_eq_some_iff.1 h3).2;have hcm:c∈e.br:=mem_of_getElem? h3;simp only[WA,seval];refine bN (λ ws=>(t.Kind=7/\e.Name=t.Name)/\ws= []) ?_ ?_
  ·simp only[WA,seval];refine aG [.v (.bool (!(decide (t.Kind=7)&&decide (e.Name=t.Name))))] rfl ?_ ?_
   ·simp only[show decide ((i:Int)<0)=false from decide_eq_false (by omega),ai.cells,WA,seval];refine aP (λ h7=> ?_) (λ h7=> ?_)
    ·rw[decide_eq_false h7,Bool.false_and,Bool.not_false];simp only[WA,seval]
    ·simp only[WA,seval];refine fS ad.av hil (ad.width _) ?_;rw[hie];simp only[ad.cells,ai.cells,WA,seval];rw[decide_eq_true h7,Bool.true_and]
   ·simp only[WA,seval];refine aA (λ h=> ?_) (λ h=> ?_)
    ·rw[not_eq_true',Bool.and_eq_false_iff,decide_eq_false_iff_not,decide_eq_false_iff_not]at h;rw[if_neg (λ hh=>h.elim (λ h=>h hh.1) (λ h=>h hh.2))];simp only[WA,seval]
     rfl
    ·rw[not_eq_false',and_eq_true,decide_eq_true_eq,decide_eq_true_eq]at h;simp only[WA,seval]
     first|exact h|exact⟨h,trivial⟩|exact⟨h.1,h.2,trivial⟩
  ·rintro ws ⟨hk,rfl⟩ _;rw[if_pos hk];simp only[WA,seval];refine fS ad.av hil (ad.width _) ?_;rw[hie];simp only[ad.cells,WA,seval];refine fS ak.av hjl (ak.width _) ?_;rw[hjc];simp only[ak.B,WA,seval];cases hh:c.Has with
   |false=>
    simp only[false_eq_true,WA,seval]
    rfl
   |true=>
    obtain⟨q1,q2⟩:=(hU.ct e hem).2 c hcm hh;simp only[ak.cells,ai.cells,ai.eta,WA,seval];refine bH (afy c.Arg t.Kids q1 (by omega) (by omega)) (ai.ag _) ?_;simp only[ai.E,WA,seval]
    rfl
theorem atx(P:Program)(e:Env)(O:List aj)(K:KT)(t s:Nat)(z:AV)(x:bj):Go.Ab.wpOp P (.ep t s 1 z [(0,x)]) e O K=((x.ev e).cells.length=s/\(x.ev e).storable=true/\AV.ae [x.ev e]=true/\k1 (.sl [x.ev e]) O K):=by
 simp[Go.Ab.wpOp,uO,k1]
theorem ayt(list:List ad)(ts:List ai)(ms:List Int)(d many:Int)(t:ai)(h1:ts.length<=1000000)(h2:ms.length<=1000000):aW Tryz.prog F.l6 [x5 list ts ms d,t.av,aD many] (x5 list (ts++ [t]) (ms++ [many]) d):=by
 refine gx A.ad5 rfl ?_;have ht:cA (some 4) t.av 0=t.av:=eg (ai.isAgg t) (ai.width t);have hz:AV.cells (AV.agg [aD 0,aD 0,.v (.string ⟨#[]⟩),.an])= [aD 0,aD 0,.v (.string ⟨#[]⟩),.an]:=rfl;simp only[A.l6,jJ,a8,ai.B,↓OD,OA,seval];refine sF _ _ (.refl 0 _ _) ?_;simp only[↓OD,seval]
 refine auB (al:=[
  ⟨none,(some 7),.bX 0 (.t 3)⟩,
  ⟨none,(some 8),.load none (.t 7)⟩,
  ⟨none,(some 9),.buildSlice 27 4 0 (.agg [(.v (.int .i64 0)),(.v (.int .i64 0)),(.v (.string ⟨#[]⟩)),.an]) []⟩,
  ⟨none,(some 10),.bX 1 (.t 3)⟩,
  ⟨none,(some 11),.load none (.t 10)⟩,
  ⟨none,(some 12),.app 27 4 56 (.t 9) (.t 11)⟩,
  ⟨none,(some 13),.load (some 4) (.t 4)⟩,
  ⟨none,(some 14),.ep 27 4 1 (.agg [(.v (.int .i64 0)),(.v (.int .i64 0)),(.v (.string ⟨#[]⟩)),.an]) [(0,(.t 13))]⟩,
  ⟨none,(some 15),.app 27 4 56 (.t 12) (.t 14)⟩,
  ⟨none,(some 16),.buildSlice 3 1 0 (.v (.int .i64 0)) []⟩,
  ⟨none,(some 17),.bX 2 (.t 3)⟩,
  ⟨none,(some 18),.load none (.t 17)⟩,
  ⟨none,(some 19),.app 3 1 8 (.t 16) (.t 18)⟩,
  ⟨none,(some 20),.bD (.t 2)⟩,
  ⟨none,(some 21),.ep 3 1 1 (.v (.int .i64 0)) [(0,(.t 20))]⟩,
  ⟨none,(some 22),.app 3 1 8 (.t 19) (.t 21)⟩,
  ⟨none,(some 23),.bX 3 (.t 3)⟩,
  ⟨none,(some 24),.load none (.t 23)⟩,
  ⟨none,(some 25),.build [.an,.an,.an,(.v (.int .i64 0))] [(0,1,(.t 8)),(1,1,(.t 15)),(2,1,(.t 22)),(3,1,(.t 24))]⟩,
  ⟨none,none,.store 4 (.t 6) (.t 25)⟩]) (al':=[
  ⟨none,(some 7),.bX 0 (.t 3)⟩,
  ⟨none,(some 8),.load none (.t 7)⟩,
  ⟨none,(some 9),.buildSlice 27 4 0 (.agg [(.v (.int .i64 0)),(.v (.int .i64 0)),(.v (.string ⟨#[]⟩)),.an]) []⟩,
  ⟨none,(some 10),.bX 1 (.t 3)⟩,
  ⟨none,(some 11),.load none (.t 10)⟩,
  ⟨none,(some 12),.app 27 4 56 (.t 9) (.t 11)⟩,
  ⟨none,(some 13),.load (some 4) (.t 4)⟩,
  ⟨none,(some 14),.ep 27 4 1 (.agg [(.v (.int .i64 0)),(.v (.int .i64 0)),(.v (.string ⟨#[]⟩)),.an]) [(0,(.t 13))]⟩,
  ⟨none,(some 15),.app 27 4 56 (.t 12) (.t 14)⟩,
  ⟨none,(some 16),.buildSlice 3 1 0 (.v (.int .i64 0)) []⟩,
  ⟨none,(some 17),.bX 2 (.t 3)⟩,
  ⟨none,(some 18),.load none (.t 17)⟩,
  ⟨none,(some 19),.app 3 1 8 (.t 16) (.t 18)⟩,
  ⟨none,(some 20),.bD (.t 2)⟩,
  ⟨none,(some 21),.ep 3 1 1 (.v (.int .i64 0)) [(0,(.t 20))]⟩,
  ⟨none,(some 22),.app 3 1 8 (.t 19) (.t 21)⟩,
  ⟨none,(some 23),.bX 3 (.t 3)⟩,
  ⟨none,(some 24),.load none (.t 23)⟩,
  ⟨none,(some 25),.build [.an,.an,.an,(.v (.int .i64 0))] [(0,1,(.t 8)),(1,1,(.t 15)),(2,1,(.t 22)),(3,1,(.t 24))]⟩,
  ⟨none,none,.store 4 (.t 6) (.t 25)⟩]) (ord:=[0,1,9,2,3,4,5,6,7,8,10,11,12,13,14,15,16,17,18,19]) (p0:=2) (i0:=9) (ex:=[
  ⟨none,(some 7),.bX 0 (.t 3)⟩,
  ⟨none,(some 8),.load none (.t 7)⟩,
  ⟨none,(some 16),.buildSlice 3 1 0 (.v (.int .i64 0)) []⟩,
  ⟨none,(some 9),.buildSlice 27 4 0 (.agg [(.v (.int .i64 0)),(.v (.int .i64 0)),(.v (.string ⟨#[]⟩)),.an]) []⟩,
  ⟨none,(some 10),.bX 1 (.t 3)⟩,
  ⟨none,(some 11),.load none (.t 10)⟩,
  ⟨none,(some 12),.app 27 4 56 (.t 9) (.t 11)⟩,
  ⟨none,(some 13),.load (some 4) (.t 4)⟩,
  ⟨none,(some 14),.ep 27 4 1 (.agg [(.v (.int .i64 0)),(.v (.int .i64 0)),(.v (.string ⟨#[]⟩)),.an]) [(0,(.t 13))]⟩,
  ⟨none,(some 15),.app 27 4 56 (.t 12) (.t 14)⟩,
  ⟨none,(some 17),.bX 2 (.t 3)⟩,
  ⟨none,(some 18),.load none (.t 17)⟩,
  ⟨none,(some 19),.app 3 1 8 (.t 16) (.t 18)⟩,
  ⟨none,(some 20),.bD (.t 2)⟩,
  ⟨none,(some 21),.ep 3 1 1 (.v (.int .i64 0)) [(0,(.t 20))]⟩,
  ⟨none,(some 22),.app 3 1 8 (.t 19) (.t 21)⟩,
  ⟨none,(some 23),.bX 3 (.t 3)⟩,
  ⟨none,(some 24),.load none (.t 23)⟩,
  ⟨none,(some 25),.build [.an,.an,.an,(.v (.int .i64 0))] [(0,1,(.t 8)),(1,1,(.t 15)),(2,1,(.t 22)),(3,1,(.t 24))]⟩,
  ⟨none,none,.store 4 (.t 6) (.t 25)⟩]) rfl rfl rfl ?_
 simp only[bB,ai.B,ht,↓OD,OA,seval];have w1:∀y∈ts.map ai.av,y.cells.length=4:=λ y hy=>by obtain⟨z,_,rfl⟩:=List.mem_map.1 hy;exact ai.width z
 have hm:maxLen=9223372036854775807:=rfl;have nt:AV.ae [t.av]=true:=by simp only[AV.ae,ai.ag,Bool.and_true]
 refine⟨w1,by simp;omega,by simp;omega,?_⟩;simp only[atx,bB,ai.B,nt,↓OD,OA,seval];have w2:∀y∈[t.av],y.cells.length=4:=λ y hy=>by rw[List.mem_singleton]at hy;rw[hy];exact ai.width t
 have w3:∀y∈ms.map aD,y.cells.length=1:=λ y hy=>by obtain⟨z,_,rfl⟩:=List.mem_map.1 hy;rfl
 have w4:∀y∈[aD many],y.cells.length=1:=λ y hy=>by rw[List.mem_singleton]at hy;rw[hy];rfl
 have b1:(ts.map ai.av).length*56<=140737488355328:=by simp;omega
 have b2:((ts.map ai.av).length+1)*56<=140737488355328:=by simp;omega
 have b3:(ts.map ai.av).length<=maxLen:=by rw[hm];simp;omega
 have b4:(ts.map ai.av).length+1<=maxLen:=by rw[hm];simp;omega
 have b5:(ms.map aD).length*8<=140737488355328:=by simp;omega
 have b6:((ms.map aD).length+1)*8<=140737488355328:=by simp;omega
 have b7:(ms.map aD).length<=maxLen:=by rw[hm];simp;omega
 have b8:(ms.map aD).length+1<=maxLen:=by rw[hm];simp;omega
 have c1:(3:Nat)<=4:=by decide
 have c2:(4:Nat)<=4:=by decide
 simp only[b1,b2,b3,b4,b5,b6,b7,b8,OA,seval];refine⟨w2,w3,w4,⟨w1,w2,w3,w4,by kernel_rfl,?_⟩,?_⟩
 ·have key:∀a:AV,a.ag=true->(a=a.bL (λ i=>if i=3 then 4 else if i=4 then 3 else i)/\a.inScope 5=true):=λ a h=>⟨(cU a h).symm,aM _ h⟩
  have n1:=fq list;have n2:AV.ae (ts.map ai.av)=true:=mO ts;have n3:AV.ae (ms.map aD)=true:=bt (f:=aD) λ _=>rfl
  have k1:(AV.sl (list.map ad.av)).ag=true:=n1;have k2:(AV.sl (ts.map ai.av)).ag=true:=n2;have k3:(AV.sl (ms.map aD)).ag=true:=n3;have k4:(AV.sl [t.av]).ag=true:=nt
  have q1:AV.ae (ts.map ai.av++ [t.av])=true:=by
   have:=mO (ts++ [t]);rwa [map_append]at this
  have q2:AV.ae (ms.map aD++ [aD many])=true:=by
   have:AV.ae ((ms++ [many]).map aD)=true:=bt (f:=aD) λ _=>rfl
   rwa [map_append]at this
  have r1:AV.mZ (λ i=>if i=3 then 4 else if i=4 then 3 else i) (ts.map ai.av++ [t.av])=ts.map ai.av++ [t.av]:=db _ q1;have r2:AV.mZ (λ i=>if i=3 then 4 else if i=4 then 3 else i) (ms.map aD++ [aD many])=ms.map aD++ [aD many]:=db _ q2;have r3:(x5 list ts ms d).bL (λ i=>if i=3 then 4 else if i=4 then 3 else i)=x5 list ts ms d:=cU _ (ph ..);have r4:t.av.bL (λ i=>if i=3 then 4 else if i=4 then 3 else i)=t.av:=cU _ (ai.ag t);have r5:AV.mZ (λ i=>if i=3 then 4 else if i=4 then 3 else i) (list.map ad.av)=list.map ad.av:=db _ n1;have s1:(AV.sl (ts.map ai.av++ [t.av])).inScope 5=true:=aM _ q1;have s2:(AV.sl (ms.map aD++ [aD many])).inScope 5=true:=aM _ q2;have s3:(x5 list ts ms d).inScope 5=true:=aM _ (ph ..);have s4:t.av.inScope 5=true:=aM _ (ai.ag t);have s5:(AV.sl (list.map ad.av)).inScope 5=true:=aM _ n1;refine WK.select (λ i=>if i=3 then 4 else if i=4 then 3 else i) (λ i hi=> ?_) (λ i j hi hj h=> ?_) (λ ob hb=> ?_) (λ u=> ?_)
  ·simp only[length_cons,length_nil]at hi;rcases(show i=0∨i=1∨i=2∨i=3∨i=4 by omega)with rfl|rfl|rfl|rfl|rfl
   ·show some (aj.live 86 4 [x5 list ts ms d])=some (aj.live 86 4 [(x5 list ts ms d).bL _]);rw[r3]
   ·show some (aj.live 27 4 [t.av])=some (aj.live 27 4 [t.av.bL _]);rw[r4]
   ·simp[aj.bL,AV.bL,AV.mZ,r5]
   ·simp only[List.getElem?_cons_succ,List.getElem?_cons_zero,map_some,aj.bL,←dM,r1,if_true]
   ·simp only[List.getElem?_cons_succ,List.getElem?_cons_zero,map_some,aj.bL,←dM,r2]
    rfl
  ·split at h<;>split at h<;>(try split at h)<;>(try split at h)<;>omega
  ·simp only[List.mem_cons,List.not_mem_nil,or_false,length_cons,length_nil]at hb⊢;rcases hb with rfl|rfl|rfl|rfl|rfl
   ·simp only[aj.inScope,AV.bK,s3,Bool.and_true]
   ·simp only[aj.inScope,AV.bK,s4,Bool.and_true]
   ·simp only[aj.inScope,AV.bK,AV.inScope]at s5⊢;simp[s5]
   ·simp only[aj.inScope,AV.inScope]at s1⊢;exact s1
   ·simp only[aj.inScope,AV.inScope]at s2⊢;exact s2
  ·refine .inr ?_;rcases Nat.lt_or_ge u 26 with h|h
   ·rcases(show u=0∨u=1∨u=2∨u=3∨u=4∨u=5∨u=6∨u=7∨u=8∨u=9∨u=10∨u=11∨u=12∨u=13∨u=14∨u=15∨u=16∨u=17∨u=18∨u=19∨u=20∨u=21∨u=22∨u=23∨u=24∨u=25 by omega)with rfl|rfl|rfl|rfl|rfl|rfl|rfl|rfl|rfl|rfl|rfl|rfl|rfl|rfl|rfl|rfl|rfl|rfl|rfl|rfl|rfl|rfl|rfl|rfl|rfl|rfl
    all_goals first
     |exact⟨rfl,rfl⟩
     |exact key _ k1
     |exact key _ k2
     |exact key _ k3
     |exact key _ k4
     |exact key _ (ai.ag t)
     |skip
    refine⟨?_,?_⟩
    ·show AV.agg [AV.sl (list.map ad.av),AV.row 4 _,AV.row 3 _,_]=AV.agg [AV.sl (AV.mZ _ (list.map ad.av)),AV.row 4 _,AV.row 3 _,_];rw[r5]
     rfl
    ·show(AV.agg [AV.sl (list.map ad.av),AV.row 3 _,AV.row 4 _,_]).inScope 5=true;simp only[AV.inScope,AV.bK]at s5⊢;simp[s5]
   ·have hu:∀k,k<26->¬u=k:=λ k hk=>by omega
    simp only[Env.set,hu _ (show 7<26 by decide),hu _ (show 8<26 by decide),hu _ (show 9<26 by decide),hu _ (show 10<26 by decide),hu _ (show 11<26 by decide),hu _ (show 12<26 by decide),hu _ (show 13<26 by decide),hu _ (show 14<26 by decide),hu _ (show 15<26 by decide),hu _ (show 16<26 by decide),hu _ (show 17<26 by decide),hu _ (show 18<26 by decide),hu _ (show 19<26 by decide),hu _ (show 20<26 by decide),hu _ (show 21<26 by decide),hu _ (show 22<26 by decide),hu _ (show 23<26 by decide),hu _ (show 24<26 by decide),hu _ (show 25<26 by decide),if_false]
    have:fx [(2,aD many),(3,AV.ptr 0 1 0 0),(4,AV.ptr 1 1 0 0),(6,AV.ptr 2 1 0 0)] u= .top:=by
     simp[fx,hu 2 (by decide),hu 3 (by decide),hu 4 (by decide),hu 6 (by decide)]
    rw[this];exact⟨rfl,rfl⟩
 ·refine axF (.inl rfl) 2 ?_ (ph ..);have hh:((4:Nat)<=4)=True:=by simp
  simp only[getD_some,hh,cA,fz,length_append,length_map,length_cons,length_nil,OA,seval];simp[x5]
end Go.Proofs.Ab
namespace Go.Ab
def aa.akZ(p:aa):Bool:=(decide (p.Kind=7)||decide (p.Name=⟨#[]⟩))&&(decide (p.Kind=3)||decide (p.Kind=4)||decide (p.fM=0))
theorem aa.anP(q:aa)(list:List ad)(d:Int)(a:ai):aa.jD [q] list d [a]=q.fit list d a:=by
 rw[aa.jD,aa.jD,Bool.and_true]
theorem aa.azA(p:aa)(list:List ad)(d:Int)(t:ai):p.fit list d t=(p.akZ&&(if p.Kind=1∨p.Kind=2 then decide (p.Kids.length=0)&&wE list d p.T&&p.T.same t
  else if p.Kind=3 then decide (p.Kids.length=0)&&p.T.none&&decide (0<=p.fM)&&decide (t.Kind=1)
  else if p.Kind=4 then decide (p.Kids.length=0)&&p.T.none&&my p.fM 0 1&&decide (t.Kind=2)
  else if p.Kind=5 then decide (p.Kids.length=0)&&p.T.none&&decide (t.Kind=3)
  else if p.Kind=7 then wE list d p.T&&p.T.same t&&(match oK list p.Name t with
   |some (some a)=>decide (p.Kids.length=1)&&aa.jD p.Kids list d [a]
   |some none=>decide (p.Kids.length=0)
   |none=>false)
  else if p.Kind=6 then p.T.none&&decide (2<=p.Kids.length)&&decide (t.Kind=6)&&decide (t.Kids.length=p.Kids.length)&&aa.jD p.Kids list d t.Kids
  else false)):=by
 cases p;rw[aa.fit]
 rfl
mutual
def aa.vars:aa->List ad->Int->ai->List ai
 | .mk k n s pt kids,list,d,t=>
   if k=2 then(if aa.fit (.mk k n s pt kids) list d t=true then [t]else [])
   else if k=7/\n=0/\wE list d pt=true/\pt.same t=true/\kids.length=1 then(match oK list s t with
    |some (some a)=>aa.adQ kids list d a
    |_=>[])
   else if k=6/\n=0/\s=⟨#[]⟩/\pt.none=true/\2<=kids.length/\t.Kind=6/\t.Kids.length=kids.length then aa.eu kids list d t.Kids
   else []
def aa.adQ:List aa->List ad->Int->ai->List ai
 | [],_,_,_=>[]
 |p::_,list,d,a=>p.vars list d a
def aa.eu:List aa->List ad->Int->List ai->List ai
 | [],_,_,_=>[]
 |_::_,_,_,[]=>[]
 |p::l,list,d,t::ts=>if p.fit list d t=true then p.vars list d t++aa.eu l list d ts else []
end
theorem aa.acU(p:aa)(list:List ad)(d:Int)(t:ai):p.vars list d t=
  if p.Kind=2 then(if p.fit list d t=true then [t]else [])
  else if p.Kind=7/\p.fM=0/\wE list d p.T=true/\p.T.same t=true/\p.Kids.length=1 then(match oK list p.Name t with
   |some (some a)=>aa.adQ p.Kids list d a
   |_=>[])
  else if p.Kind=6/\p.fM=0/\p.Name=⟨#[]⟩/\p.T.none=true/\2<=p.Kids.length/\t.Kind=6/\t.Kids.length=p.Kids.length then aa.eu p.Kids list d t.Kids
  else []:=by
 cases p;rw[aa.vars]
 rfl
theorem aa.adP(p:aa)(list:List ad)(d:Int):∀t:ai,(p.vars list d t).length<=p.dZ:=by
 intro t;have hs:=p.jV;rw[aa.acU]
 have hT:∀(l:List aa) (ts:List ai),(∀q∈l,∀t,(q.vars list d t).length<=q.dZ)->(aa.eu l list d ts).length<=(l.map aa.dZ).sum:=by
  intro l
  induction l with
  |nil=>intro ts _;simp[aa.eu]
  |cons q l ih=>
   intro ts h;cases ts with
   |nil=>simp[aa.eu]
   |cons t ts=>
    rw[aa.eu]
    split
    ·have h1:=h q (by simp) t;have h2:=ih ts λ x hx=>h x (by simp[hx])
     simp only[length_append,map_cons,sum_cons];omega
    ·simp
 split
 ·split
  ·simp;omega
  ·simp
 ·split
  ·split
   ·rename_i a _;cases hK:p.Kids with
    |nil=>simp[aa.adQ]
    |cons q l=>
     rw[aa.adQ];have h1:=aa.adP q list d a;rw[hK]at hs;simp only[map_cons,sum_cons]at hs;omega
   ·simp
  ·split
   ·have:=hT p.Kids t.Kids λ q hq t=>aa.adP q list d t
    omega
   ·simp
termination_by SizeOf.sizeOf p
decreasing_by
 all_goals first
  |exact aa.cT (by rw[hK];simp)
  |exact aa.cT hq
theorem afS(list:List ad)(d:Int)(a b:List aa)(ts us:List ai)(h:a.length=ts.length):aa.jD (a++b) list d (ts++us)=(aa.jD a list d ts&&aa.jD b list d us):=by
 induction a generalizing ts with
 |nil=>cases ts with
  |nil=>simp[aa.jD]
  |cons _ _=>simp at h
 |cons q a ih=>cases ts with
  |nil=>simp at h
  |cons t ts=>
   simp only[cons_append,aa.jD];rw[ih ts (by simpa using h),Bool.and_assoc]
theorem abp(list:List ad)(d:Int)(a b:List aa)(ts us:List ai)(h:a.length=ts.length):aa.eu (a++b) list d (ts++us)=aa.eu a list d ts++(if aa.jD a list d ts=true then aa.eu b list d us else []):=by
 induction a generalizing ts with
 |nil=>cases ts with
  |nil=>simp[aa.jD,aa.eu]
  |cons _ _=>simp at h
 |cons q a ih=>cases ts with
  |nil=>simp at h
  |cons t ts=>
   simp only[cons_append,aa.jD,aa.eu];rw[ih ts (by simpa using h)];by_cases hq:q.fit list d t=true
   ·simp[hq,List.append_assoc]
   ·simp[hq]
theorem zY(list:List ad)(d:Int):∀(l:List aa) (ts:List ai),(aa.eu l list d ts).length<=(l.map aa.dZ).sum
 | [],ts=>by simp[aa.eu]
 |q::l,[]=>by simp[aa.eu]
 |q::l,t::ts=>by
  rw[aa.eu]
  split
  ·have h1:=aa.adP q list d t;have h2:=zY list d l ts;simp only[length_append,map_cons,sum_cons];omega
  ·simp
theorem xd(list:List ad)(d:Int){l:List aa}{ts:List ai}(hl:ts.length=l.length){i:Nat}(hi:i<l.length)(hf:aa.jD (l.take i) list d (ts.take i)=true):
  aa.eu (l.take (i+1)) list d (ts.take (i+1))=aa.eu (l.take i) list d (ts.take i)++(if l[i].fit list d (ts[i]'(by omega))=true then l[i].vars list d (ts[i]'(by omega))else []):=by
 rw[take_add_one,take_add_one (l:=ts),getElem?_eq_getElem hi,getElem?_eq_getElem (show i<ts.length by omega),abp _ _ _ _ _ _ (by simp;omega),if_pos hf];simp[aa.eu]
theorem aaY(list:List ad)(d:Int){l:List aa}{ts:List ai}(hl:ts.length=l.length){i:Nat}(hi:i<l.length):
  aa.jD (l.take (i+1)) list d (ts.take (i+1))=(aa.jD (l.take i) list d (ts.take i)&&l[i].fit list d (ts[i]'(by omega))):=by
 rw[take_add_one,take_add_one (l:=ts),getElem?_eq_getElem hi,getElem?_eq_getElem (show i<ts.length by omega),afS _ _ _ _ _ _ (by simp;omega)];simp[aa.jD]
theorem ajc(list:List ad)(d:Int){l:List aa}{ts:List ai}(hl:ts.length=l.length){i:Nat}(hi:i<l.length)(hq:l[i].fit list d (ts[i]'(by omega))=false):aa.jD l list d ts=false/\(aa.jD (l.take i) list d (ts.take i)=true->aa.eu l list d ts=aa.eu (l.take i) list d (ts.take i)):=by
 have e1:l=l.take (i+1)++l.drop (i+1):=(take_append_drop _ _).symm;have e2:ts=ts.take (i+1)++ts.drop (i+1):=(take_append_drop _ _).symm;have h1:=aaY list d hl hi;rw[hq,Bool.and_false]at h1;constructor
 ·rw[e1,e2,afS _ _ _ _ _ _ (by simp;omega),h1,Bool.false_and]
 ·intro hf;have h2:=xd list d hl hi hf;rw[hq,if_neg (by simp),append_nil]at h2
  conv=>lhs;rw[e1,e2]
  rw[abp _ _ _ _ _ _ (by simp;omega),h1,if_neg (by simp),append_nil,h2]
end Go.Ab
namespace Go.Proofs.Ab
open Go.Ab
def akf(list:List ad)(ts:List ai)(ms:List Int)(d:Int)(vs:List ai)(b:Bool):AV:= .aZ [x5 list (ts++vs) (ms++vs.map λ _=>0) d,.v (.bool b)]
theorem jw(list:List ad)(ts:List ai)(ms:List Int)(d:Int)(b:Bool):akf list ts ms d [] b= .aZ [x5 list ts ms d,.v (.bool b)]:=by simp[akf]
theorem aeM(list:List ad)(ts:List ai)(ms:List Int)(d:Int)(vs:List ai)(b:Bool):(akf list ts ms d vs b).ag=true:=by
 simp only[akf,AV.ag,AV.ae,ph,Bool.and_true]
theorem akv(list:List ad)(hU:UL list)(hlw:list.length+(list.map ad.wt).sum<=1000000)(d:Int)(p:aa):∀(ts:List ai) (ms:List Int) (t:ai),p.wt<=1000000->ts.length+p.dZ<=1000000->ms.length+p.dZ<=1000000->aW Tryz.prog F.lM [x5 list ts ms d,p.av,t.av] (akf list ts ms d (p.vars list d t) (p.fit list d t)):=by
 intro ts ms t hb h1 h2;have hlen:=hU.len;have hw:=p.dY;have cV:=p.azA list d t;have iA:=p.acU list d t;have rI:=p.jV;have hT:p.T.wt<=1000000:=by omega
 have hn:AV.ae [x5 list ts ms d,p.av,t.av]=true:=by simp only[AV.ae,ph,aa.ag,ai.ag,Bool.and_true]
 refine T.ad6 rfl hn ?_;simp only[T.lM,bB,bQ,a8,aa.B,ai.E,WA,seval];have hz:decide (((p.Kids.length:Nat):Int)=0)=decide (p.Kids.length=0):=by simp
 have ayY:p.akZ=false->p.fit list d t=false:=λ h=>by rw[cV,h,Bool.false_and]
 refine bN (λ ws=>p.akZ=true/\ws= []) ?_ ?_
 ·simp only[WA,seval];refine aG [.v (.bool (!p.akZ))] rfl ?_ ?_
  ·unfold aa.akZ
   repeat' (first|(simp(disch:=(first|omega|rfl|exact rfl|(simp only[au,length_cons,length_nil];done)|exact aa.width _)) only[aa.E,WA,seval])|(refine aC (λ hq=> ?_) (λ hq=> ?_)<;>(try simp only[hq,BN]))|(refine aP (λ hq=> ?_) (λ hq=> ?_)<;>(try simp only[hq,BN]))|(refine aA (λ hq=> ?_) (λ hq=> ?_)<;>(try simp only[hq,BN]))|(refine aw ?_))
   all_goals simp_all
  ·simp only[WA,seval];refine aA (λ h=> ?_) (λ h=> ?_)
   ·rw[not_eq_true']at h
    have hv:p.vars list d t= []:=by
     have h':=h;unfold aa.akZ at h';simp only[Bool.and_eq_false_iff,Bool.or_eq_false_iff,decide_eq_false_iff_not]at h';rw[iA,ayY h,if_neg (by simp:¬(false=true))]
     split
     ·rfl
     ·split
      ·rename_i hk;rcases h' with h'|h'
       ·exact absurd hk.1 h'.1
       ·exact absurd hk.2.1 h'.2
      ·split
       ·rename_i hk;rcases h' with h'|h'
        ·exact absurd hk.2.2.1 h'.2
        ·exact absurd hk.2.1 h'.2
       ·rfl
    rw[hv,ayY h,jw];simp only[bB,bQ,a8,gV,WA,seval]
   ·rw[not_eq_false']at h;simp only[WA,seval]
    first|exact h|exact⟨h,trivial⟩
 ·rintro ws ⟨hh,rfl⟩ _;rw[hh,Bool.true_and]at cV
  have hn7:p.Kind=7->p.fM=0:=λ h=>by
   unfold aa.akZ at hh;simp only[and_eq_true,or_eq_true,decide_eq_true_eq,h]at hh;rcases hh.2 with(h|h)|h
   ·cases h
   ·cases h
   ·exact h
  have hn6:p.Kind=6->p.fM=0/\p.Name=⟨#[]⟩:=λ h=>by
   unfold aa.akZ at hh;simp only[and_eq_true,or_eq_true,decide_eq_true_eq,h]at hh;refine⟨?_,?_⟩
   ·rcases hh.2 with(h|h)|h
    ·cases h
    ·cases h
    ·exact h
   ·rcases hh.1 with h|h
    ·cases h
    ·exact h
  simp only[WA,seval];refine bN (λ ws=>(p.Kind≠1/\p.Kind≠2/\p.Kind≠3/\p.Kind≠4/\p.Kind≠5/\p.Kind≠7/\p.Kind≠6)/\ws= []) ?_ ?_;rotate_left
  ·rintro ws ⟨⟨k1,k2,k3,k4,k5,k7,k6⟩,rfl⟩ _;rw[if_neg (by omega),if_neg k3,if_neg k4,if_neg k5,if_neg k7,if_neg k6]at cV;rw[if_neg k2,if_neg (λ h=>k7 h.1),if_neg (λ h=>k6 h.1)]at iA;rw[cV,iA,jw];simp only[bB,bQ,a8,gV,WA,seval]
  simp only[WA,seval];refine aG [.v (.bool (decide (p.Kind=1)||decide (p.Kind=2)))] rfl ?_ ?_
  ·simp only[aa.cells,WA,seval];refine aC (λ h=> ?_) (λ h=> ?_)
   ·simp only[h,decide_true,Bool.true_or,WA,seval]
   ·simp only[aa.cells,decide_eq_false h,Bool.false_or,WA,seval]
  simp only[WA,seval];refine aA (λ h=> ?_) (λ h=> ?_)
  ·
   simp only[or_eq_true,decide_eq_true_eq]at h;rw[if_pos h]at cV;simp only[WA,seval];refine bN (λ ws=>p.fit list d t=true/\ws= []) ?_ ?_
   ·simp only[WA,seval];refine aG [.v (.bool (!p.fit list d t))] rfl ?_ ?_
    ·rw[cV]
     repeat' (first|(simp(disch:=(first|omega|rfl|exact rfl|(simp only[au,length_cons,length_nil];done)|exact aa.width _|exact ai.width _)) only[aa.E,ai.E,jJ,bQ,a8,hz,WA,seval])|(refine aC (λ hq=> ?_) (λ hq=> ?_)<;>(try simp only[hq,BN]))|(refine aP (λ hq=> ?_) (λ hq=> ?_)<;>(try simp only[hq,BN]))|(refine aA (λ hq=> ?_) (λ hq=> ?_)<;>(try simp only[hq]))|(refine aw ?_)|(refine aJ (aku list hlen ts ms p.T d (by omega)) ?_)|(refine aJ (nL p.T t (by omega)) ?_))
     all_goals simp_all
    ·simp only[WA,seval];refine aA (λ hf=> ?_) (λ hf=> ?_)
     ·rw[not_eq_true']at hf
      have hv:p.vars list d t= []:=by
       rw[iA,hf];rcases h with h|h
       ·rw[if_neg (by omega),if_neg (λ q=>by omega),if_neg (λ q=>by omega)]
       ·rw[if_pos h,if_neg (by simp)]
      rw[hv,hf,jw];simp only[bB,bQ,a8,gV,WA,seval]
     ·rw[not_eq_false']at hf;simp only[WA,seval]
      first|exact hf|exact⟨hf,trivial⟩
   ·rintro ws ⟨hf,rfl⟩ _;rw[hf]at iA⊢;simp only[WA,seval];refine aw ?_;simp only[aa.B,WA,seval];refine aC (λ k2=> ?_) (λ k2=> ?_)
    ·rw[if_pos k2,if_pos rfl]at iA;rw[iA];simp only[bB,bQ,a8,ai.E,WA,seval];refine bH (ayt list ts ms d 0 t (by omega) (by omega)) (ph ..) ?_;simp only[bB,bQ,a8,gV,WA,seval]
     rfl
    ·rw[if_neg k2,if_neg (λ q=>by omega),if_neg (λ q=>by omega)]at iA;rw[iA,jw];simp only[bB,gV,WA,seval]
  simp only[Bool.or_eq_false_iff,decide_eq_false_iff_not]at h;obtain⟨k1,k2⟩:=h;rw[if_neg (by omega)]at cV;rw[if_neg k2]at iA;simp only[aa.B,WA,seval];refine aC (λ k3=> ?_) (λ k3=> ?_)
  ·rw[if_pos k3]at cV;rw[if_neg (λ h=>by omega),if_neg (λ h=>by omega)]at iA;rw[iA,jw,cV];simp only[WA,seval];refine aG [.v (.bool (decide (p.Kids.length=0)&&p.T.none&&decide (0<=p.fM)&&decide (t.Kind=1)))] rfl ?_ ?_
   ·repeat' (first|(simp(disch:=(first|omega|rfl|exact rfl|(simp only[au,length_cons,length_nil];done)|exact aa.width _|exact ai.width _)) only[aa.E,ai.E,jJ,bQ,a8,hz,WA,seval])|(refine aC (λ hq=> ?_) (λ hq=> ?_)<;>(try simp only[hq,BN]))|(refine aP (λ hq=> ?_) (λ hq=> ?_)<;>(try simp only[hq,BN]))|(refine aA (λ hq=> ?_) (λ hq=> ?_)<;>(try simp only[hq]))|(refine aw ?_)|(refine aJ (yU p.T) ?_))
    all_goals simp_all
   ·simp only[bB,gV,WA,seval]
  rw[if_neg k3]at cV;simp only[aa.B,WA,seval];refine aC (λ k4=> ?_) (λ k4=> ?_)
  ·rw[if_pos k4]at cV;rw[if_neg (λ h=>by omega),if_neg (λ h=>by omega)]at iA;rw[iA,jw,cV];simp only[WA,seval];refine aG [.v (.bool (decide (p.Kids.length=0)&&p.T.none&&my p.fM 0 1&&decide (t.Kind=2)))] rfl ?_ ?_
   ·repeat' (first|(simp(disch:=(first|omega|rfl|exact rfl|(simp only[au,length_cons,length_nil];done)|exact aa.width _|exact ai.width _)) only[aa.E,ai.E,jJ,bQ,a8,hz,WA,seval])|(refine aC (λ hq=> ?_) (λ hq=> ?_)<;>(try simp only[hq,BN]))|(refine aP (λ hq=> ?_) (λ hq=> ?_)<;>(try simp only[hq,BN]))|(refine aA (λ hq=> ?_) (λ hq=> ?_)<;>(try simp only[hq]))|(refine aw ?_)|(refine aJ (yU p.T) ?_)|(refine aJ (ke _ _ _) ?_))
    all_goals simp_all
   ·simp only[bB,gV,WA,seval]
  rw[if_neg k4]at cV;simp only[aa.B,WA,seval];refine aC (λ k5=> ?_) (λ k5=> ?_)
  ·rw[if_pos k5]at cV;rw[if_neg (λ h=>by omega),if_neg (λ h=>by omega)]at iA;rw[iA,jw,cV];simp only[WA,seval];refine aG [.v (.bool (decide (p.Kids.length=0)&&p.T.none&&decide (t.Kind=3)))] rfl ?_ ?_
   ·repeat' (first|(simp(disch:=(first|omega|rfl|exact rfl|(simp only[au,length_cons,length_nil];done)|exact aa.width _|exact ai.width _)) only[aa.E,ai.E,jJ,bQ,a8,hz,WA,seval])|(refine aC (λ hq=> ?_) (λ hq=> ?_)<;>(try simp only[hq,BN]))|(refine aP (λ hq=> ?_) (λ hq=> ?_)<;>(try simp only[hq,BN]))|(refine aA (λ hq=> ?_) (λ hq=> ?_)<;>(try simp only[hq]))|(refine aw ?_)|(refine aJ (yU p.T) ?_))
    all_goals simp_all
   ·simp only[bB,gV,WA,seval]
  rw[if_neg k5]at cV;simp only[aa.B,WA,seval];refine aC (λ k7=> ?_) (λ k7=> ?_)
  ·rw[if_pos k7]at cV;have aQA:=hn7 k7;simp only[bB,bQ,a8,aa.B,ai.E,WA,seval];refine bH (aB1 list hU hlw ts ms p.Name p.T d (by omega)) (aAo _) ?_
   have hnf:(wE list d p.T&&p.T.same t)=false->p.fit list d t=false/\p.vars list d t= []:=λ hS=>by
    rw[cV,iA,hS,Bool.false_and];refine⟨rfl,?_⟩;rw[if_neg,if_neg (λ h=>by omega)];rintro⟨_,_,q1,q2,_⟩;rw[q1,q2]at hS;cases hS
   have s7:∀o,oK list p.Name t=some o->p.Kids.length≠o.toList.length->p.fit list d t=false/\p.vars list d t= []:=λ o ho hk=>by
    rw[cV,iA,ho,if_neg (λ h:(p.Kind=6/\_)=>by omega)];cases o with
    |none=>
     have hk':¬p.Kids.length=0:=hk;simp only[decide_eq_false hk',Bool.and_false,ite_self,true_and]
    |some a=>
     have hk':¬p.Kids.length=1:=hk;simp only[decide_eq_false hk',Bool.false_and,Bool.and_false,true_and];rw[if_neg (λ h=>hk' h.2.2.2.2)]
   cases ha:oK list p.Name p.T with
   |none=>
    have cJ:p.fit list d t=false/\p.vars list d t= []:=by
     cases hS:(wE list d p.T&&p.T.same t)with
     |false=>exact hnf hS
     |true=>
      rw[and_eq_true]at hS;have ht:=pj hS.2;rw[ht]at ha;rw[cV,iA,ha,if_neg (λ h:(p.Kind=6/\_)=>by omega)];simp only[Bool.and_false,ite_self,true_and]
    rw[cJ.1,cJ.2,jw];simp only[aqC,amk,WA,seval];refine aw ?_;simp only[WA,seval];refine aw ?_;simp only[bB,bQ,a8,gV,WA,seval]
   |some o=>
    have ho:p.T.same t=true->oK list p.Name t=some o:=λ hs=>by rw[←pj hs];exact ha
    have hgo:∀b:AV,b.cells.length=4->b.isAgg=true->b.storable=true->aqC (some o)= .aZ [b,aD o.toList.length,.v (.bool true)]->True:=λ _ _ _ _ _=>trivial
    cases o with
    |none=>
     simp only[aqC,amk,WA,seval];refine bN (λ ws=>(wE list d p.T=true/\p.T.same t=true/\p.Kids.length=0)/\ws= []) ?_ ?_
     ·simp only[WA,seval];refine aG [.v (.bool (!(wE list d p.T&&p.T.same t&&decide (p.Kids.length=0))))] rfl ?_ ?_
      ·repeat' (first|(simp(disch:=(first|omega|rfl|exact rfl|(simp only[au,length_cons,length_nil];done)|exact aa.width _|exact ai.width _)) only[aa.E,ai.E,jJ,bQ,a8,hz,WA,seval])|(refine aC (λ hq=> ?_) (λ hq=> ?_)<;>(try simp only[hq,BN]))|(refine aP (λ hq=> ?_) (λ hq=> ?_)<;>(try simp only[hq,BN]))|(refine aA (λ hq=> ?_) (λ hq=> ?_)<;>(try simp only[hq]))|(refine aw ?_)|(refine aJ (aku list hlen ts ms p.T d (by omega)) ?_)|(refine aJ (nL p.T t (by omega)) ?_))
       all_goals simp_all
      ·simp only[WA,seval];refine aA (λ h=> ?_) (λ h=> ?_)
       ·rw[not_eq_true']at h
        have cJ:p.fit list d t=false/\p.vars list d t= []:=by
         cases hS:(wE list d p.T&&p.T.same t)with
         |false=>exact hnf hS
         |true=>
          rw[hS,Bool.true_and,decide_eq_false_iff_not]at h;rw[and_eq_true]at hS;exact s7 _ (ho hS.2) h
        rw[cJ.1,cJ.2,jw];simp only[bB,bQ,a8,gV,WA,seval]
       ·rw[not_eq_false']at h;simp only[and_eq_true,decide_eq_true_eq]at h;simp only[WA,seval]
        first|exact⟨h.1.1,h.1.2,h.2⟩|exact⟨⟨h.1.1,h.1.2,h.2⟩,trivial⟩
     ·rintro ws ⟨⟨q1,q2,q3⟩,rfl⟩ _;have e1:p.fit list d t=true:=by rw[cV,q1,q2,ho q2,q3];rfl
      have e2:p.vars list d t= []:=by
       rw[iA,if_neg (λ h=>by omega),if_neg (λ h=>by omega)]
      rw[e1,e2,jw];simp only[bB,bQ,a8,gV,WA,seval]
    |some a=>
     simp only[aqC,ai.E,WA,seval];refine bN (λ ws=>(wE list d p.T=true/\p.T.same t=true/\p.Kids.length=1)/\ws= []) ?_ ?_
     ·simp only[WA,seval];refine aG [.v (.bool (!(wE list d p.T&&p.T.same t&&decide (p.Kids.length=1))))] rfl ?_ ?_
      ·have hz1:decide (((p.Kids.length:Nat):Int)=1)=decide (p.Kids.length=1):=by simp;omega
       repeat' (first|(simp(disch:=(first|omega|rfl|exact rfl|(simp only[au,length_cons,length_nil];done)|exact aa.width _|exact ai.width _)) only[aa.E,ai.E,jJ,bQ,a8,hz1,WA,seval])|(refine aC (λ hq=> ?_) (λ hq=> ?_)<;>(try simp only[hq,BN]))|(refine aP (λ hq=> ?_) (λ hq=> ?_)<;>(try simp only[hq,BN]))|(refine aA (λ hq=> ?_) (λ hq=> ?_)<;>(try simp only[hq]))|(refine aw ?_)|(refine aJ (aku list hlen ts ms p.T d (by omega)) ?_)|(refine aJ (nL p.T t (by omega)) ?_))
       all_goals simp_all
      ·simp only[WA,seval];refine aA (λ h=> ?_) (λ h=> ?_)
       ·rw[not_eq_true']at h
        have cJ:p.fit list d t=false/\p.vars list d t= []:=by
         cases hS:(wE list d p.T&&p.T.same t)with
         |false=>exact hnf hS
         |true=>
          rw[hS,Bool.true_and,decide_eq_false_iff_not]at h;rw[and_eq_true]at hS;exact s7 _ (ho hS.2) h
        rw[cJ.1,cJ.2,jw];simp only[bB,bQ,a8,gV,WA,seval]
       ·rw[not_eq_false']at h;simp only[and_eq_true,decide_eq_true_eq]at h;simp only[WA,seval]
        first|exact⟨h.1.1,h.1.2,h.2⟩|exact⟨⟨h.1.1,h.1.2,h.2⟩,trivial⟩
     ·rintro ws ⟨⟨q1,q2,q3⟩,rfl⟩ _
      obtain⟨q,hq⟩:∃q,p.Kids= [q]:=by
       cases hK:p.Kids with
       |nil=>rw[hK]at q3;cases q3
       |cons x l=>rw[hK]at q3;cases l with
        |nil=>exact⟨x,rfl⟩
        |cons _ _=>simp at q3
      have hqm:q∈p.Kids:=by rw[hq];simp
      have e1:p.fit list d t=q.fit list d a:=by
       rw[cV,q1,q2,ho q2];simp only[hq,aa.anP,length_cons,length_nil,decide_true,Bool.true_and]
      have e2:p.vars list d t=q.vars list d a:=by
       rw[iA,if_pos ⟨k7,aQA,q1,q2,q3⟩,ho q2,hq];simp only[aa.adQ]
      rw[e1,e2];have hi:0<p.Kids.length:=by omega
      have hkw:=eH aa.wt hqm;have hks:=eH aa.dZ hqm;have ih:=akv list hU hlw d q ts ms a (by omega) (by omega) (by omega);simp only[bB,bQ,a8,aa.B,WA,seval];refine fS aa.av (n:=0) hi (aa.width _) ?_;have hq0:p.Kids[0]=q:=by simp[hq]
      rw[hq0];simp only[aa.B,ai.E,WA,seval];refine bH ih (aeM ..) ?_;unfold akf;simp only[bB,bQ,a8,gV,WA,seval]
  rw[if_neg k7]at cV;rw[if_neg (λ h=>k7 h.1)]at iA;simp only[aa.B,WA,seval];refine aC (λ k6=> ?_) (λ k6=> ?_)
  ·rw[if_pos k6]at cV;obtain⟨aQC,aQB⟩:=hn6 k6;simp only[WA,seval];have hz2:decide (((t.Kids.length:Nat):Int)=((p.Kids.length:Nat):Int))=decide (t.Kids.length=p.Kids.length):=by simp;omega
   have hz3:decide (((p.Kids.length:Nat):Int)<2)= !decide (2<=p.Kids.length):=by
    by_cases h:2<=p.Kids.length
    ·rw[decide_eq_true h,decide_eq_false (by omega)];rfl
    ·rw[decide_eq_false h,decide_eq_true (by omega)];rfl
   refine bN (λ ws=>(p.T.none=true/\2<=p.Kids.length/\t.Kind=6/\t.Kids.length=p.Kids.length)/\ws= []) ?_ ?_
   ·simp only[WA,seval];refine aG [.v (.bool (!(p.T.none&&decide (2<=p.Kids.length)&&decide (t.Kind=6)&&decide (t.Kids.length=p.Kids.length))))] rfl ?_ ?_
    ·simp only[aa.B,ai.E,WA,seval]
     repeat' (first|(simp(disch:=(first|omega|rfl|exact rfl|(simp only[au,length_cons,length_nil];done)|exact aa.width _|exact ai.width _)) only[ai.E,hz2,hz3,WA,seval])|(refine aC (λ hq=> ?_) (λ hq=> ?_)<;>(try simp only[hq,BN]))|(refine aP (λ hq=> ?_) (λ hq=> ?_)<;>(try simp only[hq,BN]))|(refine aA (λ hq=> ?_) (λ hq=> ?_)<;>(try simp only[hq]))|(refine aw ?_)|(refine aJ (yU p.T) ?_))
     all_goals simp_all
    ·simp only[WA,seval];refine aA (λ h=> ?_) (λ h=> ?_)
     ·rw[not_eq_true']at h;have e1:p.fit list d t=false:=by rw[cV,h,Bool.false_and]
      have e2:p.vars list d t= []:=by
       rw[iA,if_neg];rintro⟨_,_,_,q1,q2,q3,q4⟩;rw[q1,decide_eq_true q2,decide_eq_true q3,decide_eq_true q4]at h;cases h
      rw[e1,e2,jw];simp only[bB,bQ,a8,gV,WA,seval]
     ·rw[not_eq_false']at h;simp only[and_eq_true,decide_eq_true_eq]at h;simp only[WA,seval]
      first|exact⟨h.1.1.1,h.1.1.2,h.1.2,h.2⟩|exact⟨⟨h.1.1.1,h.1.1.2,h.1.2,h.2⟩,trivial⟩
   ·rintro ws ⟨⟨q1,q2,q3,q4⟩,rfl⟩ _;rw[q1,decide_eq_true q2,decide_eq_true q3,decide_eq_true q4]at cV;simp only[Bool.and_self,Bool.true_and]at cV;rw[if_pos ⟨k6,aQC,aQB,q1,q2,q3,q4⟩]at iA;rw[cV,iA];have hle:∀i,i<=p.Kids.length->(aa.eu (p.Kids.take i) list d (t.Kids.take i)).length<=((p.Kids.take i).map aa.dZ).sum:=λ i hi=>zY list d _ _
    simp only[WA,seval];refine bN (λ ws=>aa.jD p.Kids list d t.Kids=true/\ws=(x5 list (ts++aa.eu p.Kids list d t.Kids) (ms++(aa.eu p.Kids list d t.Kids).map λ _=>0) d).cells) ?_ ?_
    ·simp only[bB,WA,seval];refine fK (ι:=Nat) (λ i=>i<=p.Kids.length/\aa.jD (p.Kids.take i) list d (t.Kids.take i)=true) (λ i=>(x5 list (ts++aa.eu (p.Kids.take i) list d (t.Kids.take i)) (ms++(aa.eu (p.Kids.take i) list d (t.Kids.take i)).map λ _=>0) d).cells++ [aD i]) (λ i=>p.Kids.length- i) 0 ⟨zero_le _,rfl⟩ (by simp only[List.take_zero,aa.eu,append_nil,map_nil];rfl) λ i hi=> ?_
     obtain⟨hi,hf⟩:=hi;simp only[bB,WA,seval];refine aC (λ aK=> ?_) (λ aK=> ?_)
     ·have dm:i<p.Kids.length:=by omega
      have aHo:i<t.Kids.length:=by omega
      have hm:p.Kids[i]∈p.Kids:=getElem_mem dm;have hkw:=eH aa.wt hm;have hks:=hle (i+1) dm
      have aNs:((p.Kids.take (i+1)).map aa.dZ).sum<=(p.Kids.map aa.dZ).sum:=by
       conv=>rhs;rw[←take_append_drop (i+1) p.Kids]
       rw[map_append,sum_append];omega
      have aQK:=hle i hi
      have aTR:((p.Kids.take (i+1)).map aa.dZ).sum=((p.Kids.take i).map aa.dZ).sum+p.Kids[i].dZ:=by
       rw[take_add_one,getElem?_eq_getElem dm,map_append,sum_append];simp
      have ih:=akv list hU hlw d p.Kids[i] (ts++aa.eu (p.Kids.take i) list d (t.Kids.take i)) (ms++(aa.eu (p.Kids.take i) list d (t.Kids.take i)).map λ _=>0) t.Kids[i] (by omega) (by rw[length_append];omega) (by rw[length_append,length_map];omega);have e1:IntKind.i64.wrap ((i:Int)+1)=((i+1:Nat):Int):=by rw[cE (by omega) (by omega)];rfl
      simp only[aa.B,WA,seval];refine fS aa.av dm (aa.width _) ?_;simp only[aa.B,ai.E,WA,seval];refine fS ai.av aHo (ai.width _) ?_;simp only[gV,ai.E,WA,seval];refine bH ih (aeM ..) ?_;have sD:=xd list d q4 dm hf;have u4:=aaY list d q4 dm;rw[hf,Bool.true_and]at u4;unfold akf;simp only[bB,bQ,a8,WA,seval];cases hq:p.Kids[i].fit list d t.Kids[i]with
      |false=>
       obtain⟨r1,r2⟩:=ajc list d q4 dm hq;rw[r1,r2 hf];simp only[Bool.not_false,bB,bQ,a8,gV,WA,seval]
      |true=>
       rw[hq,if_pos rfl]at sD;simp only[Bool.not_true,bB,bQ,a8,WA,seval];refine⟨i+1,⟨by omega,by rw[u4,hq]⟩,by omega,?_⟩;rw[sD,e1];simp[List.append_assoc,aD]
     ·have hie:i=p.Kids.length:=by omega
      subst hie;rw[take_length,List.take_of_length_le (by omega)]at hf⊢;simp only[WA,seval];exact hf
    ·rintro ws ⟨hf,rfl⟩ _;rw[hf];unfold akf;simp only[bB,bQ,a8,gV,WA,seval]
  ·simp only[WA,seval]
   first|exact⟨k1,k2,k3,k4,k5,k7,k6⟩|exact⟨⟨k1,k2,k3,k4,k5,k7,k6⟩,trivial⟩
termination_by SizeOf.sizeOf p
decreasing_by all_goals first
 |exact aa.cT hqm
 |exact aa.cT hm
end Go.Proofs.Ab
namespace Go.Ab
def aa.typed(p:aa):Bool:=decide (p.Kind=1)||(decide (p.Kind=2)||decide (p.Kind=7))
def aa.c1(p:aa)(list:List ad)(d:Int)(t:ai):Bool:=if p.typed=true then wE list d p.T&&p.T.same t else p.T.none
def aa.c2(p:aa):Bool:=(decide (p.Kind=3)||(decide (p.Kind=4)||decide (p.fM=0)))&&((decide (p.Kind=7)||decide (p.Name=⟨#[]⟩))&&(decide (p.Kind=7)||(decide (p.Kind=6)||decide (p.Kids.length=0))))
def aa.rest(p:aa)(list:List ad)(d:Int)(t:ai):Bool:=
 if p.Kind=1∨p.Kind=2 then true
 else if p.Kind=3 then decide (t.Kind=1)&&decide (0<=p.fM)
 else if p.Kind=4 then decide (t.Kind=2)&&my p.fM 0 1
 else if p.Kind=5 then decide (t.Kind=3)
 else if p.Kind=7 then(match oK list p.Name t with
      |some o=>decide (p.Kids.length=o.toList.length)&&aa.jD p.Kids list d o.toList
      |none=>false)
 else if p.Kind=6 then decide (2<=p.Kids.length)&&decide (t.Kind=6)&&decide (t.Kids.length=p.Kids.length)&&aa.jD p.Kids list d t.Kids
 else false
theorem aa.zr(p:aa)(list:List ad)(d:Int)(t:ai):p.fit list d t=(p.c1 list d t&&(p.c2&&p.rest list d t)):=by
 have h:=p.azA list d t;unfold aa.c1 aa.c2 aa.rest aa.typed;unfold aa.akZ at h;rw[h];by_cases k1:p.Kind=1
 ·simp only[k1,show¬((1:Int)=2) by decide,show¬((1:Int)=3) by decide,show¬((1:Int)=4) by decide,show¬((1:Int)=7) by decide,show¬((1:Int)=6) by decide,decide_true,decide_false,Bool.false_or,Bool.true_or,if_true,true_or,Bool.and_true];generalize decide (p.Name=_)=a;generalize decide (p.Kids.length=0)=b;generalize decide (p.fM=0)=c;generalize wE list d p.T=e;generalize p.T.same t=f;cases a<;>cases b<;>cases c<;>cases e<;>cases f<;>rfl
 by_cases k2:p.Kind=2
 ·simp only[k2,show¬((2:Int)=1) by decide,show¬((2:Int)=3) by decide,show¬((2:Int)=4) by decide,show¬((2:Int)=7) by decide,show¬((2:Int)=6) by decide,decide_true,decide_false,Bool.false_or,Bool.true_or,if_true,or_true,Bool.and_true];generalize decide (p.Name=_)=a;generalize decide (p.Kids.length=0)=b;generalize decide (p.fM=0)=c;generalize wE list d p.T=e;generalize p.T.same t=f;cases a<;>cases b<;>cases c<;>cases e<;>cases f<;>rfl
 by_cases k3:p.Kind=3
 ·simp only[k3,show¬((3:Int)=1) by decide,show¬((3:Int)=2) by decide,show¬((3:Int)=4) by decide,show¬((3:Int)=7) by decide,show¬((3:Int)=6) by decide,decide_true,decide_false,Bool.false_or,Bool.true_or,if_true,if_false,or_self,Bool.and_true,Bool.true_and,false_eq_true];generalize decide (p.Name=_)=a;generalize decide (p.Kids.length=0)=b;generalize p.T.none=c;generalize decide (0<=p.fM)=e;generalize decide (t.Kind=1)=f;cases a<;>cases b<;>cases c<;>cases e<;>cases f<;>rfl
 by_cases k4:p.Kind=4
 ·simp only[k4,show¬((4:Int)=1) by decide,show¬((4:Int)=2) by decide,show¬((4:Int)=3) by decide,show¬((4:Int)=7) by decide,show¬((4:Int)=6) by decide,decide_true,decide_false,Bool.false_or,Bool.true_or,Bool.or_true,if_true,if_false,or_self,Bool.and_true,Bool.true_and,false_eq_true];generalize decide (p.Name=_)=a;generalize decide (p.Kids.length=0)=b;generalize p.T.none=c;generalize my p.fM 0 1=e;generalize decide (t.Kind=2)=f;cases a<;>cases b<;>cases c<;>cases e<;>cases f<;>rfl
 by_cases k5:p.Kind=5
 ·simp only[k5,show¬((5:Int)=1) by decide,show¬((5:Int)=2) by decide,show¬((5:Int)=3) by decide,show¬((5:Int)=4) by decide,show¬((5:Int)=7) by decide,show¬((5:Int)=6) by decide,decide_false,Bool.false_or,if_true,if_false,or_self,false_eq_true];generalize decide (p.Name=_)=a;generalize decide (p.Kids.length=0)=b;generalize p.T.none=c;generalize decide (p.fM=0)=e;generalize decide (t.Kind=3)=f;cases a<;>cases b<;>cases c<;>cases e<;>cases f<;>rfl
 by_cases k7:p.Kind=7
 ·have hm:∀o:Option (Option ai),(match o with
     |some (some a)=>decide (p.Kids.length=1)&&aa.jD p.Kids list d [a]
     |some none=>decide (p.Kids.length=0)
     |none=>false)=(match o with
     |some o=>decide (p.Kids.length=o.toList.length)&&aa.jD p.Kids list d o.toList
     |none=>false):=by
    rintro(_|_|a)
    ·rfl
    ·show decide (p.Kids.length=0)=(decide (p.Kids.length=0)&&aa.jD p.Kids list d []);by_cases h0:p.Kids.length=0
     ·rw[List.eq_nil_of_length_eq_zero h0];rfl
     ·rw[decide_eq_false h0];rfl
    ·rfl
  simp only[k7,show¬((7:Int)=1) by decide,show¬((7:Int)=2) by decide,show¬((7:Int)=3) by decide,show¬((7:Int)=4) by decide,show¬((7:Int)=5) by decide,show¬((7:Int)=6) by decide,decide_true,decide_false,Bool.false_or,Bool.true_or,Bool.or_true,if_true,if_false,or_self,Bool.and_true,Bool.true_and];generalize decide (p.fM=0)=a;generalize wE list d p.T=b;generalize p.T.same t=c;have hm':=hm (oK list p.Name t);generalize oK list p.Name t=o at hm'⊢;refine Eq.trans (congrArg (λ x=>a&&(b&&c&&x)) hm') ?_;cases a<;>cases b<;>cases c<;>simp
 by_cases k6:p.Kind=6
 ·simp only[k6,show¬((6:Int)=1) by decide,show¬((6:Int)=2) by decide,show¬((6:Int)=3) by decide,show¬((6:Int)=4) by decide,show¬((6:Int)=5) by decide,show¬((6:Int)=7) by decide,decide_true,decide_false,Bool.false_or,Bool.true_or,Bool.or_true,if_true,if_false,or_self,Bool.and_true,false_eq_true];generalize decide (p.Name=_)=a;generalize p.T.none=b;generalize decide (p.fM=0)=c;cases a<;>cases b<;>cases c<;>simp
 simp only[k1,k2,k3,k4,k5,k6,k7,or_self,if_false,Bool.and_false]
theorem aa.zX(p:aa)(list:List ad)(d:Int)(t:ai)(h:p.fit list d t=true):(p.Kind=2->p.vars list d t= [t])/\(p.Kind=7->∀o,oK list p.Name t=some o->p.vars list d t=aa.eu p.Kids list d o.toList)/\(p.Kind=6->p.vars list d t=aa.eu p.Kids list d t.Kids):=by
 have hv:=p.acU list d t;have hr:=p.zr list d t;rw[h]at hv hr;have lV:=hr.symm;simp only[and_eq_true]at lV;obtain⟨r1,r2,r3⟩:=lV;refine⟨λ k2=>by rw[hv,if_pos k2,if_pos rfl],λ k7 o ho=> ?_,λ k6=> ?_⟩
 ·rw[if_neg (by omega)]at hv;unfold aa.c1 aa.typed at r1;simp only[k7,show¬((7:Int)=1) by decide,show¬((7:Int)=2) by decide,decide_true,decide_false,Bool.or_true,if_true,and_eq_true]at r1;unfold aa.c2 at r2;simp only[k7,show¬((7:Int)=3) by decide,show¬((7:Int)=4) by decide,decide_false,Bool.false_or,and_eq_true,decide_eq_true_eq]at r2;unfold aa.rest at r3;simp only[k7,ho,show¬((7:Int)=1) by decide,show¬((7:Int)=2) by decide,show¬((7:Int)=3) by decide,show¬((7:Int)=4) by decide,show¬((7:Int)=5) by decide,or_self,if_false,if_true,and_eq_true,decide_eq_true_eq]at r3;rcases o with _|a
  ·have h0:p.Kids= []:=List.eq_nil_of_length_eq_zero r3.1;rw[hv,if_neg (by rw[h0];simp),if_neg (by omega),h0,aa.eu]
  ·have h1:p.Kids.length=1:=r3.1
   obtain⟨q,hq⟩:∃q,p.Kids= [q]:=by
    cases hK:p.Kids with
    |nil=>rw[hK]at h1;cases h1
    |cons x l=>rw[hK]at h1;cases l with
     |nil=>exact⟨x,rfl⟩
     |cons _ _=>simp at h1
   have hf:q.fit list d a=true:=by
    have:=r3.2;rw[hq]at this;rwa [show(some a).toList= [a]from rfl,aa.anP]at this
   rw[hv,if_pos ⟨k7,r2.1,r1.1,r1.2,h1⟩,ho,hq]
   show aa.adQ [q] list d a=aa.eu [q] list d [a];rw[aa.adQ,aa.eu,if_pos hf,aa.eu,append_nil]
 ·rw[if_neg (by omega),if_neg (by omega)]at hv;unfold aa.c1 aa.typed at r1;simp only[k6,show¬((6:Int)=1) by decide,show¬((6:Int)=2) by decide,show¬((6:Int)=7) by decide,decide_false,Bool.false_or,false_eq_true,if_false]at r1;unfold aa.c2 at r2;simp only[k6,show¬((6:Int)=3) by decide,show¬((6:Int)=4) by decide,show¬((6:Int)=7) by decide,decide_false,Bool.false_or,and_eq_true,decide_eq_true_eq]at r2;unfold aa.rest at r3;simp only[k6,show¬((6:Int)=1) by decide,show¬((6:Int)=2) by decide,show¬((6:Int)=3) by decide,show¬((6:Int)=4) by decide,show¬((6:Int)=5) by decide,show¬((6:Int)=7) by decide,or_self,if_false,if_true,and_eq_true,decide_eq_true_eq]at r3;rw[hv,if_pos ⟨k6,r2.1,r2.2.1,r1,r3.1.1.1,r3.1.1.2,r3.1.2⟩]
def oE(p:aa)(list:List ad)(d:Int)(t:ai):AV:=
 if p.fit list d t=true/\(p.Kind=2∨p.Kind=6∨p.Kind=7)then .aZ [.sl ((p.vars list d t).map ai.av),.v (.bool true)]else .aZ [.an,.v (.bool (p.fit list d t))]
theorem aja(p:aa)(list:List ad)(d:Int)(t:ai):(oE p list d t).ag=true:=by
 unfold oE
 split
 ·have:=bt (f:=ai.av) (l:=p.vars list d t) ai.ag;simp[AV.ag,AV.ae,this]
 ·rfl
theorem anN{p:aa}{list:List ad}{d:Int}{t:ai}(h:p.fit list d t=false):oE p list d t= .aZ [.an,.v (.bool false)]:=by
 unfold oE;rw[h,if_neg (λ q=>by cases q.1)]
theorem ai9{p:aa}{list:List ad}{d:Int}{t:ai}(h:p.fit list d t=true)(hk:p.Kind=2∨p.Kind=6∨p.Kind=7):oE p list d t= .aZ [.sl ((p.vars list d t).map ai.av),.v (.bool true)]:=by
 unfold oE;rw[if_pos ⟨h,hk⟩]
theorem afR{p:aa}{list:List ad}{d:Int}{t:ai}(h:p.fit list d t=true)(hk:¬(p.Kind=2∨p.Kind=6∨p.Kind=7)):oE p list d t= .aZ [.an,.v (.bool true)]:=by
 unfold oE;rw[h,if_neg (λ q=>hk q.2)]
end Go.Ab
namespace Go.Proofs.Ab
open Go.Ab
theorem azz(list:List ad)(hU:UL list)(hlw:list.length+(list.map ad.wt).sum<=1000000)(d:Int)(p:aa):∀(t:ai),p.wt<=1000000->aW Tryz.prog F.fD [chA list,p.av,t.av,aD d] (oE p list d t):=by
 intro t hb;have hlen:=hU.len;have hw:=p.dY;have cV:=p.zr list d t;have rI:=p.jV;have aTs:=aa.aeq p;have hT:p.T.wt<=1000000:=by omega
 have hz:decide (((p.Kids.length:Nat):Int)=0)=decide (p.Kids.length=0):=by simp
 have hz0:decide (((p.Kids.length:Nat):Int)>0)= !decide (p.Kids.length=0):=by
  cases hk:p.Kids.length<;>simp
 have cJ:p.fit list d t=false->oE p list d t= .aZ [.an,.v (.bool false)]:=λ h=>by
  unfold oE;rw[h,if_neg (λ q=>by cases q.1)]
 have hn:AV.ae [chA list,p.av,t.av,aD d]=true:=by simp only[AV.ae,AV.ag,vR,aa.ag,ai.ag,Bool.and_true]
 refine T.ub rfl hn ?_;simp only[T.fD,aa.E,ai.E,WA,seval];refine aG [.v (.bool p.typed)] rfl ?_ ?_
 ·unfold aa.typed
  repeat' (first|(simp(disch:=(first|omega|rfl|exact rfl|(simp only[au,length_cons,length_nil];done)|exact aa.width _|exact ai.width _)) only[aa.E,WA,seval])|(refine aC (λ hq=> ?_) (λ hq=> ?_)<;>(try simp only[hq,BN]))|(refine aP (λ hq=> ?_) (λ hq=> ?_)<;>(try simp only[hq,BN]))|(refine aA (λ hq=> ?_) (λ hq=> ?_)<;>(try simp only[hq,BN]))|(refine aw ?_))
  all_goals simp_all
 simp only[WA,seval];refine bN (λ ws=>p.c1 list d t=true/\ws= []) ?_ ?_
 ·simp only[WA,seval];refine aG [.v (.bool (!p.c1 list d t))] rfl ?_ ?_
  ·unfold aa.c1
   repeat' (first|(simp(disch:=(first|omega|rfl|exact rfl|(simp only[au,length_cons,length_nil];done)|exact aa.width _|exact ai.width _)) only[aa.E,ai.E,WA,seval])|(refine aC (λ hq=> ?_) (λ hq=> ?_)<;>(try simp only[hq,BN]))|(refine aP (λ hq=> ?_) (λ hq=> ?_)<;>(try simp only[hq,BN]))|(refine aA (λ hq=> ?_) (λ hq=> ?_)<;>(try simp only[hq]))|(refine aw ?_)|(refine aJ (asW list hlen p.T d (by omega)) ?_)|(refine aJ (wQ p.T t (by omega)) ?_)|(refine aJ (auy p.T) ?_))
   all_goals simp_all
  ·simp only[WA,seval];refine aA (λ h=> ?_) (λ h=> ?_)
   ·rw[not_eq_true']at h;rw[cJ (by rw[cV,h,Bool.false_and])];simp only[WA,seval]
   ·rw[not_eq_false']at h;simp only[WA,seval]
    first|exact h|exact⟨h,trivial⟩
 rintro ws ⟨hc1,rfl⟩ _;rw[hc1,Bool.true_and]at cV;simp only[WA,seval];refine bN (λ ws=>p.c2=true/\ws= []) ?_ ?_
 ·simp only[WA,seval];refine aG [.v (.bool (!p.c2))] rfl ?_ ?_
  ·unfold aa.c2
   repeat' (first|(simp(disch:=(first|omega|rfl|exact rfl|(simp only[au,length_cons,length_nil];done)|exact aa.width _|exact ai.width _)) only[aa.E,hz0,WA,seval])|(refine aC (λ hq=> ?_) (λ hq=> ?_)<;>(try simp only[hq,BN]))|(refine aP (λ hq=> ?_) (λ hq=> ?_)<;>(try simp only[hq,BN]))|(refine aA (λ hq=> ?_) (λ hq=> ?_)<;>(try simp only[hq,BN]))|(refine aw ?_))
   all_goals simp_all
  ·simp only[WA,seval];refine aA (λ h=> ?_) (λ h=> ?_)
   ·rw[not_eq_true']at h;rw[cJ (by rw[cV,h,Bool.false_and])];simp only[WA,seval]
   ·rw[not_eq_false']at h;simp only[WA,seval]
    first|exact h|exact⟨h,trivial⟩
 rintro ws ⟨hc2,rfl⟩ _;rw[hc2,Bool.true_and]at cV;unfold aa.rest at cV
 have asr:∀b,p.fit list d t=b->p.Kind≠2->p.Kind≠6->p.Kind≠7->oE p list d t= .aZ [.an,.v (.bool b)]:=λ b hb h2 h6 h7=>by
  unfold oE;rw[hb,if_neg (λ q=>by omega)]
 simp only[WA,seval];refine bN (λ ws=>(p.Kind≠1/\p.Kind≠2/\p.Kind≠3/\p.Kind≠4/\p.Kind≠5)/\ws= []) ?_ ?_
 ·simp only[aa.E,WA,seval];refine aC (λ k1=> ?_) (λ k1=> ?_)
  ·rw[if_pos (.inl k1)]at cV;rw[asr _ cV (by omega) (by omega) (by omega)];simp only[WA,seval]
  simp only[aa.E,WA,seval];refine aC (λ k2=> ?_) (λ k2=> ?_)
  ·rw[if_pos (.inr k2)]at cV
   have e:oE p list d t= .aZ [.sl [t.av],.v (.bool true)]:=by
    unfold oE;rw[if_pos ⟨cV,.inl k2⟩,(p.zX list d t cV).1 k2];rfl
   rw[e];simp only[ai.E,WA,seval]
  rw[if_neg (by omega)]at cV;simp only[aa.E,WA,seval];refine aC (λ k3=> ?_) (λ k3=> ?_)
  ·rw[if_pos k3]at cV;rw[asr _ cV (by omega) (by omega) (by omega)];simp only[WA,seval];refine aG [.v (.bool (decide (t.Kind=1)&&decide (0<=p.fM)))] rfl ?_ ?_
   ·repeat' (first|(simp(disch:=(first|omega|rfl|exact rfl|(simp only[au,length_cons,length_nil];done)|exact aa.width _|exact ai.width _)) only[aa.E,ai.E,WA,seval])|(refine aC (λ hq=> ?_) (λ hq=> ?_)<;>(try simp only[hq,BN]))|(refine aP (λ hq=> ?_) (λ hq=> ?_)<;>(try simp only[hq,BN]))|(refine aA (λ hq=> ?_) (λ hq=> ?_)<;>(try simp only[hq,BN]))|(refine aw ?_))
    all_goals simp_all
   ·simp only[WA,seval]
  rw[if_neg k3]at cV;simp only[aa.E,WA,seval];refine aC (λ k4=> ?_) (λ k4=> ?_)
  ·rw[if_pos k4]at cV;rw[asr _ cV (by omega) (by omega) (by omega)];simp only[WA,seval];refine aG [.v (.bool (decide (t.Kind=2)&&my p.fM 0 1))] rfl ?_ ?_
   ·repeat' (first|(simp(disch:=(first|omega|rfl|exact rfl|(simp only[au,length_cons,length_nil];done)|exact aa.width _|exact ai.width _)) only[aa.E,ai.E,WA,seval])|(refine aC (λ hq=> ?_) (λ hq=> ?_)<;>(try simp only[hq,BN]))|(refine aP (λ hq=> ?_) (λ hq=> ?_)<;>(try simp only[hq,BN]))|(refine aA (λ hq=> ?_) (λ hq=> ?_)<;>(try simp only[hq,BN]))|(refine aw ?_)|(refine aJ (nO _ _ _) ?_))
    all_goals simp_all
   ·simp only[WA,seval]
  rw[if_neg k4]at cV;simp only[aa.E,WA,seval];refine aC (λ k5=> ?_) (λ k5=> ?_)
  ·rw[if_pos k5]at cV;rw[asr _ cV (by omega) (by omega) (by omega)];simp only[ai.E,WA,seval]
  simp only[WA,seval]
  first|exact⟨k1,k2,k3,k4,k5⟩|exact⟨⟨k1,k2,k3,k4,k5⟩,trivial⟩
 rintro ws ⟨⟨k1,k2,k3,k4,k5⟩,rfl⟩ _;rw[if_neg (by omega),if_neg k3,if_neg k4,if_neg k5]at cV;simp only[WA,seval];refine bN (λ ws=>∃ks:List ai,ws= [.sl (ks.map ai.av)]/\(p.Kind=6∨p.Kind=7)/\p.fit list d t=(decide (p.Kids.length=ks.length)&&aa.jD p.Kids list d ks)/\(p.fit list d t=true->p.vars list d t=aa.eu p.Kids list d ks)) ?_ ?_
 ·simp only[aa.E,WA,seval];refine aC (λ k7=> ?_) (λ k7=> ?_)
  ·rw[if_pos k7]at cV
   have nQ:p.T=t:=by
    unfold aa.c1 aa.typed at hc1;simp only[k7,show¬((7:Int)=1) by decide,show¬((7:Int)=2) by decide,decide_true,decide_false,Bool.or_true,if_true,and_eq_true]at hc1;exact pj hc1.2
   rw[nQ]at hT;have hc:=auE list hU hlw p.Name t hT;unfold chA;simp only[aa.E,ai.E,WA,seval];refine bH hc (aAp _) ?_;have hvr:=λ h=>(p.zX list d t h).2.1 k7
   cases ha:oK list p.Name t with
   |none=>
    rw[ha]at cV;rw[cJ cV];simp only[auV,amk,WA,seval]
   |some o=>
    rw[ha]at cV;have aMU:=λ h=>hvr h o ha
    cases o with
    |none=>
     simp only[auV,amk,WA,seval];exact⟨[],rfl,.inr k7,cV,aMU⟩
    |some a=>
     simp only[auV,ai.E,WA,seval];exact⟨[a],rfl,.inr k7,cV,aMU⟩
  ·rw[if_neg k7]at cV;simp only[WA,seval];refine aG [.v (.bool (!(decide (p.Kind=6)&&(decide (t.Kind=6)&&decide (2<=p.Kids.length)))))] rfl ?_ ?_
   ·have hz3:decide (((p.Kids.length:Nat):Int)<2)= !decide (2<=p.Kids.length):=by
      by_cases h:2<=p.Kids.length
      ·rw[decide_eq_true h,decide_eq_false (by omega)];rfl
      ·rw[decide_eq_false h,decide_eq_true (by omega)];rfl
    repeat' (first|(simp(disch:=(first|omega|rfl|exact rfl|(simp only[au,length_cons,length_nil];done)|exact aa.width _|exact ai.width _)) only[aa.E,ai.E,hz3,WA,seval])|(refine aC (λ hq=> ?_) (λ hq=> ?_)<;>(try simp only[hq,BN]))|(refine aP (λ hq=> ?_) (λ hq=> ?_)<;>(try simp only[hq,BN]))|(refine aA (λ hq=> ?_) (λ hq=> ?_)<;>(try simp only[hq,BN]))|(refine aw ?_))
    all_goals simp_all
   ·simp only[WA,seval];refine aA (λ h=> ?_) (λ h=> ?_)
    ·rw[not_eq_true']at h
     have e1:p.fit list d t=false:=by
      rw[cV];by_cases k6:p.Kind=6
      ·rw[if_pos k6];rw[decide_eq_true k6,Bool.true_and]at h;rw[Bool.and_comm (decide (2<=_)),h];rfl
      ·rw[if_neg k6]
     rw[cJ e1];simp only[WA,seval]
    ·rw[not_eq_false']at h;simp only[and_eq_true,decide_eq_true_eq]at h;obtain⟨k6,t6,hk⟩:=h;rw[if_pos k6,decide_eq_true hk,decide_eq_true t6]at cV;simp only[ai.E,WA,seval];refine⟨t.Kids,rfl,.inl k6,?_,λ h=>(p.zX list d t h).2.2 k6⟩;rw[cV];by_cases hl:t.Kids.length=p.Kids.length
     ·rw[decide_eq_true hl,decide_eq_true hl.symm];rfl
     ·rw[decide_eq_false hl,decide_eq_false (λ h=>hl h.symm)];rfl
 rintro ws ⟨ks,rfl,aQN,hf,hv⟩ _;have hzl:decide (((ks.length:Nat):Int)=((p.Kids.length:Nat):Int))=decide (ks.length=p.Kids.length):=by simp;omega
 simp only[length_map,hzl,aa.E,WA,seval];refine aP (λ hk=> ?_) (λ hk=> ?_)
 ·rw[cJ (by rw[hf,decide_eq_false (λ h=>hk h.symm),Bool.false_and])];simp only[WA,seval]
 rw[decide_eq_true hk.symm,Bool.true_and]at hf;have hle:∀i,i<=p.Kids.length->(aa.eu (p.Kids.take i) list d (ks.take i)).length<=((p.Kids.take i).map aa.dZ).sum:=λ i hi=>zY list d _ _
 simp only[WA,seval];refine bN (λ ws=>p.fit list d t=true/\ws= [.sl ((p.vars list d t).map ai.av)]) ?_ ?_
 ·simp only[aa.E,WA,seval];refine fK (ι:=Nat) (λ i=>i<=p.Kids.length/\aa.jD (p.Kids.take i) list d (ks.take i)=true) (λ i=>[.sl ((aa.eu (p.Kids.take i) list d (ks.take i)).map ai.av),aD i]) (λ i=>p.Kids.length- i) 0 ⟨zero_le _,rfl⟩ (by simp only[List.take_zero,aa.eu,map_nil];rfl) λ i hi=> ?_
  obtain⟨hi,hfi⟩:=hi;simp only[WA,seval];refine aC (λ aK=> ?_) (λ aK=> ?_)
  ·have dm:i<p.Kids.length:=by omega
   have aHo:i<ks.length:=by omega
   have hm:p.Kids[i]∈p.Kids:=getElem_mem dm;have hkw:=eH aa.wt hm;have hks:=hle (i+1) dm
   have aNs:((p.Kids.take (i+1)).map aa.dZ).sum<=(p.Kids.map aa.dZ).sum:=by
    conv=>rhs;rw[←take_append_drop (i+1) p.Kids]
    rw[map_append,sum_append];omega
   have aQK:=hle i hi;have ih:=azz list hU hlw d p.Kids[i] ks[i] (by omega);have e1:IntKind.i64.wrap ((i:Int)+1)=((i+1:Nat):Int):=by rw[cE (by omega) (by omega)];rfl
   simp only[aa.E,WA,seval];refine fS aa.av dm (aa.width _) ?_;simp only[aa.E,WA,seval];refine fS ai.av aHo (ai.width _) ?_;simp only[ai.E,WA,seval];refine bH ih (aja ..) ?_;have sD:=xd list d hk dm hfi;have u4:=aaY list d hk dm;rw[hfi,Bool.true_and]at u4;cases hq:p.Kids[i].fit list d ks[i]with
   |false=>
    obtain⟨r1,r2⟩:=ajc list d hk dm hq;rw[cJ (by rw[hf,r1])];rw[anN hq];simp only[Bool.not_false,WA,seval]
   |true=>
    rw[hq,if_pos rfl]at sD
    have hln:(aa.eu (p.Kids.take i) list d (ks.take i)).length+(p.Kids[i].vars list d ks[i]).length<=1000001:=by
     rw[←length_append,←sD];omega
    by_cases hkk:p.Kids[i].Kind=2∨p.Kids[i].Kind=6∨p.Kids[i].Kind=7
    ·rw[ai9 hq hkk];simp only[Bool.not_true,length_map,WA,seval];refine⟨λ y hy=>by obtain⟨z,_,rfl⟩:=List.mem_map.1 hy;exact ai.width z,by omega,by omega,i+1,⟨by omega,by rw[u4,hq]⟩,by omega,?_⟩;rw[sD,e1,map_append]
    ·have hv0:p.Kids[i].vars list d ks[i]= []:=by
       rw[aa.acU,if_neg (λ h=>hkk (.inl h)),if_neg (λ h=>hkk (.inr (.inr h.1))),if_neg (λ h=>hkk (.inr (.inl h.1)))]
     rw[afR hq hkk];rw[hv0,append_nil]at sD;simp only[Bool.not_true,length_map,WA,seval];refine⟨λ _=>trivial,by omega,by omega,i+1,⟨by omega,by rw[u4,hq]⟩,by omega,?_⟩;rw[sD,e1]
  ·have hie:i=p.Kids.length:=by omega
   subst hie;rw[take_length,List.take_of_length_le (by omega)]at hfi⊢;have hft:p.fit list d t=true:=by rw[hf,hfi]
   rw[hv hft];simp only[WA,seval]
   first|exact hft|exact⟨hft,trivial⟩|exact⟨hft,rfl⟩
 ·rintro ws ⟨hft,rfl⟩ _
  have e:oE p list d t= .aZ [.sl ((p.vars list d t).map ai.av),.v (.bool true)]:=by
   unfold oE;rw[if_pos ⟨hft,.inr aQN⟩]
  rw[e];simp only[WA,seval]
termination_by SizeOf.sizeOf p
decreasing_by all_goals first
 |exact aa.cT hqm
 |exact aa.cT hm
end Go.Proofs.Ab
namespace Go.Ab
def eo(list:List ad)(t:ai)(aB:List aa):Bool:=
 my aB.length 1 30&&(t.wN&&t.names list 1099511627776 0)&&(aB.all (λ p=>p.fit list 1099511627776 t)&&decide ((aB.map aa.dZ).sum<=60))
def yo(l:List Int):Int:=l.foldl (λ m n=>if m<=n/\n<1099511627776 then n+1 else m) 0
def wD(t:ai):Int:=yo (if t.wN&&my 9 9 11 then dr [] (t.ja 9)else [])
def iN(list:List ad)(t:ai)(aB:List aa):Bool:=
 wE list (wD t) t&&my aB.length 1 30&&decide ((aB.map aa.dZ).sum<=60)&&aB.all (λ p=>p.fit list (wD t) t)
theorem ajy:∀(l:List Int) (m:Int),0<=m->m<=1099511627776->0<=l.foldl (λ m n=>if m<=n/\n<1099511627776 then n+1 else m) m/\l.foldl (λ m n=>if m<=n/\n<1099511627776 then n+1 else m) m<=1099511627776
 | [],m,h0,h1=>⟨h0,h1⟩
 |n::l,m,h0,h1=>by
  rw[List.foldl_cons]
  split
  ·exact ajy l _ (by omega) (by omega)
  ·exact ajy l _ h0 h1
theorem asT{l:List Int}{i:Nat}(hi:i<l.length):yo (l.take (i+1))=if yo (l.take i)<=l[i]/\l[i]<1099511627776 then l[i]+1 else yo (l.take i):=by
 unfold yo;rw[take_add_one,getElem?_eq_getElem hi,List.foldl_append]
 rfl
theorem aoz{α:Type}{f:α->Bool}{l:List α}{i:Nat}(hi:i<l.length)(h:f l[i]=false):l.all f=false:=by
 cases hq:l.all f with
 |false=>rfl
 |true=>rw[List.all_eq_true.1 hq _ (getElem_mem hi)]at h;cases h
theorem aoA{α:Type}{f:α->Bool}{l:List α}{i:Nat}(hi:i<l.length):(l.take (i+1)).all f=((l.take i).all f&&f l[i]):=by
 rw[take_add_one,getElem?_eq_getElem hi,List.all_append];simp
theorem amr{l:List aa}{i:Nat}(hi:i<l.length):((l.take (i+1)).map aa.dZ).sum=((l.take i).map aa.dZ).sum+l[i].dZ:=by
 rw[take_add_one,getElem?_eq_getElem hi,map_append,sum_append];simp
theorem aoW{l:List aa}{k:Nat}(h:∀p∈l,p.dZ<=k):(l.map aa.dZ).sum<=l.length*k:=by
 induction l with
 |nil=>simp
 |cons a l ih=>
  have h1:=h a (by simp);have h2:=ih λ p hp=>h p (by simp[hp])
  simp only[map_cons,sum_cons,length_cons,Nat.add_mul,Nat.one_mul];omega
end Go.Ab
namespace Go.Proofs.Ab
open Go.Ab
structure RB5(aB:List aa):Prop where
 len:aB.length<=1000
 wt:∀p∈aB,p.wt<=1000000
theorem RB5.dZ{aB:List aa}(h:RB5 aB){p:aa}(hp:p∈aB):p.dZ<=1000001:=by
 have:=aa.aeq p;have:=h.wt p hp;omega
theorem RB5.take{aB:List aa}(h:RB5 aB)(i:Nat):((aB.take i).map aa.dZ).sum<=1000*1000001:=by
 have h1:=aoW (l:=aB.take i) (k:=1000001) λ p hp=>h.dZ (List.mem_of_mem_take hp)
 have h2:(aB.take i).length<=1000:=by
  rw[List.length_take];exact Nat.le_trans (Nat.min_le_right _ _) h.len
 exact Nat.le_trans h1 (Nat.mul_le_mul_right 1000001 h2)
theorem ayq(t:ai)(ht:t.wt<=1000000):aW Tryz.prog F.n7 [t.av] (aD (wD t)):=by
 refine T.ab4 rfl (by simp only[AV.ae,ai.ag,Bool.and_true]) ?_;have hf:=amA t 9 (by omega);have hnf:AV.ae ((if t.wN&&my 9 9 11 then dr [] (t.ja 9)else []).map aD)=true:=bt (f:=aD) λ _=>rfl
 have hln:(if t.wN&&my 9 9 11 then dr [] (t.ja 9)else []).length<=1000002:=by
  split
  ·have h1:=tv (t.ja 9) [];have h2:=t.aaX 9;simp only[length_nil]at h1;omega
  ·simp
 unfold wD;simp only[T.n7,ai.E,WA,seval];refine asA hf hnf ?_;generalize (if t.wN&&my 9 9 11 then dr [] (t.ja 9)else [])=l at hln;simp only[WA,seval];refine aG [aD (yo l)] rfl ?_ ?_
 ·simp only[WA,seval];refine sV l.length (λ i=>[aD (yo (l.take i)),aD i]) rfl λ i hi=> ?_
  have hvb:=ajy (l.take i) 0 (by omega) (by omega);have aTj:0<=yo (l.take i)/\yo (l.take i)<=1099511627776:=hvb;simp only[length_map,WA,seval];refine aC (λ aK=> ?_) (λ aK=> ?_)
  ·have dm:i<l.length:=by omega
   have e1:IntKind.i64.wrap ((i:Int)+1)=((i+1:Nat):Int):=by rw[cE (by omega) (by omega)];rfl
   have nQ:=asT dm;have hgi:(l.map aD).getD i .top=aD l[i]:=by simp[List.getD,List.getElem?_map,getElem?_eq_getElem dm]
   simp only[WA,seval];refine aG [aD (yo (l.take (i+1)))] rfl ?_ ?_
   ·simp only[WA,seval];have hc:((l.map aD).getD i .top).cells= [aD l[i]]:=by rw[hgi];rfl
    refine aG [.v (.bool (decide (yo (l.take i)<=l[i])&&decide (l[i]<1099511627776)))] rfl ?_ ?_
    ·simp only[length_map,hc,length_map,WA,seval];refine⟨aK,dm,aC (λ h1=> ?_) (λ h1=> ?_)⟩
     ·rw[decide_eq_true h1,Bool.true_and];simp only[hc,aK,dm,true_and,length_map,length_map,WA,seval]
     ·rw[decide_eq_false h1,Bool.false_and];simp only[WA,seval]
    ·simp only[WA,seval];refine aA (λ h=> ?_) (λ h=> ?_)
     ·simp only[and_eq_true,decide_eq_true_eq]at h;rw[if_pos h]at nQ;have e2:IntKind.i64.wrap (l[i]+1)=l[i]+1:=cE (by omega) (by omega);rw[nQ];simp only[hc,e2,aK,dm,true_and,length_map,length_map,WA,seval]
     ·have h':¬(yo (l.take i)<=l[i]/\l[i]<1099511627776):=by
        rintro⟨q1,q2⟩;rw[decide_eq_true q1,decide_eq_true q2]at h;cases h
      rw[if_neg h']at nQ;rw[nQ];simp only[WA,seval]
   ·simp only[e1,WA,seval]
    first|exact dm|exact⟨dm,trivial⟩
  ·have hie:i=l.length:=by omega
   subst hie;rw[take_length];simp only[WA,seval]
 ·simp only[WA,seval]
def scN(list:List ad)(d:Int):AV:= .agg [.sl (list.map ad.av),.an,.an,aD d]
theorem as9(list:List ad)(d:Int):(scN list d).cells= [.sl (list.map ad.av),.an,.an,aD d]:=nr rfl
theorem as8(list:List ad)(d:Int):(scN list d).isAgg=true:=nr rfl
theorem aj4(list:List ad)(d:Int):(scN list d).storable=true:=nr rfl
theorem acX(list:List ad)(d:Int):AV.agg [.sl (list.map ad.av),.an,.an,aD d]=scN list d:=nr rfl
theorem aGu(list:List ad)(d:Int):AV.oY (scN list d) (x5 list [] [] d):=by
 refine .agg _ _ rfl λ i a b ha hb=> ?_
 match i,ha,hb with
 |0,ha,hb=>cases ha;cases hb;exact .refl _
 |1,ha,hb=>cases ha;cases hb;exact .nil
 |2,ha,hb=>cases ha;cases hb;exact .nil
 |3,ha,hb=>cases ha;cases hb;exact .refl _
theorem aAn{f:FuncId}{args:List AV}{res:AV}{list:List ad}{d:Int}(h:aW Tryz.prog f (x5 list [] [] d::args) res):aW Tryz.prog f (scN list d::args) res:=h.abY rfl λ i x y hx hy=>by
 match i,hx,hy with
 |0,hx,hy=>cases hx;cases hy;exact aGu list d
 |i+1,hx,hy=>
  simp only[List.getElem?_cons_succ]at hx hy;rw[hx]at hy;cases hy;exact .refl _
theorem aiS(list:List ad)(hU:UL list)(hlw:list.length+(list.map ad.wt).sum<=1000000)(t:ai)(aB:List aa)(ht:t.wt<=1000000)(hp:RB5 aB):aW Tryz.prog F.kF [.sl (list.map ad.av),t.av,.sl (aB.map aa.av)] (.v (.bool (iN list t aB))):=by
 have hlen:=hU.len;have hpl:=hp.len;refine T.z6 rfl (by simp only[AV.ae,AV.ag,fq,iq,ai.ag,Bool.and_true]) ?_;simp only[T.kF,ai.E,WA,seval];refine aJ (ayq t ht) ?_;generalize hd:wD t=d;simp only[acX,as9,as8,aj4,WA,seval];refine bN (λ ws=>(wE list d t&&my aB.length 1 30)=true/\ws= []) ?_ ?_
 ·simp only[WA,seval];refine aG [.v (.bool (!(wE list d t&&my aB.length 1 30)))] rfl ?_ ?_
  ·repeat' (first|(simp(disch:=(first|omega|rfl|exact rfl|(simp only[au,length_cons,length_nil];done)|exact ai.width _)) only[ai.E,length_map,acX,WA,seval])|(simp(disch:=(first|omega|rfl|exact rfl|(simp only[au,length_cons,length_nil];done)|exact ai.width _)) only[ai.E,length_map,acX,cD,cu,aI,mP,WA,seval])|(refine aC (λ hq=> ?_) (λ hq=> ?_)<;>(try simp only[hq,BN]))|(refine aP (λ hq=> ?_) (λ hq=> ?_)<;>(try simp only[hq,BN]))|(refine aA (λ hq=> ?_) (λ hq=> ?_)<;>(try simp only[hq]))|(refine aw ?_)|(refine aJ (aAn (aku list hlen [] [] t d (by omega))) ?_)|(refine aJ (ke _ _ _) ?_))
   all_goals simp_all
  ·simp only[WA,seval];refine aA (λ h=> ?_) (λ h=> ?_)
   ·rw[not_eq_true']at h;simp only[iN,hd,h,Bool.false_and,WA,seval]
   ·rw[not_eq_false']at h;simp only[WA,seval]
    first|exact h|exact⟨h,trivial⟩
 rintro ws ⟨hc,rfl⟩ _;have hcm:iN list t aB=(decide ((aB.map aa.dZ).sum<=60)&&aB.all (λ p=>p.fit list d t)):=by rw[iN,hd,hc,Bool.true_and]
 rw[hcm];simp only[WA,seval];refine aG [aD ((aB.map aa.dZ).sum:Nat)] rfl ?_ ?_
 ·simp only[WA,seval];refine sV aB.length (λ i=>[aD (((aB.take i).map aa.dZ).sum:Nat),aD i]) rfl λ i hi=> ?_
  simp only[length_map,WA,seval];refine aC (λ aK=> ?_) (λ aK=> ?_)
  ·have dm:i<aB.length:=by omega
   have hm:aB[i]∈aB:=getElem_mem dm;have e1:IntKind.i64.wrap ((i:Int)+1)=((i+1:Nat):Int):=by rw[cE (by omega) (by omega)];rfl
   have nQ:=amr dm;have hb1:=hp.take (i+1)
   have e2:IntKind.i64.wrap (((((aB.take i).map aa.dZ).sum:Nat):Int)+(aB[i].dZ:Nat))=((((aB.take (i+1)).map aa.dZ).sum:Nat):Int):=by
    rw[nQ,cE (by omega) (by omega)];rfl
   simp only[WA,seval];refine fS aa.av dm (aa.width _) ?_;simp only[aa.E,WA,seval];refine aJ (abH aB[i] (by have:=hp.wt _ hm;omega)) ?_;simp only[e1,e2,WA,seval]
   first|exact⟨dm,rfl⟩|exact dm
  ·have hie:i=aB.length:=by omega
   subst hie;rw[take_length];simp only[WA,seval]
 simp only[WA,seval];refine aC (λ hgt=> ?_) (λ hgt=> ?_)
 ·rw[decide_eq_false (by omega),Bool.false_and];simp only[WA,seval]
 rw[decide_eq_true (by omega),Bool.true_and];simp only[WA,seval];refine bN (λ ws=>aB.all (λ p=>p.fit list d t)=true/\ws= []) ?_ ?_
 ·simp only[WA,seval];refine fK (ι:=Nat) (λ i=>i<=aB.length/\(aB.take i).all (λ p=>p.fit list d t)=true) (λ i=>[aD i]) (λ i=>aB.length- i) 0 ⟨zero_le _,rfl⟩ rfl λ i hi=> ?_
  obtain⟨hi,hf⟩:=hi;simp only[length_map,WA,seval];refine aC (λ aK=> ?_) (λ aK=> ?_)
  ·have dm:i<aB.length:=by omega
   have hm:aB[i]∈aB:=getElem_mem dm;have e1:IntKind.i64.wrap ((i:Int)+1)=((i+1:Nat):Int):=by rw[cE (by omega) (by omega)];rfl
   have u4:=aoA (f:=λ p:aa=>p.fit list d t) dm;rw[hf,Bool.true_and]at u4;have rI:=hp.dZ hm;simp only[WA,seval];refine fS aa.av dm (aa.width _) ?_
   have hps:aB[i].dZ<=1000000:=by
    have:=eH aa.dZ hm;omega
   simp only[acX,aa.E,ai.E,WA,seval];refine bH (aAn (akv list hU hlw d aB[i] [] [] t (hp.wt _ hm) (by simpa using hps) (by simpa using hps))) (aeM ..) ?_;unfold akf;simp only[bB,bQ,a8,WA,seval];cases hq:aB[i].fit list d t with
   |false=>
    rw[aoz dm hq];simp only[Bool.not_false,WA,seval]
   |true=>
    rw[hq]at u4;simp only[Bool.not_true,WA,seval];refine⟨i+1,⟨by omega,u4⟩,by omega,?_⟩;rw[e1]
  ·have hie:i=aB.length:=by omega
   subst hie;rw[take_length]at hf;simp only[WA,seval]
   first|exact hf|exact⟨hf,trivial⟩|exact⟨hf,rfl⟩
 ·rintro ws ⟨hf,rfl⟩ _;rw[hf];simp only[WA,seval]
theorem aqu(list:List ad)(t:ai)(b:AV):WK 0 (fx [(2,b),(4,AV.ptr 0 1 0 0),(7,AV.ptr 1 1 0 0)]) [aj.live 27 4 [t.av],aj.live 68 1 [.agg [.sl (list.map ad.av)]]]
  (fx [(2,b),(4,AV.bW t.av 0),(7,chA list)]) [aj.dead,aj.dead]:=by
 have h1:WK 0 (fx [(2,b),(4,AV.ptr 0 1 0 0),(7,AV.ptr 1 1 0 0)]) [aj.live 27 4 [t.av],aj.live 68 1 [.agg [.sl (list.map ad.av)]]]
   (fx [(2,b),(4,AV.bW t.av 0),(7,AV.ptr 1 1 0 0)]) [aj.dead,aj.live 68 1 [.agg [.sl (list.map ad.av)]]]:=by
  refine WK.lh (n:=0) (.inl rfl) (by simp only[AV.ae,ai.ag,Bool.and_true]) rfl rfl (λ m hm=> .inl ?_) λ u=> ?_
  ·cases m with
   |zero=>exact(hm rfl).elim
   |succ m=>rfl
  ·by_cases h4:u=4
   ·subst h4;exact .ptr _ 0 rfl
   ·have e:fx [(2,b),(4,AV.ptr 0 1 0 0),(7,AV.ptr 1 1 0 0)] u=fx [(2,b),(4,AV.bW t.av 0),(7,AV.ptr 1 1 0 0)] u:=by simp[fx,h4]
    rw[e];exact .refl _
 refine h1.trans ?_;have hn:AV.ae [.agg [.sl (list.map ad.av)]]=true:=by simp only[AV.ae,AV.ag,fq,Bool.and_true]
 refine WK.lh (n:=1) (.inl rfl) hn rfl rfl (λ m hm=> .inl ?_) λ u=> ?_
 ·match m,hm with
  |0,_=>rfl
  |1,hm=>exact(hm rfl).elim
  |m+2,_=>rfl
 ·by_cases h4:u=7
  ·subst h4;exact .ptr _ 0 rfl
  ·have e:fx [(2,b),(4,AV.bW t.av 0),(7,AV.ptr 1 1 0 0)] u=fx [(2,b),(4,AV.bW t.av 0),(7,chA list)] u:=by simp[fx,h4]
   rw[e];exact .refl _
theorem anX(list:List ad)(t:ai)(aB:List aa):WK 0 (fx [(2,.sl (aB.map aa.av)),(4,AV.ptr 0 1 0 0),(7,AV.ptr 1 1 0 0)]) [aj.live 27 4 [t.av],aj.live 68 1 [.agg [.sl (list.map ad.av)]]]
  (fx [(2,.sl (aB.map aa.av)),(4,AV.bW t.av 0),(7,chA list)]) []:=by
 refine(aqu list t _).trans (.adb 0 rfl rfl (le_refl _) (zero_le _) rfl ?_);have k1:(AV.sl (aB.map aa.av)).inScope 0=true:=aM _ (iq aB);have k2:(AV.bW t.av 0).inScope 0=true:=aM (AV.bW t.av 0) (ai.ag t);have k3:(chA list).inScope 0=true:=aM _ (vR list);simp only[all_cons,all_nil,k1,k2,k3,Bool.and_true]
theorem sB{P:Program}{f:FuncId}{args:List AV}{res:AV}{O:List aj}{K:KT}(h:aW P f args res)(hn:AV.ae args=true)(hr:res.ag=true)(k:k1 res O K):an5 P f args O K:=bS _ _ (h.any hn hr O) k
theorem aa0(list:List ad)(hU:UL list)(hlw:list.length+(list.map ad.wt).sum<=1000000)(t:ai)(aB:List aa)(ht:t.wt<=1000000)(hp:RB5 aB):aW Tryz.prog F.kQ [.sl (list.map ad.av),t.av,.sl (aB.map aa.av)] (.v (.bool (eo list t aB))):=by
 have hlen:=hU.len;have hpl:=hp.len;have htl:cA (some 4) t.av 0=t.av:=eg (ai.isAgg t) (ai.width t);refine gx A.acE rfl ?_;simp only[A.kQ,ai.B,↓OD,OA,seval];refine sF _ _ (anX list t aB) ?_;simp only[length_map,↓OD,OA,seval];refine bS _ [] (nO _ _ _) ?_;have c0:my aB.length 1 30=true->eo list t aB=((t.wN&&t.names list 1099511627776 0)&&(aB.all (λ p=>p.fit list 1099511627776 t)&&decide ((aB.map aa.dZ).sum<=60))):=λ h=>by rw[eo,h,Bool.true_and]
 have main:(my aB.length 1 30&&(t.wN&&t.names list 1099511627776 0))=true->True:=λ _=>trivial
 cases hq1:my aB.length 1 30 with
 |false=>
  have e:eo list t aB=false:=by rw[eo,hq1];rfl
  rw[e];simp only[Bool.not_false,↓OD,OA,seval];exact axF (.inl rfl) 1 (by rw[p8,uP];rfl) rfl
 |true=>
 rw[c0 hq1];simp only[Bool.not_true,ai.B,↓OD,OA,seval];have fin:∀b:Bool,∀O:List aj,p7 0 [.tmp 6] (.v (.bool b)) [] .ret (fx [(6,AV.v (.bool b))]) O:=λ b O=>axF (.inl rfl) 1 (by rw[p8,uP];rfl) rfl
 refine bS _ [] (qY t (by omega)) ?_;cases hq2:t.wN with
 |false=>
  simp only[Bool.not_false,Bool.false_and,↓OD,OA,seval];exact fin false _
 |true=>
 simp only[Bool.not_true,Bool.true_and,htl,ai.B,↓OD,OA,seval];refine bS _ [] (aaq list hlen t 1099511627776 0 (by omega)) ?_;cases hq3:t.names list 1099511627776 0 with
 |false=>
  simp only[Bool.not_false,Bool.false_and,↓OD,OA,seval];exact fin false _
 |true=>
 simp only[Bool.not_true,Bool.true_and,length_map,↓OD,OA,seval];refine eV (ι:=Nat) (λ i=>i<=aB.length/\(aB.take i).all (λ p=>p.fit list 1099511627776 t)=true) (λ i=>fx [(4,AV.bW t.av 0),(7,chA list),(8,aD (((aB.take i).map aa.dZ).sum:Nat)),(31,.sl (aB.map aa.av)),(32,aD aB.length),(33,aD i)]) (λ _=>[]) (λ i=>aB.length- i) 0 ⟨zero_le _,rfl⟩ (.of_eq rfl rfl) λ i hi=> ?_
 obtain⟨hi,hf⟩:=hi;by_cases aK:i<aB.length
 ·have di:decide ((i:Int)<(aB.length:Int))=true:=decide_eq_true (by omega);have hm:aB[i]∈aB:=getElem_mem aK;have hgi:(aB.map aa.av).getD i .top=aB[i].av:=by simp[List.getD,List.getElem?_map,getElem?_eq_getElem aK]
  have e1:IntKind.i64.wrap ((i:Int)+1)=((i+1:Nat):Int):=by rw[cE (by omega) (by omega)];rfl
  have nQ:=amr aK;have hb1:=hp.take (i+1)
  have e2:IntKind.i64.wrap (((((aB.take i).map aa.dZ).sum:Nat):Int)+(aB[i].dZ:Nat))=((((aB.take (i+1)).map aa.dZ).sum:Nat):Int):=by
   rw[nQ,cE (by omega) (by omega)];rfl
  have u4:=aoA (f:=λ p:aa=>p.fit list 1099511627776 t) aK;rw[hf,Bool.true_and]at u4;have hpw:=hp.wt _ hm;have wi:=aoz (f:=λ p:aa=>p.fit list 1099511627776 t) aK;generalize aB[i]=p at hm hgi nQ e2 u4 hpw wi;have aHh:cA (some 8) p.av 0=p.av:=eg (aa.isAgg p) (aa.width p);simp only[aD,di,Int.toNat_natCast,hgi,htl,aHh,ai.B,aa.B,length_map,↓OD,OA,seval];refine⟨by omega,by omega,?_⟩;have hna:AV.ae [chA list,p.av,t.av,AV.v (Value.int IntKind.i64 1099511627776)]=true:=by simp only[AV.ae,AV.ag,vR,aa.ag,ai.ag,Bool.and_true]
  have hnb:AV.ae [p.av]=true:=by simp only[AV.ae,aa.ag,Bool.and_true]
  refine sB (azz list hU hlw 1099511627776 p t hpw) hna (aja ..) ?_;have k1:(AV.bW t.av 0).inScope 0=true:=aM (AV.bW t.av 0) (ai.ag t);have k2:(chA list).inScope 0=true:=aM _ (vR list);have k3:(AV.sl (aB.map aa.av)).inScope 0=true:=aM _ (iq aB);have k4:∀n:Int,(AV.v (.int .i64 n)).inScope 0=true:=λ n=>rfl
  cases hq:p.fit list 1099511627776 t with
  |false=>
   rw[anN hq,wi hq];simp only[Bool.not_false,Bool.false_and,↓OD,OA,seval];exact fin _ _
  |true=>
   rw[hq]at u4;by_cases hkk:p.Kind=2∨p.Kind=6∨p.Kind=7
   ·rw[ai9 hq hkk];simp only[Bool.not_true,aHh,aa.B,↓OD,OA,seval];refine sB (xU p (by omega)) hnb rfl ?_;simp only[aD,e1,e2,↓OD,OA,seval];refine dz (i+1) ⟨by omega,u4⟩ (by show aB.length- (i+1)<aB.length- i;omega) (.adb 0 rfl rfl (le_refl _) (zero_le _) rfl ?_);simp only[all_cons,all_nil,k1,k2,k3,k4,Bool.and_true]
   ·rw[afR hq hkk];simp only[Bool.not_true,aHh,aa.B,↓OD,OA,seval];refine sB (xU p (by omega)) hnb rfl ?_;simp only[aD,e1,e2,↓OD,OA,seval];refine dz (i+1) ⟨by omega,u4⟩ (by show aB.length- (i+1)<aB.length- i;omega) (.adb 0 rfl rfl (le_refl _) (zero_le _) rfl ?_);simp only[all_cons,all_nil,k1,k2,k3,k4,Bool.and_true]
 ·have hie:i=aB.length:=by omega
  subst hie;have di:decide ((aB.length:Int)<(aB.length:Int))=false:=decide_eq_false (by omega);rw[take_length]at hf;rw[hf];simp only[aD,di,take_length,Bool.true_and,↓OD,OA,seval];have:decide (((((aB.map aa.dZ).sum:Nat):Int))<=60)=decide ((aB.map aa.dZ).sum<=60):=by simp;omega
  rw[this];exact fin _ _
end Go.Proofs.Ab
namespace Go.Ab
def eU(aB:List aa):List (List aa):=aB.map λ p=>[p]
theorem asb:∀a b:List (List aa),qA (a++b)=qA a+qA b
 | [],b=>by simp[qA]
 |r::a,b=>by rw[cons_append,qA,qA,asb a b,Nat.add_assoc]
theorem MQ.part{list:List ad}{ts:List ai}{a b:List (List aa)}(h:MQ list ts (a++b)):MQ list ts a:=by
 have e:=asb a b;have h1:=h.len;have h2:=h.sum;rw[length_append]at h1;exact⟨by omega,λ r hr=>h.row r (List.mem_append.2 (.inl hr)),λ t ht=>(h.tg t ht).mono (by omega),by omega⟩
def qg(ok:Bool)(list:List ad)(t:ai)(aB:List aa):Option aa:=
 if ok=true then(match dn list [t] (eU aB)with
  |some (p::_)=>some p
  |_=>none)else none
def tK:Option aa->AV
 |some p=> .aZ [p.av,.v (.bool true)]
 |none=> .aZ [zAV,.v (.bool false)]
theorem si(o:Option aa):(tK o).ag=true:=by
 cases o with
 |none=>rfl
 |some p=>simp only[tK,AV.ag,AV.ae,aa.ag,Bool.and_true]
def xv(list:List ad)(t:ai)(aB:List aa)(n:Nat):List Int:=((List.range n).filter λ k=> !(fi list [t] (eU (aB.take k)) [aB.getD k zP])).map (λ k:Nat=>(k:Int))
theorem aiA(list:List ad)(t:ai)(aB:List aa)(n:Nat):xv list t aB (n+1)=xv list t aB n++(if fi list [t] (eU (aB.take n)) [aB.getD n zP]=true then []else [(n:Int)]):=by
 unfold xv;rw[List.range_succ,List.filter_append,map_append];congr 1;cases h:fi list [t] (eU (aB.take n)) [aB.getD n zP]<;>simp only[List.filter_cons,List.filter_nil,h,Bool.not_true,Bool.not_false,if_true,if_false,false_eq_true,map_cons,map_nil]
theorem aeA(list:List ad)(t:ai)(aB:List aa)(n:Nat):(xv list t aB n).length<=n:=by
 unfold xv;rw[length_map];have:=List.length_filter_le (λ k=> !(fi list [t] (eU (aB.take k)) [aB.getD k zP])) (List.range n);simpa using this
end Go.Ab
namespace Go.Proofs.Ab
open Go.Ab
theorem amG(aB:List aa)(hb:aB.length<=100000):aW Tryz.prog F.kv [.sl (aB.map aa.av)] (nlL ((eU aB).map jX)):=(axp aB hb).nl (jg _)
theorem axo{aB:List aa}(h:1<=aB.length):nlL ((eU aB).map jX)=dq (eU aB):=by
 unfold nlL;rw[if_neg]
 ·rfl
 ·cases aB with
  |nil=>simp at h
  |cons p l=>simp[eU]
theorem aCf{n:Nat}{a b:Int}(h:my n a b=true):a<=n/\(n:Int)<=b:=by
 simpa [my]using h
theorem aqv{list:List ad}{t:ai}{aB:List aa}(h:eo list t aB=true):1<=aB.length/\aB.length<=30:=by
 unfold eo at h;simp only[and_eq_true]at h;have:=aCf h.1.1;omega
theorem u1(list:List ad)(hU:UL list)(hlw:list.length+(list.map ad.wt).sum<=1000000)(t:ai)(aB:List aa)(ht:t.wt<=1000000)(hp:RB5 aB)(hM:eo list t aB=true->MQ list [t] (eU aB)):aW Tryz.prog F.kS [.sl (list.map ad.av),t.av,.sl (aB.map aa.av)] (tK (qg (eo list t aB) list t aB)):=by
 have hpl:=hp.len;refine T.aaO rfl (by simp only[AV.ae,AV.ag,fq,iq,ai.ag,Bool.and_true]) ?_;simp only[T.kS,ai.E,WA,seval];refine aJ (aa0 list hU hlw t aB ht hp) ?_;cases hc:eo list t aB with
 |false=>
  simp only[Bool.not_false,WA,seval]
  rfl
 |true=>
  have hq:=hM hc;have hl:=aqv hc;have hr:=amG aB (by omega);rw[axo hl.1]at hr;simp only[Bool.not_true,ai.E,WA,seval];refine bH hr (jF _) ?_;simp only[WA,seval];refine bH (aav list hU.toDU [t] _ hq) (vK ..) ?_;unfold nh qg kt;cases hm:dn list [t] (eU aB)with
  |none=>
   simp only[isSome_none,Bool.not_false,WA,seval]
   rfl
  |some m=>
   have zj:=jM list _ _ _ hm
   obtain⟨q,rfl⟩:∃q,m= [q]:=by
    cases m with
    |nil=>cases zj
    |cons x l=>cases l with
     |nil=>exact⟨x,rfl⟩
     |cons _ _=>simp at zj
   simp only[isSome_some,getD_some,Bool.not_true,WA,seval];refine fS aa.av (n:=0) (l:=[q]) (by simp) (aa.width _) ?_;simp only[List.getElem_cons_zero,aa.E,WA,seval]
   rfl
theorem uG(list:List ad)(hU:UL list)(hlw:list.length+(list.map ad.wt).sum<=1000000)(t:ai)(aB:List aa)(ht:t.wt<=1000000)(hp:RB5 aB)(hM:iN list t aB=true->MQ list [t] (eU aB)):aW Tryz.prog F.kI [.sl (list.map ad.av),t.av,.sl (aB.map aa.av)] (tK (qg (iN list t aB) list t aB)):=by
 have hpl:=hp.len;refine T.aak rfl (by simp only[AV.ae,AV.ag,fq,iq,ai.ag,Bool.and_true]) ?_;simp only[T.kI,ai.E,WA,seval];refine aJ (aiS list hU hlw t aB ht hp) ?_;cases hc:iN list t aB with
 |false=>
  simp only[Bool.not_false,WA,seval]
  rfl
 |true=>
  have hq:=hM hc;have hr:=az0 aB (by omega);simp only[Bool.not_true,ai.E,WA,seval];refine bH hr (jF _) ?_;simp only[WA,seval];refine bH (uX list hU.toDU [t] _ hq) (vK ..) ?_;unfold nh qg kt
  show _;cases hm:dn list [t] (eU aB)with
  |none=>
   have hm':dn list [t] (aB.map λ p=>[p])=none:=hm;simp only[hm',isSome_none,Bool.not_false,WA,seval]
   rfl
  |some m=>
   have hm':dn list [t] (aB.map λ p=>[p])=some m:=hm;have zj:=jM list _ _ _ hm
   obtain⟨q,rfl⟩:∃q,m= [q]:=by
    cases m with
    |nil=>cases zj
    |cons x l=>cases l with
     |nil=>exact⟨x,rfl⟩
     |cons _ _=>simp at zj
   simp only[hm',isSome_some,getD_some,Bool.not_true,WA,seval];refine fS aa.av (n:=0) (l:=[q]) (by simp) (aa.width _) ?_;simp only[List.getElem_cons_zero,aa.E,WA,seval]
   rfl
theorem mJ(list:List ad)(hU:UL list)(hlw:list.length+(list.map ad.wt).sum<=1000000)(t:ai)(aB:List aa)(ht:t.wt<=1000000)(hp:RB5 aB)(hM:iN list t aB=true->MQ list [t] (eU aB)):aW Tryz.prog F.gN [.sl (list.map ad.av),t.av,.sl (aB.map aa.av)] (.v (.bool (iN list t aB&& !(qg (iN list t aB) list t aB).isSome))):=by
 refine T.vX rfl (by simp only[AV.ae,AV.ag,fq,iq,ai.ag,Bool.and_true]) ?_;simp only[T.gN,ai.E,WA,seval];refine bH (uG list hU hlw t aB ht hp hM) (si _) ?_;generalize qg (iN list t aB) list t aB=o;have hR:=aiS list hU hlw t aB ht hp;cases o with
 |none=>
  simp only[tK,zAV,WA,seval];refine aG [.v (.bool (iN list t aB))] rfl ?_ ?_
  ·simp only[ai.E,WA,seval];refine aJ hR ?_;simp only[WA,seval];refine aA (λ h=> ?_) (λ h=> ?_)
   ·rw[h];simp only[Bool.not_false,WA,seval]
   ·rw[h];simp only[WA,seval]
  ·simp only[isSome_none,Bool.not_false,Bool.and_true,WA,seval]
 |some q=>
  simp only[tK,aa.E,WA,seval];refine aG [.v (.bool false)] rfl ?_ ?_
  ·simp only[ai.E,WA,seval];refine aJ hR ?_;simp only[WA,seval];refine aA (λ h=> ?_) (λ h=> ?_)
   ·simp only[Bool.not_true,WA,seval]
   ·simp only[WA,seval]
  ·simp only[isSome_some,Bool.not_true,Bool.and_false,WA,seval]
theorem ze(list:List ad)(hU:UL list)(hlw:list.length+(list.map ad.wt).sum<=1000000)(t:ai)(aB:List aa)(ht:t.wt<=1000000)(hp:RB5 aB)(hM:eo list t aB=true->MQ list [t] (eU aB)):aW Tryz.prog F.jA [.sl (list.map ad.av),t.av,.sl (aB.map aa.av)] (.v (.bool (!(qg (eo list t aB) list t aB).isSome&&eo list t aB))):=by
 refine T.wa rfl (by simp only[AV.ae,AV.ag,fq,iq,ai.ag,Bool.and_true]) ?_;simp only[T.jA,ai.E,WA,seval];refine bH (u1 list hU hlw t aB ht hp hM) (si _) ?_;generalize qg (eo list t aB) list t aB=o;have hR:=aa0 list hU hlw t aB ht hp;cases o with
 |none=>
  simp only[tK,zAV,WA,seval];refine aG [.v (.bool (eo list t aB))] rfl ?_ ?_
  ·simp only[Bool.not_false,ai.E,WA,seval];refine aJ hR ?_;simp only[WA,seval]
  ·simp only[isSome_none,Bool.not_false,Bool.true_and,WA,seval]
 |some q=>
  simp only[tK,aa.E,WA,seval];refine aG [.v (.bool false)] rfl ?_ ?_
  ·simp only[Bool.not_true,WA,seval]
  ·simp only[isSome_some,Bool.not_true,Bool.false_and,WA,seval]
def ate(ok:Bool)(l:List Int):AV:=if ok=true then .sl (l.map aD)else .an
theorem amO(ok:Bool)(l:List Int):(ate ok l).ag=true:=by
 unfold ate
 split
 ·exact bt (f:=aD) λ _=>rfl
 ·rfl
theorem so(list:List ad)(hU:UL list)(hlw:list.length+(list.map ad.wt).sum<=1000000)(t:ai)(aB:List aa)(ht:t.wt<=1000000)(hp:RB5 aB)(hM:eo list t aB=true->MQ list [t] (eU aB)):aW Tryz.prog F.kz [.sl (list.map ad.av),t.av,.sl (aB.map aa.av)] (ate (eo list t aB) (xv list t aB aB.length)):=by
 have hpl:=hp.len;refine T.xJ rfl (by simp only[AV.ae,AV.ag,fq,iq,ai.ag,Bool.and_true]) ?_;simp only[T.kz,ai.E,WA,Nat.reduceAdd];refine aJ (aa0 list hU hlw t aB ht hp) ?_;cases hc:eo list t aB with
 |false=>
  simp only[Bool.not_false,WA]
  rfl
 |true=>
  have hq:=hM hc;simp only[Bool.not_true,ate,if_true,WA];refine aG [.sl ((xv list t aB aB.length).map aD)] rfl ?_ ?_
  ·simp only[length_map,WA];refine sV aB.length (λ i=>[.sl ((xv list t aB i).map aD),aD i]) rfl λ i hi=> ?_
   simp only[WA];refine aC (λ aK=> ?_) (λ aK=> ?_)
   ·have dm:i<aB.length:=by omega
    have e1:IntKind.i64.wrap ((i:Int)+1)=((i+1:Nat):Int):=by rw[cE (by omega) (by omega)];rfl
    have nQ:=aiA list t aB i;have lE:aB.getD i zP=aB[i]:=by simp[List.getD,getElem?_eq_getElem dm]
    rw[lE]at nQ;have hln:=aeA list t aB i
    have hsl:eU aB=(eU (aB.take i)++ [[aB[i]]])++eU (aB.drop (i+1)):=by
     unfold eU;rw[show [[aB[i]]]= [aB[i]].map (λ p=>[p])from rfl,←map_append,←map_append,List.append_assoc,List.singleton_append,←List.drop_eq_getElem_cons dm,take_append_drop]
    have hqi:MQ list [t] (eU (aB.take i)++ [[aB[i]]]):=by
     rw[hsl]at hq;exact hq.part
    have hus:=adR list hU.toDU [t] (eU (aB.take i)) [aB[i]] hqi;have htk:List.drop 0 (List.take i (aB.map aa.av))=(aB.take i).map aa.av:=by rw[List.map_take];rfl
    simp only[WA];refine aG (.sl ((xv list t aB (i+1)).map aD)::aB[i].av.cells) (by rw[length_cons,aa.width]) ?_ ?_
    ·simp only[aa.E,WA];refine fS aa.av dm (aa.width _) ?_;simp only[aa.E,ai.E,length_map,WA,Nat.reduceAdd,Int.reduceLE];refine⟨by omega,λ y hy=>by obtain⟨z,_,rfl⟩:=List.mem_map.1 hy;exact aa.width z,?_⟩;have hrt:=amG (aB.take i) (by simp;omega);rw[show List.drop (Int.toNat 0) (List.take i (aB.map aa.av))=(aB.take i).map aa.av from htk];refine bH hrt (sT (jg _)) ?_;simp only[aa.E,WA,Nat.reduceAdd];refine aJ hus ?_;cases hu:fi list [t] (eU (aB.take i)) [aB[i]]with
     |true=>
      rw[hu,if_pos rfl,append_nil]at nQ;rw[nQ];simp only[Bool.not_true,aa.E,WA]
     |false=>
      rw[hu,if_neg (by simp)]at nQ;rw[nQ];simp only[Bool.not_false,map_append,map_cons,map_nil,aa.E,length_map,WA,Nat.reduceLeDiff];exact⟨λ y hy=>by rw[hy];rfl,by omega,by omega⟩
    ·simp only[aa.E,WA];refine⟨dm,?_⟩;rw[e1]
   ·have hie:i=aB.length:=by omega
    subst hie;simp only[WA]
  ·simp only[WA]
end Go.Proofs.Ab
