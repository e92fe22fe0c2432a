/-
  Put: types for variables.
-/
import Derived.Test.YtdbbmffachgajaaGreatCFree
set_option maxHeartbeats 4000000
set_option maxRecDepth 100000
open Bool(and_eq_true)
open List(length_cons length_nil length_map)
set_option linter.unusedVariables false
set_option linter.unusedSimpArgs false
namespace Go.Ab
mutual
def ai.put:ai->Int->List ai->ai
 | .mk kd n s kids,k,list=>if kd=k/\n<(list.length:Int)then(list[n.toNat]?).getD (.mk kd n s kids)else .mk kd n s (ai.aBs kids k list)
def ai.aBs:List ai->Int->List ai->List ai
 | [],_,_=>[]
 |x::l,k,list=>x.put k list::ai.aBs l k list
end
theorem ai.aBr(l:List ai)(k:Int)(list:List ai):ai.aBs l k list=l.map λ x=>x.put k list:=by
 induction l with
 |nil=>rfl
 |cons x l ih=>simp only[ai.aBs,ih,List.map_cons]
theorem ai.put_eq(x:ai)(k:Int)(list:List ai):x.put k list=if x.Kind=k/\x.N<(list.length:Int)then(list[x.N.toNat]?).getD x else .mk x.Kind x.N x.Name (x.Kids.map λ y=>y.put k list):=by
 cases x;rw[ai.put,ai.aBr];rfl
theorem ai.ac2{x:ai}(h:x.wN=true)(hk:x.Kind=9∨x.Kind=10∨x.Kind=11):0<=x.N/\x.Kids= []:=by
 rw[x.akh]at h;simp only[and_eq_true,ai.lB]at h;have h1:=h.1.2;have e1:¬(x.Kind=1∨x.Kind=2∨x.Kind=3∨x.Kind=4):=by omega
 have e2:¬x.Kind=5:=by omega
 have e3:¬x.Kind=6:=by omega
 have e4:¬x.Kind=7:=by omega
 have e5:¬x.Kind=8:=by omega
 rw[if_neg e1,if_neg e2,if_neg e3,if_neg e4,if_neg e5,if_pos hk]at h1;simp only[and_eq_true,decide_eq_true_eq]at h1;exact⟨h1.2,List.eq_nil_of_length_eq_zero h1.1⟩
theorem ai.akg{x y:ai}(h:x.wN=true)(hm:y∈x.Kids):y.wN=true:=by
 rw[x.akh]at h;simp only[and_eq_true]at h;exact List.all_eq_true.1 h.2 y hm
end Go.Ab
namespace Go.Proofs.Ab
open Go.Ab
theorem mO(l:List ai):AV.ae (l.map ai.av)=true:=bt (f:=ai.av) ai.ag
theorem gm(x:ai)(hb:x.wt<=1048576):aW Tryz.prog F.eO [x.av] x.av:=by
 have hw:=x.dY;refine T.acd rfl (by simp[AV.ae,ai.ag]) ?_;simp only[T.eO,ai.B,WA,seval];refine aG [.sl (x.Kids.map ai.av)] rfl ?_ ?_
 ·repeat' (first|(simp(disch:=(first|omega|rfl|exact rfl|(simp only[au,length_cons,length_nil];done)|exact ai.width _)) only[ez,wg,hd,xP,ai.E,length_map,cD,cu,aI,mP,WA,seval])|(simp(disch:=(first|omega|rfl|exact rfl|(simp only[au,length_cons,length_nil];done)|exact ai.width _)) only[ez,hd,ai.E,length_map,aI,WA,seval])|(simp(disch:=(first|omega|rfl|exact rfl|(simp only[au,length_cons,length_nil];done)|exact ai.width _)) only[hd,xP,ai.E,length_map,cD,cu,aI,mP,WA,seval])|(simp(disch:=(first|omega|rfl|exact rfl|(simp only[au,length_cons,length_nil];done)|exact ai.width _)) only[hix,hd,ai.E,length_map,cD,cu,aI,mP,WA,seval])|(simp(disch:=(first|omega|rfl|exact rfl|(simp only[au,length_cons,length_nil];done)|exact ai.width _)) only[hd,ai.E,length_map,WA,seval])|(simp(disch:=(first|omega|rfl|exact rfl|(simp only[au,length_cons,length_nil];done)|exact ai.width _)) only[WA,seval])|(refine aC (λ hq=> ?_) (λ hq=> ?_)<;>(try simp only[hq,BN]))|(refine aP (λ hq=> ?_) (λ hq=> ?_)<;>(try simp only[hq,BN]))|(refine aA (λ hq=> ?_) (λ hq=> ?_)<;>(try simp only[hq,BN]))|(refine aw ?_)|(refine bk x.Kids (λ i (q:List ai)=>[.sl (q.map ai.av),aD i]) (λ i rest q=>q++rest=x.Kids) ([]:List ai) rfl ?_ (λ i k rest b hi hx hm ez hd hg=> ?_) (λ b hd hg=> ?_))|(refine bH (gm k (by have:=eH ai.wt hm;omega)) (ai.ag _) ?_))
  ·refine⟨λ y hy=>by rw[hy];exact ai.width _,by have:=congrArg List.length hg;simp at this;omega,by have:=congrArg List.length hg;simp at this;omega,hi,b++ [k],by rw[←hg];simp,?_⟩;rw[List.map_append];rfl
  ·have j6:b=x.Kids:=by simpa using hg
   rw[j6]
 ·simp only[ai.cells,au,jy,WA,seval];exact ai.eta x
termination_by SizeOf.sizeOf x
decreasing_by all_goals exact ai.cT hm
theorem pd(x:ai)(kd:Int)(l:List ai)(vM:x.wN=true)(hkd:kd=9∨kd=10∨kd=11)(hb:x.wt<=1048576)(hl:l.length+(l.map ai.wt).sum<=1048576):aW Tryz.prog F.kb [x.av,aD kd,.sl (l.map ai.av)] (x.put kd l).av:=by
 have hw:=x.dY;have hpe:=x.put_eq kd l;have hn:AV.ae [x.av,aD kd,.sl (l.map ai.av)]=true:=by simp[AV.ae,AV.ag,ai.ag,mO]
 refine T.aea rfl hn ?_;simp only[T.kb,ai.B,WA,seval];refine aw ?_;simp only[WA,seval];refine aG [.v (.bool (decide (x.Kind=kd)&&decide (x.N<(l.length:Int))))] rfl ?_ ?_
 ·repeat' (first|(simp(disch:=(first|omega|rfl|exact rfl|(simp only[au,length_cons,length_nil];done)|exact ai.width _)) only[ai.E,length_map,WA,seval])|(refine aC (λ hq=> ?_) (λ hq=> ?_)<;>(try simp only[hq,BN]))|(refine aP (λ hq=> ?_) (λ hq=> ?_)<;>(try simp only[hq,BN]))|(refine aA (λ hq=> ?_) (λ hq=> ?_)<;>(try simp only[hq,BN]))|(refine aw ?_))
  all_goals simp[*]
 ·simp only[ai.cells,WA,seval];refine aA (λ h=> ?_) (λ h=> ?_)
  ·simp only[and_eq_true,decide_eq_true_eq]at h;have hv:=x.ac2 vM (by omega);have aK:x.N.toNat<l.length:=by omega
   have hN:x.N=((x.N.toNat:Nat):Int):=by omega
   rw[if_pos h,List.getElem?_eq_getElem aK,Option.getD_some]at hpe;rw[hpe];have zj:l[x.N.toNat]∈l:=List.getElem_mem aK;have hws:=eH ai.wt zj;simp only[ai.cells,WA,seval];have ez:∀K,gn K (ai.av l[x.N.toNat])->jE 4 (.sl (l.map ai.av)) (.v (.int .i64 ((x.N.toNat:Nat):Int))) K:=λ K hk=>fS ai.av aK (ai.width _) hk
   rw[←hN]at ez;refine ez _ ?_;simp only[ai.B,WA,seval];refine bH (gm _ (by omega)) (ai.ag _) ?_;simp only[ai.B,WA,seval];exact ai.eta _
  ·have h':¬(x.Kind=kd/\x.N<(l.length:Int)):=by
     intro hc;simp[hc.1,hc.2]at h
   rw[if_neg h']at hpe;rw[hpe];simp only[ai.B,WA,seval];refine aG [.sl ((x.Kids.map λ y=>y.put kd l).map ai.av)] rfl ?_ ?_
   ·repeat' (first|(simp(disch:=(first|omega|rfl|exact rfl|(simp only[au,length_cons,length_nil];done)|exact ai.width _)) only[ez,wg,hd,xP,ai.E,length_map,cD,cu,aI,mP,WA,seval])|(simp(disch:=(first|omega|rfl|exact rfl|(simp only[au,length_cons,length_nil];done)|exact ai.width _)) only[ez,hd,ai.E,length_map,aI,WA,seval])|(simp(disch:=(first|omega|rfl|exact rfl|(simp only[au,length_cons,length_nil];done)|exact ai.width _)) only[hd,xP,ai.E,length_map,cD,cu,aI,mP,WA,seval])|(simp(disch:=(first|omega|rfl|exact rfl|(simp only[au,length_cons,length_nil];done)|exact ai.width _)) only[hix,hd,ai.E,length_map,cD,cu,aI,mP,WA,seval])|(simp(disch:=(first|omega|rfl|exact rfl|(simp only[au,length_cons,length_nil];done)|exact ai.width _)) only[hd,ai.E,length_map,WA,seval])|(simp(disch:=(first|omega|rfl|exact rfl|(simp only[au,length_cons,length_nil];done)|exact ai.width _)) only[WA,seval])|(refine aC (λ hq=> ?_) (λ hq=> ?_)<;>(try simp only[hq,BN]))|(refine aP (λ hq=> ?_) (λ hq=> ?_)<;>(try simp only[hq,BN]))|(refine aA (λ hq=> ?_) (λ hq=> ?_)<;>(try simp only[hq,BN]))|(refine aw ?_)|(refine bk x.Kids (λ i (q:List ai)=>[.sl (q.map ai.av),aD i]) (λ i rest q=>q++rest.map (λ y=>y.put kd l)=x.Kids.map λ y=>y.put kd l) ([]:List ai) rfl ?_ (λ i k rest b hi hx hm ez hd hg=> ?_) (λ b hd hg=> ?_))|(refine bH (pd k kd l (ai.akg vM hm) hkd (by have:=eH ai.wt hm;omega) hl) (ai.ag _) ?_))
    ·have j6:=congrArg List.length hg;simp at j6;refine⟨λ y hy=>by rw[hy];exact ai.width _,by omega,by omega,hi,b++ [k.put kd l],by rw[←hg];simp,?_⟩;rw[List.map_append];rfl
    ·have j6:b=x.Kids.map λ y=>y.put kd l:=by simpa using hg
     rw[j6]
   ·simp only[ai.cells,au,jy,WA,seval];exact ai.eta (.mk x.Kind x.N x.Name (x.Kids.map λ y=>y.put kd l))
termination_by SizeOf.sizeOf x
decreasing_by all_goals exact ai.cT hm
end Go.Proofs.Ab
