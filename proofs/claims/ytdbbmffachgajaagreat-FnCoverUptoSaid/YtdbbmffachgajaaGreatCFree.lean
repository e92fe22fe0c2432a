/-
  Free: what is free in a type.
-/
import Derived.Test.YtdbbmffachgajaaGreatCSmall
set_option maxHeartbeats 4000000
set_option maxRecDepth 100000
open List(length_cons map_cons sum_cons length_nil all_eq_true any_eq_true all_eq_false any_eq_false)
set_option linter.unusedVariables false
set_option linter.unusedSimpArgs false
namespace Go.Ab
def wh(n:Int)(l:List Int):Bool:=l.any λ y=>decide (n=y)
def ahL(o:List Int)(n:Int):List Int:=if wh n o=true then o else o++ [n]
def dr(o l:List Int):List Int:=l.foldl ahL o
theorem afK(n:Int)(l:List Int):wh n l=true↔n∈l:=by simp[wh]
theorem aAz(o:List Int)(n x:Int):x∈ahL o n↔x∈o∨x=n:=by
 unfold ahL
 split
 ·rename_i h;rw[afK]at h;exact⟨.inl,λ h'=>h'.elim id λ e=>by rw[e];exact h⟩
 ·simp
theorem age:∀(l o:List Int) (x:Int),x∈dr o l↔x∈o∨x∈l
 | [],o,x=>by simp[dr]
 |n::l,o,x=>by
  have:dr o (n::l)=dr (ahL o n) l:=rfl;rw[this,age,aAz];simp only[List.mem_cons];exact or_assoc
theorem w5(o l m:List Int):dr o (l++m)=dr (dr o l) m:=by simp[dr,List.foldl_append]
theorem aAA(o:List Int)(n:Int):(ahL o n).length<=o.length+1:=by
 unfold ahL;split
 ·omega
 ·simp
theorem tv:∀(l o:List Int),(dr o l).length<=o.length+l.length
 | [],o=>by simp[dr]
 |n::l,o=>by
  have:dr o (n::l)=dr (ahL o n) l:=rfl;have h1:=tv l (ahL o n);have h2:=aAA o n;rw[this,length_cons];omega
mutual
def ai.ja:ai->Int->List Int
 | .mk kd n _ kids,k=>(if kd=k then [n]else [])++ai.jW kids k
def ai.jW:List ai->Int->List Int
 | [],_=>[]
 |x::l,k=>x.ja k++ai.jW l k
end
theorem ai.sw(x:ai)(k:Int):x.ja k=(if x.Kind=k then [x.N]else [])++ai.jW x.Kids k:=by cases x;rw[ai.ja];rfl
mutual
theorem ai.aaX:∀(x:ai) (k:Int),(x.ja k).length<=x.wt+1
 | .mk kd n s kids,k=>by
   have:=ai.afP kids k;have hw:=ai.dY (.mk kd n s kids);simp only[ai.Kids,ai.Name]at hw;rw[ai.ja,List.length_append,hw]
   split<;>simp<;>omega
theorem ai.afP:∀(l:List ai) (k:Int),(ai.jW l k).length<=l.length+(l.map ai.wt).sum
 | [],k=>by simp[ai.jW]
 |x::l,k=>by
  have:=ai.aaX x k;have:=ai.afP l k;simp only[ai.jW,List.length_append,length_cons,map_cons,sum_cons];omega
end
end Go.Ab
namespace Go.Proofs.Ab
open Go.Ab
theorem sI(l:List Int)(n:Int)(hl:l.length<=1073741824):aW Tryz.prog F.kc [.sl (l.map aD),aD n] (.v (.bool (wh n l))):=by
 refine T.aeb rfl (by simp only[AV.ae,AV.ag,Bool.and_true];exact bt (f:=aD) λ _=>rfl) ?_;have e:∀m:List Int,wh n m=m.any λ y=>decide (y=n):=λ m=>by simp only[wh,eq_comm]
 have hv:wh n l=l.any λ y=>decide (y=n):=e l
 simp only[T.kc,WA,seval]
 repeat' (first|(simp(disch:=(first|omega|rfl|exact rfl|(simp only[au,length_cons,length_nil];done))) only[ez,wg,hd,xP,cD,cu,aI,mP,WA,seval])|(simp(disch:=(first|omega|rfl|exact rfl|(simp only[au,length_cons,length_nil];done))) only[ez,hd,aI,WA,seval])|(simp(disch:=(first|omega|rfl|exact rfl|(simp only[au,length_cons,length_nil];done))) only[hd,xP,cD,cu,aI,mP,WA,seval])|(simp(disch:=(first|omega|rfl|exact rfl|(simp only[au,length_cons,length_nil];done))) only[hix,hd,cD,cu,aI,mP,WA,seval])|(simp(disch:=(first|omega|rfl|exact rfl|(simp only[au,length_cons,length_nil];done))) only[hd,WA,seval])|(simp(disch:=(first|omega|rfl|exact rfl|(simp only[au,length_cons,length_nil];done))) only[WA,seval])|(refine aC (λ hq=> ?_) (λ hq=> ?_)<;>(try simp only[hq,BN]))|(refine aP (λ hq=> ?_) (λ hq=> ?_)<;>(try simp only[hq,BN]))|(refine aA (λ hq=> ?_) (λ hq=> ?_)<;>(try simp only[hq,BN]))|(refine aw ?_)|(refine bk l (λ i (_:Unit)=>[aD i]) (λ _ rest _=>wh n l=rest.any λ y=>decide (y=n)) () rfl ?_ (λ i k rest b hi hx hm ez hd hg=> ?_) (λ b hd hg=> ?_)))
 all_goals first|(have hg1:=hg;clear hv;simp_all;done)|(have hg1:=hg;simp_all;done)|(have hg1:=hg;clear hv;simp_all [-all_eq_true,-any_eq_true,-all_eq_false,-any_eq_false];done)|(simp_all;done)|(simp_all [-all_eq_true,-any_eq_true,-all_eq_false,-any_eq_false];done)|(refine avb ?_;(try clear hv);simp_all<;>(intros;omega))|(refine avb ?_;simp_all<;>(intros;omega))|(simp_all<;>(intros;omega))|omega
theorem ax3(l:List Int):AV.ae (l.map aD)=true:=bt (f:=aD) λ _=>rfl
theorem aus{x:ai}{kd:Int}{o b:List Int}{y:ai}{rest:List ai}(hg:dr b (ai.jW (y::rest) kd)=dr o (x.ja kd)/\b.length+((y::rest).length+((y::rest).map ai.wt).sum)<=4194304):
  dr (dr b (y.ja kd)) (ai.jW rest kd)=dr o (x.ja kd)/\(dr b (y.ja kd)).length+(rest.length+(rest.map ai.wt).sum)<=4194304:=by
 have h1:=tv (y.ja kd) b;have h2:=y.aaX kd;simp only[ai.jW,w5,length_cons,map_cons,sum_cons]at hg;exact⟨hg.1,by omega⟩
theorem aut{x:ai}{kd:Int}{o:List Int}(ho:o.length+(x.wt+1)<=4194304):dr (dr o (if x.Kind=kd then [x.N]else [])) (ai.jW x.Kids kd)=dr o (x.ja kd)/\
  (dr o (if x.Kind=kd then [x.N]else [])).length+(x.Kids.length+(x.Kids.map ai.wt).sum)<=4194304:=by
 have hw:=x.dY;have h1:=tv (if x.Kind=kd then [x.N]else []) o;have h2:(if x.Kind=kd then [x.N]else []).length<=1:=by split<;>simp
 refine⟨by rw[x.sw,w5],by omega⟩
theorem wI(x:ai)(kd:Int)(o:List Int)(hb:x.wt<=1048576)(ho:o.length+(x.wt+1)<=4194304):jY Tryz.prog F.dJ G.dJ [x.av,aD kd,.sl (o.map aD)] [.sl ((dr o (x.ja kd)).map aD)]:=by
 have hw:=x.dY;refine T.aad rfl rfl (by simp only[AV.ae,AV.ag,ai.ag,Bool.and_true,Bool.true_and];exact ax3 _) ?_;simp only[T.dJ,ai.B,WA,seval];refine aG [.sl ((dr o (if x.Kind=kd then [x.N]else [])).map aD)] rfl ?_ ?_
 ·repeat' (first|(simp(disch:=(first|omega|rfl|exact rfl|(simp only[au,length_cons,length_nil];done)|exact ai.width _)) only[ai.E,List.length_map,WA,seval])|(refine aC (λ hq=> ?_) (λ hq=> ?_)<;>(try simp only[hq,BN]))|(refine aP (λ hq=> ?_) (λ hq=> ?_)<;>(try simp only[hq,BN]))|(refine aA (λ hq=> ?_) (λ hq=> ?_)<;>(try simp only[hq]))|(refine aw ?_)|(refine aJ (sI o _ (by omega)) ?_))
  ·refine⟨λ y hy=>by rw[hy];rfl,by omega,by omega,?_⟩;have:wh x.N o≠true:=by simpa using hq
   simp[dr,ahL,this]
  ·have:wh x.N o=true:=by simpa using hq
   simp[dr,ahL,this]
  ·rfl
 ·repeat' (first|(simp(disch:=(first|omega|rfl|exact rfl|(simp only[au,length_cons,length_nil];done)|exact ai.width _)) only[ez,wg,hd,xP,ai.E,cD,cu,aI,mP,WA,seval])|(simp(disch:=(first|omega|rfl|exact rfl|(simp only[au,length_cons,length_nil];done)|exact ai.width _)) only[ez,hd,ai.E,aI,WA,seval])|(simp(disch:=(first|omega|rfl|exact rfl|(simp only[au,length_cons,length_nil];done)|exact ai.width _)) only[hd,xP,ai.E,cD,cu,aI,mP,WA,seval])|(simp(disch:=(first|omega|rfl|exact rfl|(simp only[au,length_cons,length_nil];done)|exact ai.width _)) only[hix,hd,ai.E,cD,cu,aI,mP,WA,seval])|(simp(disch:=(first|omega|rfl|exact rfl|(simp only[au,length_cons,length_nil];done)|exact ai.width _)) only[hd,ai.E,WA,seval])|(simp(disch:=(first|omega|rfl|exact rfl|(simp only[au,length_cons,length_nil];done)|exact ai.width _)) only[WA,seval])|(refine aC (λ hq=> ?_) (λ hq=> ?_)<;>(try simp only[hq,BN]))|(refine aP (λ hq=> ?_) (λ hq=> ?_)<;>(try simp only[hq,BN]))|(refine aA (λ hq=> ?_) (λ hq=> ?_)<;>(try simp only[hq,BN]))|(refine aw ?_)|(refine bk x.Kids (λ i (q:List Int)=>[.sl (q.map aD),aD i]) (λ _ rest q=>dr q (ai.jW rest kd)=dr o (x.ja kd)/\q.length+(rest.length+(rest.map ai.wt).sum)<=4194304) (dr o (if x.Kind=kd then [x.N]else [])) rfl ?_ (λ i k rest b hi hx hm ez hd hg=> ?_) (λ b hd hg=> ?_))|(refine fj (wI k kd b (by have:=eH ai.wt hm;omega) (by simp only[length_cons,map_cons,sum_cons]at hg;omega)) rfl (by simp only[AV.ae,AV.ag,Bool.and_true];exact ax3 _) ?_))
  ·exact aut ho
  ·exact⟨hi,_,aus hg,rfl⟩
  ·rw[←hg.1];rfl
termination_by SizeOf.sizeOf x
decreasing_by all_goals exact ai.cT hm
theorem amA(x:ai)(kd:Int)(hb:x.wt<=1048576):vv Tryz.prog F.r9 [x.av,aD kd] false 3 1 ((if x.wN&&my kd 9 11 then dr [] (x.ja kd)else []).map aD):=by
 refine T.ael rfl (by simp[AV.ae,AV.ag,ai.ag]) ?_;simp only[T.r9,ai.B,WA,seval]
 repeat' (first|(simp(disch:=(first|omega|rfl|exact rfl|(simp only[au,length_cons,length_nil];done)|exact ai.width _)) only[ai.E,WA,seval])|(refine aC (λ hq=> ?_) (λ hq=> ?_)<;>(try simp only[hq,BN]))|(refine aP (λ hq=> ?_) (λ hq=> ?_)<;>(try simp only[hq,BN]))|(refine aA (λ hq=> ?_) (λ hq=> ?_)<;>(try simp only[hq]))|(refine aw ?_)|(refine aJ (uF x hb) ?_)|(refine aJ (ke _ _ _) ?_)|(refine fj (wI x kd [] hb (by simp;omega)) rfl (by simp only[AV.ae,AV.ag,Bool.and_true];exact ax3 _) ?_))
 all_goals first|(have hg1:=hg;clear hv;simp_all;done)|(have hg1:=hg;simp_all;done)|(have hg1:=hg;clear hv;simp_all [-all_eq_true,-any_eq_true,-all_eq_false,-any_eq_false];done)|(simp_all;done)|(simp_all [-all_eq_true,-any_eq_true,-all_eq_false,-any_eq_false];done)|(refine avb ?_;(try clear hv);simp_all<;>(intros;omega))|(refine avb ?_;simp_all<;>(intros;omega))|(simp_all<;>(intros;omega))|omega
end Go.Proofs.Ab
