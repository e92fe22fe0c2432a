/-
  TYPES AND CORES THAT ARE RIGHT OR VALUES; THE PLACE OF A CONSTRUCTOR.
-/
import Derived.Test.YtdbbmffachgajaaGreatCTok
import Derived.Test.YtdbbmffachgajaaGreatSL
set_option maxHeartbeats 4000000
set_option maxRecDepth 100000
open List(length_cons length_nil all_eq_true any_eq_true all_eq_false any_eq_false)
set_option linter.unusedVariables false
set_option linter.unusedSimpArgs false
namespace Go.Ab
def ai.lB(t:ai):Bool:=
 (decide (t.Kind=7)||decide (t.Name=emp))&&(decide (9<=t.Kind)||decide (t.N=0))&&
  (if t.Kind=1∨t.Kind=2∨t.Kind=3∨t.Kind=4 then decide (t.Kids.length=0)else if t.Kind=5 then decide (t.Kids.length=2)else if t.Kind=6 then decide (2<=t.Kids.length)
   else if t.Kind=7 then ayc t.Name else if t.Kind=8 then decide (t.Kids.length=1)else if t.Kind=9∨t.Kind=10∨t.Kind=11 then decide (t.Kids.length=0)&&decide (0<=t.N)else false)
mutual
def ai.wN:ai->Bool
 | .mk k n name kids=>(ai.mk k n name kids).lB&&ai.asN kids
def ai.asN:List ai->Bool
 | []=>true
 |x::l=>x.wN&&ai.asN l
end
theorem ai.aAy(l:List ai):ai.asN l=l.all ai.wN:=by
 induction l with
 |nil=>rfl
 |cons x l ih=>simp only[ai.asN,ih,List.all_cons]
theorem ai.akh(x:ai):x.wN=(x.lB&&x.Kids.all ai.wN):=by
 cases x;simp only[ai.wN,ai.aAy,ai.Kids]
def iv(n:ByteArray)(l:List ak):Int:=fQ (λ c=>decide (c.Name=n)) l 0
def iB(n:ByteArray):List ad->Nat->Int×Int
 | [],_=>(-1,-1)
 |d::r,i=>if 0<=iv n d.br then((i:Int),iv n d.br)else iB n r (i+1)
end Go.Ab
namespace Go.Proofs.Ab
open Go.Ab
theorem agL(t:ai)(hb:t.wt<=1048576):aW Tryz.prog F.oc [t.av] (.v (.bool t.lB)):=by
 have hw:=t.dY;refine T.acb rfl (by simp[AV.ae,ai.ag]) ?_;simp only[T.oc,ai.B,WA,seval]
 repeat' (first|(simp(disch:=(first|omega|rfl|exact rfl|(simp only[au,length_cons,length_nil];done)|exact ai.width _)) only[ai.E,WA,seval])|(refine aC (λ hq=> ?_) (λ hq=> ?_)<;>(try simp only[hq,BN]))|(refine aP (λ hq=> ?_) (λ hq=> ?_)<;>(try simp only[hq,BN]))|(refine aA (λ hq=> ?_) (λ hq=> ?_)<;>(try simp only[hq,BN]))|(refine aw ?_)|(refine aJ (ajT _ (by omega)) ?_))
 all_goals first|(have hg1:=hg;clear hv;simp_all [ai.lB,emp];done)|(have hg1:=hg;simp_all [ai.lB,emp];done)|(have hg1:=hg;clear hv;simp_all [ai.lB,emp,-all_eq_true,-any_eq_true,-all_eq_false,-any_eq_false];done)|(simp_all [ai.lB,emp];done)|(simp_all [ai.lB,emp,-all_eq_true,-any_eq_true,-all_eq_false,-any_eq_false];done)|(refine avb ?_;(try clear hv);simp_all [ai.lB,emp]<;>(intros;omega))|(refine avb ?_;simp_all [ai.lB,emp]<;>(intros;omega))|(simp_all [ai.lB,emp]<;>(intros;omega))|omega
theorem acx(t:ai)(hb:t.wt<=1048576):aW Tryz.prog F.lC [t.av] (.v (.bool t.lB)):=by
 have hw:=t.dY;refine T.y6 rfl (by simp[AV.ae,ai.ag]) ?_;simp only[T.lC,ai.B,WA,seval]
 repeat' (first|(simp(disch:=(first|omega|rfl|exact rfl|(simp only[au,length_cons,length_nil];done)|exact ai.width _)) only[ai.E,WA,seval])|(refine aC (λ hq=> ?_) (λ hq=> ?_)<;>(try simp only[hq,BN]))|(refine aP (λ hq=> ?_) (λ hq=> ?_)<;>(try simp only[hq,BN]))|(refine aA (λ hq=> ?_) (λ hq=> ?_)<;>(try simp only[hq]))|(refine aw ?_)|(refine aJ (akF _ (by omega)) ?_))
 all_goals first|(have hg1:=hg;clear hv;simp_all [ai.lB,emp];done)|(have hg1:=hg;simp_all [ai.lB,emp];done)|(have hg1:=hg;clear hv;simp_all [ai.lB,emp,-all_eq_true,-any_eq_true,-all_eq_false,-any_eq_false];done)|(simp_all [ai.lB,emp];done)|(simp_all [ai.lB,emp,-all_eq_true,-any_eq_true,-all_eq_false,-any_eq_false];done)|(refine avb ?_;(try clear hv);simp_all [ai.lB,emp]<;>(intros;omega))|(refine avb ?_;simp_all [ai.lB,emp]<;>(intros;omega))|(simp_all [ai.lB,emp]<;>(intros;omega))|omega
theorem uF(x:ai)(hb:x.wt<=1048576):aW Tryz.prog F.nn [x.av] (.v (.bool x.wN)):=by
 have hw:=x.dY;have hv:=x.akh;refine T.ag6 rfl (by simp[AV.ae,ai.ag]) ?_;simp only[T.nn,ai.B,WA,seval]
 repeat' (first|(simp(disch:=(first|omega|rfl|exact rfl|(simp only[au,length_cons,length_nil];done)|exact ai.width _)) only[ez,wg,hd,xP,ai.E,cD,cu,aI,mP,WA,seval])|(simp(disch:=(first|omega|rfl|exact rfl|(simp only[au,length_cons,length_nil];done)|exact ai.width _)) only[ez,hd,ai.E,aI,WA,seval])|(simp(disch:=(first|omega|rfl|exact rfl|(simp only[au,length_cons,length_nil];done)|exact ai.width _)) only[hd,xP,ai.E,cD,cu,aI,mP,WA,seval])|(simp(disch:=(first|omega|rfl|exact rfl|(simp only[au,length_cons,length_nil];done)|exact ai.width _)) only[hix,hd,ai.E,cD,cu,aI,mP,WA,seval])|(simp(disch:=(first|omega|rfl|exact rfl|(simp only[au,length_cons,length_nil];done)|exact ai.width _)) only[hd,ai.E,WA,seval])|(simp(disch:=(first|omega|rfl|exact rfl|(simp only[au,length_cons,length_nil];done)|exact ai.width _)) only[WA,seval])|(refine aC (λ hq=> ?_) (λ hq=> ?_)<;>(try simp only[hq,BN]))|(refine aP (λ hq=> ?_) (λ hq=> ?_)<;>(try simp only[hq,BN]))|(refine aA (λ hq=> ?_) (λ hq=> ?_)<;>(try simp only[hq]))|(refine aw ?_)|(refine bk x.Kids (λ i (_:Unit)=>[aD i]) (λ _ rest _=>x.wN=rest.all ai.wN) () rfl ?_ (λ i k rest b hi hx hm ez hd hg=> ?_) (λ b hd hg=> ?_))|(refine aJ (agL x hb) ?_)|(refine aJ (uF k (by have:=eH ai.wt hm;omega)) ?_))
 all_goals first|(have hg1:=hg;clear hv;simp_all;done)|(have hg1:=hg;simp_all;done)|(have hg1:=hg;clear hv;simp_all [-all_eq_true,-any_eq_true,-all_eq_false,-any_eq_false];done)|(simp_all;done)|(simp_all [-all_eq_true,-any_eq_true,-all_eq_false,-any_eq_false];done)|(refine avb ?_;(try clear hv);simp_all<;>(intros;omega))|(refine avb ?_;simp_all<;>(intros;omega))|(simp_all<;>(intros;omega))|omega
termination_by SizeOf.sizeOf x
decreasing_by all_goals exact ai.cT hm
theorem qY(x:ai)(hb:x.wt<=1048576):aW Tryz.prog F.mh [x.av] (.v (.bool x.wN)):=by
 have hw:=x.dY;have hv:=x.akh
 have h1:∀y∈x.Kids,aW Tryz.prog F.oD [y.av] (.v (.bool (!y.wN))):=λ y hm=>by
  refine T.acI rfl (by simp[AV.ae,ai.ag]) ?_;simp only[T.oD,ai.B,WA,seval]
  repeat' (first|(simp(disch:=(first|omega|rfl|exact rfl|(simp only[au,length_cons,length_nil];done)|exact ai.width _)) only[WA,seval])|(refine aC (λ hq=> ?_) (λ hq=> ?_)<;>(try simp only[hq,BN]))|(refine aP (λ hq=> ?_) (λ hq=> ?_)<;>(try simp only[hq,BN]))|(refine aA (λ hq=> ?_) (λ hq=> ?_)<;>(try simp only[hq,BN]))|(refine aw ?_)|(refine aJ (qY y (by have:=eH ai.wt hm;omega)) ?_))
 refine T.ahs rfl (by simp[AV.ae,ai.ag]) ?_;simp only[T.mh,ai.B,WA,seval]
 repeat' (first|(simp(disch:=(first|omega|rfl|exact rfl|(simp only[au,length_cons,length_nil];done)|exact ai.width _)) only[ai.E,aBM,WA,seval])|(refine aC (λ hq=> ?_) (λ hq=> ?_)<;>(try simp only[hq,BN]))|(refine aP (λ hq=> ?_) (λ hq=> ?_)<;>(try simp only[hq,BN]))|(refine aA (λ hq=> ?_) (λ hq=> ?_)<;>(try simp only[hq]))|(refine aw ?_)|(refine aJ (acx x hb) ?_)|(refine aJ (asM x.Kids _ [] (λ y=> !y.wN) (by omega) rfl h1) ?_))
 all_goals first|(have hg1:=hg;clear hv;simp_all;done)|(have hg1:=hg;simp_all;done)|(have hg1:=hg;clear hv;simp_all [-all_eq_true,-any_eq_true,-all_eq_false,-any_eq_false];done)|(simp_all;done)|(simp_all [-all_eq_true,-any_eq_true,-all_eq_false,-any_eq_false];done)|(refine avb ?_;(try clear hv);simp_all<;>(intros;omega))|(refine avb ?_;simp_all<;>(intros;omega))|(simp_all<;>(intros;omega))|omega
termination_by SizeOf.sizeOf x
decreasing_by all_goals exact ai.cT hm
theorem zc(c:ak)(n:ByteArray):aW Tryz.prog F.jz [c.av,.bW (oJ n) 0] (.v (.bool (decide (c.Name=n)))):=by
 refine T.v8 rfl (by simp[AV.ae,AV.ag,ak.ag]) ?_;simp only[T.jz,ak.B,WA,seval]
theorem acL(l:List ad)(n:ByteArray)(hb:l.length+(l.map ad.wt).sum<=1048576):
  aW Tryz.prog F.lD [.sl (l.map ad.av),oJ n] (.aZ [aD (iB n l 0).1,aD (iB n l 0).2]):=by
 have hL:AV.ae (l.map ad.av)=true:=bt (f:=ad.av) ad.ag;refine T.za rfl (by simp[AV.ae,AV.ag,hL]) ?_;simp only[T.lD,WA,seval]
 repeat' (first|(simp(disch:=(first|omega|rfl|exact rfl|(simp only[au,length_cons,length_nil];done)|exact ad.width _)) only[ez,wg,hd,xP,ad.E,cD,cu,aI,mP,WA,seval])|(simp(disch:=(first|omega|rfl|exact rfl|(simp only[au,length_cons,length_nil];done)|exact ad.width _)) only[ez,hd,ad.E,aI,WA,seval])|(simp(disch:=(first|omega|rfl|exact rfl|(simp only[au,length_cons,length_nil];done)|exact ad.width _)) only[hd,xP,ad.E,cD,cu,aI,mP,WA,seval])|(simp(disch:=(first|omega|rfl|exact rfl|(simp only[au,length_cons,length_nil];done)|exact ad.width _)) only[hix,hd,ad.E,cD,cu,aI,mP,WA,seval])|(simp(disch:=(first|omega|rfl|exact rfl|(simp only[au,length_cons,length_nil];done)|exact ad.width _)) only[hd,WA,seval])|(simp(disch:=(first|omega|rfl|exact rfl|(simp only[au,length_cons,length_nil];done)|exact ad.width _)) only[WA,seval])|(refine aC (λ hq=> ?_) (λ hq=> ?_)<;>(try simp only[hq,BN]))|(refine aP (λ hq=> ?_) (λ hq=> ?_)<;>(try simp only[hq,BN]))|(refine aA (λ hq=> ?_) (λ hq=> ?_)<;>(try simp only[hq,BN]))|(refine aw ?_)|(refine bk l (λ i (_:Unit)=>[aD i]) (λ i rest _=>iB n l 0=iB n rest i) () rfl ?_ (λ i k rest b hi hx hm ez hd hg=> ?_) (λ b hd hg=> ?_))|(refine aJ (ahv k.br _ _ (λ c=>decide (c.Name=n)) (by have:=eH ad.wt hm;have:=k.dY;omega) rfl (λ c _=>zc c n)) ?_))
 all_goals first|(have hg1:=hg;clear hv;simp_all [iB,iv];done)|(have hg1:=hg;simp_all [iB,iv];done)|(have hg1:=hg;clear hv;simp_all [iB,iv,-all_eq_true,-any_eq_true,-all_eq_false,-any_eq_false];done)|(simp_all [iB,iv];done)|(simp_all [iB,iv,-all_eq_true,-any_eq_true,-all_eq_false,-any_eq_false];done)|(refine avb ?_;(try clear hv);simp_all [iB,iv]<;>(intros;omega))|(refine avb ?_;simp_all [iB,iv]<;>(intros;omega))|(simp_all [iB,iv]<;>(intros;omega))|omega
theorem acq(l:List ad)(n:ByteArray)(hb:l.length+(l.map ad.wt).sum<=1048576):
  aW Tryz.prog F.ly [.sl (l.map ad.av),oJ n] (.aZ [aD (iB n l 0).1,aD (iB n l 0).2]):=by
 have hL:AV.ae (l.map ad.av)=true:=bt (f:=ad.av) ad.ag;refine T.yx rfl (by simp[AV.ae,AV.ag,hL]) ?_;simp only[T.ly,WA,seval]
 repeat' (first|(simp(disch:=(first|omega|rfl|exact rfl|(simp only[au,length_cons,length_nil];done)|exact ad.width _|exact ak.width _)) only[aQ0,hd2,ez,ad.E,ak.E,aI,WA,seval])|(simp(disch:=(first|omega|rfl|exact rfl|(simp only[au,length_cons,length_nil];done)|exact ad.width _|exact ak.width _)) only[aQS,hd2,ez,hd,ad.E,ak.E,ak.ov,ai.eta,cD,cu,aI,mP,WA,seval])|(simp(disch:=(first|omega|rfl|exact rfl|(simp only[au,length_cons,length_nil];done)|exact ad.width _|exact ak.width _)) only[aQS,hd2,ad.E,ak.E,ak.ov,ai.eta,cD,cu,aI,mP,WA,seval])|(simp(disch:=(first|omega|rfl|exact rfl|(simp only[au,length_cons,length_nil];done)|exact ad.width _|exact ak.width _)) only[hd2,ez,ad.E,WA,seval])|(simp(disch:=(first|omega|rfl|exact rfl|(simp only[au,length_cons,length_nil];done)|exact ad.width _|exact ak.width _)) only[hd2,ad.E,ak.E,ak.ov,ai.eta,cD,cu,aI,mP,WA,seval])|(simp(disch:=(first|omega|rfl|exact rfl|(simp only[au,length_cons,length_nil];done)|exact ad.width _|exact ak.width _)) only[ez,wg,hd,xP,ad.E,ak.E,ak.ov,ai.eta,cD,cu,aI,mP,WA,seval])|(simp(disch:=(first|omega|rfl|exact rfl|(simp only[au,length_cons,length_nil];done)|exact ad.width _|exact ak.width _)) only[hd,aI,WA,seval])|(simp(disch:=(first|omega|rfl|exact rfl|(simp only[au,length_cons,length_nil];done)|exact ad.width _|exact ak.width _)) only[hd,xP,ad.E,ak.E,ak.ov,ai.eta,cD,cu,aI,mP,WA,seval])|(simp(disch:=(first|omega|rfl|exact rfl|(simp only[au,length_cons,length_nil];done)|exact ad.width _|exact ak.width _)) only[hix,hd,ad.E,ak.E,ak.ov,ai.eta,cD,cu,aI,mP,WA,seval])|(simp(disch:=(first|omega|rfl|exact rfl|(simp only[au,length_cons,length_nil];done)|exact ad.width _|exact ak.width _)) only[hd,WA,seval])|(simp(disch:=(first|omega|rfl|exact rfl|(simp only[au,length_cons,length_nil];done)|exact ad.width _|exact ak.width _)) only[WA,seval])|(refine aC (λ hq=> ?_) (λ hq=> ?_)<;>(try simp only[hq,BN]))|(refine aP (λ hq=> ?_) (λ hq=> ?_)<;>(try simp only[hq,BN]))|(refine aA (λ hq=> ?_) (λ hq=> ?_)<;>(try simp only[hq,BN]))|(refine aw ?_)|(refine bk k.br (λ i (_:Unit)=>[aD i]) (λ i rest _=>fQ (λ c=>decide (c.Name=n)) k.br 0=fQ (λ c=>decide (c.Name=n)) rest i) () rfl ?_ (λ i2 k2 aSd b2 hi2 hx2 hm2 aQ0 hd2 hg2=> ?_) (λ b2 hd2 hg2=> ?_))|(refine apE l (λ i (_:Unit)=>[aD i]) (λ i rest _=>iB n l 0=iB n rest i) () (ad.facts (b:=1048576) (by omega)) rfl ?_ (λ i k rest b hi hx hm ez hd hf hg=> ?_) (λ b hd hg=> ?_)))
 all_goals first|(have hg1:=hg;clear hv;simp_all [iB,iv,fQ];done)|(have hg1:=hg;simp_all [iB,iv,fQ];done)|(have hg1:=hg;clear hv;simp_all [iB,iv,fQ,-all_eq_true,-any_eq_true,-all_eq_false,-any_eq_false];done)|(simp_all [iB,iv,fQ];done)|(simp_all [iB,iv,fQ,-all_eq_true,-any_eq_true,-all_eq_false,-any_eq_false];done)|(refine avb ?_;(try clear hv);simp_all [iB,iv,fQ]<;>(intros;omega))|(refine avb ?_;simp_all [iB,iv,fQ]<;>(intros;omega))|(simp_all [iB,iv,fQ]<;>(intros;omega))|omega
end Go.Proofs.Ab
