/-
  INSTRUCTIONS AND CODE THAT ARE RIGHT.
-/
import Derived.Test.YtkinchcjijhmgaaGreatDoorCTok
import Derived.Test.YtkinchcjijhmgaaGreatDoorSL
import Derived.Test.YtkinchcjijhmgaaGreatDoorCSl
import Derived.Test.YtkinchcjijhmgaaGreatDoorPShelf
import Derived.Lib.IndexAny
open Bool(not_eq_true' not_eq_false')
open List(length_cons length_nil all_eq_true any_eq_true all_eq_false any_eq_false)
open Nat(reduceEqDiff reduceLeDiff reduceAdd reduceLT reduceMul)
set_option linter.unusedVariables false
set_option linter.unusedSimpArgs false
namespace Go.Ab
set_option maxRecDepth 100000
set_option maxHeartbeats 4000000
def iz(s:ByteArray)(c:Int):Bool:=(bs s).any λ y=>decide (y=c)
def wj(t:ByteArray):ByteArray×Bool:=
 if t=⟨#[43]⟩∨t=⟨#[45]⟩∨t=⟨#[42]⟩∨t=⟨#[61]⟩∨t=⟨#[60]⟩∨t=⟨#[94]⟩then(⟨#[97,98,99,116]⟩,true)
 else if t=⟨#[115,105,122,101]⟩then(⟨#[97,98,116]⟩,true)
 else if t=⟨#[114,101,97,100]⟩then(⟨#[97,116]⟩,true)
 else if t=⟨#[112,114,105,110,116]⟩then(⟨#[98,116]⟩,true)
 else(⟨#[]⟩,false)
def aa.want(x:aa):ByteArray×Bool:=
 if x.Op=1∨x.Op=3∨x.Op=5∨x.Op=6∨x.Op=8∨x.Op=11 then(⟨#[97,110]⟩,true)
 else if x.Op=2 then(⟨#[97,116]⟩,true)
 else if x.Op=4 then(⟨#[97,98]⟩,true)
 else if x.Op=7 then wj x.Text
 else if x.Op=9∨x.Op=10 then(⟨#[97,98,110]⟩,true)
 else if x.Op=12∨x.Op=15 then(⟨#[110]⟩,true)
 else if x.Op=13∨x.Op=14 then(⟨#[97]⟩,true)
 else(⟨#[]⟩,false)
def aa.agj(x:aa)(s:ByteArray):Bool:=(iz s 97||decide (x.A=0))&&(iz s 98||decide (x.B=0))&&(iz s 99||decide (x.C=0))&&(iz s 110||decide (x.N=0))&&(iz s 116||decide (x.Text=⟨#[]⟩))
def aa.zO(x:aa)(n m:Int):Bool:=
 if x.Op=2 then xb x.Text&&decide ((x.Text.size:Int)<=4000)
 else if x.Op=3 then jJ x.N 0 (m- 1)
 else if x.Op=5∨x.Op=6 then jJ x.N 0 63
 else if x.Op=8 then jJ x.N 1 4000
 else if x.Op=9∨x.Op=10 then decide (0<=x.N)
 else if x.Op=11∨x.Op=12 then jJ x.N 0 (n- 1)
 else if x.Op=15 then jJ x.N 1 2
 else true
def aa.qW(x:aa)(n m:Int):Bool:=jJ x.A 0 15&&jJ x.B 0 15&&jJ x.C 0 15&&x.want.2&&x.agj x.want.1&&x.zO n m
def ai.pI(c:ai)(x:aa):Bool:=x.qW c.ar.length c.aM.length
def ai.pS(c:ai)(n:Int):Bool:=jJ n 0 (c.ar.length- 1)
def ai.afo(c:ai):Bool:=match c.ar[c.ar.length- 1]? with|some x=>decide (x.Op=12)||decide (x.Op=13)||decide (x.Op=14)||decide (x.Op=15)|none=>false
theorem ai.zT{c:ai}{y:aa}(h:c.ar[c.ar.length- 1]? =some y):c.afo=(decide (y.Op=12)||decide (y.Op=13)||decide (y.Op=14)||decide (y.Op=15)):=by
 unfold ai.afo;rw[h]
def ai.qW(c:ai):Bool:=
 jJ c.ar.length 1 40000&&decide ((c.aM.length:Int)<=400)&&c.ar.all c.pI&&c.aM.all c.pS&&c.afo
def st5(h:Int->Bool)(k:Int)(m:Nat):AV:= .sl [.v (.bool (h 97||(decide (k=97)&&decide (0<m)))),.v (.bool (h 98||(decide (k=98)&&decide (1<m)))),.v (.bool (h 99||(decide (k=99)&&decide (2<m)))),.v (.bool (h 110||(decide (k=110)&&decide (3<m)))),.v (.bool (h 116||(decide (k=116)&&decide (4<m))))]
def st0(h:Int->Bool):AV:= .sl [.v (.bool (h 97)),.v (.bool (h 98)),.v (.bool (h 99)),.v (.bool (h 110)),.v (.bool (h 116))]
theorem atH(h:Int->Bool)(k:Int):st5 h k 0=st0 h:=by simp[st5,st0]
theorem anH(p:Bool)(n:Int):(jJ n 0 15&&(p||decide (n=0)))=(p&&jJ n 0 15||decide (n=0)):=by
 by_cases h:n=0
 ·subst h;cases p<;>rfl
 ·simp[h,Bool.and_comm]
theorem aa.arh(x:aa)(n m:Int):x.qW n m=(x.want.2&&(iz x.want.1 ((97:UInt8).toNat:Int)&&jJ x.A 0 15||decide (x.A=0))&&(iz x.want.1 ((98:UInt8).toNat:Int)&&jJ x.B 0 15||decide (x.B=0))&&(iz x.want.1 ((99:UInt8).toNat:Int)&&jJ x.C 0 15||decide (x.C=0))&&(iz x.want.1 ((110:UInt8).toNat:Int)||decide (x.N=0))&&(iz x.want.1 ((116:UInt8).toNat:Int)||decide (x.Text=⟨#[]⟩))&&x.zO n m):=by
 simp only[←anH]
 show(jJ x.A 0 15&&jJ x.B 0 15&&jJ x.C 0 15&&x.want.2&&((iz x.want.1 97||decide (x.A=0))&&(iz x.want.1 98||decide (x.B=0))&&(iz x.want.1 99||decide (x.C=0))&&(iz x.want.1 110||decide (x.N=0))&&(iz x.want.1 116||decide (x.Text=⟨#[]⟩)))&&x.zO n m)=(x.want.2&&(jJ x.A 0 15&&(iz x.want.1 97||decide (x.A=0)))&&(jJ x.B 0 15&&(iz x.want.1 98||decide (x.B=0)))&&(jJ x.C 0 15&&(iz x.want.1 99||decide (x.C=0)))&&(iz x.want.1 110||decide (x.N=0))&&(iz x.want.1 116||decide (x.Text=⟨#[]⟩))&&x.zO n m)
 ac_rfl
end Go.Ab
namespace Go.Proofs.Ab
open Go.Ab
set_option maxRecDepth 100000
set_option maxHeartbeats 4000000
theorem od(x:aa)(s:ByteArray)(hs:s.size<=1048576):aI Tryz.prog F.bh [x.av,bE s] (.v (.bool (x.agj s))):=by
 refine T.sU rfl (by simp[AV.ad,AV.ag,aa.ag]) ?_;simp only[T.bh,aa.cells,aa.isAgg,aa.storable,WA,reduceEqDiff,reduceAdd,reduceLT,reduceLeDiff,reduceMul,reduceIte,reduceCtorEq,Int.reduceEq,Int.reduceLT,Int.reduceLE,Int.reduceNe]
 repeat' (first|(simp(disch:=(first|omega|rfl|exact rfl|(simp only[bp,length_cons,length_nil];done)|exact aa.width _)) only[kJ,avv,hd,hdy,aa.cells,aa.isAgg,aa.storable,aa.eta,cR,dM,aD,lh,WA,reduceEqDiff,reduceAdd,reduceLT,reduceLeDiff,reduceMul,reduceIte,reduceCtorEq,Int.reduceEq,Int.reduceLT,Int.reduceLE,Int.reduceNe])|(simp(disch:=(first|omega|rfl|exact rfl|(simp only[bp,length_cons,length_nil];done)|exact aa.width _)) only[kJ,hd,aa.cells,aa.isAgg,aa.storable,aa.eta,cR,dM,aD,lh,WA,reduceEqDiff,reduceAdd,reduceLT,reduceLeDiff,reduceMul,reduceIte,reduceCtorEq,Int.reduceEq,Int.reduceLT,Int.reduceLE,Int.reduceNe])|(simp(disch:=(first|omega|rfl|exact rfl|(simp only[bp,length_cons,length_nil];done)|exact aa.width _)) only[hd,hdy,aa.cells,aa.isAgg,aa.storable,aa.eta,cR,dM,aD,lh,WA,reduceEqDiff,reduceAdd,reduceLT,reduceLeDiff,reduceMul,reduceIte,reduceCtorEq,Int.reduceEq,Int.reduceLT,Int.reduceLE,Int.reduceNe])|(simp(disch:=(first|omega|rfl|exact rfl|(simp only[bp,length_cons,length_nil];done)|exact aa.width _)) only[mD,hd,aa.cells,aa.isAgg,aa.storable,aa.eta,cR,dM,aD,lh,WA,reduceEqDiff,reduceAdd,reduceLT,reduceLeDiff,reduceMul,reduceIte,reduceCtorEq,Int.reduceEq,Int.reduceLT,Int.reduceLE,Int.reduceNe])|(simp(disch:=(first|omega|rfl|exact rfl|(simp only[bp,length_cons,length_nil];done)|exact aa.width _)) only[hd,aa.cells,aa.isAgg,aa.storable,aa.eta,cR,dM,aD,lh,WA,reduceEqDiff,reduceAdd,reduceLT,reduceLeDiff,reduceMul,reduceIte,reduceCtorEq,Int.reduceEq,Int.reduceLT,Int.reduceLE,Int.reduceNe])|(simp(disch:=(first|omega|rfl|exact rfl|(simp only[bp,length_cons,length_nil];done)|exact aa.width _)) only[aa.cells,aa.isAgg,aa.storable,aa.eta,cR,dM,aD,lh,WA,reduceEqDiff,reduceAdd,reduceLT,reduceLeDiff,reduceMul,reduceIte,reduceCtorEq,Int.reduceEq,Int.reduceLT,Int.reduceLE,Int.reduceNe])|(refine aq (λ hq=> ?_) (λ hq=> ?_)<;>(try simp only[hq,decide_true,decide_false,Bool.not_true,Bool.not_false,not_eq_true',not_eq_false']))|(refine cn (λ hq=> ?_) (λ hq=> ?_)<;>(try simp only[hq,decide_true,decide_false,Bool.not_true,Bool.not_false,not_eq_true',not_eq_false']))|(refine bH (λ hq=> ?_) (λ hq=> ?_)<;>(try simp only[hq,decide_true,decide_false,Bool.not_true,Bool.not_false,not_eq_true',not_eq_false']))|(refine aB ?_)|(refine xw s (λ i (h:Int->Bool)=>[st0 h,br i]) (λ _ rest h=>∀c,iz s c=(h c||rest.any λ y=>decide (y=c))) (λ _=>false) rfl ?_ (λ i k rest b hi hx hm mD hd hc0 hc1 hw8 hg=> ?_) (λ b hd hg=> ?_)))
 ·intro c;simp only[iz,Bool.false_or]
 ·refine ky 5 (λ m=>[st5 b k m,br m]) (by rw[atH];rfl) λ m hm=> ?_
  have d0:decide (((0:Nat):Int)<5)=true:=by decide
  have d1:decide (((1:Nat):Int)<5)=true:=by decide
  have d2:decide (((2:Nat):Int)<5)=true:=by decide
  have d3:decide (((3:Nat):Int)<5)=true:=by decide
  have d4:decide (((4:Nat):Int)<5)=true:=by decide
  have d5:decide (((5:Nat):Int)<5)=false:=by decide
  have i0:=oG (s:=⟨#[97,98,99,110,116]⟩) (i:=0) (c:=97) rfl .i64;have i1:=oG (s:=⟨#[97,98,99,110,116]⟩) (i:=1) (c:=98) rfl .i64;have i2:=oG (s:=⟨#[97,98,99,110,116]⟩) (i:=2) (c:=99) rfl .i64;have i3:=oG (s:=⟨#[97,98,99,110,116]⟩) (i:=3) (c:=110) rfl .i64;have i4:=oG (s:=⟨#[97,98,99,110,116]⟩) (i:=4) (c:=116) rfl .i64;rcases(by omega:m=0∨m=1∨m=2∨m=3∨m=4∨m=5)with rfl|rfl|rfl|rfl|rfl|rfl
  all_goals repeat' (first|(simp(disch:=(first|omega|rfl|exact rfl)) only[mD,hd,d0,d1,d2,d3,d4,d5,i0,i1,i2,i3,i4,st5,cR,dM,aD,lh,WA,reduceEqDiff,reduceAdd,reduceLT,reduceLeDiff,reduceMul,reduceIte,reduceCtorEq,Int.reduceEq,Int.reduceLT,Int.reduceLE,Int.reduceNe])|(refine aq (λ hq=> ?_) (λ hq=> ?_)<;>(try simp only[hq,decide_true,decide_false]))|(refine aB ?_))
  all_goals first
   |exact⟨by omega,rfl⟩
   |(simp only[Bool.or_false,Bool.and_false,Bool.and_true,Bool.false_and,Bool.true_and,Bool.or_true];done)
   |(refine⟨hi,λ c=>b c||decide (k=c),λ c=> ?_,?_⟩
     ·rw[hg c,List.any_cons,Bool.or_assoc]
     ·simp[st0])
   |skip
  all_goals trace_state
 ·have h1:=hg 97;have h2:=hg 98;have h3:=hg 99;have h4:=hg 110;have h5:=hg 116;simp only[List.any_nil,Bool.or_false]at h1 h2 h3 h4 h5;simp only[st0,←h1,←h2,←h3,←h4,←h5,aa.agj];clear h1 h2 h3 h4 h5 hg;simp only[aa.cells,aa.isAgg,aa.storable,WA,reduceEqDiff,reduceAdd,reduceLT,reduceLeDiff,reduceMul,reduceIte,reduceCtorEq,Int.reduceEq,Int.reduceLT,Int.reduceLE,Int.reduceNe]
  repeat' (first|(simp(disch:=(first|omega|rfl|exact rfl|(simp only[bp,length_cons,length_nil];done)|exact aa.width _)) only[mD,hd,aa.cells,aa.isAgg,aa.storable,aa.eta,Int.cast_ofNat_Int,Int.reduceToNat,cR,dM,aD,lh,WA,reduceEqDiff,reduceAdd,reduceLT,reduceLeDiff,reduceMul,reduceIte,reduceCtorEq,Int.reduceEq,Int.reduceLT,Int.reduceLE,Int.reduceNe])|(simp(disch:=(first|omega|rfl|exact rfl|(simp only[bp,length_cons,length_nil];done)|exact aa.width _)) only[hd,aa.cells,aa.isAgg,aa.storable,aa.eta,Int.cast_ofNat_Int,Int.reduceToNat,cR,dM,aD,lh,WA,reduceEqDiff,reduceAdd,reduceLT,reduceLeDiff,reduceMul,reduceIte,reduceCtorEq,Int.reduceEq,Int.reduceLT,Int.reduceLE,Int.reduceNe])|(simp(disch:=(first|omega|rfl|exact rfl|(simp only[bp,length_cons,length_nil];done)|exact aa.width _)) only[aa.cells,aa.isAgg,aa.storable,aa.eta,Int.cast_ofNat_Int,Int.reduceToNat,cR,dM,aD,lh,WA,reduceEqDiff,reduceAdd,reduceLT,reduceLeDiff,reduceMul,reduceIte,reduceCtorEq,Int.reduceEq,Int.reduceLT,Int.reduceLE,Int.reduceNe])|(refine aq (λ hq=> ?_) (λ hq=> ?_)<;>(try simp only[hq,decide_true,decide_false,Bool.not_true,Bool.not_false,not_eq_true',not_eq_false']))|(refine cn (λ hq=> ?_) (λ hq=> ?_)<;>(try simp only[hq,decide_true,decide_false,Bool.not_true,Bool.not_false,not_eq_true',not_eq_false']))|(refine bH (λ hq=> ?_) (λ hq=> ?_)<;>(try simp only[hq,decide_true,decide_false,Bool.not_true,Bool.not_false,not_eq_true',not_eq_false']))|(refine aB ?_))
  all_goals simp_all
theorem yQ(n:Int):aI Tryz.prog F.eY [br n] (.v (.bool (jJ n 0 15))):=by
 refine T.vj rfl rfl ?_;simp only[T.eY,WA,reduceEqDiff,reduceAdd,reduceLT,reduceLeDiff,reduceMul,reduceIte,reduceCtorEq,Int.reduceEq,Int.reduceLT,Int.reduceLE,Int.reduceNe]
 repeat' (first|(simp(disch:=(first|omega|rfl|exact rfl|(simp only[bp,length_cons,length_nil];done))) only[cR,dM,aD,lh,WA,reduceEqDiff,reduceAdd,reduceLT,reduceLeDiff,reduceMul,reduceIte,reduceCtorEq,Int.reduceEq,Int.reduceLT,Int.reduceLE,Int.reduceNe])|(refine aq (λ hq=> ?_) (λ hq=> ?_)<;>(try simp only[hq,decide_true,decide_false,Bool.not_true,Bool.not_false,not_eq_true',not_eq_false']))|(refine cn (λ hq=> ?_) (λ hq=> ?_)<;>(try simp only[hq,decide_true,decide_false,Bool.not_true,Bool.not_false,not_eq_true',not_eq_false']))|(refine bH (λ hq=> ?_) (λ hq=> ?_)<;>(try simp only[hq,decide_true,decide_false,Bool.not_true,Bool.not_false,not_eq_true',not_eq_false']))|(refine aB ?_)|(refine bj (gL _ _ _) ?_))
theorem aaM(x:aa):aI Tryz.prog F.iH [x.av] (.v (.bool ((wj x.Text).2&&x.agj (wj x.Text).1))):=by
 refine T.wK rfl (by simp[AV.ad,AV.ag,aa.ag]) ?_;simp only[T.iH,aa.cells,aa.isAgg,aa.storable,WA,reduceEqDiff,reduceAdd,reduceLT,reduceLeDiff,reduceMul,reduceIte,reduceCtorEq,Int.reduceEq,Int.reduceLT,Int.reduceLE,Int.reduceNe]
 repeat' (first|(simp(disch:=(first|omega|rfl|exact rfl|(simp only[bp,length_cons,length_nil];done)|exact aa.width _)) only[aa.cells,aa.isAgg,aa.storable,aa.eta,cR,dM,aD,lh,WA,reduceEqDiff,reduceAdd,reduceLT,reduceLeDiff,reduceMul,reduceIte,reduceCtorEq,Int.reduceEq,Int.reduceLT,Int.reduceLE,Int.reduceNe])|(refine aq (λ hq=> ?_) (λ hq=> ?_)<;>(try simp only[hq,decide_true,decide_false,Bool.not_true,Bool.not_false,not_eq_true',not_eq_false']))|(refine cn (λ hq=> ?_) (λ hq=> ?_)<;>(try simp only[hq,decide_true,decide_false,Bool.not_true,Bool.not_false,not_eq_true',not_eq_false']))|(refine bH (λ hq=> ?_) (λ hq=> ?_)<;>(try simp only[hq,decide_true,decide_false,Bool.not_true,Bool.not_false,not_eq_true',not_eq_false']))|(refine aB ?_)|(refine bj (od x _ (by decide)) ?_))
 all_goals simp_all [wj]
theorem rr(x:aa)(c:ai)(hb:x.wt<=1048576)(hc:c.wt<=1048576):aI Tryz.prog F.dR [x.av,c.av] (.v (.bool (x.qW c.ar.length c.aM.length))):=by
 have hw:=x.jy;have hv:=c.jy;have s1:IntKind.i64.wrap ((c.aM.length:Int)- 1)=c.aM.length- 1:=gv (by omega) (by omega);have s2:IntKind.i64.wrap ((c.ar.length:Int)- 1)=c.ar.length- 1:=gv (by omega) (by omega);refine T.pr rfl (by simp[AV.ad,AV.ag,aa.ag,ai.ag]) ?_;simp only[T.dR,aa.cells,aa.isAgg,aa.storable,ai.cells,ai.isAgg,ai.storable,WA,reduceEqDiff,reduceAdd,reduceLT,reduceLeDiff,reduceMul,reduceIte,reduceCtorEq,Int.reduceEq,Int.reduceLT,Int.reduceLE,Int.reduceNe]
 repeat' (first|(simp(disch:=(first|omega|rfl|exact rfl|(simp only[bp,length_cons,length_nil];done)|exact aa.width _|exact ai.width _)) only[aa.cells,aa.isAgg,aa.storable,aa.eta,ai.cells,ai.isAgg,ai.storable,ai.eta,s1,s2,cR,dM,aD,lh,WA,reduceEqDiff,reduceAdd,reduceLT,reduceLeDiff,reduceMul,reduceIte,reduceCtorEq,Int.reduceEq,Int.reduceLT,Int.reduceLE,Int.reduceNe])|(refine aq (λ hq=> ?_) (λ hq=> ?_)<;>(try simp only[hq,decide_true,decide_false,Bool.not_true,Bool.not_false,not_eq_true',not_eq_false']))|(refine cn (λ hq=> ?_) (λ hq=> ?_)<;>(try simp only[hq,decide_true,decide_false,Bool.not_true,Bool.not_false,not_eq_true',not_eq_false']))|(refine bH (λ hq=> ?_) (λ hq=> ?_)<;>(try simp only[hq,decide_true,decide_false,Bool.not_true,Bool.not_false,not_eq_true',not_eq_false']))|(refine aB ?_)|(refine bj (yQ _) ?_)|(refine bj (od x _ (by decide)) ?_)|(refine bj (aaM x) ?_)|(refine bj (gL _ _ _) ?_)|(refine bj (wD _ (by omega)) ?_))
 all_goals (simp_all [aa.qW,aa.want,aa.zO];done)
theorem abm(x:aa):aI Tryz.prog F.iK [x.av] (.aK [bE x.want.1,.v (.bool x.want.2)]):=by
 refine T.xO rfl (by simp[AV.ad,AV.ag,aa.ag]) ?_;simp only[T.iK,aa.cells,aa.isAgg,aa.storable,WA,reduceEqDiff,reduceAdd,reduceLT,reduceLeDiff,reduceMul,reduceIte,reduceCtorEq,Int.reduceEq,Int.reduceLT,Int.reduceLE,Int.reduceNe]
 repeat' (first|(simp(disch:=(first|omega|rfl|exact rfl|(simp only[bp,length_cons,length_nil];done)|exact aa.width _)) only[aa.cells,aa.isAgg,aa.storable,aa.eta,cR,dM,aD,lh,WA,reduceEqDiff,reduceAdd,reduceLT,reduceLeDiff,reduceMul,reduceIte,reduceCtorEq,Int.reduceEq,Int.reduceLT,Int.reduceLE,Int.reduceNe])|(refine aq (λ hq=> ?_) (λ hq=> ?_)<;>(try simp only[hq,decide_true,decide_false,Bool.not_true,Bool.not_false,not_eq_true',not_eq_false']))|(refine cn (λ hq=> ?_) (λ hq=> ?_)<;>(try simp only[hq,decide_true,decide_false,Bool.not_true,Bool.not_false,not_eq_true',not_eq_false']))|(refine bH (λ hq=> ?_) (λ hq=> ?_)<;>(try simp only[hq,decide_true,decide_false,Bool.not_true,Bool.not_false,not_eq_true',not_eq_false']))|(refine aB ?_))
 all_goals simp_all [aa.want,wj]
theorem aoW(s:ByteArray)(c:UInt8):iz s (c.toNat:Int)=decide (0<=Lib.indexByte s.data.toList c):=by
 rw[←Lib.contains_iff_indexByte];simp only[iz,bs,List.any_map,List.contains_eq_any_beq];congr 1
 funext y
 simp only[Function.comp_apply];rw[Bool.eq_iff_iff];simp only[decide_eq_true_eq,beq_iff_eq];exact⟨λ h=>(UInt8.toNat_inj.1 (by exact_mod_cast h)).symm,λ h=>by rw[h]⟩
theorem afZ(s:ByteArray)(c:UInt8):aI Tryz.prog F.strings_Contains [bE s,bE ⟨#[c]⟩] (.v (.bool (iz s (c.toNat:Int)))):=by
 rw[aoW];exact aI.of_same (P:=Tryz.prog) (f:=F.strings_Contains) (xs:=[.string s,.string ⟨#[c]⟩]) (Go.Ab.enters_of (by kernel_rfl)) rfl (λ w=>Tryz.strings_Contains_one s c w)
theorem mv(s:ByteArray)(c:UInt8):aI Tryz.prog F.bQ [bE ⟨#[c]⟩,.bW (bE s) 0] (.v (.bool (iz s (c.toNat:Int)))):=by
 refine T.qL rfl rfl ?_;simp only[T.bQ,WA,reduceEqDiff,reduceAdd,reduceLT,reduceLeDiff,reduceMul,reduceIte,reduceCtorEq,Int.reduceEq,Int.reduceLT,Int.reduceLE,Int.reduceNe]
 repeat' (first|(simp(disch:=(first|omega|rfl|exact rfl|(simp only[bp,length_cons,length_nil];done))) only[cR,dM,aD,lh,WA,reduceEqDiff,reduceAdd,reduceLT,reduceLeDiff,reduceMul,reduceIte,reduceCtorEq,Int.reduceEq,Int.reduceLT,Int.reduceLE,Int.reduceNe])|(refine aq (λ hq=> ?_) (λ hq=> ?_)<;>(try simp only[hq,decide_true,decide_false,Bool.not_true,Bool.not_false,not_eq_true',not_eq_false']))|(refine cn (λ hq=> ?_) (λ hq=> ?_)<;>(try simp only[hq,decide_true,decide_false,Bool.not_true,Bool.not_false,not_eq_true',not_eq_false']))|(refine bH (λ hq=> ?_) (λ hq=> ?_)<;>(try simp only[hq,decide_true,decide_false,Bool.not_true,Bool.not_false,not_eq_true',not_eq_false']))|(refine aB ?_)|(refine bj (afZ s c) ?_))
theorem tF(s:ByteArray)(c:UInt8)(n:Int):aI Tryz.prog F.cY [bE ⟨#[c]⟩,br n,.bW (.fn F.bQ [.bW (bE s) 0]) 0] (.v (.bool (iz s (c.toNat:Int)&&jJ n 0 15||decide (n=0)))):=by
 refine T.qK rfl rfl ?_;simp only[T.cY,WA,reduceEqDiff,reduceAdd,reduceLT,reduceLeDiff,reduceMul,reduceIte,reduceCtorEq,Int.reduceEq,Int.reduceLT,Int.reduceLE,Int.reduceNe]
 repeat' (first|(simp(disch:=(first|omega|rfl|exact rfl|(simp only[bp,length_cons,length_nil];done))) only[cR,dM,aD,lh,WA,reduceEqDiff,reduceAdd,reduceLT,reduceLeDiff,reduceMul,reduceIte,reduceCtorEq,Int.reduceEq,Int.reduceLT,Int.reduceLE,Int.reduceNe])|(refine aq (λ hq=> ?_) (λ hq=> ?_)<;>(try simp only[hq,decide_true,decide_false,Bool.not_true,Bool.not_false,not_eq_true',not_eq_false']))|(refine cn (λ hq=> ?_) (λ hq=> ?_)<;>(try simp only[hq,decide_true,decide_false,Bool.not_true,Bool.not_false,not_eq_true',not_eq_false']))|(refine bH (λ hq=> ?_) (λ hq=> ?_)<;>(try simp only[hq,decide_true,decide_false,Bool.not_true,Bool.not_false,not_eq_true',not_eq_false']))|(refine aB ?_)|(refine bj (mv s c) ?_)|(refine bj (fm _ _ _) ?_))
 all_goals (first|(simp_all;done)|(simp_all [-all_eq_true,-any_eq_true,-all_eq_false,-any_eq_false];done)|(simp_all<;>(intros;omega))|(simp_all [-all_eq_true,-any_eq_true,-all_eq_false,-any_eq_false]<;>(intros;omega))|(refine avb ?_;simp_all<;>(intros;omega))|(refine avb ?_;simp_all [-all_eq_true,-any_eq_true,-all_eq_false,-any_eq_false]<;>(intros;omega)))
theorem xS(x:aa)(c:ai)(hb:x.wt<=1048576)(hc:c.wt<=1048576):aI Tryz.prog F.gd [c.av,x.av] (.v (.bool (x.qW c.ar.length c.aM.length))):=by
 have hw:=x.jy;have hv:=c.jy;have s1:IntKind.i64.wrap ((c.aM.length:Int)- 1)=c.aM.length- 1:=gv (by omega) (by omega);have s2:IntKind.i64.wrap ((c.ar.length:Int)- 1)=c.ar.length- 1:=gv (by omega) (by omega);refine T.tD rfl (by simp[AV.ad,AV.ag,aa.ag,ai.ag]) ?_;simp only[T.gd,aa.cells,aa.isAgg,aa.storable,ai.cells,ai.isAgg,ai.storable,WA,reduceEqDiff,reduceAdd,reduceLT,reduceLeDiff,reduceMul,reduceIte,reduceCtorEq,Int.reduceEq,Int.reduceLT,Int.reduceLE,Int.reduceNe]
 repeat' (first|(simp(disch:=(first|omega|rfl|exact rfl|(simp only[bp,length_cons,length_nil];done)|exact aa.width _|exact ai.width _)) only[aa.cells,aa.isAgg,aa.storable,aa.eta,ai.cells,ai.isAgg,ai.storable,ai.eta,s1,s2,cR,dM,aD,lh,WA,reduceEqDiff,reduceAdd,reduceLT,reduceLeDiff,reduceMul,reduceIte,reduceCtorEq,Int.reduceEq,Int.reduceLT,Int.reduceLE,Int.reduceNe])|(refine aq (λ hq=> ?_) (λ hq=> ?_)<;>(try simp only[hq,decide_true,decide_false,Bool.not_true,Bool.not_false,not_eq_true',not_eq_false']))|(refine cn (λ hq=> ?_) (λ hq=> ?_)<;>(try simp only[hq,decide_true,decide_false,Bool.not_true,Bool.not_false,not_eq_true',not_eq_false']))|(refine bH (λ hq=> ?_) (λ hq=> ?_)<;>(try simp only[hq,decide_true,decide_false,Bool.not_true,Bool.not_false,not_eq_true',not_eq_false']))|(refine aB ?_)|(refine eo (abm x) rfl ?_)|(refine bj (tF x.want.1 _ _) ?_)|(refine bj (mv x.want.1 _) ?_)|(refine bj (fm _ _ _) ?_)|(refine bj (abo _ (by omega)) ?_))
 all_goals rw[aa.arh]
 all_goals generalize (iz x.want.1 ((97:UInt8).toNat:Int)&&jJ x.A 0 15||decide (x.A=0))=p1 at*
 all_goals generalize (iz x.want.1 ((98:UInt8).toNat:Int)&&jJ x.B 0 15||decide (x.B=0))=p2 at*
 all_goals generalize (iz x.want.1 ((99:UInt8).toNat:Int)&&jJ x.C 0 15||decide (x.C=0))=p3 at*
 all_goals generalize iz x.want.1 ((110:UInt8).toNat:Int)=p4 at*
 all_goals generalize iz x.want.1 ((116:UInt8).toNat:Int)=p5 at*
 all_goals first|(simp_all [aa.zO];done)
theorem vD(n:Int)(c:ai)(hc:c.wt<=1048576):aI Tryz.prog F.fo [br n,.bW c.av 0] (.v (.bool (!c.pS n))):=by
 have hv:=c.jy;have s2:IntKind.i64.wrap ((c.ar.length:Int)- 1)=c.ar.length- 1:=gv (by omega) (by omega);refine T.sh rfl (by simp[AV.ad,AV.ag,ai.ag]) ?_;simp only[T.fo,ai.cells,ai.isAgg,ai.storable,WA,reduceEqDiff,reduceAdd,reduceLT,reduceLeDiff,reduceMul,reduceIte,reduceCtorEq,Int.reduceEq,Int.reduceLT,Int.reduceLE,Int.reduceNe]
 repeat' (first|(simp(disch:=(first|omega|rfl|exact rfl|(simp only[bp,length_cons,length_nil];done)|exact ai.width _)) only[ai.cells,ai.isAgg,ai.storable,ai.eta,s2,cR,dM,aD,lh,WA,reduceEqDiff,reduceAdd,reduceLT,reduceLeDiff,reduceMul,reduceIte,reduceCtorEq,Int.reduceEq,Int.reduceLT,Int.reduceLE,Int.reduceNe])|(refine aq (λ hq=> ?_) (λ hq=> ?_)<;>(try simp only[hq,decide_true,decide_false,Bool.not_true,Bool.not_false,not_eq_true',not_eq_false']))|(refine cn (λ hq=> ?_) (λ hq=> ?_)<;>(try simp only[hq,decide_true,decide_false,Bool.not_true,Bool.not_false,not_eq_true',not_eq_false']))|(refine bH (λ hq=> ?_) (λ hq=> ?_)<;>(try simp only[hq,decide_true,decide_false,Bool.not_true,Bool.not_false,not_eq_true',not_eq_false']))|(refine aB ?_)|(refine bj (fm _ _ _) ?_))
 all_goals simp_all [ai.pS]
theorem vF(x:aa)(c:ai)(hb:x.wt<=1048576)(hc:c.wt<=1048576):aI Tryz.prog F.fp [x.av,.bW c.av 0] (.v (.bool (!c.pI x))):=by
 refine T.si rfl (by simp[AV.ad,AV.ag,aa.ag,ai.ag]) ?_;simp only[T.fp,aa.cells,aa.isAgg,aa.storable,ai.cells,ai.isAgg,ai.storable,WA,reduceEqDiff,reduceAdd,reduceLT,reduceLeDiff,reduceMul,reduceIte,reduceCtorEq,Int.reduceEq,Int.reduceLT,Int.reduceLE,Int.reduceNe]
 repeat' (first|(simp(disch:=(first|omega|rfl|exact rfl|(simp only[bp,length_cons,length_nil];done)|exact aa.width _|exact ai.width _)) only[aa.cells,aa.isAgg,aa.storable,aa.eta,ai.cells,ai.isAgg,ai.storable,ai.eta,cR,dM,aD,lh,WA,reduceEqDiff,reduceAdd,reduceLT,reduceLeDiff,reduceMul,reduceIte,reduceCtorEq,Int.reduceEq,Int.reduceLT,Int.reduceLE,Int.reduceNe])|(refine aq (λ hq=> ?_) (λ hq=> ?_)<;>(try simp only[hq,decide_true,decide_false,Bool.not_true,Bool.not_false,not_eq_true',not_eq_false']))|(refine cn (λ hq=> ?_) (λ hq=> ?_)<;>(try simp only[hq,decide_true,decide_false,Bool.not_true,Bool.not_false,not_eq_true',not_eq_false']))|(refine bH (λ hq=> ?_) (λ hq=> ?_)<;>(try simp only[hq,decide_true,decide_false,Bool.not_true,Bool.not_false,not_eq_true',not_eq_false']))|(refine aB ?_)|(refine bj (xS x c hb hc) ?_))
 all_goals simp_all [ai.pI]
theorem y8(c:ai)(hb:c.wt<=1048576):aI Tryz.prog F.gU [c.av] (.v (.bool c.qW)):=by
 have hv:=c.jy;refine T.vB rfl (by simp[AV.ad,AV.ag,ai.ag]) ?_;simp only[T.gU,ai.cells,ai.isAgg,ai.storable,WA,reduceEqDiff,reduceAdd,reduceLT,reduceLeDiff,reduceMul,reduceIte,reduceCtorEq,Int.reduceEq,Int.reduceLT,Int.reduceLE,Int.reduceNe]
 repeat' (first|(simp(disch:=(first|omega|rfl|exact rfl|(simp only[bp,length_cons,length_nil];done)|exact ai.width _)) only[ai.cells,ai.isAgg,ai.storable,ai.eta,aha,Bool.not_not,cR,dM,aD,lh,WA,reduceEqDiff,reduceAdd,reduceLT,reduceLeDiff,reduceMul,reduceIte,reduceCtorEq,Int.reduceEq,Int.reduceLT,Int.reduceLE,Int.reduceNe])|(refine aq (λ hq=> ?_) (λ hq=> ?_)<;>(try simp only[hq,decide_true,decide_false,Bool.not_true,Bool.not_false,not_eq_true',not_eq_false']))|(refine cn (λ hq=> ?_) (λ hq=> ?_)<;>(try simp only[hq,decide_true,decide_false,Bool.not_true,Bool.not_false,not_eq_true',not_eq_false']))|(refine bH (λ hq=> ?_) (λ hq=> ?_)<;>(try simp only[hq,decide_true,decide_false,Bool.not_true,Bool.not_false,not_eq_true',not_eq_false']))|(refine aB ?_)|(refine bj (fm _ _ _) ?_)|(refine bj (agd c.ar _ _ (λ x=> !c.pI x) (by omega) (by simp[AV.ad,AV.ag,ai.ag]) (λ x hx=>vF x c (by have:=afn aa.wt hx;omega) hb)) ?_)|(refine bj (aje c.aM _ _ (λ n=> !c.pS n) (by omega) (by simp[AV.ad,AV.ag,ai.ag]) (λ n _=>vD n c hb)) ?_))
 case' refine_2.refine_2.refine_2.refine_2=>
  have hl:1<=c.ar.length:=by simp only[jJ,not_eq_false',Bool.and_eq_true,decide_eq_true_eq]at*;omega
  have s3:IntKind.i64.wrap ((c.ar.length:Int)- 1)=((c.ar.length- 1:Nat):Int):=by rw[gv (by omega) (by omega)];omega
  have au:c.ar.length- 1<c.ar.length:=by omega
  have h9:c.ar[c.ar.length- 1]? =some c.ar[c.ar.length- 1]:=List.getElem?_eq_getElem au;rw[s3];refine oM aa.av au (aa.width _) ?_;generalize c.ar[c.ar.length- 1]=y at h9⊢;have h10:=ai.zT h9;clear h9
  repeat' (first|(simp(disch:=(first|omega|rfl|exact rfl|(simp only[bp,length_cons,length_nil];done)|exact aa.width _|exact ai.width _)) only[aa.cells,aa.isAgg,aa.storable,aa.eta,ai.cells,ai.isAgg,ai.storable,ai.eta,cR,dM,aD,lh,WA,reduceEqDiff,reduceAdd,reduceLT,reduceLeDiff,reduceMul,reduceIte,reduceCtorEq,Int.reduceEq,Int.reduceLT,Int.reduceLE,Int.reduceNe])|(refine aq (λ hq=> ?_) (λ hq=> ?_)<;>(try simp only[hq,decide_true,decide_false,Bool.not_true,Bool.not_false,not_eq_true',not_eq_false']))|(refine cn (λ hq=> ?_) (λ hq=> ?_)<;>(try simp only[hq,decide_true,decide_false,Bool.not_true,Bool.not_false,not_eq_true',not_eq_false']))|(refine bH (λ hq=> ?_) (λ hq=> ?_)<;>(try simp only[hq,decide_true,decide_false,Bool.not_true,Bool.not_false,not_eq_true',not_eq_false']))|(refine aB ?_))
 all_goals try simp only[aha]at*
 all_goals first|(have uN:=hg;clear hv;simp_all [ai.qW];done)|(have uN:=hg;simp_all [ai.qW];done)|(have uN:=hg;clear hv;simp_all [ai.qW,-all_eq_true,-any_eq_true,-all_eq_false,-any_eq_false];done)|(simp_all [ai.qW];done)|(simp_all [ai.qW,-all_eq_true,-any_eq_true,-all_eq_false,-any_eq_false];done)|(refine avb ?_;(try clear hv);simp_all [ai.qW]<;>(intros;omega))|(refine avb ?_;simp_all [ai.qW]<;>(intros;omega))|(simp_all [ai.qW]<;>(intros;omega))|omega
theorem yS(c:ai)(hb:c.wt<=1048576):aI Tryz.prog F.gM [c.av] (.v (.bool c.qW)):=by
 have hv:=c.jy;have s2:IntKind.i64.wrap ((c.ar.length:Int)- 1)=c.ar.length- 1:=gv (by omega) (by omega);refine T.vk rfl (by simp[AV.ad,AV.ag,ai.ag]) ?_;simp only[T.gM,ai.cells,ai.isAgg,ai.storable,WA,reduceEqDiff,reduceAdd,reduceLT,reduceLeDiff,reduceMul,reduceIte,reduceCtorEq,Int.reduceEq,Int.reduceLT,Int.reduceLE,Int.reduceNe]
 repeat' (first|(simp(disch:=(first|omega|rfl|exact rfl|(simp only[bp,length_cons,length_nil];done)|exact aa.width _|exact ai.width _)) only[kJ,avv,hd,hdy,aa.cells,aa.isAgg,aa.storable,aa.eta,ai.cells,ai.isAgg,ai.storable,ai.eta,s2,cR,dM,aD,lh,WA,reduceEqDiff,reduceAdd,reduceLT,reduceLeDiff,reduceMul,reduceIte,reduceCtorEq,Int.reduceEq,Int.reduceLT,Int.reduceLE,Int.reduceNe])|(simp(disch:=(first|omega|rfl|exact rfl|(simp only[bp,length_cons,length_nil];done)|exact aa.width _|exact ai.width _)) only[kJ,hd,aa.cells,aa.isAgg,aa.storable,aa.eta,ai.cells,ai.isAgg,ai.storable,ai.eta,s2,cR,dM,aD,lh,WA,reduceEqDiff,reduceAdd,reduceLT,reduceLeDiff,reduceMul,reduceIte,reduceCtorEq,Int.reduceEq,Int.reduceLT,Int.reduceLE,Int.reduceNe])|(simp(disch:=(first|omega|rfl|exact rfl|(simp only[bp,length_cons,length_nil];done)|exact aa.width _|exact ai.width _)) only[hd,hdy,aa.cells,aa.isAgg,aa.storable,aa.eta,ai.cells,ai.isAgg,ai.storable,ai.eta,s2,cR,dM,aD,lh,WA,reduceEqDiff,reduceAdd,reduceLT,reduceLeDiff,reduceMul,reduceIte,reduceCtorEq,Int.reduceEq,Int.reduceLT,Int.reduceLE,Int.reduceNe])|(simp(disch:=(first|omega|rfl|exact rfl|(simp only[bp,length_cons,length_nil];done)|exact aa.width _|exact ai.width _)) only[mD,hd,aa.cells,aa.isAgg,aa.storable,aa.eta,ai.cells,ai.isAgg,ai.storable,ai.eta,s2,cR,dM,aD,lh,WA,reduceEqDiff,reduceAdd,reduceLT,reduceLeDiff,reduceMul,reduceIte,reduceCtorEq,Int.reduceEq,Int.reduceLT,Int.reduceLE,Int.reduceNe])|(simp(disch:=(first|omega|rfl|exact rfl|(simp only[bp,length_cons,length_nil];done)|exact aa.width _|exact ai.width _)) only[hd,aa.cells,aa.isAgg,aa.storable,aa.eta,ai.cells,ai.isAgg,ai.storable,ai.eta,s2,cR,dM,aD,lh,WA,reduceEqDiff,reduceAdd,reduceLT,reduceLeDiff,reduceMul,reduceIte,reduceCtorEq,Int.reduceEq,Int.reduceLT,Int.reduceLE,Int.reduceNe])|(simp(disch:=(first|omega|rfl|exact rfl|(simp only[bp,length_cons,length_nil];done)|exact aa.width _|exact ai.width _)) only[aa.cells,aa.isAgg,aa.storable,aa.eta,ai.cells,ai.isAgg,ai.storable,ai.eta,s2,cR,dM,aD,lh,WA,reduceEqDiff,reduceAdd,reduceLT,reduceLeDiff,reduceMul,reduceIte,reduceCtorEq,Int.reduceEq,Int.reduceLT,Int.reduceLE,Int.reduceNe])|(refine aq (λ hq=> ?_) (λ hq=> ?_)<;>(try simp only[hq,decide_true,decide_false,Bool.not_true,Bool.not_false,not_eq_true',not_eq_false']))|(refine cn (λ hq=> ?_) (λ hq=> ?_)<;>(try simp only[hq,decide_true,decide_false,Bool.not_true,Bool.not_false,not_eq_true',not_eq_false']))|(refine bH (λ hq=> ?_) (λ hq=> ?_)<;>(try simp only[hq,decide_true,decide_false,Bool.not_true,Bool.not_false,not_eq_true',not_eq_false']))|(refine aB ?_)|(have:=(hg:c.ar.all c.pI= [].all c.pI);refine kH c.aM (λ i (_:Unit)=>[br i]) (λ _ rest _=>c.aM.all c.pS=rest.all c.pS) () rfl ?_ (λ i k rest b hi hx hm kJ hd hg=> ?_) (λ b hd hg=> ?_))|(refine afm c.ar (λ i (_:Unit)=>[br i]) (λ _ rest _=>c.ar.all c.pI=rest.all c.pI) () (aa.facts (b:=1048576) (by omega)) rfl ?_ (λ i k rest b hi hx hm kJ hd hf hg=> ?_) (λ b hd hg=> ?_))|(refine bj (gL _ _ _) ?_)|(refine bj (rr _ c (by omega) hb) ?_))
 case' refine_2.refine_2.refine_3.refine_3=>
  have hl:1<=c.ar.length:=by simp only[jJ,not_eq_false',Bool.and_eq_true,decide_eq_true_eq]at*;omega
  have s3:(c.ar.length:Int)- 1=((c.ar.length- 1:Nat):Int):=by omega
  have au:c.ar.length- 1<c.ar.length:=by omega
  have h9:c.ar[c.ar.length- 1]? =some c.ar[c.ar.length- 1]:=List.getElem?_eq_getElem au;rw[s3];refine oM aa.av au (aa.width _) ?_;generalize c.ar[c.ar.length- 1]=y at h9⊢;have h10:=ai.zT h9;clear h9
  repeat' (first|(simp(disch:=(first|omega|rfl|exact rfl|(simp only[bp,length_cons,length_nil];done)|exact aa.width _|exact ai.width _)) only[aa.cells,aa.isAgg,aa.storable,aa.eta,ai.cells,ai.isAgg,ai.storable,ai.eta,cR,dM,aD,lh,WA,reduceEqDiff,reduceAdd,reduceLT,reduceLeDiff,reduceMul,reduceIte,reduceCtorEq,Int.reduceEq,Int.reduceLT,Int.reduceLE,Int.reduceNe])|(refine aq (λ hq=> ?_) (λ hq=> ?_)<;>(try simp only[hq,decide_true,decide_false,Bool.not_true,Bool.not_false,not_eq_true',not_eq_false']))|(refine cn (λ hq=> ?_) (λ hq=> ?_)<;>(try simp only[hq,decide_true,decide_false,Bool.not_true,Bool.not_false,not_eq_true',not_eq_false']))|(refine bH (λ hq=> ?_) (λ hq=> ?_)<;>(try simp only[hq,decide_true,decide_false,Bool.not_true,Bool.not_false,not_eq_true',not_eq_false']))|(refine aB ?_))
 all_goals try rw[show∀k:aa,k.qW (c.ar.length:Int) (c.aM.length:Int)=c.pI k from λ _=>rfl]at*
 all_goals try rw[show∀k:Int,jJ k 0 ((c.ar.length:Int)- 1)=c.pS k from λ _=>rfl]at*
 all_goals first|(have uN:=hg;clear hv;simp_all [ai.qW];done)|(have uN:=hg;simp_all [ai.qW];done)|(have uN:=hg;clear hv;simp_all [ai.qW,-all_eq_true,-any_eq_true,-all_eq_false,-any_eq_false];done)|(simp_all [ai.qW];done)|(simp_all [ai.qW,-all_eq_true,-any_eq_true,-all_eq_false,-any_eq_false];done)|(refine avb ?_;(try clear hv);simp_all [ai.qW]<;>(intros;omega))|(refine avb ?_;simp_all [ai.qW]<;>(intros;omega))|(simp_all [ai.qW]<;>(intros;omega))|omega
end Go.Proofs.Ab
