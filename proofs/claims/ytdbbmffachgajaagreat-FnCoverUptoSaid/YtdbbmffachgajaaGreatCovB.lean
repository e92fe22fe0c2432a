/- Part of a proof: the functions that the law reaches, walked by the abstract logic of the texts Ab. -/
import Derived.Test.YtdbbmffachgajaaGreatCovA
import Derived.Test.YtdbbmffachgajaaGreatSL
import Derived.Test.YtdbbmffachgajaaGreatGM
import Derived.Test.YtdbbmffachgajaaGreatCCatTy
import Derived.Test.YtdbbmffachgajaaGreatCPutI
import Derived.Test.YtdbbmffachgajaaGreatST2
set_option maxHeartbeats 4000000
set_option maxRecDepth 100000
open List(length_map map_cons flatten_cons map_append length_cons length_nil filterMap_cons)
open Nat(reduceEqDiff reduceLeDiff reduceAdd reduceLT reduceMul)
set_option linter.unusedVariables false
set_option linter.unusedSimpArgs false
set_option linter.defProp false
namespace Go.Ab
def jX(r:List aa):AV:= .sl (r.map aa.av)
def dq(rows:List (List aa)):AV:= .sl (rows.map jX)
theorem pC(r:List aa):(jX r).ag=true:=bt aa.ag
theorem vT(r:List aa):(jX r).cells= [jX r]:=nr rfl
theorem pM(r:List aa):(jX r).cells.length=1:=nr rfl
theorem jF(rows:List (List aa)):(dq rows).ag=true:=bt pC
def nlL(l:List AV):AV:=if l= []then .an else .sl l
theorem vv.nl{P:Program}{f:FuncId}{args:List AV}{e m:Nat}{xs:List AV}(h:vv P f args true e m xs)(hn:AV.ae xs=true):aW P f args (nlL xs):=by
 by_cases hx:xs= []
 ·subst hx;refine⟨h.1,λ I L w vs hi hr=>(h.2 I L w vs hi hr).mono ?_⟩;rintro ev w' ⟨y,I',L',rfl,hy,hg⟩;refine⟨y,_,L',rfl,?_,hg.all⟩;have e1:fp true e m []= .nil e m:=by unfold fp;rw[if_pos ⟨rfl,rfl⟩]
  rw[e1]at hy;cases hy with
  |dX _ _ _ _ _ h1 _=>simp at h1
  |im=>exact .an
  |fk _ _ _ _ h1 _ _=>exact absurd (by simp) (h1 e m)
 ·unfold nlL;rw[if_neg hx];exact h.plain hn
theorem ax5(l:List AV):AV.oY (nlL l) (.sl l):=by
 unfold nlL
 split
 ·rename_i h;rw[h];exact .nil
 ·exact .refl _
theorem sT{l:List AV}(h:AV.ae l=true):(nlL l).ag=true:=by
 unfold nlL
 split
 ·rfl
 ·exact h
theorem aW.aGx{P:Program}{f:FuncId}{tq:List AV}{a b:AV}{v:AV}(h:aW P f tq (.aZ [a,v]))(hle:AV.oY a b):aW P f tq (.aZ [b,v]):=by
 refine⟨h.1,λ I L w vs hi hr=>(h.2 I L w vs hi hr).mono ?_⟩;rintro e w' ⟨x,I',L',he,hx,hg⟩;refine⟨x,I',L',he,?_,hg⟩;cases hx with
 |aZ cs xs hl hc=>
  refine .aZ _ _ hl λ i c x h1 h2=> ?_
  match i,h1 with
  |0,h1=>cases h1;exact hle.sound (hc 0 a x rfl h2)
  |1,h1=>cases h1;exact hc 1 v x rfl h2
theorem aW.nl3{P:Program}{f:FuncId}{a b:AV}{l:List AV}{res:AV}(h:aW P f [a,b,.sl l] res):aW P f [a,b,nlL l] res:=h.abY rfl λ i x y hx hy=>by
 match i,hx,hy with
 |0,hx,hy=>cases hx;cases hy;exact .refl _
 |1,hx,hy=>cases hx;cases hy;exact .refl _
 |2,hx,hy=>cases hx;cases hy;exact ax5 l
theorem aW.nl1{P:Program}{f:FuncId}{l:List AV}{args:List AV}{res:AV}(h:aW P f (.sl l::args) res):aW P f (nlL l::args) res:=h.abY rfl λ i x y hx hy=>by
 match i,hx,hy with
 |0,hx,hy=>cases hx;cases hy;exact ax5 l
 |i+1,hx,hy=>
  simp only[List.getElem?_cons_succ]at hx hy;rw[hx]at hy;cases hy;exact .refl _
end Go.Ab
namespace Go.Proofs.Ab
open Go.Ab
theorem azm(n:Nat)(hn:0<n)(hb:n<=1048576):jY Tryz.prog F.aL G.aL [aD n] [.sl []]:=by
 have d1:decide ((n:Int)<0)=false:=decide_eq_false (by omega);have d2:decide ((0:Int)<(n:Int))=true:=decide_eq_true (by omega);have w0:IntKind.i64.wrap ((0:Int)- 0)=0:=cE (by omega) (by omega);have w1:IntKind.i64.wrap ((n:Int)- 0)=n:=cE (by omega) (by omega);refine T.kL rfl rfl rfl ?_;simp only[T.aL,d1,d2,w0,w1,Int.toNat_natCast,WA];refine⟨by omega,by omega,by omega,?_⟩;simp only[List.replicate_eq_nil_iff];omega
theorem azl:jY Tryz.prog F.aL G.aX [aD 0] []:=by
 have d1:decide ((0:Int)<0)=false:=by decide
 have w0:IntKind.i64.wrap ((0:Int)- 0)=0:=cE (by omega) (by omega);refine T.jS rfl rfl rfl ?_;simp only[T.aX,w0,WA,Int.reduceLT]
theorem aC1(ls:List (List aa))(hn:0<(ls.map List.length).sum)(hb:(ls.map List.length).sum<=1048576)(hl:ls.length<=1048576):aW Tryz.prog F.bw [.sl (ls.map jX)] (.sl (ls.flatten.map aa.av)):=by
 have cJ:AV.ae [AV.sl (ls.map jX)]=true:=by simp only[AV.ae,AV.ag,Bool.and_true];exact bt pC
 generalize hN:(ls.map List.length).sum=N at hn hb;refine T.kh rfl cJ ?_;simp only[T.bw,WA,seval];refine aG [aD N] rfl ?_ ?_
 ·simp only[length_map,WA,seval];refine bk ls (λ i (acc:Nat)=>[aD acc,aD i]) (λ _ rest acc=>acc+(rest.map List.length).sum=N) 0 rfl (by omega) (λ i x rest acc hi hx hm ez hd hg=> ?_) (λ acc hd hg=> ?_)
  ·simp only[map_cons,List.sum_cons]at hg;simp only[hd,WA,seval];refine aG [aD ((acc+x.length:Nat):Int)] rfl ?_ ?_
   ·simp only[WA,seval];rw[ez jX 1 _ _ rfl];have d1:decide (((acc+x.length:Nat):Int)<0)=false:=decide_eq_false (by omega);simp(disch:=omega) only[jX,length_map,cu,d1,WA,seval]
   ·simp(disch:=omega) only[aI,WA,seval];exact⟨hi,_,by omega,rfl⟩
  ·simp only[List.map_nil,List.sum_nil,Nat.add_zero]at hg;simp only[hd,hg,WA,seval]
 ·simp only[WA,seval];refine fj (azm N hn (by omega)) rfl rfl ?_;simp only[WA,seval];refine aw ?_;simp only[length_map,WA,seval];have hfl:ls.flatten.length=N:=by rw[List.length_flatten,hN]
  refine bk ls (λ i (acc:List aa)=>[.sl (acc.map aa.av),aD i]) (λ _ rest acc=>acc++rest.flatten=ls.flatten) [] rfl (by simp) (λ i x rest acc hi hx hm ez hd hg=> ?_) (λ acc hd hg=> ?_)
  ·have hl2:=congrArg List.length hg;simp only[List.length_append,flatten_cons,hfl]at hl2;simp only[hd,WA,seval];rw[ez jX 1 _ _ rfl];simp(disch:=omega) only[jX,length_map,aI,WA,seval];refine⟨λ y hy=>by obtain⟨z,_,rfl⟩:=List.mem_map.1 hy;exact aa.width z,by omega,by omega,?_⟩;refine⟨hi,acc++x,?_,by rw[map_append]⟩;rw[flatten_cons,←List.append_assoc]at hg;exact hg
  ·rw[List.flatten_nil,List.append_nil]at hg;simp only[hd,hg,WA,seval]
theorem aC0(ls:List (List aa))(hN:(ls.map List.length).sum=0)(hl:ls.length<=1048576):aW Tryz.prog F.bw [.sl (ls.map jX)] (.sl (ls.flatten.map aa.av)):=by
 have cJ:AV.ae [AV.sl (ls.map jX)]=true:=by simp only[AV.ae,AV.ag,Bool.and_true];exact bt pC
 refine T.jU rfl cJ ?_;simp only[T.fP,WA];refine aG [aD 0] rfl ?_ ?_
 ·simp only[length_map,WA];refine bk ls (λ i (acc:Nat)=>[aD acc,aD i]) (λ _ rest acc=>acc+(rest.map List.length).sum=0) 0 rfl (by omega) (λ i x rest acc hi hx hm ez hd hg=> ?_) (λ acc hd hg=> ?_)
  ·simp only[map_cons,List.sum_cons]at hg;simp only[hd,WA];refine aG [aD ((acc+x.length:Nat):Int)] rfl ?_ ?_
   ·simp only[WA];rw[ez jX 1 _ _ rfl];have d1:decide (((acc+x.length:Nat):Int)<0)=false:=decide_eq_false (by omega);simp(disch:=omega) only[jX,length_map,cu,d1,WA]
   ·simp(disch:=omega) only[aI,WA];exact⟨hi,_,by omega,rfl⟩
  ·simp only[List.map_nil,List.sum_nil,Nat.add_zero]at hg;simp only[hd,hg,WA]
   rfl
 ·simp only[WA];refine fj azl rfl rfl ?_;simp only[WA];refine aw ?_;simp only[length_map,WA];have hfl:ls.flatten.length=0:=by rw[List.length_flatten,hN]
  refine bk ls (λ i (acc:List aa)=>[.sl (acc.map aa.av),aD i]) (λ _ rest acc=>acc++rest.flatten=ls.flatten) [] rfl (by simp) (λ i x rest acc hi hx hm ez hd hg=> ?_) (λ acc hd hg=> ?_)
  ·have hl2:=congrArg List.length hg;simp only[List.length_append,flatten_cons,hfl]at hl2;simp only[hd,WA];rw[ez jX 1 _ _ rfl];simp(disch:=omega) only[jX,length_map,aI,WA];refine⟨λ y hy=>by obtain⟨z,_,rfl⟩:=List.mem_map.1 hy;exact aa.width z,by omega,by omega,?_⟩;refine⟨hi,acc++x,?_,by rw[map_append]⟩;rw[flatten_cons,←List.append_assoc]at hg;exact hg
  ·rw[List.flatten_nil,List.append_nil]at hg;simp only[hd,hg,WA]
theorem aIa(a b:List aa)(hb:a.length+b.length<=1048576):aW Tryz.prog F.bw [.sl [.sl (a.map aa.av),.sl (b.map aa.av)]] (.sl ((a++b).map aa.av)):=by
 have hs:([a,b].map List.length).sum=a.length+b.length:=by simp
 have hf: [a,b].flatten=a++b:=by simp
 rcases Nat.eq_zero_or_pos (a.length+b.length)with h|h
 ·have:=aC0 [a,b] (by omega) (by simp);rwa [hf]at this
 ·have:=aC1 [a,b] (by omega) (by omega) (by simp);rwa [hf]at this
end Go.Proofs.Ab
namespace Go.Ab
def Hd.sp(h:Hd):aa:=h.p.cP (h.ks.map cw)
def uN(h:aa):List aa->Option (List aa)
 | []=>some h.Kids
 |p::r=>if fg p=true then some (h.Kids++r)else if p.Kind=h.Kind/\p.fM=h.fM/\p.Name=h.Name then some (p.Kids++r)else none
theorem zI(t:ai):(cw t).av= .agg [aD 1,aD 0,.v (.string ⟨#[]⟩),aD t.Kind,aD t.N,.v (.string t.Name),.sl (t.Kids.map ai.av),.sl []]:=by
 show AV.agg (aa.cs _)=_;rw[aa.sy];rfl
theorem afb{cs:List AV}:AV.oY (.agg (cs++ [.an])) (.agg (cs++ [.sl []])):=by
 refine .agg _ _ (by simp) λ i c d hc hd=> ?_
 by_cases h:i<cs.length
 ·rw[List.getElem?_append_left h]at hc hd;rw[hc]at hd;injection hd with hd;rw[hd];exact .refl _
 ·rw[List.getElem?_append_right (by omega)]at hc hd;cases hq:i- cs.length with
  |zero=>
   rw[hq]at hc hd;simp only[List.getElem?_cons_zero,Option.some.injEq]at hc hd;rw[←hc,←hd];exact .nil
  |succ n=>
   rw[hq]at hc;simp at hc
structure RB(rows:List (List aa)):Prop where
 len:rows.length<=100
 row:∀r∈rows,r≠[]/\r.length<=100000/\∀p∈r,p.Kids.length<=1000
end Go.Ab
namespace Go.Proofs.Ab
open Go.Ab
theorem iq(l:List aa):AV.ae (l.map aa.av)=true:=bt aa.ag
theorem jg(l:List (List aa)):AV.ae (l.map jX)=true:=bt pC
theorem afh(p:aa):aW Tryz.prog F.ky [p.av] (.v (.bool (fg p))):=by
 refine T.acB rfl (by simp[AV.ae,aa.ag]) ?_;simp only[T.ky,aa.B,WA,seval]
 repeat' (first|(simp(disch:=(first|omega|rfl|exact rfl|(simp only[au,length_cons,length_nil];done)|exact aa.width _)) only[aa.E,WA,seval])|(refine aC (λ hq=> ?_) (λ hq=> ?_)<;>(try simp only[hq,BN]))|(refine aP (λ hq=> ?_) (λ hq=> ?_)<;>(try simp only[hq,BN]))|(refine aA (λ hq=> ?_) (λ hq=> ?_)<;>(try simp only[hq,BN]))|(refine aw ?_))
 all_goals simp_all [fg]
theorem awW(p:aa):aW Tryz.prog F.l5 [p.av] (.v (.bool (fg p))):=by
 refine T.ab3 rfl (by simp[AV.ae,aa.ag]) ?_;simp only[T.l5,aa.B,WA,seval]
 repeat' (first|(simp(disch:=(first|omega|rfl|exact rfl|(simp only[au,length_cons,length_nil];done)|exact aa.width _)) only[aa.E,WA,seval])|(refine aC (λ hq=> ?_) (λ hq=> ?_)<;>(try simp only[hq,BN]))|(refine aP (λ hq=> ?_) (λ hq=> ?_)<;>(try simp only[hq,BN]))|(refine aA (λ hq=> ?_) (λ hq=> ?_)<;>(try simp only[hq,BN]))|(refine aw ?_))
 all_goals simp_all [fg]
theorem aGv(a b:aa):aW Tryz.prog F.n9 [a.av,b.av] (.v (.bool (decide (a.Kind=b.Kind/\a.fM=b.fM/\a.Name=b.Name)))):=by
 refine T.ab5 rfl (by simp[AV.ae,aa.ag]) ?_;simp only[T.n9,aa.B,WA,seval]
 repeat' (first|(simp(disch:=(first|omega|rfl|exact rfl|(simp only[au,length_cons,length_nil];done)|exact aa.width _)) only[aa.E,WA,seval])|(refine aC (λ hq=> ?_) (λ hq=> ?_)<;>(try simp only[hq,BN]))|(refine aP (λ hq=> ?_) (λ hq=> ?_)<;>(try simp only[hq,BN]))|(refine aA (λ hq=> ?_) (λ hq=> ?_)<;>(try simp only[hq,BN]))|(refine aw ?_))
 all_goals simp_all
theorem alj(t:ai)(hb:t.wt<=1048576):aW Tryz.prog F.lT [t.av] (cw t).av:=by
 rw[zI];refine aW.ahb ?_ (afb (cs:=[aD 1,aD 0,.v (.string ⟨#[]⟩),aD t.Kind,aD t.N,.v (.string t.Name),.sl (t.Kids.map ai.av)]));refine T.afw rfl (by simp[AV.ae,ai.ag]) ?_;simp only[T.lT,ai.B,WA,seval];refine bH (nP t hb) (ai.ag _) ?_;simp only[ai.cells,au,jy,WA,seval];exact⟨rfl,ai.storable _⟩
theorem qX(t:ai)(hb:t.wt<=1048576):aW Tryz.prog F.fa [t.av] (cw t).av:=by
 rw[zI];refine aW.ahb ?_ (afb (cs:=[aD 1,aD 0,.v (.string ⟨#[]⟩),aD t.Kind,aD t.N,.v (.string t.Name),.sl (t.Kids.map ai.av)]));refine T.ad4 rfl (by simp[AV.ae,ai.ag]) ?_;simp only[T.fa,ai.B,WA,seval];refine bH (gm t hb) (ai.ag _) ?_;simp only[ai.cells,au,jy,WA,seval];exact⟨rfl,ai.storable _⟩
theorem apJ(p:aa)(hb:p.Kids.length<=100000):vv Tryz.prog F.fE [p.av] false 27 4 (p.Kids.map λ k=>k.T.av):=by
 refine T.uB rfl (by simp[AV.ae,aa.ag]) ?_;simp only[T.fE,aa.B,WA,seval];refine aG [.sl (p.Kids.map λ k=>k.T.av)] rfl ?_ ?_
 ·repeat' (first|(simp(disch:=(first|omega|rfl|exact rfl|(simp only[au,length_cons,length_nil];done)|exact aa.width _|exact ai.width _)) only[ez,wg,hd,xP,aa.E,aa.ji,ai.E,length_map,cD,cu,aI,mP,WA,seval])|(simp(disch:=(first|omega|rfl|exact rfl|(simp only[au,length_cons,length_nil];done)|exact aa.width _|exact ai.width _)) only[ez,hd,aa.E,aa.ji,ai.E,length_map,aI,WA,seval])|(simp(disch:=(first|omega|rfl|exact rfl|(simp only[au,length_cons,length_nil];done)|exact aa.width _|exact ai.width _)) only[hd,xP,aa.E,aa.ji,ai.E,length_map,cD,cu,aI,mP,WA,seval])|(simp(disch:=(first|omega|rfl|exact rfl|(simp only[au,length_cons,length_nil];done)|exact aa.width _|exact ai.width _)) only[hix,hd,aa.E,aa.ji,ai.E,length_map,cD,cu,aI,mP,WA,seval])|(simp(disch:=(first|omega|rfl|exact rfl|(simp only[au,length_cons,length_nil];done)|exact aa.width _|exact ai.width _)) only[hd,aa.E,length_map,WA,seval])|(simp(disch:=(first|omega|rfl|exact rfl|(simp only[au,length_cons,length_nil];done)|exact aa.width _|exact ai.width _)) only[WA,seval])|(refine aC (λ hq=> ?_) (λ hq=> ?_)<;>(try simp only[hq,BN]))|(refine aP (λ hq=> ?_) (λ hq=> ?_)<;>(try simp only[hq,BN]))|(refine aA (λ hq=> ?_) (λ hq=> ?_)<;>(try simp only[hq,BN]))|(refine aw ?_)|(refine bk p.Kids (λ i (q:List aa)=>[.sl (q.map λ k=>k.T.av),aD i]) (λ i rest q=>q++rest=p.Kids/\q.length=i) ([]:List aa) rfl ?_ (λ i k rest b hi hx hm ez hd hg=> ?_) (λ b hd hg=> ?_)))
  ·obtain⟨hg,hl⟩:=hg;refine⟨λ y hy=>by rw[hy];exact ai.width _,by omega,by omega,hi,b++ [k],⟨by rw[←hg];simp,by simp[hl]⟩,?_⟩;rw[map_append];rfl
  ·have j6:b=p.Kids:=by simpa using hg.1
   rw[j6]
 ·simp only[WA,seval]
theorem az0(aB:List aa)(hb:aB.length<=100000):aW Tryz.prog F.lu [.sl (aB.map aa.av)] (dq (aB.map λ p=>[p])):=by
 refine T.yu rfl (by simp[AV.ae,AV.ag,iq]) ?_;simp only[T.lu,WA,seval];refine aG [dq (aB.map λ p=>[p])] rfl ?_ ?_
 ·repeat' (first|(simp(disch:=(first|omega|rfl|exact rfl|(simp only[au,length_cons,length_nil];done)|exact aa.width _)) only[ez,wg,hd,xP,aa.E,aa.ji,ai.eta,length_map,dq,cD,cu,aI,mP,WA,seval])|(simp(disch:=(first|omega|rfl|exact rfl|(simp only[au,length_cons,length_nil];done)|exact aa.width _)) only[ez,hd,aa.E,length_map,dq,aI,WA,seval])|(simp(disch:=(first|omega|rfl|exact rfl|(simp only[au,length_cons,length_nil];done)|exact aa.width _)) only[hd,xP,aa.E,aa.ji,ai.eta,length_map,dq,cD,cu,aI,mP,WA,seval])|(simp(disch:=(first|omega|rfl|exact rfl|(simp only[au,length_cons,length_nil];done)|exact aa.width _)) only[hix,hd,aa.E,aa.ji,ai.eta,length_map,dq,cD,cu,aI,mP,WA,seval])|(simp(disch:=(first|omega|rfl|exact rfl|(simp only[au,length_cons,length_nil];done)|exact aa.width _)) only[hd,length_map,dq,WA,seval])|(simp(disch:=(first|omega|rfl|exact rfl|(simp only[au,length_cons,length_nil];done)|exact aa.width _)) only[dq,WA,seval])|(refine aC (λ hq=> ?_) (λ hq=> ?_)<;>(try simp only[hq,BN]))|(refine aP (λ hq=> ?_) (λ hq=> ?_)<;>(try simp only[hq,BN]))|(refine aA (λ hq=> ?_) (λ hq=> ?_)<;>(try simp only[hq,BN]))|(refine aw ?_)|(refine bk aB (λ i (q:List aa)=>[dq (q.map λ p=>[p]),aD i]) (λ i rest q=>q++rest=aB/\q.length=i) ([]:List aa) rfl ?_ (λ i k rest b hi hx hm ez hd hg=> ?_) (λ b hd hg=> ?_)))
  ·obtain⟨hg,hl⟩:=hg;refine⟨λ y hy=>by rw[hy];rfl,by omega,by omega,hi,b++ [k],⟨by rw[←hg];simp,by simp[hl]⟩,?_⟩;simp[jX]
  ·have j6:b=aB:=by simpa using hg.1
   rw[j6]
 ·simp only[WA,seval]
  rfl
theorem axp(aB:List aa)(hb:aB.length<=100000):vv Tryz.prog F.kv [.sl (aB.map aa.av)] true 28 1 ((aB.map λ p=>[p]).map jX):=by
 refine T2.aaF rfl (by simp[AV.ae,AV.ag,iq]) ?_;simp only[T2.kv,WA,seval];refine aG [dq (aB.map λ p=>[p])] rfl ?_ ?_
 ·repeat' (first|(simp(disch:=(first|omega|rfl|exact rfl|(simp only[au,length_cons,length_nil];done)|exact aa.width _)) only[ez,wg,hd,xP,aa.E,aa.ji,ai.eta,length_map,dq,cD,cu,aI,mP,WA,seval])|(simp(disch:=(first|omega|rfl|exact rfl|(simp only[au,length_cons,length_nil];done)|exact aa.width _)) only[ez,hd,aa.E,length_map,dq,aI,WA,seval])|(simp(disch:=(first|omega|rfl|exact rfl|(simp only[au,length_cons,length_nil];done)|exact aa.width _)) only[hd,xP,aa.E,aa.ji,ai.eta,length_map,dq,cD,cu,aI,mP,WA,seval])|(simp(disch:=(first|omega|rfl|exact rfl|(simp only[au,length_cons,length_nil];done)|exact aa.width _)) only[hix,hd,aa.E,aa.ji,ai.eta,length_map,dq,cD,cu,aI,mP,WA,seval])|(simp(disch:=(first|omega|rfl|exact rfl|(simp only[au,length_cons,length_nil];done)|exact aa.width _)) only[hd,dq,WA,seval])|(simp(disch:=(first|omega|rfl|exact rfl|(simp only[au,length_cons,length_nil];done)|exact aa.width _)) only[length_map,dq,WA,seval])|(refine aC (λ hq=> ?_) (λ hq=> ?_)<;>(try simp only[hq,BN]))|(refine aP (λ hq=> ?_) (λ hq=> ?_)<;>(try simp only[hq,BN]))|(refine aA (λ hq=> ?_) (λ hq=> ?_)<;>(try simp only[hq,BN]))|(refine aw ?_)|(refine bk aB (λ i (q:List aa)=>[dq (q.map λ p=>[p]),aD i]) (λ i rest q=>q++rest=aB/\q.length=i) ([]:List aa) rfl ?_ (λ i k rest b hi hx hm ez hd hg=> ?_) (λ b hd hg=> ?_)))
  ·obtain⟨hg,hl⟩:=hg;refine⟨λ y hy=>by rw[hy];rfl,by omega,by omega,hi,b++ [k],⟨by rw[←hg];simp,by simp[hl]⟩,?_⟩;simp[jX]
  ·have j6:b=aB:=by simpa using hg.1
   rw[j6]
 ·simp only[dq,WA,seval]
theorem arW(rows:List (List aa))(hb:RB rows):vv Tryz.prog F.nD [dq rows] true 28 1 ((cF rows).map jX):=by
 have hl0:=hb.len;refine T2.acy rfl (by simp only[AV.ae,jF,Bool.and_true]) ?_;simp only[T2.nD,dq,WA];refine aG [dq (cF rows)] rfl ?_ ?_
 ·simp only[length_map,dq,WA];refine bk rows (λ i (q:List (List aa))=>[dq q,aD i]) (λ i rest q=>q++cF rest=cF rows/\q.length=i) [] rfl ⟨by simp,rfl⟩ (λ i k rest b hi hx hm ez hd hg=> ?_) (λ b hd hg=> ?_)
  ·obtain⟨hg,hl⟩:=hg;have hr:=hb.row k hm
   have hk:1<=k.length:=by
    rcases k with _|⟨p,k⟩
    ·exact absurd rfl hr.1
    ·simp
   simp only[hd,dq,WA];rw[ez jX 1 _ _ (pM _)];simp only[jX,length_map,WA,reduceLeDiff,Int.reduceLE]
   have e:((k.map aa.av).take k.length).drop (Int.toNat 1)=k.tail.map aa.av:=by
    rw[List.take_of_length_le (by simp),show(1:Int).toNat=1 from rfl,List.drop_one,List.map_tail]
   simp(disch:=omega) only[e,aI];refine⟨by omega,by omega,λ y hy=>by obtain⟨z,_,rfl⟩:=List.mem_map.1 hy;exact aa.width z,λ y hy=>by rw[hy];rfl,by omega,by omega,hi,b++ [k.tail],⟨by rw[←hg];simp[cF],by simp[hl]⟩,?_⟩;simp[jX]
  ·have j6:b=cF rows:=by simpa [cF]using hg.1
   simp only[hd,j6,WA]
   rfl
 ·simp only[dq,WA]
end Go.Proofs.Ab
namespace Go.Ab
theorem j5{s:Nat}{x:AV}{l:List AV}{k:IntKind}{K:AV->Prop}(hs:x.cells.length=s):jE s (.sl (x::l)) (.v (.int k 0)) K=gn K x:=by
 unfold jE gn;simp[hs]
theorem sP{x:AV}{l:List AV}{n:Nat}(h:n=l.length+1):List.drop (Int.toNat 1) (List.take n (x::l))=l:=by
 rw[h,List.take_of_length_le (by simp),show(1:Int).toNat=1 from rfl,List.drop_one,List.tail_cons]
def zP:aa:= .mk 0 0 ⟨#[]⟩ (.mk 0 0 ⟨#[]⟩ []) []
def zAV:AV:= .agg [.v (.int .i64 0),.v (.int .i64 0),.v (.string ⟨#[]⟩),.v (.int .i64 0),.v (.int .i64 0),.v (.string ⟨#[]⟩),.an,.an]
theorem arJ:∀{rows:List (List aa)},bg rows=true->rows.filterMap (uN zP)=cF rows
 | [],_=>rfl
 |r::rows,ho=>by
  have e:bg (r::rows)=(oo r&&bg rows):=rfl;rw[e,Bool.and_eq_true]at ho;have ih:=arJ ho.2
  have hu:uN zP r=some r.tail:=by
   cases r with
   |nil=>rfl
   |cons p r=>rw[uN,if_pos (by simpa [oo]using ho.1)];rfl
  rw[filterMap_cons,hu];simp only;rw[ih];rfl
end Go.Ab
namespace Go.Proofs.Ab
open Go.Ab
theorem ani(rows:List (List aa))(h:aa)(hb:RB rows)(hk:h.Kids.length<=1000):aW Tryz.prog F.gQ [dq rows,h.av] (dq (rows.filterMap (uN h))):=by
 have hl0:=hb.len;refine T.ab6 rfl (by simp only[AV.ae,jF,aa.ag,Bool.and_true]) ?_;simp only[T.gQ,aa.B,dq,WA,reduceAdd];refine aG [dq (rows.filterMap (uN h))] rfl ?_ ?_
 ·simp only[dq,WA];refine bk rows (λ i (q:List (List aa))=>[dq q,aD i]) (λ i rest q=>q++rest.filterMap (uN h)=rows.filterMap (uN h)/\q.length<=i) [] rfl ⟨by simp,Nat.zero_le _⟩ (λ i k rest b hi hx hm ez hd hg=> ?_) (λ b hd hg=> ?_)
  ·obtain⟨hg,hl⟩:=hg;have hr:=hb.row k hm;rcases k with _|⟨p,k⟩
   ·exact absurd rfl hr.1
   have hp:=hr.2.2 p (by simp);have hk1:=hr.2.1;simp only[length_cons]at hk1;have zl:∀K,jE 1 (.sl (rows.map jX)) (.v (.int .i64 (i:Int))) K=gn K (.sl (p.av::k.map aa.av)):=λ K=>ez jX 1 _ _ (pM _)
   have htl:List.drop (Int.toNat 1) (List.take (k.length+1) (p.av::k.map aa.av))=k.map aa.av:=sP (by simp);have hw:∀(l:List aa) (y:AV),y∈l.map aa.av->y.cells.length=8:=λ l y hy=>by obtain⟨z,_,rfl⟩:=List.mem_map.1 hy;exact aa.width z
   have hw2:∀(y:AV),y=p.av∨y∈k.map aa.av->y.cells.length=8:=λ y hy=>by
    rcases hy with rfl|hy
    ·exact aa.width p
    ·exact hw k y hy
   have e1:IntKind.i64.wrap ((i:Int)+1)=((i+1:Nat):Int):=aI (by omega);simp only[hd,dq,WA];refine aw ?_;simp(disch:=first|exact aa.width _|omega) only[zl,j5,ia,aa.B,length_cons,WA,reduceAdd];refine aw ?_;simp(disch:=first|exact aa.width _|omega) only[zl,aa.B,length_cons,WA,reduceAdd];refine aJ (awW p) ?_;simp(disch:=first|exact aa.width _|omega) only[WA];refine aA (λ ho=> ?_) (λ ho=> ?_)
   ·simp(disch:=first|exact aa.width _|omega) only[htl,ia,aa.B,length_map,length_cons,map_cons,WA,reduceLeDiff,Int.reduceLE];have e0:uN h (p::k)=some (h.Kids++k):=by rw[uN,if_pos ho]
    rw[filterMap_cons,e0]at hg;refine⟨hw _,by omega,by omega,by omega,by omega,hw2,hw _,by omega,by omega,λ y hy=>by rw[hy];rfl,by omega,by omega,hi,b++ [h.Kids++k],⟨by rw[←hg];simp,by simp;omega⟩,?_⟩;rw[e1];simp[jX]
   ·simp(disch:=first|exact aa.width _|omega) only[aa.B,length_cons,WA,reduceAdd];refine aJ (aGv p h) ?_;simp(disch:=first|exact aa.width _|omega) only[WA];refine aC (λ hq=> ?_) (λ hq=> ?_)
    ·simp(disch:=first|exact aa.width _|omega) only[htl,ia,aa.B,length_map,length_cons,map_cons,WA,reduceLeDiff,Int.reduceLE];have e0:uN h (p::k)=some (p.Kids++k):=by rw[uN,if_neg (by rw[ho];simp),if_pos hq]
     rw[filterMap_cons,e0]at hg;refine⟨hw _,by omega,by omega,by omega,by omega,hw2,hw _,by omega,by omega,λ y hy=>by rw[hy];rfl,by omega,by omega,hi,b++ [p.Kids++k],⟨by rw[←hg];simp,by simp;omega⟩,?_⟩;rw[e1];simp[jX]
    ·simp(disch:=first|exact aa.width _|omega) only[aa.B,WA];have e0:uN h (p::k)=none:=by rw[uN,if_neg (by rw[ho];simp),if_neg hq]
     rw[filterMap_cons,e0]at hg;refine⟨hi,b,⟨hg,by omega⟩,?_⟩;rw[e1]
  ·have j6:b=rows.filterMap (uN h):=by simpa using hg.1
   simp only[hd,j6,WA]
   rfl
 ·simp only[dq,WA]
theorem aF0:AV.oY zAV zP.av:=by
 have e:zP.av= .agg [.v (.int .i64 0),.v (.int .i64 0),.v (.string ⟨#[]⟩),.v (.int .i64 0),.v (.int .i64 0),.v (.string ⟨#[]⟩),.sl [],.sl []]:=by
  show AV.agg (aa.cs _)=_;rw[aa.sy];rfl
 rw[e];refine .agg _ _ rfl λ i c d hc hd=> ?_
 match i,hc,hd with
 |0,hc,hd|1,hc,hd|2,hc,hd|3,hc,hd|4,hc,hd|5,hc,hd=>cases hc;cases hd;exact .refl _
 |6,hc,hd|7,hc,hd=>cases hc;cases hd;exact .nil
theorem ayr(rows:List (List aa))(hb:RB rows)(ho:bg rows=true):aW Tryz.prog F.gQ [dq rows,zAV] (dq (cF rows)):=by
 have h:=ani rows zP hb (by simp[zP,aa.Kids]);rw[arJ ho]at h;refine h.abY rfl λ i a b ha hb=> ?_
 match i,ha,hb with
 |0,ha,hb=>cases ha;cases hb;exact .refl _
 |1,ha,hb=>cases ha;cases hb;exact aF0
end Go.Proofs.Ab
namespace Go.Ab
def Hd.av(h:Hd):AV:= .agg [aD h.p.Kind,aD h.p.fM,.v (.string h.p.Name),aD h.p.T.Kind,aD h.p.T.N,.v (.string h.p.T.Name),.sl (h.p.T.Kids.map ai.av),.sl (h.p.Kids.map aa.av),.sl (h.ks.map ai.av),.v (.bool h.other)]
theorem Hd.cells(h:Hd):h.av.cells= [aD h.p.Kind,aD h.p.fM,.v (.string h.p.Name),aD h.p.T.Kind,aD h.p.T.N,.v (.string h.p.T.Name),.sl (h.p.T.Kids.map ai.av),.sl (h.p.Kids.map aa.av),.sl (h.ks.map ai.av),.v (.bool h.other)]:=nr rfl
theorem Hd.width(h:Hd):h.av.cells.length=10:=nr rfl
theorem Hd.isAgg(h:Hd):h.av.isAgg=true:=nr rfl
theorem Hd.storable(h:Hd):h.av.storable=true:=nr rfl
def Hd.B:=And.intro @Hd.cells (And.intro @Hd.isAgg (And.intro @Hd.storable @Hd.width))
theorem Hd.ag(h:Hd):h.av.ag=true:=by
 have h1:AV.ae (h.p.T.Kids.map ai.av)=true:=bt ai.ag;have h2:AV.ae (h.p.Kids.map aa.av)=true:=bt aa.ag;have h3:AV.ae (h.ks.map ai.av)=true:=bt ai.ag;simp[Hd.av,AV.ag,AV.ae,h1,h2,h3]
def xe:Option (List aa)->AV
 |some x=> .aZ [jX x,.v (.bool true)]
 |none=> .aZ [.an,.v (.bool false)]
theorem adU(o:Option (List aa)):(xe o).ag=true:=by
 cases o with
 |none=>rfl
 |some x=>
  have:=pC x;simp only[xe,AV.ag,AV.ae,this,Bool.and_true]
end Go.Ab
namespace Go.Proofs.Ab
open Go.Ab
theorem arM(p:aa)(r:List aa)(h:Hd)(hk:∀t∈h.ks,t.wt<=1048576)(hl:h.ks.length<=1000)(hr:r.length<=100000)(hp:p.Kids.length<=1000):aW Tryz.prog F.nB [jX (p::r),h.av] (xe (eb h (p::r))):=by
 have htl:List.drop (Int.toNat 1) (List.take (r.length+1) (p.av::r.map aa.av))=r.map aa.av:=sP (by simp);have hw:∀(l:List aa) (y:AV),y∈l.map aa.av->y.cells.length=8:=λ l y hy=>by obtain⟨z,_,rfl⟩:=List.mem_map.1 hy;exact aa.width z
 have hw2:∀(y:AV),y=p.av∨y∈r.map aa.av->y.cells.length=8:=λ y hy=>by
  rcases hy with rfl|hy
  ·exact aa.width p
  ·exact hw r y hy
 refine T.afk rfl (by simp only[AV.ae,pC,Hd.ag,Bool.and_true]) ?_;simp(disch:=first|exact aa.width _|omega) only[T.nB,jX,j5,Hd.B,aa.B,length_cons,map_cons,WA,reduceAdd];refine bN (λ ws=>∃kids:List aa,eb h (p::r)=some (kids++r)/\kids.length<=1000/\ws= [.sl (kids.map aa.av)]) ?_ ?_
 ·simp(disch:=first|exact aa.width _|omega) only[aa.B,length_cons,WA,reduceAdd];refine aJ (afh p) ?_;simp(disch:=first|exact aa.width _|omega) only[WA];refine aA (λ ho=> ?_) (λ ho=> ?_)
  ·simp(disch:=first|exact aa.width _|omega) only[Hd.B,length_map,WA];refine bk h.ks (λ i (q:List ai)=>[.sl ((q.map cw).map aa.av),aD i]) (λ i rest q=>q++rest=h.ks/\q.length=i) [] rfl ⟨rfl,rfl⟩ (λ i k rest b hi hx hm ez hd hg=> ?_) (λ b hd hg=> ?_)
   ·obtain⟨hg,hq⟩:=hg;simp(disch:=first|exact aa.width _|omega) only[hd,Hd.B,WA];rw[ez ai.av 4 _ _ (ai.width _)];simp(disch:=first|exact aa.width _|omega) only[ai.B,length_cons,WA,reduceAdd];refine bH (alj k (hk k hm)) (aa.ag _) ?_;simp(disch:=first|exact aa.width _|omega) only[aa.B,length_map,length_cons,map_cons,aI,WA,reduceAdd,reduceLeDiff];refine⟨λ y hy=>by rw[hy];exact aa.width _,by omega,by omega,hi,b++ [k],⟨by rw[←hg];simp,by simp[hq]⟩,?_⟩;simp
   ·have j6:b=h.ks:=by simpa using hg.1
    simp(disch:=first|exact aa.width _|omega) only[hd,j6,WA];exact⟨h.ks.map cw,by rw[eb,if_pos ho],by simpa using hl,by simp⟩
  ·simp(disch:=first|exact aa.width _|omega) only[WA];refine aG [.v (.bool (decide (h.other=true∨p.Kind≠h.p.Kind∨p.fM≠h.p.fM∨p.Name≠h.p.Name)))] rfl ?_ ?_
   ·repeat' (first|(simp(disch:=(first|omega|rfl|exact rfl|(simp only[au,length_cons,length_nil];done)|exact aa.width _)) only[ez,hd,aa.E,aa.ji,ai.eta,Hd.cells,cD,cu,aI,mP,WA,reduceEqDiff,reduceAdd,reduceLT,reduceLeDiff,reduceMul,reduceIte,reduceCtorEq,Int.reduceEq,Int.reduceLT,Int.reduceLE,Int.reduceNe])|(simp(disch:=(first|omega|rfl|exact rfl|(simp only[au,length_cons,length_nil];done)|exact aa.width _)) only[hd,aa.E,aa.ji,ai.eta,Hd.cells,cD,cu,aI,mP,WA,reduceEqDiff,reduceAdd,reduceLT,reduceLeDiff,reduceMul,reduceIte,reduceCtorEq,Int.reduceEq,Int.reduceLT,Int.reduceLE,Int.reduceNe])|(simp(disch:=(first|omega|rfl|exact rfl|(simp only[au,length_cons,length_nil];done)|exact aa.width _)) only[aa.E,Hd.cells,WA,reduceCtorEq])|(refine aC (λ hq=> ?_) (λ hq=> ?_)<;>(try simp only[hq,BN]))|(refine aP (λ hq=> ?_) (λ hq=> ?_)<;>(try simp only[hq,BN]))|(refine aA (λ hq=> ?_) (λ hq=> ?_)<;>(try simp only[hq]))|(refine aw ?_))
    all_goals simp_all
   ·simp(disch:=first|exact aa.width _|omega) only[WA];refine aC (λ hq=> ?_) (λ hq=> ?_)
    ·simp(disch:=first|exact aa.width _|omega) only[WA];rw[eb,if_neg (by rw[ho];simp),if_pos hq]
     rfl
    ·simp(disch:=first|exact aa.width _|omega) only[aa.B,WA];exact⟨p.Kids,by rw[eb,if_neg (by rw[ho];simp),if_neg hq],hp,rfl⟩
 ·rintro ws ⟨kids,hu,hkl,rfl⟩ _;simp(disch:=first|exact aa.width _|omega) only[htl,ia,length_map,length_cons,map_cons,WA,Int.reduceLE];refine⟨by omega,by omega,hw2,?_⟩;have aRa:=aIa kids r (by omega);refine bH aRa (bt aa.ag) ?_;simp(disch:=first|exact aa.width _|omega) only[WA];rw[hu]
  rfl
end Go.Proofs.Ab
namespace Go.Ab
structure HB(h:Hd):Prop where
 ks:h.ks.length<=1000
 wt:∀t∈h.ks,t.wt<=1048576
end Go.Ab
namespace Go.Proofs.Ab
open Go.Ab
theorem agb(rows:List (List aa))(h:Hd)(hb:RB rows)(hh:HB h):vv Tryz.prog F.jQ [dq rows,h.av] true 28 1 ((aR h rows).map jX):=by
 have hl0:=hb.len;refine T2.xH rfl (by simp only[AV.ae,jF,Hd.ag,Bool.and_true]) ?_;simp only[T2.jQ,dq,Hd.B,WA,seval];refine aG [dq (aR h rows)] rfl ?_ ?_
 ·simp only[length_map,dq,WA,seval];refine bk rows (λ i (q:List (List aa))=>[dq q,aD i]) (λ i rest q=>q++aR h rest=aR h rows/\q.length<=i) [] rfl ⟨by simp,Nat.zero_le _⟩ (λ i k rest b hi hx hm ez hd hg=> ?_) (λ b hd hg=> ?_)
  ·obtain⟨hg,hl⟩:=hg;have hr:=hb.row k hm;rcases k with _|⟨p,k⟩
   ·exact absurd rfl hr.1
   have hp:=hr.2.2 p (by simp);have hk1:=hr.2.1;simp only[length_cons]at hk1;have e1:IntKind.i64.wrap ((i:Int)+1)=((i+1:Nat):Int):=aI (by omega);simp only[hd,dq,WA,seval];refine aw ?_;simp only[WA,seval];rw[ez jX 1 _ _ (pM _)];simp only[vT,Hd.B,WA,seval];refine bH (arM p k h hh.wt hh.ks (by omega) hp) (adU _) ?_
   have e0:aR h ((p::k)::rest)=(match eb h (p::k)with|some x=>x::aR h rest|none=>aR h rest):=by
    unfold aR;rw[filterMap_cons];cases eb h (p::k)<;>rfl
   cases hu:eb h (p::k)with
   |none=>
    rw[e0,hu]at hg;simp only[xe,WA,seval];refine⟨hi,b,⟨hg,by omega⟩,?_⟩;rw[e1]
   |some x=>
    rw[e0,hu]at hg;simp only[xe,vT,length_map,WA,seval];refine⟨rfl,λ y hy=>by rw[hy];rfl,by omega,by omega,hi,b++ [x],⟨by rw[←hg];simp,by simp;omega⟩,?_⟩;rw[e1];simp
  ·have j6:b=aR h rows:=by simpa [aR]using hg.1
   simp only[hd,j6,WA,seval]
   rfl
 ·simp only[dq,WA,seval]
theorem aCj(l:List (List aa))(g:FuncId)(bl:List AV)(p:List aa->Bool)(hl:l.length<=1073741824)(qv:AV.ae bl=true)(hc:∀x∈l,aW Tryz.prog g (jX x::bl) (.v (.bool (p x)))):
  aW Tryz.prog F.bP [dq l,.fn g bl] (aD (fQ p l 0)):=by
 refine T.iT rfl (by simp[AV.ae,AV.ag,dq,jg,qv]) ?_;simp only[T.bP,dq,WA,seval];refine aw ?_;simp only[length_map,WA,seval];refine bk l (λ i (_:Unit)=>[aD i]) (λ i rest _=>fQ p l 0=fQ p rest i) () rfl rfl (λ i k rest b hi hx hm ez hd hg=> ?_) (λ b hd hg=> ?_)
 ·simp only[hd,WA,seval];rw[ez jX 1 _ _ (pM _)];simp only[vT,WA,seval];refine aJ (hc k hm) ?_;simp only[WA,seval];rw[fQ]at hg;refine aA (λ h=> ?_) (λ h=> ?_)
  ·rw[h,if_pos rfl]at hg;simp only[hg,WA,seval]
  ·rw[h,if_neg (by simp)]at hg;simp(disch:=omega) only[aI,WA,seval];exact⟨hi,(),hg⟩
 ·rw[fQ]at hg;simp only[hd,hg,WA,seval]
theorem aDh(l:List (List aa))(g:FuncId)(bl:List AV)(p:List aa->Bool)(hl:l.length<=1073741824)(qv:AV.ae bl=true)(hc:∀x∈l,aW Tryz.prog g (jX x::bl) (.v (.bool (p x)))):
  aW Tryz.prog F.bZ [dq l,.fn g bl] (.v (.bool (l.any p))):=
 T.ik rfl (by simp[AV.ae,AV.ag,dq,jg,qv]) (aqD (aCj l g bl p hl qv hc))
theorem ajv(rows:List (List aa))(hb:RB rows):aW Tryz.prog F.kR [dq rows] (.v (.bool (bg rows))):=by
 have h1:∀x∈rows,aW Tryz.prog F.iP [jX x] (.v (.bool (!oo x))):=λ x hx=>by
  have hr:=hb.row x hx;rcases x with _|⟨p,k⟩
  ·exact absurd rfl hr.1
  refine T.xI rfl (by simp only[AV.ae,pC,Bool.and_true]) ?_;simp(disch:=exact aa.width _) only[T.iP,jX,map_cons,j5,aa.B,WA,seval];refine aJ (afh p) ?_;simp only[WA,seval]
  rfl
 refine T.aaL rfl (by simp only[AV.ae,jF,Bool.and_true]) ?_;simp only[T.kR,WA,seval];refine aJ (aDh rows F.iP [] (λ x=> !oo x) (by have:=hb.len;omega) rfl h1) ?_;simp only[WA,seval];congr 3;unfold bg
 induction rows with
 |nil=>rfl
 |cons a l ih=>
  simp only[List.any_cons,List.all_cons,Bool.not_or,Bool.not_not];rw[ih ⟨by have:=hb.len;simp only[length_cons]at this;omega,λ r hr=>hb.row r (by simp[hr])⟩ (λ x hx=>h1 x (by simp[hx]))]
end Go.Proofs.Ab
