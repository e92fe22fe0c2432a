/-
  Put of the program, as a call that gives what nobody writes.
-/
import Derived.Test.YtfebhekplhjigaaCPut
open Bool(not_eq_true' not_eq_false')
open List(length_cons length_nil length_map)
open Nat(reduceEqDiff reduceLeDiff reduceAdd reduceLT reduceMul)
set_option linter.unusedSimpArgs false
set_option linter.unusedVariables false
namespace Go.Proofs.Ab
open Go.Ab
set_option maxRecDepth 100000
set_option maxHeartbeats 4000000
set_option maxHeartbeats 4000000
theorem rT(x:aa)(hb:x.wt<=1048576):a7 Try.prog F.fo [x.av] x.av:=by
 have hw:=x.dH;refine T.wV rfl (by simp[AV.ae,aa.ag]) ?_;simp only[T.fo,aa.cells,aa.isAgg,aa.storable,WA,reduceAdd];refine cu [.sl (x.Kids.map aa.av)] rfl ?_ ?_
 ·repeat' (first|(simp(disch:=(first|omega|rfl|exact rfl|(simp only[an,length_cons,length_nil];done)|exact aa.width _)) only[fu,tW,hd,vn,aa.cells,aa.isAgg,aa.storable,aa.eta,length_map,bW,bR,aH,fZ,WA,reduceEqDiff,reduceAdd,reduceLT,reduceLeDiff,reduceMul,reduceIte,reduceCtorEq,Int.reduceEq,Int.reduceLT,Int.reduceLE,Int.reduceNe])|(simp(disch:=(first|omega|rfl|exact rfl|(simp only[an,length_cons,length_nil];done)|exact aa.width _)) only[fu,hd,aa.cells,aa.isAgg,aa.storable,length_map,aH,WA,reduceAdd,reduceLeDiff])|(simp(disch:=(first|omega|rfl|exact rfl|(simp only[an,length_cons,length_nil];done)|exact aa.width _)) only[hd,vn,aa.cells,aa.isAgg,aa.storable,aa.eta,length_map,bW,bR,aH,fZ,WA,reduceEqDiff,reduceAdd,reduceLT,reduceLeDiff,reduceMul,reduceIte,reduceCtorEq,Int.reduceEq,Int.reduceLT,Int.reduceLE,Int.reduceNe])|(simp(disch:=(first|omega|rfl|exact rfl|(simp only[an,length_cons,length_nil];done)|exact aa.width _)) only[hix,hd,aa.cells,aa.isAgg,aa.storable,aa.eta,length_map,bW,bR,aH,fZ,WA,reduceEqDiff,reduceAdd,reduceLT,reduceLeDiff,reduceMul,reduceIte,reduceCtorEq,Int.reduceEq,Int.reduceLT,Int.reduceLE,Int.reduceNe])|(simp(disch:=(first|omega|rfl|exact rfl|(simp only[an,length_cons,length_nil];done)|exact aa.width _)) only[hd,WA])|(simp(disch:=(first|omega|rfl|exact rfl|(simp only[an,length_cons,length_nil];done)|exact aa.width _)) only[aa.cells,length_map,WA])|(refine aG (λ hq=> ?_) (λ hq=> ?_)<;>(try simp only[hq,decide_true,decide_false,Bool.not_true,Bool.not_false,not_eq_true',not_eq_false']))|(refine aZ (λ hq=> ?_) (λ hq=> ?_)<;>(try simp only[hq,decide_true,decide_false,Bool.not_true,Bool.not_false,not_eq_true',not_eq_false']))|(refine aE (λ hq=> ?_) (λ hq=> ?_)<;>(try simp only[hq,decide_true,decide_false,Bool.not_true,Bool.not_false,not_eq_true',not_eq_false']))|(refine aB ?_)|(refine dD x.Kids (λ i (q:List aa)=>[.sl (q.map aa.av),au i]) (λ i rest q=>q++rest=x.Kids) ([]:List aa) rfl ?_ (λ i k rest b hi hx hm fu hd hg=> ?_) (λ b hd hg=> ?_))|(refine j7 (rT k (by have:=cY aa.wt hm;omega)) (aa.ag _) ?_))
  ·refine⟨λ y hy=>by rw[hy];exact aa.width _,by have:=congrArg List.length hg;simp at this;omega,by have:=congrArg List.length hg;simp at this;omega,hi,b++ [k],by rw[←hg];simp,?_⟩;rw[List.map_append];rfl
  ·have oz:b=x.Kids:=by simpa using hg
   rw[oz]
 ·simp only[aa.cells,an,oq,WA];exact aa.eta x
termination_by SizeOf.sizeOf x
decreasing_by all_goals exact aa.cW hm
theorem zq(x:aa)(kd:Int)(l:List aa)(kV:x.jn=true)(hkd:kd=9∨kd=10∨kd=11)(hb:x.wt<=1048576)(hl:l.length+(l.map aa.wt).sum<=1048576):a7 Try.prog F.ll [x.av,au kd,.sl (l.map aa.av)] (x.put kd l).av:=by
 have hw:=x.dH;have hpe:=x.put_eq kd l;have hn:AV.ae [x.av,au kd,.sl (l.map aa.av)]=true:=by simp[AV.ae,AV.ag,aa.ag,anh]
 refine T.adx rfl hn ?_;simp only[T.ll,aa.cells,aa.isAgg,aa.storable,WA,reduceAdd];refine aB ?_;simp only[WA];refine cu [.v (.bool (decide (x.Kind=kd)&&decide (x.N<(l.length:Int))))] rfl ?_ ?_
 ·repeat' (first|(simp(disch:=(first|omega|rfl|exact rfl|(simp only[an,length_cons,length_nil];done)|exact aa.width _)) only[aa.cells,aa.isAgg,aa.storable,length_map,WA,reduceAdd])|(refine aG (λ hq=> ?_) (λ hq=> ?_)<;>(try simp only[hq,decide_true,decide_false]))|(refine aZ (λ hq=> ?_) (λ hq=> ?_)<;>(try simp only[hq,decide_true,decide_false,Bool.not_true,Bool.not_false,not_eq_true',not_eq_false']))|(refine aE (λ hq=> ?_) (λ hq=> ?_)<;>(try simp only[hq,decide_true,decide_false,Bool.not_true,Bool.not_false,not_eq_true',not_eq_false']))|(refine aB ?_))
  all_goals simp[*]
 ·simp only[aa.cells,WA,reduceAdd];refine aE (λ h=> ?_) (λ h=> ?_)
  ·simp only[Bool.and_eq_true,decide_eq_true_eq]at h;have hv:=x.ajc kV (by omega);have aF:x.N.toNat<l.length:=by omega
   have hN:x.N=((x.N.toNat:Nat):Int):=by omega
   rw[if_pos h,List.getElem?_eq_getElem aF,Option.getD_some]at hpe;rw[hpe];have mc:l[x.N.toNat]∈l:=List.getElem_mem aF;have hws:=cY aa.wt mc;simp only[aa.cells,WA];have fu:∀K,fq K (aa.av l[x.N.toNat])->lQ 4 (.sl (l.map aa.av)) (.v (.int .i64 ((x.N.toNat:Nat):Int))) K:=λ K hk=>lR aa.av aF (aa.width _) hk
   rw[←hN]at fu;refine fu _ ?_;simp only[aa.width,aa.isAgg,aa.storable,WA];refine j7 (rT _ (by omega)) (aa.ag _) ?_;simp only[aa.isAgg,aa.storable,aa.cells,WA,reduceAdd];exact aa.eta _
  ·have h':¬(x.Kind=kd/\x.N<(l.length:Int)):=by
     intro hc;simp[hc.1,hc.2]at h
   rw[if_neg h']at hpe;rw[hpe];simp only[aa.isAgg,aa.storable,WA];refine cu [.sl ((x.Kids.map λ y=>y.put kd l).map aa.av)] rfl ?_ ?_
   ·repeat' (first|(simp(disch:=(first|omega|rfl|exact rfl|(simp only[an,length_cons,length_nil];done)|exact aa.width _)) only[fu,tW,hd,vn,aa.cells,aa.isAgg,aa.storable,aa.eta,length_map,bW,bR,aH,fZ,WA,reduceEqDiff,reduceAdd,reduceLT,reduceLeDiff,reduceMul,reduceIte,reduceCtorEq,Int.reduceEq,Int.reduceLT,Int.reduceLE,Int.reduceNe])|(simp(disch:=(first|omega|rfl|exact rfl|(simp only[an,length_cons,length_nil];done)|exact aa.width _)) only[fu,hd,aa.cells,aa.isAgg,aa.storable,length_map,aH,WA,reduceAdd,reduceLeDiff])|(simp(disch:=(first|omega|rfl|exact rfl|(simp only[an,length_cons,length_nil];done)|exact aa.width _)) only[hd,vn,aa.cells,aa.isAgg,aa.storable,aa.eta,length_map,bW,bR,aH,fZ,WA,reduceEqDiff,reduceAdd,reduceLT,reduceLeDiff,reduceMul,reduceIte,reduceCtorEq,Int.reduceEq,Int.reduceLT,Int.reduceLE,Int.reduceNe])|(simp(disch:=(first|omega|rfl|exact rfl|(simp only[an,length_cons,length_nil];done)|exact aa.width _)) only[hix,hd,aa.cells,aa.isAgg,aa.storable,aa.eta,length_map,bW,bR,aH,fZ,WA,reduceEqDiff,reduceAdd,reduceLT,reduceLeDiff,reduceMul,reduceIte,reduceCtorEq,Int.reduceEq,Int.reduceLT,Int.reduceLE,Int.reduceNe])|(simp(disch:=(first|omega|rfl|exact rfl|(simp only[an,length_cons,length_nil];done)|exact aa.width _)) only[hd,WA])|(simp(disch:=(first|omega|rfl|exact rfl|(simp only[an,length_cons,length_nil];done)|exact aa.width _)) only[aa.cells,length_map,WA])|(refine aG (λ hq=> ?_) (λ hq=> ?_)<;>(try simp only[hq,decide_true,decide_false,Bool.not_true,Bool.not_false,not_eq_true',not_eq_false']))|(refine aZ (λ hq=> ?_) (λ hq=> ?_)<;>(try simp only[hq,decide_true,decide_false,Bool.not_true,Bool.not_false,not_eq_true',not_eq_false']))|(refine aE (λ hq=> ?_) (λ hq=> ?_)<;>(try simp only[hq,decide_true,decide_false,Bool.not_true,Bool.not_false,not_eq_true',not_eq_false']))|(refine aB ?_)|(refine dD x.Kids (λ i (q:List aa)=>[.sl (q.map aa.av),au i]) (λ i rest q=>q++rest.map (λ y=>y.put kd l)=x.Kids.map λ y=>y.put kd l) ([]:List aa) rfl ?_ (λ i k rest b hi hx hm fu hd hg=> ?_) (λ b hd hg=> ?_))|(refine j7 (zq k kd l (aa.tx kV hm) hkd (by have:=cY aa.wt hm;omega) hl) (aa.ag _) ?_))
    ·have oz:=congrArg List.length hg;simp at oz;refine⟨λ y hy=>by rw[hy];exact aa.width _,by omega,by omega,hi,b++ [k.put kd l],by rw[←hg];simp,?_⟩;rw[List.map_append];rfl
    ·have oz:b=x.Kids.map λ y=>y.put kd l:=by simpa using hg
     rw[oz]
   ·simp only[aa.cells,an,oq,WA];exact aa.eta (.mk x.Kind x.N x.Name (x.Kids.map λ y=>y.put kd l))
termination_by SizeOf.sizeOf x
decreasing_by all_goals exact aa.cW hm
theorem arq(kd:Int):a7 Try.prog F.cG [au kd] (.v (.bool (l9 kd 9 11))):=by
 refine T.mV rfl rfl ?_;simp only[T.cG,WA]
 repeat' (first|(simp(disch:=(first|omega|rfl|exact rfl|(simp only[an,length_cons,length_nil];done))) only[WA])|(refine aG (λ hq=> ?_) (λ hq=> ?_)<;>(try simp only[hq,decide_true,decide_false,Bool.not_true,Bool.not_false,not_eq_true',not_eq_false']))|(refine aZ (λ hq=> ?_) (λ hq=> ?_)<;>(try simp only[hq,decide_true,decide_false,Bool.not_true,Bool.not_false,not_eq_true',not_eq_false']))|(refine aE (λ hq=> ?_) (λ hq=> ?_)<;>(try simp only[hq,decide_true,decide_false,Bool.not_true,Bool.not_false,not_eq_true',not_eq_false']))|(refine aB ?_)|(refine bu (kU _ _ _) ?_))
theorem sO(x:aa)(l:List aa)(kV:x.jn=true)(hb:x.wt<=1048576)(hl:l.length+(l.map aa.wt).sum<=1048576):a7 Try.prog F.jZ [x.av,au 11,.sl (l.map aa.av)] (x.put 11 l).av:=by
 have hn:AV.ae [x.av,au 11,.sl (l.map aa.av)]=true:=by simp[AV.ae,AV.ag,aa.ag,anh]
 refine T.adK rfl hn ?_;simp only[T.jZ,aa.cells,aa.isAgg,aa.storable,WA,reduceAdd];refine aB ?_;simp only[WA];refine cu [.v (.bool false)] rfl ?_ ?_
 ·repeat' (first|(simp(disch:=(first|omega|rfl|exact rfl|(simp only[an,length_cons,length_nil];done)|exact aa.width _)) only[aa.cells,aa.isAgg,aa.storable,WA,reduceAdd])|(refine aG (λ hq=> ?_) (λ hq=> ?_)<;>(try simp only[hq,decide_true,decide_false,Bool.not_true,Bool.not_false,not_eq_true',not_eq_false']))|(refine aZ (λ hq=> ?_) (λ hq=> ?_)<;>(try simp only[hq,decide_true,decide_false,Bool.not_true,Bool.not_false,not_eq_true',not_eq_false']))|(refine aE (λ hq=> ?_) (λ hq=> ?_)<;>(try simp only[hq]))|(refine aB ?_)|(refine bu (arq 11) ?_)|(refine bu (nG x hb) ?_))
  all_goals simp_all [l9]
 ·simp only[aa.cells,aa.isAgg,aa.storable,WA,reduceAdd];refine j7 (zq x 11 l kV (.inr (.inr rfl)) hb hl) (aa.ag _) ?_;simp only[aa.cells,aa.isAgg,aa.storable,WA,reduceAdd];exact aa.eta _
end Go.Proofs.Ab
