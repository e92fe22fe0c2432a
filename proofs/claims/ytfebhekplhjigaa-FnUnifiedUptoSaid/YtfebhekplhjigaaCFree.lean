/-
  Free: what is free in a type.
-/
import Derived.Test.YtfebhekplhjigaaCSmall
open Bool(not_eq_true' not_eq_false')
open List(length_cons map_cons sum_cons length_nil all_eq_true any_eq_true all_eq_false any_eq_false length_map)
open Nat(reduceEqDiff reduceLeDiff reduceAdd reduceLT reduceMul)
set_option linter.unusedSimpArgs false
set_option linter.unusedVariables false
namespace Go.Ab
set_option maxRecDepth 100000
set_option maxHeartbeats 4000000
def tY(n:Int)(l:List Int):Bool:=l.any λ y=>decide (n=y)
def nS(o:List Int)(n:Int):List Int:=if tY n o=true then o else o++ [n]
def bc(o l:List Int):List Int:=l.foldl nS o
theorem zR(n:Int)(l:List Int):tY n l=true↔n∈l:=by simp[tY]
theorem apH(o:List Int)(n x:Int):x∈nS o n↔x∈o∨x=n:=by
 unfold nS
 split
 ·rename_i h;rw[zR]at h;exact⟨.inl,λ h'=>h'.elim id λ e=>by rw[e];exact h⟩
 ·simp
theorem pr:∀(l o:List Int) (x:Int),x∈bc o l↔x∈o∨x∈l
 | [],o,x=>by simp[bc]
 |n::l,o,x=>by
  have:bc o (n::l)=bc (nS o n) l:=rfl;rw[this,pr,apH];simp only[List.mem_cons];exact or_assoc
theorem nT(o l m:List Int):bc o (l++m)=bc (bc o l) m:=by simp[bc,List.foldl_append]
theorem agE(o:List Int)(n:Int):(nS o n).length<=o.length+1:=by
 unfold nS;split
 ·omega
 ·simp
theorem jz:∀(l o:List Int),(bc o l).length<=o.length+l.length
 | [],o=>by simp[bc]
 |n::l,o=>by
  have:bc o (n::l)=bc (nS o n) l:=rfl;have h1:=jz l (nS o n);have h2:=agE o n;rw[this,length_cons];omega
theorem agF{o:List Int}{n:Int}(h:n∈o):nS o n=o:=by unfold nS;rw[if_pos ((zR _ _).2 h)]
theorem apG{o:List Int}{n:Int}(h:n∉o):nS o n=o++ [n]:=by unfold nS;rw[if_neg (λ h'=>h ((zR _ _).1 h'))]
theorem se:∀(l p o:List Int),bc o (bc p l)=bc (bc o p) l
 | [],p,o=>rfl
 |n::l,p,o=>by
  have e1:∀q,bc q (n::l)=bc (nS q n) l:=λ _=>rfl
  rw[e1,e1,se l (nS p n) o];congr 1;by_cases h:n∈p
  ·rw[agF h,agF ((pr p o n).2 (.inr h))]
  ·rw[apG h,nT];rfl
theorem aiI(l o:List Int):bc o (bc [] l)=bc o l:=se l [] o
mutual
def aa.dn:aa->Int->List Int
 | .mk kd n _ kids,k=>(if kd=k then [n]else [])++aa.j5 kids k
def aa.j5:List aa->Int->List Int
 | [],_=>[]
 |x::l,k=>x.dn k++aa.j5 l k
end
theorem aa.zW(x:aa)(k:Int):x.dn k=(if x.Kind=k then [x.N]else [])++aa.j5 x.Kids k:=by cases x;rw[aa.dn];rfl
mutual
theorem aa.mw:∀(x:aa) (k:Int),(x.dn k).length<=x.wt+1
 | .mk kd n s kids,k=>by
   have:=aa.zX kids k;have hw:=aa.dH (.mk kd n s kids);simp only[aa.Kids,aa.Name]at hw;rw[aa.dn,List.length_append,hw]
   split<;>simp<;>omega
theorem aa.zX:∀(l:List aa) (k:Int),(aa.j5 l k).length<=l.length+(l.map aa.wt).sum
 | [],k=>by simp[aa.j5]
 |x::l,k=>by
  have:=aa.mw x k;have:=aa.zX l k;simp only[aa.j5,List.length_append,length_cons,map_cons,sum_cons];omega
end
end Go.Ab
namespace Go.Proofs.Ab
open Go.Ab
set_option maxRecDepth 100000
set_option maxHeartbeats 4000000
theorem acK(l:List Int)(n:Int)(hl:l.length<=1073741824):a7 Try.prog F.je [.sl (l.map au),au n] (.v (.bool (tY n l))):=by
 refine T.yd rfl (by simp only[AV.ae,AV.ag,Bool.and_true];exact bA (f:=au) λ _=>rfl) ?_;have e:∀m:List Int,tY n m=m.any λ y=>decide (y=n):=λ m=>by simp only[tY,eq_comm]
 have hv:tY n l=l.any λ y=>decide (y=n):=e l
 simp only[T.je,WA]
 repeat' (first|(simp(disch:=(first|omega|rfl|exact rfl|(simp only[an,length_cons,length_nil];done))) only[fu,tW,hd,vn,bW,bR,aH,fZ,WA,reduceEqDiff,reduceAdd,reduceLT,reduceLeDiff,reduceMul,reduceIte,reduceCtorEq,Int.reduceEq,Int.reduceLT,Int.reduceLE,Int.reduceNe])|(simp(disch:=(first|omega|rfl|exact rfl|(simp only[an,length_cons,length_nil];done))) only[fu,hd,aH,WA])|(simp(disch:=(first|omega|rfl|exact rfl|(simp only[an,length_cons,length_nil];done))) only[hd,vn,bW,bR,aH,fZ,WA,reduceEqDiff,reduceAdd,reduceLT,reduceLeDiff,reduceMul,reduceIte,reduceCtorEq,Int.reduceEq,Int.reduceLT,Int.reduceLE,Int.reduceNe])|(simp(disch:=(first|omega|rfl|exact rfl|(simp only[an,length_cons,length_nil];done))) only[hix,hd,bW,bR,aH,fZ,WA,reduceEqDiff,reduceAdd,reduceLT,reduceLeDiff,reduceMul,reduceIte,reduceCtorEq,Int.reduceEq,Int.reduceLT,Int.reduceLE,Int.reduceNe])|(simp(disch:=(first|omega|rfl|exact rfl|(simp only[an,length_cons,length_nil];done))) only[hd,WA])|(simp(disch:=(first|omega|rfl|exact rfl|(simp only[an,length_cons,length_nil];done))) only[WA])|(refine aG (λ hq=> ?_) (λ hq=> ?_)<;>(try simp only[hq,decide_true,decide_false]))|(refine aZ (λ hq=> ?_) (λ hq=> ?_)<;>(try simp only[hq,decide_true,decide_false,Bool.not_true,Bool.not_false,not_eq_true',not_eq_false']))|(refine aE (λ hq=> ?_) (λ hq=> ?_)<;>(try simp only[hq,decide_true,decide_false,Bool.not_true,Bool.not_false,not_eq_true',not_eq_false']))|(refine aB ?_)|(refine dD l (λ i (_:Unit)=>[au i]) (λ _ rest _=>tY n l=rest.any λ y=>decide (y=n)) () rfl ?_ (λ i k rest b hi hx hm fu hd hg=> ?_) (λ b hd hg=> ?_)))
 all_goals first|(have rX:=hg;clear hv;simp_all;done)|(have rX:=hg;simp_all;done)|(have rX:=hg;clear hv;simp_all [-all_eq_true,-any_eq_true,-all_eq_false,-any_eq_false];done)|(simp_all;done)|(simp_all [-all_eq_true,-any_eq_true,-all_eq_false,-any_eq_false];done)|(refine avb ?_;(try clear hv);simp_all<;>(intros;omega))|(refine avb ?_;simp_all<;>(intros;omega))|(simp_all<;>(intros;omega))|omega
theorem ahC(l:List Int):AV.ae (l.map au)=true:=bA (f:=au) λ _=>rfl
theorem acb{x:aa}{kd:Int}{o b:List Int}{y:aa}{rest:List aa}(hg:bc b (aa.j5 (y::rest) kd)=bc o (x.dn kd)/\b.length+((y::rest).length+((y::rest).map aa.wt).sum)<=4194304):
  bc (bc b (y.dn kd)) (aa.j5 rest kd)=bc o (x.dn kd)/\(bc b (y.dn kd)).length+(rest.length+(rest.map aa.wt).sum)<=4194304:=by
 have h1:=jz (y.dn kd) b;have h2:=y.mw kd;simp only[aa.j5,nT,length_cons,map_cons,sum_cons]at hg;exact⟨hg.1,by omega⟩
theorem acd{x:aa}{kd:Int}{o:List Int}(ho:o.length+(x.wt+1)<=4194304):bc (bc o (if x.Kind=kd then [x.N]else [])) (aa.j5 x.Kids kd)=bc o (x.dn kd)/\
  (bc o (if x.Kind=kd then [x.N]else [])).length+(x.Kids.length+(x.Kids.map aa.wt).sum)<=4194304:=by
 have hw:=x.dH;have h1:=jz (if x.Kind=kd then [x.N]else []) o;have h2:(if x.Kind=kd then [x.N]else []).length<=1:=by split<;>simp
 refine⟨by rw[x.zW,nT],by omega⟩
theorem rL(x:aa)(kd:Int)(o:List Int)(hb:x.wt<=1048576)(ho:o.length+(x.wt+1)<=4194304):gQ Try.prog F.cp G.cp [x.av,au kd,.sl (o.map au)] [.sl ((bc o (x.dn kd)).map au)]:=by
 have hw:=x.dH;refine T.uB rfl rfl (by simp only[AV.ae,AV.ag,aa.ag,Bool.and_true,Bool.true_and];exact ahC _) ?_;simp only[T.cp,aa.cells,aa.isAgg,aa.storable,WA,reduceAdd];refine cu [.sl ((bc o (if x.Kind=kd then [x.N]else [])).map au)] rfl ?_ ?_
 ·repeat' (first|(simp(disch:=(first|omega|rfl|exact rfl|(simp only[an,length_cons,length_nil];done)|exact aa.width _)) only[aa.cells,length_map,WA,reduceLeDiff])|(refine aG (λ hq=> ?_) (λ hq=> ?_)<;>(try simp only[hq,decide_true,decide_false]))|(refine aZ (λ hq=> ?_) (λ hq=> ?_)<;>(try simp only[hq,decide_true,decide_false,Bool.not_true,Bool.not_false,not_eq_true',not_eq_false']))|(refine aE (λ hq=> ?_) (λ hq=> ?_)<;>(try simp only[hq]))|(refine aB ?_)|(refine bu (acK o _ (by omega)) ?_))
  ·refine⟨λ y hy=>by rw[hy];rfl,by omega,by omega,?_⟩;have:tY x.N o≠true:=by simpa using hq
   simp[bc,nS,this]
  ·have:tY x.N o=true:=by simpa using hq
   simp[bc,nS,this]
  ·rfl
 ·repeat' (first|(simp(disch:=(first|omega|rfl|exact rfl|(simp only[an,length_cons,length_nil];done)|exact aa.width _)) only[fu,tW,hd,vn,aa.cells,aa.isAgg,aa.storable,aa.eta,bW,bR,aH,fZ,WA,reduceEqDiff,reduceAdd,reduceLT,reduceLeDiff,reduceMul,reduceIte,reduceCtorEq,Int.reduceEq,Int.reduceLT,Int.reduceLE,Int.reduceNe])|(simp(disch:=(first|omega|rfl|exact rfl|(simp only[an,length_cons,length_nil];done)|exact aa.width _)) only[fu,hd,aa.cells,aa.isAgg,aa.storable,aH,WA,reduceAdd])|(simp(disch:=(first|omega|rfl|exact rfl|(simp only[an,length_cons,length_nil];done)|exact aa.width _)) only[hd,vn,aa.cells,aa.isAgg,aa.storable,aa.eta,bW,bR,aH,fZ,WA,reduceEqDiff,reduceAdd,reduceLT,reduceLeDiff,reduceMul,reduceIte,reduceCtorEq,Int.reduceEq,Int.reduceLT,Int.reduceLE,Int.reduceNe])|(simp(disch:=(first|omega|rfl|exact rfl|(simp only[an,length_cons,length_nil];done)|exact aa.width _)) only[hix,hd,aa.cells,aa.isAgg,aa.storable,aa.eta,bW,bR,aH,fZ,WA,reduceEqDiff,reduceAdd,reduceLT,reduceLeDiff,reduceMul,reduceIte,reduceCtorEq,Int.reduceEq,Int.reduceLT,Int.reduceLE,Int.reduceNe])|(simp(disch:=(first|omega|rfl|exact rfl|(simp only[an,length_cons,length_nil];done)|exact aa.width _)) only[hd,aa.cells,WA])|(simp(disch:=(first|omega|rfl|exact rfl|(simp only[an,length_cons,length_nil];done)|exact aa.width _)) only[WA])|(refine aG (λ hq=> ?_) (λ hq=> ?_)<;>(try simp only[hq,decide_true,decide_false,Bool.not_true,Bool.not_false,not_eq_true',not_eq_false']))|(refine aZ (λ hq=> ?_) (λ hq=> ?_)<;>(try simp only[hq,decide_true,decide_false,Bool.not_true,Bool.not_false,not_eq_true',not_eq_false']))|(refine aE (λ hq=> ?_) (λ hq=> ?_)<;>(try simp only[hq,decide_true,decide_false,Bool.not_true,Bool.not_false,not_eq_true',not_eq_false']))|(refine aB ?_)|(refine dD x.Kids (λ i (q:List Int)=>[.sl (q.map au),au i]) (λ _ rest q=>bc q (aa.j5 rest kd)=bc o (x.dn kd)/\q.length+(rest.length+(rest.map aa.wt).sum)<=4194304) (bc o (if x.Kind=kd then [x.N]else [])) rfl ?_ (λ i k rest b hi hx hm fu hd hg=> ?_) (λ b hd hg=> ?_))|(refine dU (rL k kd b (by have:=cY aa.wt hm;omega) (by simp only[length_cons,map_cons,sum_cons]at hg;omega)) rfl (by simp only[AV.ae,AV.ag,Bool.and_true];exact ahC _) ?_))
  ·exact acd ho
  ·exact⟨hi,_,acb hg,rfl⟩
  ·rw[←hg.1];rfl
termination_by SizeOf.sizeOf x
decreasing_by all_goals exact aa.cW hm
theorem aeH(x:aa)(kd:Int)(hb:x.wt<=1048576):uq Try.prog F.jB [x.av,au kd] false 3 1 ((if x.jn&&l9 kd 9 11 then bc [] (x.dn kd)else []).map au):=by
 refine T.yn rfl (by simp[AV.ae,AV.ag,aa.ag]) ?_;simp only[T.jB,aa.cells,aa.isAgg,aa.storable,WA,reduceAdd]
 repeat' (first|(simp(disch:=(first|omega|rfl|exact rfl|(simp only[an,length_cons,length_nil];done)|exact aa.width _)) only[aa.cells,aa.isAgg,aa.storable,WA,reduceAdd])|(refine aG (λ hq=> ?_) (λ hq=> ?_)<;>(try simp only[hq,decide_true,decide_false,Bool.not_true,Bool.not_false,not_eq_true',not_eq_false']))|(refine aZ (λ hq=> ?_) (λ hq=> ?_)<;>(try simp only[hq,decide_true,decide_false,Bool.not_true,Bool.not_false,not_eq_true',not_eq_false']))|(refine aE (λ hq=> ?_) (λ hq=> ?_)<;>(try simp only[hq]))|(refine aB ?_)|(refine bu (qd x hb) ?_)|(refine bu (jA _ _ _) ?_)|(refine dU (rL x kd [] hb (by simp;omega)) rfl (by simp only[AV.ae,AV.ag,Bool.and_true];exact ahC _) ?_))
 all_goals first|(have rX:=hg;clear hv;simp_all;done)|(have rX:=hg;simp_all;done)|(have rX:=hg;clear hv;simp_all [-all_eq_true,-any_eq_true,-all_eq_false,-any_eq_false];done)|(simp_all;done)|(simp_all [-all_eq_true,-any_eq_true,-all_eq_false,-any_eq_false];done)|(refine avb ?_;(try clear hv);simp_all<;>(intros;omega))|(refine avb ?_;simp_all<;>(intros;omega))|(simp_all<;>(intros;omega))|omega
theorem arS{l:List Int}{i:Nat}{n:Int}(h:l[i]? =some n):(l.map au).getD i .top=au n:=by simp[List.getD,h]
theorem tR(x:aa)(kd:Int)(hb:x.wt<=1048576):uq Try.prog F.im [x.av,au kd] true 3 1 ((bc [] (x.dn kd)).map au):=by
 have hw:=x.dH;refine T.wT rfl (by simp[AV.ae,AV.ag,aa.ag]) ?_;simp only[T.im,aa.cells,aa.isAgg,aa.storable,WA,reduceAdd];refine cu [.sl ((bc [] (if x.Kind=kd then [x.N]else [])).map au)] rfl ?_ ?_
 ·repeat' (first|(simp(disch:=(first|omega|rfl|exact rfl|(simp only[an,length_cons,length_nil];done)|exact aa.width _)) only[aa.cells,WA,reduceLeDiff,reduceMul])|(refine aG (λ hq=> ?_) (λ hq=> ?_)<;>(try simp only[hq,decide_true,decide_false]))|(refine aZ (λ hq=> ?_) (λ hq=> ?_)<;>(try simp only[hq,decide_true,decide_false,Bool.not_true,Bool.not_false,not_eq_true',not_eq_false']))|(refine aE (λ hq=> ?_) (λ hq=> ?_)<;>(try simp only[hq,decide_true,decide_false,Bool.not_true,Bool.not_false,not_eq_true',not_eq_false']))|(refine aB ?_))
  ·refine⟨λ y hy=>by rw[hy];rfl,?_⟩;rfl
  ·rfl
 ·simp only[WA]
  repeat' (first|(simp(disch:=(first|omega|rfl|exact rfl|(simp only[an,length_cons,length_nil];done)|exact aa.width _)) only[hd2,length_map,WA])|(simp(disch:=(first|omega|rfl|exact rfl|(simp only[an,length_cons,length_nil];done)|exact aa.width _)) only[avh,hd2,fu,hd,aa.cells,aa.isAgg,aa.storable,aa.eta,length_map,bW,bR,aH,fZ,WA,reduceEqDiff,reduceAdd,reduceLT,reduceLeDiff,reduceMul,reduceIte,reduceCtorEq,Int.reduceEq,Int.reduceLT,Int.reduceLE,Int.reduceNe])|(simp(disch:=(first|omega|rfl|exact rfl|(simp only[an,length_cons,length_nil];done)|exact aa.width _)) only[avh,hd2,aa.cells,aa.isAgg,aa.storable,aa.eta,length_map,bW,bR,aH,fZ,WA,reduceEqDiff,reduceAdd,reduceLT,reduceLeDiff,reduceMul,reduceIte,reduceCtorEq,Int.reduceEq,Int.reduceLT,Int.reduceLE,Int.reduceNe])|(simp(disch:=(first|omega|rfl|exact rfl|(simp only[an,length_cons,length_nil];done)|exact aa.width _)) only[hd2,aa.cells,WA])|(simp(disch:=(first|omega|rfl|exact rfl|(simp only[an,length_cons,length_nil];done)|exact aa.width _)) only[hd2,aa.cells,aa.isAgg,aa.storable,aa.eta,length_map,bW,bR,aH,fZ,WA,reduceEqDiff,reduceAdd,reduceLT,reduceLeDiff,reduceMul,reduceIte,reduceCtorEq,Int.reduceEq,Int.reduceLT,Int.reduceLE,Int.reduceNe])|(simp(disch:=(first|omega|rfl|exact rfl|(simp only[an,length_cons,length_nil];done)|exact aa.width _)) only[fu,tW,hd,vn,aa.cells,aa.isAgg,aa.storable,aa.eta,length_map,bW,bR,aH,fZ,WA,reduceEqDiff,reduceAdd,reduceLT,reduceLeDiff,reduceMul,reduceIte,reduceCtorEq,Int.reduceEq,Int.reduceLT,Int.reduceLE,Int.reduceNe])|(simp(disch:=(first|omega|rfl|exact rfl|(simp only[an,length_cons,length_nil];done)|exact aa.width _)) only[fu,hd,aa.cells,aa.isAgg,aa.storable,length_map,aH,WA,reduceAdd])|(simp(disch:=(first|omega|rfl|exact rfl|(simp only[an,length_cons,length_nil];done)|exact aa.width _)) only[hd,vn,aa.cells,aa.isAgg,aa.storable,aa.eta,length_map,bW,bR,aH,fZ,WA,reduceEqDiff,reduceAdd,reduceLT,reduceLeDiff,reduceMul,reduceIte,reduceCtorEq,Int.reduceEq,Int.reduceLT,Int.reduceLE,Int.reduceNe])|(simp(disch:=(first|omega|rfl|exact rfl|(simp only[an,length_cons,length_nil];done)|exact aa.width _)) only[hix,hd,aa.cells,aa.isAgg,aa.storable,aa.eta,length_map,bW,bR,aH,fZ,WA,reduceEqDiff,reduceAdd,reduceLT,reduceLeDiff,reduceMul,reduceIte,reduceCtorEq,Int.reduceEq,Int.reduceLT,Int.reduceLE,Int.reduceNe])|(simp(disch:=(first|omega|rfl|exact rfl|(simp only[an,length_cons,length_nil];done)|exact aa.width _)) only[hd,WA])|(simp(disch:=(first|omega|rfl|exact rfl|(simp only[an,length_cons,length_nil];done)|exact aa.width _)) only[aa.cells,length_map,WA])|(refine aG (λ hq=> ?_) (λ hq=> ?_)<;>(try simp only[hq,decide_true,decide_false,Bool.not_true,Bool.not_false,not_eq_true',not_eq_false']))|(refine aZ (λ hq=> ?_) (λ hq=> ?_)<;>(try simp only[hq,decide_true,decide_false,Bool.not_true,Bool.not_false,not_eq_true',not_eq_false']))|(refine aE (λ hq=> ?_) (λ hq=> ?_)<;>(try simp only[hq,decide_true,decide_false,Bool.not_true,Bool.not_false,not_eq_true',not_eq_false']))|(refine aB ?_)|(refine dD (bc [] (k.dn kd)) (λ i (q:List Int)=>[.sl (q.map au),au i]) (λ _ rest q=>bc q rest=bc b (bc [] (k.dn kd))/\q.length+rest.length<=4194304) b rfl ?_ (λ i2 k2 ai2 b2 hi2 hx2 hm2 aCg hd2 hg2=> ?_) (λ b2 hd2 hg2=> ?_))|(refine dD x.Kids (λ i (q:List Int)=>[.sl (q.map au),au i]) (λ _ rest q=>bc q (aa.j5 rest kd)=bc [] (x.dn kd)/\q.length+(rest.length+(rest.map aa.wt).sum)<=4194304) (bc [] (if x.Kind=kd then [x.N]else [])) rfl ?_ (λ i k rest b hi hx hm fu hd hg=> ?_) (λ b hd hg=> ?_))|(refine cu [.sl ((bc b (bc [] (k.dn kd))).map au),au k.Kind,au k.N,bZ k.Name,.sl (k.Kids.map aa.av),.sl ((bc [] (k.dn kd)).map au)] rfl ?_ ?_)|(refine adY (tR k kd (by have:=cY aa.wt hm;omega)) (ahC _) ?_))
  ·exact acd (by simp;omega)
  ·have h1:=jz (k.dn kd) [];have h2:=k.mw kd;have:=hg.2;simp only[length_cons,map_cons,sum_cons,length_nil]at this h1;omega
  ·have h3:=hg2.2;simp only[length_cons]at h3;refine⟨by omega,hi2,by rw[arS hx2];exact Nat.le_refl _,?_⟩;rw[arS hx2];refine bu (alo b2 k2 (by omega)) ?_;have e1:bc (nS b2 k2) ai2=bc b (bc [] (k.dn kd)):=hg2.1;have e2:=agE b2 k2;have e3:=jz (k.dn kd) [];have e4:=k.mw kd;have e5:=cY aa.wt hm;simp only[length_nil]at e3
   repeat' (first|(simp(disch:=(first|omega|rfl|exact rfl|(simp only[an,length_cons,length_nil];done))) only[length_map,an,List.getD_cons_zero,aH,WA,reduceLeDiff])|(refine aG (λ hq=> ?_) (λ hq=> ?_)<;>(try simp only[hq,decide_true,decide_false,Bool.not_true,Bool.not_false,not_eq_true',not_eq_false']))|(refine aZ (λ hq=> ?_) (λ hq=> ?_)<;>(try simp only[hq,decide_true,decide_false,Bool.not_true,Bool.not_false,not_eq_true',not_eq_false']))|(refine aE (λ hq=> ?_) (λ hq=> ?_)<;>(try simp only[hq]))|(refine aB ?_))
   ·have hn:tY k2 b2=false:=by unfold tY;simpa only[not_eq_true']using hq
    refine⟨λ y hy=>by rw[hy];rfl,by omega,by omega,hi2,nS b2 k2,⟨e1,by omega⟩,?_⟩;simp(disch:=omega) only[nS,hn,Bool.false_eq_true,if_false,List.map_append,map_cons,List.map_nil]
   ·have hn:tY k2 b2=true:=by unfold tY;simpa only[not_eq_false']using hq
    refine⟨hi2,nS b2 k2,⟨e1,by omega⟩,?_⟩;simp(disch:=omega) only[nS,hn,if_true]
  ·refine⟨hi,_,acb hg,?_⟩;have:b2=bc b (k.dn kd):=by rw[←aiI];exact hg2.1
   rw[this]
  ·rw[←hg.1];rfl
termination_by SizeOf.sizeOf x
decreasing_by all_goals exact aa.cW hm
theorem ot(kd:Int):a7 Try.prog F.cG [au kd] (.v (.bool (l9 kd 9 11))):=by
 refine T.mV rfl rfl ?_;simp only[T.cG,WA]
 repeat' (first|(simp(disch:=(first|omega|rfl|exact rfl|(simp only[an,length_cons,length_nil];done))) only[WA])|(refine aG (λ hq=> ?_) (λ hq=> ?_)<;>(try simp only[hq,decide_true,decide_false,Bool.not_true,Bool.not_false,not_eq_true',not_eq_false']))|(refine aZ (λ hq=> ?_) (λ hq=> ?_)<;>(try simp only[hq,decide_true,decide_false,Bool.not_true,Bool.not_false,not_eq_true',not_eq_false']))|(refine aE (λ hq=> ?_) (λ hq=> ?_)<;>(try simp only[hq,decide_true,decide_false,Bool.not_true,Bool.not_false,not_eq_true',not_eq_false']))|(refine aB ?_)|(refine bu (kU _ _ _) ?_))
theorem afu(x:aa)(kd:Int)(hb:x.wt<=1048576):uq Try.prog F.kI [x.av,au kd] true 3 1 ((if x.jn&&l9 kd 9 11 then bc [] (x.dn kd)else []).map au):=by
 refine T.zB rfl (by simp[AV.ae,AV.ag,aa.ag]) ?_;simp only[T.kI,aa.cells,aa.isAgg,aa.storable,WA,reduceAdd]
 repeat' (first|(simp(disch:=(first|omega|rfl|exact rfl|(simp only[an,length_cons,length_nil];done)|exact aa.width _)) only[aa.cells,aa.isAgg,aa.storable,WA,reduceAdd])|(refine aG (λ hq=> ?_) (λ hq=> ?_)<;>(try simp only[hq,decide_true,decide_false,Bool.not_true,Bool.not_false,not_eq_true',not_eq_false']))|(refine aZ (λ hq=> ?_) (λ hq=> ?_)<;>(try simp only[hq,decide_true,decide_false,Bool.not_true,Bool.not_false,not_eq_true',not_eq_false']))|(refine aE (λ hq=> ?_) (λ hq=> ?_)<;>(try simp only[hq]))|(refine aB ?_)|(refine bu (nG x hb) ?_)|(refine bu (ot _) ?_)|(refine adY (tR x kd hb) (ahC _) ?_))
 all_goals first|(have rX:=hg;clear hv;simp_all;done)|(have rX:=hg;simp_all;done)|(have rX:=hg;clear hv;simp_all [-all_eq_true,-any_eq_true,-all_eq_false,-any_eq_false];done)|(simp_all;done)|(simp_all [-all_eq_true,-any_eq_true,-all_eq_false,-any_eq_false];done)|(refine avb ?_;(try clear hv);simp_all<;>(intros;omega))|(refine avb ?_;simp_all<;>(intros;omega))|(simp_all<;>(intros;omega))|omega
end Go.Proofs.Ab
