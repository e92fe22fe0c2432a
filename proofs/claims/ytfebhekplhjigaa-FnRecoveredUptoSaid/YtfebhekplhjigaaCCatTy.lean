/-
  slices.Concat OF TWO LISTS OF TYPES.
-/
import Derived.Test.YtfebhekplhjigaaCFree
import Derived.Test.YtfebhekplhjigaaGM
open List(length_map flatten_cons)
open Nat(reduceEqDiff reduceLeDiff reduceAdd reduceLT reduceMul)
set_option linter.unusedVariables false
set_option linter.unusedSimpArgs false
namespace Go.Proofs.Ab
open Go.Ab
set_option maxRecDepth 100000
set_option maxHeartbeats 4000000
theorem amG(n:Nat)(hn:0<n)(hb:n<=1048576):gA Try.prog F.aC G.aC [aA n] [.sl []]:=by
 have d1:decide ((n:Int)<0)=false:=decide_eq_false (by omega);have d2:decide ((0:Int)<(n:Int))=true:=decide_eq_true (by omega);have w0:IntKind.i64.wrap ((0:Int)- 0)=0:=bm (by omega) (by omega);have w1:IntKind.i64.wrap ((n:Int)- 0)=n:=bm (by omega) (by omega);refine T.jt rfl rfl rfl ?_;simp only[T.aC,d1,d2,w0,w1,Int.toNat_natCast,WA,reduceEqDiff,reduceAdd,reduceLT,reduceLeDiff,reduceMul,reduceIte,reduceCtorEq,Int.reduceEq,Int.reduceLT,Int.reduceLE,Int.reduceNe];refine⟨by omega,by omega,by omega,?_⟩;simp only[ne_eq,List.replicate_eq_nil_iff];omega
theorem amF:gA Try.prog F.aC G.aR [aA 0] []:=by
 have d1:decide ((0:Int)<0)=false:=by decide
 have w0:IntKind.i64.wrap ((0:Int)- 0)=0:=bm (by omega) (by omega);refine T.ir rfl rfl rfl ?_;simp only[T.aR,d1,w0,WA,reduceEqDiff,reduceAdd,reduceLT,reduceLeDiff,reduceMul,reduceIte,reduceCtorEq,Int.reduceEq,Int.reduceLT,Int.reduceLE,Int.reduceNe]
def um(l:List aa):AV:= .sl (l.map aa.av)
theorem aeM(l:List aa):(um l).ag=true:=bH aa.ag
theorem aqa(ls:List (List aa))(hn:0<(ls.map List.length).sum)(hb:(ls.map List.length).sum<=1048576)(hl:ls.length<=1048576):a7 Try.prog F.aV [.sl (ls.map um)] (.sl (ls.flatten.map aa.av)):=by
 have cE:AV.ad [AV.sl (ls.map um)]=true:=by simp only[AV.ad,AV.ag,Bool.and_true];exact bH aeM
 generalize hN:(ls.map List.length).sum=N at hn hb;refine T.iR rfl cE ?_;simp only[T.aV,WA,reduceEqDiff,reduceAdd,reduceLT,reduceLeDiff,reduceMul,reduceIte,reduceCtorEq,Int.reduceEq,Int.reduceLT,Int.reduceLE,Int.reduceNe];refine cC [aA N] rfl ?_ ?_
 ·simp only[length_map,WA,reduceEqDiff,reduceAdd,reduceLT,reduceLeDiff,reduceMul,reduceIte,reduceCtorEq,Int.reduceEq,Int.reduceLT,Int.reduceLE,Int.reduceNe];refine eK ls (λ i (acc:Nat)=>[aA acc,aA i]) (λ _ rest acc=>acc+(rest.map List.length).sum=N) 0 rfl (by omega) (λ i x rest acc hi hx hm fw hd hg=> ?_) (λ acc hd hg=> ?_)
  ·simp only[List.map_cons,List.sum_cons]at hg;simp only[hd,WA,reduceEqDiff,reduceAdd,reduceLT,reduceLeDiff,reduceMul,reduceIte,reduceCtorEq,Int.reduceEq,Int.reduceLT,Int.reduceLE,Int.reduceNe];refine cC [aA ((acc+x.length:Nat):Int)] rfl ?_ ?_
   ·simp only[WA,reduceEqDiff,reduceAdd,reduceLT,reduceLeDiff,reduceMul,reduceIte,reduceCtorEq,Int.reduceEq,Int.reduceLT,Int.reduceLE,Int.reduceNe];rw[fw um 1 _ _ rfl];have d1:decide (((acc+x.length:Nat):Int)<0)=false:=decide_eq_false (by omega);simp(disch:=omega) only[um,length_map,aS,d1,WA,reduceEqDiff,reduceAdd,reduceLT,reduceLeDiff,reduceMul,reduceIte,reduceCtorEq,Int.reduceEq,Int.reduceLT,Int.reduceLE,Int.reduceNe]
   ·simp(disch:=omega) only[au,WA,reduceEqDiff,reduceAdd,reduceLT,reduceLeDiff,reduceMul,reduceIte,reduceCtorEq,Int.reduceEq,Int.reduceLT,Int.reduceLE,Int.reduceNe];exact⟨hi,_,by omega,rfl⟩
  ·simp only[List.map_nil,List.sum_nil,Nat.add_zero]at hg;simp only[hd,hg,WA,reduceEqDiff,reduceAdd,reduceLT,reduceLeDiff,reduceMul,reduceIte,reduceCtorEq,Int.reduceEq,Int.reduceLT,Int.reduceLE,Int.reduceNe]
 ·simp only[WA,reduceEqDiff,reduceAdd,reduceLT,reduceLeDiff,reduceMul,reduceIte,reduceCtorEq,Int.reduceEq,Int.reduceLT,Int.reduceLE,Int.reduceNe];refine dT (amG N hn (by omega)) rfl rfl ?_;simp only[WA,reduceEqDiff,reduceAdd,reduceLT,reduceLeDiff,reduceMul,reduceIte,reduceCtorEq,Int.reduceEq,Int.reduceLT,Int.reduceLE,Int.reduceNe];refine aB ?_;simp only[length_map,WA,reduceEqDiff,reduceAdd,reduceLT,reduceLeDiff,reduceMul,reduceIte,reduceCtorEq,Int.reduceEq,Int.reduceLT,Int.reduceLE,Int.reduceNe];have hfl:ls.flatten.length=N:=by rw[List.length_flatten,hN]
  refine eK ls (λ i (acc:List aa)=>[.sl (acc.map aa.av),aA i]) (λ _ rest acc=>acc++rest.flatten=ls.flatten) [] rfl (by simp) (λ i x rest acc hi hx hm fw hd hg=> ?_) (λ acc hd hg=> ?_)
  ·have hl2:=congrArg List.length hg;simp only[List.length_append,flatten_cons,hfl]at hl2;simp only[hd,WA,reduceEqDiff,reduceAdd,reduceLT,reduceLeDiff,reduceMul,reduceIte,reduceCtorEq,Int.reduceEq,Int.reduceLT,Int.reduceLE,Int.reduceNe];rw[fw um 1 _ _ rfl];simp(disch:=omega) only[um,length_map,au,WA,reduceEqDiff,reduceAdd,reduceLT,reduceLeDiff,reduceMul,reduceIte,reduceCtorEq,Int.reduceEq,Int.reduceLT,Int.reduceLE,Int.reduceNe];refine⟨λ y hy=>by obtain⟨z,_,rfl⟩:=List.mem_map.1 hy;exact aa.width z,by omega,by omega,?_⟩;refine⟨hi,acc++x,?_,by rw[List.map_append]⟩;rw[flatten_cons,←List.append_assoc]at hg;exact hg
  ·rw[List.flatten_nil,List.append_nil]at hg;simp only[hd,hg,WA,reduceEqDiff,reduceAdd,reduceLT,reduceLeDiff,reduceMul,reduceIte,reduceCtorEq,Int.reduceEq,Int.reduceLT,Int.reduceLE,Int.reduceNe]
theorem ap9(ls:List (List aa))(hN:(ls.map List.length).sum=0)(hl:ls.length<=1048576):a7 Try.prog F.aV [.sl (ls.map um)] (.sl (ls.flatten.map aa.av)):=by
 have cE:AV.ad [AV.sl (ls.map um)]=true:=by simp only[AV.ad,AV.ag,Bool.and_true];exact bH aeM
 refine T.iu rfl cE ?_;simp only[T.df,WA,reduceEqDiff,reduceAdd,reduceLT,reduceLeDiff,reduceMul,reduceIte,reduceCtorEq,Int.reduceEq,Int.reduceLT,Int.reduceLE,Int.reduceNe];refine cC [aA 0] rfl ?_ ?_
 ·simp only[length_map,WA,reduceEqDiff,reduceAdd,reduceLT,reduceLeDiff,reduceMul,reduceIte,reduceCtorEq,Int.reduceEq,Int.reduceLT,Int.reduceLE,Int.reduceNe];refine eK ls (λ i (acc:Nat)=>[aA acc,aA i]) (λ _ rest acc=>acc+(rest.map List.length).sum=0) 0 rfl (by omega) (λ i x rest acc hi hx hm fw hd hg=> ?_) (λ acc hd hg=> ?_)
  ·simp only[List.map_cons,List.sum_cons]at hg;simp only[hd,WA,reduceEqDiff,reduceAdd,reduceLT,reduceLeDiff,reduceMul,reduceIte,reduceCtorEq,Int.reduceEq,Int.reduceLT,Int.reduceLE,Int.reduceNe];refine cC [aA ((acc+x.length:Nat):Int)] rfl ?_ ?_
   ·simp only[WA,reduceEqDiff,reduceAdd,reduceLT,reduceLeDiff,reduceMul,reduceIte,reduceCtorEq,Int.reduceEq,Int.reduceLT,Int.reduceLE,Int.reduceNe];rw[fw um 1 _ _ rfl];have d1:decide (((acc+x.length:Nat):Int)<0)=false:=decide_eq_false (by omega);simp(disch:=omega) only[um,length_map,aS,d1,WA,reduceEqDiff,reduceAdd,reduceLT,reduceLeDiff,reduceMul,reduceIte,reduceCtorEq,Int.reduceEq,Int.reduceLT,Int.reduceLE,Int.reduceNe]
   ·simp(disch:=omega) only[au,WA,reduceEqDiff,reduceAdd,reduceLT,reduceLeDiff,reduceMul,reduceIte,reduceCtorEq,Int.reduceEq,Int.reduceLT,Int.reduceLE,Int.reduceNe];exact⟨hi,_,by omega,rfl⟩
  ·simp only[List.map_nil,List.sum_nil,Nat.add_zero]at hg;simp only[hd,hg,WA,reduceEqDiff,reduceAdd,reduceLT,reduceLeDiff,reduceMul,reduceIte,reduceCtorEq,Int.reduceEq,Int.reduceLT,Int.reduceLE,Int.reduceNe]
   rfl
 ·simp only[WA,reduceEqDiff,reduceAdd,reduceLT,reduceLeDiff,reduceMul,reduceIte,reduceCtorEq,Int.reduceEq,Int.reduceLT,Int.reduceLE,Int.reduceNe];refine dT amF rfl rfl ?_;simp only[WA,reduceEqDiff,reduceAdd,reduceLT,reduceLeDiff,reduceMul,reduceIte,reduceCtorEq,Int.reduceEq,Int.reduceLT,Int.reduceLE,Int.reduceNe];refine aB ?_;simp only[length_map,WA,reduceEqDiff,reduceAdd,reduceLT,reduceLeDiff,reduceMul,reduceIte,reduceCtorEq,Int.reduceEq,Int.reduceLT,Int.reduceLE,Int.reduceNe];have hfl:ls.flatten.length=0:=by rw[List.length_flatten,hN]
  refine eK ls (λ i (acc:List aa)=>[.sl (acc.map aa.av),aA i]) (λ _ rest acc=>acc++rest.flatten=ls.flatten) [] rfl (by simp) (λ i x rest acc hi hx hm fw hd hg=> ?_) (λ acc hd hg=> ?_)
  ·have hl2:=congrArg List.length hg;simp only[List.length_append,flatten_cons,hfl]at hl2;simp only[hd,WA,reduceEqDiff,reduceAdd,reduceLT,reduceLeDiff,reduceMul,reduceIte,reduceCtorEq,Int.reduceEq,Int.reduceLT,Int.reduceLE,Int.reduceNe];rw[fw um 1 _ _ rfl];simp(disch:=omega) only[um,length_map,au,WA,reduceEqDiff,reduceAdd,reduceLT,reduceLeDiff,reduceMul,reduceIte,reduceCtorEq,Int.reduceEq,Int.reduceLT,Int.reduceLE,Int.reduceNe];refine⟨λ y hy=>by obtain⟨z,_,rfl⟩:=List.mem_map.1 hy;exact aa.width z,by omega,by omega,?_⟩;refine⟨hi,acc++x,?_,by rw[List.map_append]⟩;rw[flatten_cons,←List.append_assoc]at hg;exact hg
  ·rw[List.flatten_nil,List.append_nil]at hg;simp only[hd,hg,WA,reduceEqDiff,reduceAdd,reduceLT,reduceLeDiff,reduceMul,reduceIte,reduceCtorEq,Int.reduceEq,Int.reduceLT,Int.reduceLE,Int.reduceNe]
theorem at9(a b:List aa)(hb:a.length+b.length<=1048576):a7 Try.prog F.aV [.sl [.sl (a.map aa.av),.sl (b.map aa.av)]] (.sl ((a++b).map aa.av)):=by
 have hs:([a,b].map List.length).sum=a.length+b.length:=by simp
 have hf: [a,b].flatten=a++b:=by simp
 rcases Nat.eq_zero_or_pos (a.length+b.length)with h|h
 ·have:=ap9 [a,b] (by omega) (by simp);rwa [hf]at this
 ·have:=aqa [a,b] (by omega) (by omega) (by simp);rwa [hf]at this
end Go.Proofs.Ab
