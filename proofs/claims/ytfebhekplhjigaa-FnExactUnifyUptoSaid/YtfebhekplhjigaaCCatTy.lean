/-
  slices.Concat OF TWO LISTS OF TYPES.
-/
import Derived.Test.YtfebhekplhjigaaCFree
import Derived.Test.YtfebhekplhjigaaGM
open List(length_map flatten_cons)
open Nat(reduceEqDiff reduceLeDiff reduceAdd reduceLT reduceMul)
set_option linter.unusedVariables false
set_option linter.unusedSimpArgs false
namespace Go.Proofs.Ab
open Go.Ab
set_option maxRecDepth 100000
set_option maxHeartbeats 4000000
theorem apg(n:Nat)(hn:0<n)(hb:n<=1048576):zE Try.prog F.au G.au [aO n] [.sl []]:=by
 have d1:decide ((n:Int)<0)=false:=decide_eq_false (by omega);have d2:decide ((0:Int)<(n:Int))=true:=decide_eq_true (by omega);have w0:IntKind.i64.wrap ((0:Int)- 0)=0:=da (by omega) (by omega);have w1:IntKind.i64.wrap ((n:Int)- 0)=n:=da (by omega) (by omega);refine T.ke rfl rfl rfl ?_;simp only[T.au,d1,d2,w0,w1,Int.toNat_natCast,WA,reduceEqDiff,reduceAdd,reduceLT,reduceLeDiff,reduceMul,reduceIte,reduceCtorEq,Int.reduceEq,Int.reduceLT,Int.reduceLE,Int.reduceNe];refine⟨by omega,by omega,by omega,?_⟩;simp only[ne_eq,List.replicate_eq_nil_iff];omega
theorem apf:zE Try.prog F.au G.aI [aO 0] []:=by
 have d1:decide ((0:Int)<0)=false:=by decide
 have w0:IntKind.i64.wrap ((0:Int)- 0)=0:=da (by omega) (by omega);refine T.iZ rfl rfl rfl ?_;simp only[T.aI,d1,w0,WA,reduceEqDiff,reduceAdd,reduceLT,reduceLeDiff,reduceMul,reduceIte,reduceCtorEq,Int.reduceEq,Int.reduceLT,Int.reduceLE,Int.reduceNe]
def yk(l:List ad):AV:= .sl (l.map ad.av)
theorem ahO(l:List ad):(yk l).ag=true:=bt ad.ag
theorem asm(ls:List (List ad))(hn:0<(ls.map List.length).sum)(hb:(ls.map List.length).sum<=1048576)(hl:ls.length<=1048576):a7 Try.prog F.aM [.sl (ls.map yk)] (.sl (ls.flatten.map ad.av)):=by
 have b8:AV.ae [AV.sl (ls.map yk)]=true:=by simp only[AV.ae,AV.ag,Bool.and_true];exact bt ahO
 generalize hN:(ls.map List.length).sum=N at hn hb;refine T.jy rfl b8 ?_;simp only[T.aM,WA,reduceEqDiff,reduceAdd,reduceLT,reduceLeDiff,reduceMul,reduceIte,reduceCtorEq,Int.reduceEq,Int.reduceLT,Int.reduceLE,Int.reduceNe];refine fe [aO N] rfl ?_ ?_
 ·simp only[length_map,WA,reduceEqDiff,reduceAdd,reduceLT,reduceLeDiff,reduceMul,reduceIte,reduceCtorEq,Int.reduceEq,Int.reduceLT,Int.reduceLE,Int.reduceNe];refine eQ ls (λ i (acc:Nat)=>[aO acc,aO i]) (λ _ rest acc=>acc+(rest.map List.length).sum=N) 0 rfl (by omega) (λ i x rest acc hi hx hm ji hd hg=> ?_) (λ acc hd hg=> ?_)
  ·simp only[List.map_cons,List.sum_cons]at hg;simp only[hd,WA,reduceEqDiff,reduceAdd,reduceLT,reduceLeDiff,reduceMul,reduceIte,reduceCtorEq,Int.reduceEq,Int.reduceLT,Int.reduceLE,Int.reduceNe];refine fe [aO ((acc+x.length:Nat):Int)] rfl ?_ ?_
   ·simp only[WA,reduceEqDiff,reduceAdd,reduceLT,reduceLeDiff,reduceMul,reduceIte,reduceCtorEq,Int.reduceEq,Int.reduceLT,Int.reduceLE,Int.reduceNe];rw[ji yk 1 _ _ rfl];have d1:decide (((acc+x.length:Nat):Int)<0)=false:=decide_eq_false (by omega);simp(disch:=omega) only[yk,length_map,bF,d1,WA,reduceEqDiff,reduceAdd,reduceLT,reduceLeDiff,reduceMul,reduceIte,reduceCtorEq,Int.reduceEq,Int.reduceLT,Int.reduceLE,Int.reduceNe]
   ·simp(disch:=omega) only[aG,WA,reduceEqDiff,reduceAdd,reduceLT,reduceLeDiff,reduceMul,reduceIte,reduceCtorEq,Int.reduceEq,Int.reduceLT,Int.reduceLE,Int.reduceNe];exact⟨hi,_,by omega,rfl⟩
  ·simp only[List.map_nil,List.sum_nil,Nat.add_zero]at hg;simp only[hd,hg,WA,reduceEqDiff,reduceAdd,reduceLT,reduceLeDiff,reduceMul,reduceIte,reduceCtorEq,Int.reduceEq,Int.reduceLT,Int.reduceLE,Int.reduceNe]
 ·simp only[WA,reduceEqDiff,reduceAdd,reduceLT,reduceLeDiff,reduceMul,reduceIte,reduceCtorEq,Int.reduceEq,Int.reduceLT,Int.reduceLE,Int.reduceNe];refine zK (apg N hn (by omega)) rfl rfl ?_;simp only[WA,reduceEqDiff,reduceAdd,reduceLT,reduceLeDiff,reduceMul,reduceIte,reduceCtorEq,Int.reduceEq,Int.reduceLT,Int.reduceLE,Int.reduceNe];refine aN ?_;simp only[length_map,WA,reduceEqDiff,reduceAdd,reduceLT,reduceLeDiff,reduceMul,reduceIte,reduceCtorEq,Int.reduceEq,Int.reduceLT,Int.reduceLE,Int.reduceNe];have hfl:ls.flatten.length=N:=by rw[List.length_flatten,hN]
  refine eQ ls (λ i (acc:List ad)=>[.sl (acc.map ad.av),aO i]) (λ _ rest acc=>acc++rest.flatten=ls.flatten) [] rfl (by simp) (λ i x rest acc hi hx hm ji hd hg=> ?_) (λ acc hd hg=> ?_)
  ·have hl2:=congrArg List.length hg;simp only[List.length_append,flatten_cons,hfl]at hl2;simp only[hd,WA,reduceEqDiff,reduceAdd,reduceLT,reduceLeDiff,reduceMul,reduceIte,reduceCtorEq,Int.reduceEq,Int.reduceLT,Int.reduceLE,Int.reduceNe];rw[ji yk 1 _ _ rfl];simp(disch:=omega) only[yk,length_map,aG,WA,reduceEqDiff,reduceAdd,reduceLT,reduceLeDiff,reduceMul,reduceIte,reduceCtorEq,Int.reduceEq,Int.reduceLT,Int.reduceLE,Int.reduceNe];refine⟨λ y hy=>by obtain⟨z,_,rfl⟩:=List.mem_map.1 hy;exact ad.width z,by omega,by omega,?_⟩;refine⟨hi,acc++x,?_,by rw[List.map_append]⟩;rw[flatten_cons,←List.append_assoc]at hg;exact hg
  ·rw[List.flatten_nil,List.append_nil]at hg;simp only[hd,hg,WA,reduceEqDiff,reduceAdd,reduceLT,reduceLeDiff,reduceMul,reduceIte,reduceCtorEq,Int.reduceEq,Int.reduceLT,Int.reduceLE,Int.reduceNe]
theorem asl(ls:List (List ad))(hN:(ls.map List.length).sum=0)(hl:ls.length<=1048576):a7 Try.prog F.aM [.sl (ls.map yk)] (.sl (ls.flatten.map ad.av)):=by
 have b8:AV.ae [AV.sl (ls.map yk)]=true:=by simp only[AV.ae,AV.ag,Bool.and_true];exact bt ahO
 refine T.ja rfl b8 ?_;simp only[T.cN,WA,reduceEqDiff,reduceAdd,reduceLT,reduceLeDiff,reduceMul,reduceIte,reduceCtorEq,Int.reduceEq,Int.reduceLT,Int.reduceLE,Int.reduceNe];refine fe [aO 0] rfl ?_ ?_
 ·simp only[length_map,WA,reduceEqDiff,reduceAdd,reduceLT,reduceLeDiff,reduceMul,reduceIte,reduceCtorEq,Int.reduceEq,Int.reduceLT,Int.reduceLE,Int.reduceNe];refine eQ ls (λ i (acc:Nat)=>[aO acc,aO i]) (λ _ rest acc=>acc+(rest.map List.length).sum=0) 0 rfl (by omega) (λ i x rest acc hi hx hm ji hd hg=> ?_) (λ acc hd hg=> ?_)
  ·simp only[List.map_cons,List.sum_cons]at hg;simp only[hd,WA,reduceEqDiff,reduceAdd,reduceLT,reduceLeDiff,reduceMul,reduceIte,reduceCtorEq,Int.reduceEq,Int.reduceLT,Int.reduceLE,Int.reduceNe];refine fe [aO ((acc+x.length:Nat):Int)] rfl ?_ ?_
   ·simp only[WA,reduceEqDiff,reduceAdd,reduceLT,reduceLeDiff,reduceMul,reduceIte,reduceCtorEq,Int.reduceEq,Int.reduceLT,Int.reduceLE,Int.reduceNe];rw[ji yk 1 _ _ rfl];have d1:decide (((acc+x.length:Nat):Int)<0)=false:=decide_eq_false (by omega);simp(disch:=omega) only[yk,length_map,bF,d1,WA,reduceEqDiff,reduceAdd,reduceLT,reduceLeDiff,reduceMul,reduceIte,reduceCtorEq,Int.reduceEq,Int.reduceLT,Int.reduceLE,Int.reduceNe]
   ·simp(disch:=omega) only[aG,WA,reduceEqDiff,reduceAdd,reduceLT,reduceLeDiff,reduceMul,reduceIte,reduceCtorEq,Int.reduceEq,Int.reduceLT,Int.reduceLE,Int.reduceNe];exact⟨hi,_,by omega,rfl⟩
  ·simp only[List.map_nil,List.sum_nil,Nat.add_zero]at hg;simp only[hd,hg,WA,reduceEqDiff,reduceAdd,reduceLT,reduceLeDiff,reduceMul,reduceIte,reduceCtorEq,Int.reduceEq,Int.reduceLT,Int.reduceLE,Int.reduceNe]
   rfl
 ·simp only[WA,reduceEqDiff,reduceAdd,reduceLT,reduceLeDiff,reduceMul,reduceIte,reduceCtorEq,Int.reduceEq,Int.reduceLT,Int.reduceLE,Int.reduceNe];refine zK apf rfl rfl ?_;simp only[WA,reduceEqDiff,reduceAdd,reduceLT,reduceLeDiff,reduceMul,reduceIte,reduceCtorEq,Int.reduceEq,Int.reduceLT,Int.reduceLE,Int.reduceNe];refine aN ?_;simp only[length_map,WA,reduceEqDiff,reduceAdd,reduceLT,reduceLeDiff,reduceMul,reduceIte,reduceCtorEq,Int.reduceEq,Int.reduceLT,Int.reduceLE,Int.reduceNe];have hfl:ls.flatten.length=0:=by rw[List.length_flatten,hN]
  refine eQ ls (λ i (acc:List ad)=>[.sl (acc.map ad.av),aO i]) (λ _ rest acc=>acc++rest.flatten=ls.flatten) [] rfl (by simp) (λ i x rest acc hi hx hm ji hd hg=> ?_) (λ acc hd hg=> ?_)
  ·have hl2:=congrArg List.length hg;simp only[List.length_append,flatten_cons,hfl]at hl2;simp only[hd,WA,reduceEqDiff,reduceAdd,reduceLT,reduceLeDiff,reduceMul,reduceIte,reduceCtorEq,Int.reduceEq,Int.reduceLT,Int.reduceLE,Int.reduceNe];rw[ji yk 1 _ _ rfl];simp(disch:=omega) only[yk,length_map,aG,WA,reduceEqDiff,reduceAdd,reduceLT,reduceLeDiff,reduceMul,reduceIte,reduceCtorEq,Int.reduceEq,Int.reduceLT,Int.reduceLE,Int.reduceNe];refine⟨λ y hy=>by obtain⟨z,_,rfl⟩:=List.mem_map.1 hy;exact ad.width z,by omega,by omega,?_⟩;refine⟨hi,acc++x,?_,by rw[List.map_append]⟩;rw[flatten_cons,←List.append_assoc]at hg;exact hg
  ·rw[List.flatten_nil,List.append_nil]at hg;simp only[hd,hg,WA,reduceEqDiff,reduceAdd,reduceLT,reduceLeDiff,reduceMul,reduceIte,reduceCtorEq,Int.reduceEq,Int.reduceLT,Int.reduceLE,Int.reduceNe]
theorem av3(a b:List ad)(hb:a.length+b.length<=1048576):a7 Try.prog F.aM [.sl [.sl (a.map ad.av),.sl (b.map ad.av)]] (.sl ((a++b).map ad.av)):=by
 have hs:([a,b].map List.length).sum=a.length+b.length:=by simp
 have hf: [a,b].flatten=a++b:=by simp
 rcases Nat.eq_zero_or_pos (a.length+b.length)with h|h
 ·have:=asl [a,b] (by omega) (by simp);rwa [hf]at this
 ·have:=asm [a,b] (by omega) (by omega) (by simp);rwa [hf]at this
end Go.Proofs.Ab
