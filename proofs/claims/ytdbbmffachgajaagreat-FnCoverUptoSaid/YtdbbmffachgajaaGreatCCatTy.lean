/-
  slices.Concat OF TWO LISTS OF TYPES.
-/
import Derived.Test.YtdbbmffachgajaaGreatCFree
import Derived.Test.YtdbbmffachgajaaGreatGM
set_option maxHeartbeats 4000000
set_option maxRecDepth 100000
open List(length_map flatten_cons)
set_option linter.unusedVariables false
set_option linter.unusedSimpArgs false
namespace Go.Proofs.Ab
open Go.Ab
theorem azk(n:Nat)(hn:0<n)(hb:n<=1048576):jY Tryz.prog F.aT G.aT [aD n] [.sl []]:=by
 have d1:decide ((n:Int)<0)=false:=decide_eq_false (by omega);have d2:decide ((0:Int)<(n:Int))=true:=decide_eq_true (by omega);have w0:IntKind.i64.wrap ((0:Int)- 0)=0:=cE (by omega) (by omega);have w1:IntKind.i64.wrap ((n:Int)- 0)=n:=cE (by omega) (by omega);refine T.mv rfl rfl rfl ?_;simp only[T.aT,d1,d2,w0,w1,Int.toNat_natCast,WA];refine⟨by omega,by omega,by omega,?_⟩;simp only[List.replicate_eq_nil_iff];omega
theorem azj:jY Tryz.prog F.aT G.bf [aD 0] []:=by
 have d1:decide ((0:Int)<0)=false:=by decide
 have w0:IntKind.i64.wrap ((0:Int)- 0)=0:=cE (by omega) (by omega);refine T.k8 rfl rfl rfl ?_;simp only[T.bf,w0,WA,Int.reduceLT]
def aa5(l:List ai):AV:= .sl (l.map ai.av)
theorem aov(l:List ai):(aa5 l).ag=true:=bt ai.ag
theorem aCZ(ls:List (List ai))(hn:0<(ls.map List.length).sum)(hb:(ls.map List.length).sum<=1048576)(hl:ls.length<=1048576):aW Tryz.prog F.bz [.sl (ls.map aa5)] (.sl (ls.flatten.map ai.av)):=by
 have cJ:AV.ae [AV.sl (ls.map aa5)]=true:=by simp only[AV.ae,AV.ag,Bool.and_true];exact bt aov
 generalize hN:(ls.map List.length).sum=N at hn hb;refine T.lP rfl cJ ?_;simp only[T.bz,WA,seval];refine aG [aD N] rfl ?_ ?_
 ·simp only[length_map,WA,seval];refine bk ls (λ i (acc:Nat)=>[aD acc,aD i]) (λ _ rest acc=>acc+(rest.map List.length).sum=N) 0 rfl (by omega) (λ i x rest acc hi hx hm ez hd hg=> ?_) (λ acc hd hg=> ?_)
  ·simp only[List.map_cons,List.sum_cons]at hg;simp only[hd,WA,seval];refine aG [aD ((acc+x.length:Nat):Int)] rfl ?_ ?_
   ·simp only[WA,seval];rw[ez aa5 1 _ _ rfl];have d1:decide (((acc+x.length:Nat):Int)<0)=false:=decide_eq_false (by omega);simp(disch:=omega) only[aa5,length_map,cu,d1,WA,seval]
   ·simp(disch:=omega) only[aI,WA,seval];exact⟨hi,_,by omega,rfl⟩
  ·simp only[List.map_nil,List.sum_nil,Nat.add_zero]at hg;simp only[hd,hg,WA,seval]
 ·simp only[WA,seval];refine fj (azk N hn (by omega)) rfl rfl ?_;simp only[WA,seval];refine aw ?_;simp only[length_map,WA,seval];have hfl:ls.flatten.length=N:=by rw[List.length_flatten,hN]
  refine bk ls (λ i (acc:List ai)=>[.sl (acc.map ai.av),aD i]) (λ _ rest acc=>acc++rest.flatten=ls.flatten) [] rfl (by simp) (λ i x rest acc hi hx hm ez hd hg=> ?_) (λ acc hd hg=> ?_)
  ·have hl2:=congrArg List.length hg;simp only[List.length_append,flatten_cons,hfl]at hl2;simp only[hd,WA,seval];rw[ez aa5 1 _ _ rfl];simp(disch:=omega) only[aa5,length_map,aI,WA,seval];refine⟨λ y hy=>by obtain⟨z,_,rfl⟩:=List.mem_map.1 hy;exact ai.width z,by omega,by omega,?_⟩;refine⟨hi,acc++x,?_,by rw[List.map_append]⟩;rw[flatten_cons,←List.append_assoc]at hg;exact hg
  ·rw[List.flatten_nil,List.append_nil]at hg;simp only[hd,hg,WA,seval]
theorem aCY(ls:List (List ai))(hN:(ls.map List.length).sum=0)(hl:ls.length<=1048576):aW Tryz.prog F.bz [.sl (ls.map aa5)] (.sl (ls.flatten.map ai.av)):=by
 have cJ:AV.ae [AV.sl (ls.map aa5)]=true:=by simp only[AV.ae,AV.ag,Bool.and_true];exact bt aov
 refine T.k9 rfl cJ ?_;simp only[T.gT,WA];refine aG [aD 0] rfl ?_ ?_
 ·simp only[length_map,WA];refine bk ls (λ i (acc:Nat)=>[aD acc,aD i]) (λ _ rest acc=>acc+(rest.map List.length).sum=0) 0 rfl (by omega) (λ i x rest acc hi hx hm ez hd hg=> ?_) (λ acc hd hg=> ?_)
  ·simp only[List.map_cons,List.sum_cons]at hg;simp only[hd,WA];refine aG [aD ((acc+x.length:Nat):Int)] rfl ?_ ?_
   ·simp only[WA];rw[ez aa5 1 _ _ rfl];have d1:decide (((acc+x.length:Nat):Int)<0)=false:=decide_eq_false (by omega);simp(disch:=omega) only[aa5,length_map,cu,d1,WA]
   ·simp(disch:=omega) only[aI,WA];exact⟨hi,_,by omega,rfl⟩
  ·simp only[List.map_nil,List.sum_nil,Nat.add_zero]at hg;simp only[hd,hg,WA]
   rfl
 ·simp only[WA];refine fj azj rfl rfl ?_;simp only[WA];refine aw ?_;simp only[length_map,WA];have hfl:ls.flatten.length=0:=by rw[List.length_flatten,hN]
  refine bk ls (λ i (acc:List ai)=>[.sl (acc.map ai.av),aD i]) (λ _ rest acc=>acc++rest.flatten=ls.flatten) [] rfl (by simp) (λ i x rest acc hi hx hm ez hd hg=> ?_) (λ acc hd hg=> ?_)
  ·have hl2:=congrArg List.length hg;simp only[List.length_append,flatten_cons,hfl]at hl2;simp only[hd,WA];rw[ez aa5 1 _ _ rfl];simp(disch:=omega) only[aa5,length_map,aI,WA];refine⟨λ y hy=>by obtain⟨z,_,rfl⟩:=List.mem_map.1 hy;exact ai.width z,by omega,by omega,?_⟩;refine⟨hi,acc++x,?_,by rw[List.map_append]⟩;rw[flatten_cons,←List.append_assoc]at hg;exact hg
  ·rw[List.flatten_nil,List.append_nil]at hg;simp only[hd,hg,WA]
theorem az3(a b:List ai)(hb:a.length+b.length<=1048576):aW Tryz.prog F.bz [.sl [.sl (a.map ai.av),.sl (b.map ai.av)]] (.sl ((a++b).map ai.av)):=by
 have hs:([a,b].map List.length).sum=a.length+b.length:=by simp
 have hf: [a,b].flatten=a++b:=by simp
 rcases Nat.eq_zero_or_pos (a.length+b.length)with h|h
 ·have:=aCY [a,b] (by omega) (by simp);rwa [hf]at this
 ·have:=aCZ [a,b] (by omega) (by omega) (by simp);rwa [hf]at this
end Go.Proofs.Ab
