/-
  slices.Concat OF TWO LISTS OF TYPES.
-/
import Derived.Test.YtfebhekplhjigaaCFree
import Derived.Test.YtfebhekplhjigaaGM
open List(length_map flatten_cons)
set_option linter.unusedSimpArgs false
set_option linter.unusedVariables false
namespace Go.Proofs.Ab
open Go.Ab
set_option maxRecDepth 100000
set_option maxHeartbeats 4000000
theorem aoA(n:Nat)(hn:0<n)(hb:n<=1048576):gQ Try.prog F.aC G.aC [au n] [.sl []]:=by
 have d1:decide ((n:Int)<0)=false:=decide_eq_false (by omega);have d2:decide ((0:Int)<(n:Int))=true:=decide_eq_true (by omega);have w0:IntKind.i64.wrap ((0:Int)- 0)=0:=bh (by omega) (by omega);have w1:IntKind.i64.wrap ((n:Int)- 0)=n:=bh (by omega) (by omega);refine T.jN rfl rfl rfl ?_;simp only[T.aC,d1,d2,w0,w1,Int.toNat_natCast,WA];refine⟨by omega,by omega,by omega,?_⟩;simp only[List.replicate_eq_nil_iff];omega
theorem aoz:gQ Try.prog F.aC G.aP [au 0] []:=by
 have d1:decide ((0:Int)<0)=false:=by decide
 have w0:IntKind.i64.wrap ((0:Int)- 0)=0:=bh (by omega) (by omega);refine T.iL rfl rfl rfl ?_;simp only[T.aP,w0,WA,Int.reduceLT]
def vB(l:List aa):AV:= .sl (l.map aa.av)
theorem agA(l:List aa):(vB l).ag=true:=bA aa.ag
theorem asa(ls:List (List aa))(hn:0<(ls.map List.length).sum)(hb:(ls.map List.length).sum<=1048576)(hl:ls.length<=1048576):a7 Try.prog F.aS [.sl (ls.map vB)] (.sl (ls.flatten.map aa.av)):=by
 have cA:AV.ae [AV.sl (ls.map vB)]=true:=by simp only[AV.ae,AV.ag,Bool.and_true];exact bA agA
 generalize hN:(ls.map List.length).sum=N at hn hb;refine T.jk rfl cA ?_;simp only[T.aS,WA];refine cu [au N] rfl ?_ ?_
 ·simp only[length_map,WA];refine dD ls (λ i (acc:Nat)=>[au acc,au i]) (λ _ rest acc=>acc+(rest.map List.length).sum=N) 0 rfl (by omega) (λ i x rest acc hi hx hm fu hd hg=> ?_) (λ acc hd hg=> ?_)
  ·simp only[List.map_cons,List.sum_cons]at hg;simp only[hd,WA];refine cu [au ((acc+x.length:Nat):Int)] rfl ?_ ?_
   ·simp only[WA];rw[fu vB 1 _ _ rfl];have d1:decide (((acc+x.length:Nat):Int)<0)=false:=decide_eq_false (by omega);simp(disch:=omega) only[vB,length_map,bR,d1,WA]
   ·simp(disch:=omega) only[aH,WA];exact⟨hi,_,by omega,rfl⟩
  ·simp only[List.map_nil,List.sum_nil,Nat.add_zero]at hg;simp only[hd,hg,WA]
 ·simp only[WA];refine dU (aoA N hn (by omega)) rfl rfl ?_;simp only[WA];refine aB ?_;simp only[length_map,WA];have hfl:ls.flatten.length=N:=by rw[List.length_flatten,hN]
  refine dD ls (λ i (acc:List aa)=>[.sl (acc.map aa.av),au i]) (λ _ rest acc=>acc++rest.flatten=ls.flatten) [] rfl (by simp) (λ i x rest acc hi hx hm fu hd hg=> ?_) (λ acc hd hg=> ?_)
  ·have hl2:=congrArg List.length hg;simp only[List.length_append,flatten_cons,hfl]at hl2;simp only[hd,WA];rw[fu vB 1 _ _ rfl];simp(disch:=omega) only[vB,length_map,aH,WA];refine⟨λ y hy=>by obtain⟨z,_,rfl⟩:=List.mem_map.1 hy;exact aa.width z,by omega,by omega,?_⟩;refine⟨hi,acc++x,?_,by rw[List.map_append]⟩;rw[flatten_cons,←List.append_assoc]at hg;exact hg
  ·rw[List.flatten_nil,List.append_nil]at hg;simp only[hd,hg,WA]
theorem ar9(ls:List (List aa))(hN:(ls.map List.length).sum=0)(hl:ls.length<=1048576):a7 Try.prog F.aS [.sl (ls.map vB)] (.sl (ls.flatten.map aa.av)):=by
 have cA:AV.ae [AV.sl (ls.map vB)]=true:=by simp only[AV.ae,AV.ag,Bool.and_true];exact bA agA
 refine T.iM rfl cA ?_;simp only[T.dc,WA];refine cu [au 0] rfl ?_ ?_
 ·simp only[length_map,WA];refine dD ls (λ i (acc:Nat)=>[au acc,au i]) (λ _ rest acc=>acc+(rest.map List.length).sum=0) 0 rfl (by omega) (λ i x rest acc hi hx hm fu hd hg=> ?_) (λ acc hd hg=> ?_)
  ·simp only[List.map_cons,List.sum_cons]at hg;simp only[hd,WA];refine cu [au ((acc+x.length:Nat):Int)] rfl ?_ ?_
   ·simp only[WA];rw[fu vB 1 _ _ rfl];have d1:decide (((acc+x.length:Nat):Int)<0)=false:=decide_eq_false (by omega);simp(disch:=omega) only[vB,length_map,bR,d1,WA]
   ·simp(disch:=omega) only[aH,WA];exact⟨hi,_,by omega,rfl⟩
  ·simp only[List.map_nil,List.sum_nil,Nat.add_zero]at hg;simp only[hd,hg,WA]
   rfl
 ·simp only[WA];refine dU aoz rfl rfl ?_;simp only[WA];refine aB ?_;simp only[length_map,WA];have hfl:ls.flatten.length=0:=by rw[List.length_flatten,hN]
  refine dD ls (λ i (acc:List aa)=>[.sl (acc.map aa.av),au i]) (λ _ rest acc=>acc++rest.flatten=ls.flatten) [] rfl (by simp) (λ i x rest acc hi hx hm fu hd hg=> ?_) (λ acc hd hg=> ?_)
  ·have hl2:=congrArg List.length hg;simp only[List.length_append,flatten_cons,hfl]at hl2;simp only[hd,WA];rw[fu vB 1 _ _ rfl];simp(disch:=omega) only[vB,length_map,aH,WA];refine⟨λ y hy=>by obtain⟨z,_,rfl⟩:=List.mem_map.1 hy;exact aa.width z,by omega,by omega,?_⟩;refine⟨hi,acc++x,?_,by rw[List.map_append]⟩;rw[flatten_cons,←List.append_assoc]at hg;exact hg
  ·rw[List.flatten_nil,List.append_nil]at hg;simp only[hd,hg,WA]
theorem awa(a b:List aa)(hb:a.length+b.length<=1048576):a7 Try.prog F.aS [.sl [.sl (a.map aa.av),.sl (b.map aa.av)]] (.sl ((a++b).map aa.av)):=by
 have hs:([a,b].map List.length).sum=a.length+b.length:=by simp
 have hf: [a,b].flatten=a++b:=by simp
 rcases Nat.eq_zero_or_pos (a.length+b.length)with h|h
 ·have:=ar9 [a,b] (by omega) (by simp);rwa [hf]at this
 ·have:=asa [a,b] (by omega) (by omega) (by simp);rwa [hf]at this
end Go.Proofs.Ab
