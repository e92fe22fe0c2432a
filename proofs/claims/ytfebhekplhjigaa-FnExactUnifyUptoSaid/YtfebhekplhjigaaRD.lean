/- Part of a proof: the functions that the law reaches, walked by the abstract logic of the texts Ab. -/
import Derived.Test.YtfebhekplhjigaaLB
import Derived.Test.YtfebhekplhjigaaGM
set_option linter.unusedVariables false
set_option linter.unusedSimpArgs false
namespace Go.Proofs.Ytfebhekplhjigaa
open Go.Ab Go.ChangeShapes Go.WideShapes Go.ChangeAt Go.RowKit
set_option maxRecDepth 100000
theorem atQ{α:Type}(w:α->Nat)(l:List α):(l.map λ t=>1+w t).sum=l.length+(l.map w).sum:=by
 induction l with
 |nil=>rfl
 |cons t l ih=>simp only[List.map_cons,List.sum_cons,ih,List.length_cons];omega
theorem ai4{n:Int}(h:IntKind.i64.min<=n/\n<=IntKind.i64.max):inR n:=by
 have h1:IntKind.i64.min= -9223372036854775808:=by decide
 have h2:IntKind.i64.max=9223372036854775807:=by decide
 unfold inR;omega
theorem asM{H:Type}{enc:TypeId×Value->H}(w:World)(f:Nat):Rd enc Try.prog w f 24 (λ t:ad=>t.av.cells) (λ t=>1+t.wt) (λ t=>t.ok):=by
 induction f using Nat.strongRecOn with
 |_ f ih=>
  have c3:Try.prog.cellsOf 3=1:=by kernel_rfl
  have c9:Try.prog.cellsOf 9=1:=by kernel_rfl
  have c22:Try.prog.cellsOf 22=1:=by kernel_rfl
  have c24:Try.prog.cellsOf 24=4:=by kernel_rfl
  intro cs x h;obtain⟨xs,n,rfl,rfl,hl,hlen,hf⟩:=DataW.trod_struct Try.underlying24 h;rw[c24]at hl
  match xs,hlen with
  | [y0,y1,y2,y3],_=>
    have h0:=yK hf 0 rfl (t:=3) (o:=0) rfl rfl c3;have h1:=yK hf 1 rfl (t:=3) (o:=1) rfl rfl c3;have h2:=yK hf 2 rfl (t:=9) (o:=2) rfl rfl c9;have h3:=yK hf 3 rfl (t:=22) (o:=3) rfl rfl c22;obtain⟨a0,r0,w0,k0⟩:=ais Try.underlying3 _ _ h0;have w0':1<=oY y0.1:=w0;obtain⟨a1,r1,w1,k1⟩:=ais Try.underlying3 _ _ h1;have w1':1<=oY y1.1:=w1;obtain⟨a2,r2,w2,k2⟩:=ak7 Try.underlying9 _ _ h2;have w2':a2.size+1<=oY y2.1:=w2;obtain⟨a3,r3,w3,k3⟩:=aaE (av:=ad.av) Try.underlying22 (by rw[c24];omega) (λ j hj=>(ih j (by omega))) _ _ h3;have w3':(a3.map λ t=>1+ad.wt t).sum+1<=oY y3.1:=w3;rw[atQ]at w3';refine⟨.mk a0 a1 a2 a3,?_,?_,(ad.aug _).2 ⟨ai4 k0,ai4 k1,k3⟩⟩
    ·have:=RdC.part 0 1 r0 (RdC.part 1 1 r1 (RdC.part 2 1 r2 (RdC.part 3 1 r3 (bs:=[]) (by rw[List.drop_of_length_le (by omega)];exact .nil w))))
     show RdC w (ad.mk a0 a1 a2 a3).av.cells cs;rw[ad.cells];simpa [ad.Kind,ad.N,ad.Name,ad.Kids]using this
    ·show 1+(ad.mk a0 a1 a2 a3).wt<=_;rw[ad.gR];simp only[ad.Kind,ad.N,ad.Name,ad.Kids,oY,lX,List.map_cons,List.map_nil];omega
end Go.Proofs.Ytfebhekplhjigaa
