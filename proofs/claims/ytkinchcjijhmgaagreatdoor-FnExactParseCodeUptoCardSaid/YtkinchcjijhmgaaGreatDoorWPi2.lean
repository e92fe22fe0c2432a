/-
  TEXTS OF CODE PARSED BY THE PROGRAM: numbers, registers, the first line, the forms that are tried.
-/
import Derived.Test.YtkinchcjijhmgaaGreatDoorWPi1
import Derived.Test.YtkinchcjijhmgaaGreatDoorWPc2
import Derived.Test.YtkinchcjijhmgaaGreatDoorCLexI
open Option(bind_some)
open Nat(reduceEqDiff reduceLeDiff reduceAdd reduceLT reduceMul)
set_option linter.unusedVariables false
set_option linter.unusedSimpArgs false
namespace Go.Ab
set_option maxRecDepth 100000
def nL(s:ByteArray):Int:=match Lib.atoiAll s.data.toList with
 | .ok v=>v
 | .range=>Lib.atoiSat s.data.toList
 |_=>0
def pT(s:ByteArray):AV:=match Lib.atoiAll s.data.toList with
 | .ok _=> .v .nilIface
 |_=> .oF
theorem amK(s:ByteArray):vw (nL s):=by
 unfold nL;rcases h:Lib.atoiAll s.data.toList with v|_|_
 ·exact Lib.atoiAll_bounds h
 ·exact show vw 0 from⟨by decide,by decide⟩
 ·exact Lib.atoiSat_bounds _
theorem o6{s:ByteArray}{v:Int}(h:fS s=some v):nL s=v:=by
 unfold fS at h;unfold nL;rcases hx:Lib.atoiAll s.data.toList with x|_|_
 ·rw[hx]at h;simp only at h⊢
  split at h
  ·injection h
  ·cases h
 ·rw[hx]at h;cases h
 ·rw[hx]at h;cases h
end Go.Ab
namespace Go.Proofs.Ab
open Go.Ab
set_option maxRecDepth 100000
theorem asO(s:ByteArray)(hs:s.size<=1048576):aI Tryz.prog F.strconv_Atoi [bE s] (.aK [br (nL s),pT s]):=by
 refine⟨Go.Ab.enters_of (by kernel_rfl),λ I L w vs hi hr=> ?_⟩;obtain⟨x,rfl,hx⟩:=atO hr;rw[hx.ajC];obtain⟨⟨t1,p1,h1⟩,t2,p2,h2⟩:=ame hi;unfold nL pT;rcases h:Lib.atoiAll s.data.toList with v|_|_
 ·refine(Any.strconv_Atoi_ok Tryz.abf s (by omega) v h w).mono ?_;rintro e w' ⟨rfl,hb⟩
  have jr:RowKit.Below w.heap.size w w':=by
   rcases hb with rfl|⟨t,rfl⟩
   ·exact .refl _ _
   ·exact Lib.bytesWorld_below _ _ _
  refine⟨_,I,L,rfl,?_,Go.Ab.Good.oq hi jr⟩
  exact .aK _ _ rfl λ i c x hc hx=>by
   match i,hc,hx with
   |0,hc,hx=>cases hc;cases hx;exact .v _ rfl
   |1,hc,hx=>cases hc;cases hx;exact .v _ rfl
 ·refine(Any.strconv_Atoi_syntax Tryz.abf s (by omega) h _ w h1 (.inr ⟨t1,p1,rfl⟩)).mono ?_;rintro e w' ⟨N,rfl,_,_,hb⟩;refine⟨_,I,L,rfl,?_,Go.Ab.Good.oq hi hb⟩
  exact .aK _ _ rfl λ i c x hc hx=>by
   match i,hc,hx with
   |0,hc,hx=>cases hc;cases hx;exact .v _ rfl
   |1,hc,hx=>cases hc;cases hx;exact .oF _ _
 ·refine(Any.strconv_Atoi_range Tryz.abf s (by omega) h _ w h2 (.inr ⟨t2,p2,rfl⟩)).mono ?_;rintro e w' ⟨N,rfl,_,_,hb⟩;refine⟨_,I,L,rfl,?_,Go.Ab.Good.oq hi hb⟩
  exact .aK _ _ rfl λ i c x hc hx=>by
   match i,hc,hx with
   |0,hc,hx=>cases hc;cases hx;exact .v _ rfl
   |1,hc,hx=>cases hc;cases hx;exact .oF _ _
theorem k7(s:ByteArray)(hs:s.size<=1048576):aI Tryz.prog F.ei [bE s] (.aK [br (nL s),.v (.bool (fS s).isSome)]):=by
 have hin:=amK s;have nY:=asO s hs;refine T.tz rfl rfl ?_;simp only[T.ei,WA,reduceEqDiff,reduceAdd,reduceLT,reduceLeDiff,reduceMul,reduceIte,reduceCtorEq,Int.reduceEq,Int.reduceLT,Int.reduceLE,Int.reduceNe];have aoS:∀(h:pT s= .v .nilIface∨pT s= .oF),True:=λ _=>trivial
 rcases h:Lib.atoiAll s.data.toList with v|_|_
 ·have e1:pT s= .v .nilIface:=by unfold pT;rw[h]
  have e2:(fS s).isSome=decide (im (nL s)=s):=by
   unfold fS nL;rw[h];simp only;by_cases hq:im v=s
   ·rw[if_pos hq];simp[hq]
   ·rw[if_neg hq];simp[hq]
  rw[e1]at nY;refine eo nY rfl ?_;simp only[WA,reduceEqDiff,reduceAdd,reduceLT,reduceLeDiff,reduceMul,reduceIte,reduceCtorEq,Int.reduceEq,Int.reduceLT,Int.reduceLE,Int.reduceNe];refine bw [.v (.bool (fS s).isSome)] rfl ?_ ?_
  ·simp only[WA,reduceEqDiff,reduceAdd,reduceLT,reduceLeDiff,reduceMul,reduceIte,reduceCtorEq,Int.reduceEq,Int.reduceLT,Int.reduceLE,Int.reduceNe];refine bj (ak8 _ hin.1 hin.2) ?_;simp only[dU,e2,WA,reduceEqDiff,reduceAdd,reduceLT,reduceLeDiff,reduceMul,reduceIte,reduceCtorEq,Int.reduceEq,Int.reduceLT,Int.reduceLE,Int.reduceNe]
  ·simp only[WA,reduceEqDiff,reduceAdd,reduceLT,reduceLeDiff,reduceMul,reduceIte,reduceCtorEq,Int.reduceEq,Int.reduceLT,Int.reduceLE,Int.reduceNe]
 ·have e1:pT s= .oF:=by unfold pT;rw[h]
  have e2:(fS s).isSome=false:=by unfold fS;rw[h];rfl
  rw[e1]at nY;refine eo nY rfl ?_;simp only[WA,reduceEqDiff,reduceAdd,reduceLT,reduceLeDiff,reduceMul,reduceIte,reduceCtorEq,Int.reduceEq,Int.reduceLT,Int.reduceLE,Int.reduceNe];refine bw [.v (.bool false)] rfl ?_ ?_
  ·simp only[WA,reduceEqDiff,reduceAdd,reduceLT,reduceLeDiff,reduceMul,reduceIte,reduceCtorEq,Int.reduceEq,Int.reduceLT,Int.reduceLE,Int.reduceNe]
  ·simp only[e2,WA,reduceEqDiff,reduceAdd,reduceLT,reduceLeDiff,reduceMul,reduceIte,reduceCtorEq,Int.reduceEq,Int.reduceLT,Int.reduceLE,Int.reduceNe]
 ·have e1:pT s= .oF:=by unfold pT;rw[h]
  have e2:(fS s).isSome=false:=by unfold fS;rw[h];rfl
  rw[e1]at nY;refine eo nY rfl ?_;simp only[WA,reduceEqDiff,reduceAdd,reduceLT,reduceLeDiff,reduceMul,reduceIte,reduceCtorEq,Int.reduceEq,Int.reduceLT,Int.reduceLE,Int.reduceNe];refine bw [.v (.bool false)] rfl ?_ ?_
  ·simp only[WA,reduceEqDiff,reduceAdd,reduceLT,reduceLeDiff,reduceMul,reduceIte,reduceCtorEq,Int.reduceEq,Int.reduceLT,Int.reduceLE,Int.reduceNe]
  ·simp only[e2,WA,reduceEqDiff,reduceAdd,reduceLT,reduceLeDiff,reduceMul,reduceIte,reduceCtorEq,Int.reduceEq,Int.reduceLT,Int.reduceLE,Int.reduceNe]
def ahx(s:ByteArray):Int:=nL (qS 114 s)
theorem x7(s:ByteArray):nQ s=if gA 114 s=true then(fS (qS 114 s)).bind λ n=>if 0<=n/\n<=15 then some n else none else none:=by
 unfold nQ;cases hl:s.data.toList with
 |nil=>unfold gA;rw[hl];simp
 |cons c r=>
  by_cases hc:c=114
  ·subst hc;have hb:gA 114 s=true:=by unfold gA;rw[hl];rfl
   have hcu:qS 114 s=⟨r.toArray⟩:=by
    unfold qS;rw[hb,if_pos rfl,Lib.extract_eq,hl,List.take_of_length_le (by rw[Lib.size_eq,hl];simp)]
    rfl
   rw[hb,hcu]
   rfl
  ·have hb:gA 114 s=false:=by unfold gA;rw[hl];simp[hc]
   simp only[hb,if_neg hc];rfl
theorem ahy{s:ByteArray}{v:Int}(h:nQ s=some v):ahx s=v:=by
 rw[x7]at h
 split at h
 ·cases hn:fS (qS 114 s)with
  |none=>rw[hn]at h;cases h
  |some n=>
   rw[hn]at h;simp only[bind_some]at h
   split at h
   ·injection h with h;subst h;exact o6 hn
   ·cases h
 ·cases h
theorem aiL(c:UInt8)(s:ByteArray):(qS c s).size<=s.size:=by
 unfold qS
 split
 ·rw[ByteArray.size_extract];omega
 ·exact Nat.le_refl _
theorem py(s:ByteArray)(hs:s.size<=1048576):aI Tryz.prog F.cX [bE s] (.aK [br (ahx s),.v (.bool (nQ s).isSome)]):=by
 have sn:=aiL 114 s;have hr:=x7 s;refine T.nS rfl rfl ?_;simp only[T.cX,WA,reduceEqDiff,reduceAdd,reduceLT,reduceLeDiff,reduceMul,reduceIte,reduceCtorEq,Int.reduceEq,Int.reduceLT,Int.reduceLE,Int.reduceNe];refine eo (abK s 114 hs) rfl ?_;simp only[WA,reduceEqDiff,reduceAdd,reduceLT,reduceLeDiff,reduceMul,reduceIte,reduceCtorEq,Int.reduceEq,Int.reduceLT,Int.reduceLE,Int.reduceNe];refine eo (k7 (qS 114 s) (by omega)) rfl ?_;simp only[WA,reduceEqDiff,reduceAdd,reduceLT,reduceLeDiff,reduceMul,reduceIte,reduceCtorEq,Int.reduceEq,Int.reduceLT,Int.reduceLE,Int.reduceNe];refine bw [.v (.bool (nQ s).isSome)] rfl ?_ ?_
 ·cases hb:gA 114 s with
  |false=>
   rw[hb]at hr;simp only[Bool.false_eq_true,if_false]at hr;rw[hr];simp only[WA,reduceEqDiff,reduceAdd,reduceLT,reduceLeDiff,reduceMul,reduceIte,reduceCtorEq,Int.reduceEq,Int.reduceLT,Int.reduceLE,Int.reduceNe]
   rfl
  |true=>
   rw[hb,if_pos rfl]at hr;cases hn:fS (qS 114 s)with
   |none=>
    rw[hn]at hr;rw[hr];simp only[Option.isSome_none,Option.bind_none,WA,reduceEqDiff,reduceAdd,reduceLT,reduceLeDiff,reduceMul,reduceIte,reduceCtorEq,Int.reduceEq,Int.reduceLT,Int.reduceLE,Int.reduceNe]
   |some n=>
    have nY:=o6 hn;rw[hn]at hr;simp only[bind_some]at hr;simp only[Option.isSome_some,WA,reduceEqDiff,reduceAdd,reduceLT,reduceLeDiff,reduceMul,reduceIte,reduceCtorEq,Int.reduceEq,Int.reduceLT,Int.reduceLE,Int.reduceNe];refine bj (fm _ _ _) ?_;rw[nY,hr];simp only[dU,WA,reduceEqDiff,reduceAdd,reduceLT,reduceLeDiff,reduceMul,reduceIte,reduceCtorEq,Int.reduceEq,Int.reduceLT,Int.reduceLE,Int.reduceNe];by_cases hq:0<=n/\n<=15
    ·rw[if_pos hq];simp[jJ,hq]
    ·rw[if_neg hq]
     have:jJ n 0 15=false:=by
      rw[←Bool.not_eq_true];intro h;simp only[jJ,Bool.and_eq_true,decide_eq_true_eq]at h;exact hq h
     rw[this];rfl
 ·simp only[WA,reduceEqDiff,reduceAdd,reduceLT,reduceLeDiff,reduceMul,reduceIte,reduceCtorEq,Int.reduceEq,Int.reduceLT,Int.reduceLE,Int.reduceNe]
  rfl
end Go.Proofs.Ab
