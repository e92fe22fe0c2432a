/-
  TEXTS OF CODE PARSED BY THE PROGRAM: one word into an instruction.
-/
import Derived.Test.YtkinchcjijhmgaaGreatDoorWPi3
import Derived.Test.YtkinchcjijhmgaaGreatDoorWAsm2
open Option(map_some)
open Nat(reduceEqDiff reduceLeDiff reduceAdd reduceLT reduceMul)
set_option linter.unusedVariables false
set_option linter.unusedSimpArgs false
namespace Go.Ab
set_option maxRecDepth 100000
def vn(w:ByteArray):ByteArray:=match bs w with
 | []=>⟨#[]⟩
 |c::r=>if c=34 then(match fB r with|some q=>pG q.1|none=>⟨#[]⟩)else⟨#[]⟩
theorem aou{w t:ByteArray}(h:j7 w=some t):vn w=t:=by
 unfold j7 at h;unfold vn;cases hb:bs w with
 |nil=>rw[hb]at h;cases h
 |cons c r=>
  rw[hb]at h;simp only at h⊢
  split at h
  ·rename_i hc;rw[if_pos hc];cases hq:fB r with
   |none=>rw[hq]at h;cases h
   |some q=>
    rw[hq]at h;simp only[Option.bind_some]at h
    split at h
    ·injection h
    ·cases h
  ·cases h
end Go.Ab
namespace Go.Proofs.Ab
open Go.Ab
set_option maxRecDepth 100000
set_option maxHeartbeats 4000000
def uT(c:Int)(w:ByteArray)(x:aa):aa:=if c=116 then x.aqV (vn w)else x.jt c (if c=110 then nL w else ahx w)
theorem al5{c:Int}{w:ByteArray}{x y:aa}(h:jn c w x=some y):y=uT c w x:=by
 unfold jn at h;unfold uT
 split at h
 ·rename_i hc;rw[if_pos hc];cases hs:j7 w with
  |none=>rw[hs]at h;cases h
  |some t=>
   rw[hs]at h;simp only[map_some,Option.some.injEq]at h;rw[←h,aou hs]
 ·rename_i hc;rw[if_neg hc];unfold numOf at h
  split at h
  ·rename_i h2;rw[if_pos h2];cases hs:fS w with
   |none=>rw[hs]at h;cases h
   |some t=>
    rw[hs]at h;simp only[map_some,Option.some.injEq]at h;rw[←h,o6 hs]
  ·rename_i h2;rw[if_neg h2];cases hs:nQ w with
   |none=>rw[hs]at h;cases h
   |some t=>
    rw[hs]at h;simp only[map_some,Option.some.injEq]at h;rw[←h,ahy hs]
theorem tT{c:Int}(w:ByteArray)(x:aa)(h1:c≠116)(h2:c≠110):(jn c w x).isSome=(nQ w).isSome:=by
 unfold jn numOf;rw[if_neg h1,if_neg h2];cases nQ w<;>rfl
theorem aiF(w:ByteArray)(x:aa):(jn 110 w x).isSome=(fS w).isSome:=by
 unfold jn numOf;rw[if_neg (by decide),if_pos rfl];cases fS w<;>rfl
theorem adb(c:Int)(w:ByteArray)(x:aa)(hw:w.size<=1048576)(hc:c=97∨c=98∨c=99∨c=110∨c=116):
  js Tryz.prog F.kI [.ptr 0 1 0 0,.v (.int .i32 c),bE w] [.live 34 6 [x.av]] (.v (.bool (jn c w x).isSome)) [.live 34 6 [(uT c w x).av]]:=by
 have axE:=py w hw;have axL:=k7 w hw;refine hH A.abr rfl ?_;simp only[A.kI,aa.width,aa.isAgg,aa.storable,aa.cells,↓OD,OA,reduceEqDiff,reduceCtorEq,reduceAdd,reduceLT,reduceLeDiff,reduceIte];refine aW _ _ (axE.any rfl rfl _) ?_;simp only[↓OD,OA,reduceEqDiff,reduceCtorEq,reduceAdd,reduceLT,reduceLeDiff,reduceIte];have aBk:(116:Int)=116:=rfl;rcases hc with rfl|rfl|rfl|rfl|rfl
 ·simp only[aa.width,aa.isAgg,aa.storable,aa.cells,Int.reduceEq,decide_true,decide_false,↓OD,OA,reduceEqDiff,reduceCtorEq,reduceAdd,reduceLT,reduceLeDiff,reduceIte];rw[tT w x (by decide) (by decide),show lN x.av 1 (br (ahx w))=(uT 97 w x).av by cases x;rfl];exact je (.inl rfl) rfl
 ·simp only[aa.width,aa.isAgg,aa.storable,aa.cells,Int.reduceEq,decide_true,decide_false,↓OD,OA,reduceEqDiff,reduceCtorEq,reduceAdd,reduceLT,reduceLeDiff,reduceIte];rw[tT w x (by decide) (by decide),show lN x.av 2 (br (ahx w))=(uT 98 w x).av by cases x;rfl];exact je (.inl rfl) rfl
 ·simp only[aa.width,aa.isAgg,aa.storable,aa.cells,Int.reduceEq,decide_true,decide_false,↓OD,OA,reduceEqDiff,reduceCtorEq,reduceAdd,reduceLT,reduceLeDiff,reduceIte];rw[tT w x (by decide) (by decide),show lN x.av 3 (br (ahx w))=(uT 99 w x).av by cases x;rfl];exact je (.inl rfl) rfl
 ·simp only[aa.width,aa.isAgg,aa.storable,aa.cells,Int.reduceEq,decide_true,decide_false,↓OD,OA,reduceEqDiff,reduceCtorEq,reduceAdd,reduceLT,reduceLeDiff,reduceIte];refine aW _ _ (axL.any rfl rfl _) ?_;simp only[aa.width,aa.isAgg,aa.storable,aa.cells,Int.reduceEq,decide_true,decide_false,↓OD,OA,reduceEqDiff,reduceCtorEq,reduceAdd,reduceLT,reduceLeDiff,reduceIte];rw[aiF w x,show lN x.av 4 (br (nL w))=(uT 110 w x).av by cases x;rfl];exact je (.inl rfl) rfl
 ·simp only[aa.width,aa.isAgg,aa.storable,aa.cells,Int.reduceEq,decide_true,decide_false,↓OD,OA,reduceEqDiff,reduceCtorEq,reduceAdd,reduceLT,reduceLeDiff,reduceIte];refine aW _ _ ((aby w 34 hw).any rfl rfl _) ?_
  have x6:(jn 116 w x).isSome=(j7 w).isSome:=by
   unfold jn;rw[if_pos rfl];cases j7 w<;>rfl
  have hY:∀t,vn w=t->lN x.av 5 (bE t)=(uT 116 w x).av:=by
   rintro t rfl;cases x;rfl
  cases hb:bs w with
  |nil=>
   have hh:gA 34 w=false:=by
    unfold gA
    have h0:w.data.toList= []:=by
     have hl:=ep w;rw[hb]at hl;exact List.eq_nil_of_length_eq_zero (by rw[←Lib.size_eq];exact hl.symm)
    rw[h0];rfl
   have ht:vn w=⟨#[]⟩:=by unfold vn;rw[hb]
   have hs:j7 w=none:=by unfold j7;rw[hb]
   simp only[hh,aa.width,aa.isAgg,aa.storable,aa.cells,Int.reduceEq,decide_true,decide_false,↓OD,OA,reduceEqDiff,reduceCtorEq,reduceAdd,reduceLT,reduceLeDiff,reduceIte];rw[x6,hs,←hY _ ht];exact je (.inl rfl) rfl
  |cons c r=>
   have hd:w.data.toList.head?.map (λ c=>(c.toNat:Int))=some c:=by
    have:(bs w).head?=some c:=by rw[hb];rfl
    rw[←this,bs,List.head?_map]
   by_cases hc:c=34
   ·have hh:gA 34 w=true:=by
      unfold gA;cases hq:w.data.toList.head? with
      |none=>rw[hq]at hd;cases hd
      |some y=>
       rw[hq]at hd;simp only[map_some,Option.some.injEq]at hd;have:y=34:=UInt8.toNat_inj.1 (by have:(34:UInt8).toNat=34:=rfl;omega);rw[this];simp
    have hwl:w.size=r.length+1:=by rw[←ep w,hb];rfl
    have avc:=tC w 0 (by omega) hw _ rfl;have uO:(bs w).drop (0+1)=r:=by rw[hb];rfl
    rw[uO]at avc;simp only[hh,aa.width,aa.isAgg,aa.storable,aa.cells,Int.reduceEq,decide_true,decide_false,↓OD,OA,reduceEqDiff,reduceCtorEq,reduceAdd,reduceLT,reduceLeDiff,reduceIte];have hn0:(p8 0 (fB r)).ag=true:=by unfold p8;split<;>rfl
    refine aW _ _ (avc.any rfl hn0 _) ?_;cases hq:fB r with
    |none=>
     have ht:vn w=⟨#[]⟩:=by unfold vn;rw[hb];simp only[if_pos hc,hq]
     have hs:j7 w=none:=by unfold j7;rw[hb];simp only[if_pos hc,hq];rfl
     simp only[p8,aa.width,aa.isAgg,aa.storable,aa.cells,Int.reduceEq,decide_true,decide_false,↓OD,OA,reduceEqDiff,reduceCtorEq,reduceAdd,reduceLT,reduceLeDiff,reduceIte];rw[x6,hs,←hY _ ht];exact je (.inl rfl) rfl
    |some q=>
     have ht:vn w=pG q.1:=by unfold vn;rw[hb];simp only[if_pos hc,hq]
     have hs:j7 w=if q.2=r.length then some (pG q.1)else none:=by unfold j7;rw[hb];simp only[if_pos hc,hq];rfl
     simp only[p8,aa.width,aa.isAgg,aa.storable,aa.cells,Int.reduceEq,decide_true,decide_false,↓OD,OA,reduceEqDiff,reduceCtorEq,reduceAdd,reduceLT,reduceLeDiff,reduceIte];have hdc:decide (((1+q.2:Nat):Int)=(w.size:Int))=decide (q.2=r.length):=decide_eq_decide.2 (by omega);by_cases hq2:q.2=r.length
     ·rw[if_pos hq2]at hs;have hw2:=sI hs;have hqs:=wZ (pG q.1);rw[←hw2]at hqs;have hde:decide (iD (pG q.1)=w)=true:=decide_eq_true hw2.symm;simp only[hdc,decide_eq_true hq2,↓OD,OA,reduceEqDiff,reduceCtorEq,reduceAdd,reduceLT,reduceLeDiff,reduceIte];refine aW _ _ ((pL (pG q.1) (by omega)).any rfl rfl _) ?_;simp only[hde,aa.width,aa.isAgg,aa.storable,aa.cells,↓OD,OA,reduceEqDiff,reduceCtorEq,reduceAdd,reduceLT,reduceLeDiff,reduceIte];rw[x6,hs,←hY _ ht];exact je (.inl rfl) rfl
     ·rw[if_neg hq2]at hs;simp only[hdc,decide_eq_false hq2,aa.width,aa.isAgg,aa.storable,aa.cells,↓OD,OA,reduceEqDiff,reduceCtorEq,reduceAdd,reduceLT,reduceLeDiff,reduceIte];rw[x6,hs,←hY _ ht];exact je (.inl rfl) rfl
   ·have hh:gA 34 w=false:=by
      unfold gA;cases hq:w.data.toList.head? with
      |none=>rfl
      |some y=>
       rw[hq]at hd;simp only[map_some,Option.some.injEq]at hd;refine decide_eq_false λ h=>hc ?_
       injection h with h;rw[h]at hd;exact hd.symm
    have ht:vn w=⟨#[]⟩:=by unfold vn;rw[hb];simp only[if_neg hc]
    have hs:j7 w=none:=by unfold j7;rw[hb];simp only[if_neg hc]
    simp only[hh,aa.width,aa.isAgg,aa.storable,aa.cells,Int.reduceEq,decide_true,decide_false,↓OD,OA,reduceEqDiff,reduceCtorEq,reduceAdd,reduceLT,reduceLeDiff,reduceIte];rw[x6,hs,←hY _ ht];exact je (.inl rfl) rfl
end Go.Proofs.Ab
