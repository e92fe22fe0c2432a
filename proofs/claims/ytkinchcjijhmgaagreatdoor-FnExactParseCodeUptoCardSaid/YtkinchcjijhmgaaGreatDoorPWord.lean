/-
  WORDS OF A TEXT: the first word and what stands behind its blank; all words; what strings.Split and strings.Cut say of them.
-/
import Derived.Test.YtkinchcjijhmgaaGreatDoorGM
import Derived.Lib.CutLaws
import Derived.Lib.IndexBytes
import Derived.Lib.SplitLaws
open Nat(le_refl)
open Option(map_none map_some)
set_option linter.unusedVariables false
set_option linter.unusedSimpArgs false
namespace Go.Ab
set_option maxRecDepth 100000
def gQ(c:UInt8):List UInt8->List UInt8×Option (List UInt8)
 | []=>([],none)
 |x::r=>if x=c then([],some r)else(x::(gQ c r).1,(gQ c r).2)
theorem zL(c:UInt8)(r:List UInt8):∀w:List UInt8,c∉w->gQ c (w++c::r)=(w,some r)
 | [],_=>by simp[gQ]
 |x::w,h=>by
  have h1:¬x=c:=λ e=>h (by simp[e])
  have h2:c∉w:=λ e=>h (by simp[e])
  rw[List.cons_append,gQ,if_neg h1,zL c r w h2]
theorem qA(c:UInt8):∀w:List UInt8,c∉w->gQ c w=(w,none)
 | [],_=>by simp[gQ]
 |x::w,h=>by
  have h1:¬x=c:=λ e=>h (by simp[e])
  have h2:c∉w:=λ e=>h (by simp[e])
  rw[gQ,if_neg h1,qA c w h2]
theorem qz(c:UInt8):∀l:List UInt8,c∉(gQ c l).1/\l=(gQ c l).1++(match(gQ c l).2 with|none=>[]|some r=>c::r)
 | []=>by simp[gQ]
 |x::r=>by
  rw[gQ]
  split
  ·rename_i h;simp[h]
  ·rename_i h;obtain⟨h1,h2⟩:=qz c r;refine⟨?_,?_⟩
   ·simp only[List.mem_cons,not_or];exact⟨λ e=>h e.symm,h1⟩
   ·simp only[List.cons_append];rw[←h2]
theorem uA(c:UInt8):∀l:List UInt8,Lib.index l [c]=match(gQ c l).2 with|none=> -1|some _=>((gQ c l).1.length:Int)
 | []=>by rw[Lib.index_one];simp[gQ,Lib.indexByte]
 |x::r=>by
  have ih:=uA c r;rw[Lib.index_one]at ih⊢;rw[gQ,Lib.indexByte];by_cases h:x=c
  ·simp[h]
  ·have hb:¬(x==c)=true:=by simpa using h
   rw[if_neg hb,if_neg h,ih];cases h2:(gQ c r).2 with
   |none=>simp
   |some y=>
    simp only[List.length_cons];rw[if_neg (by simp)];try omega
def aC(c:UInt8)(s:ByteArray):ByteArray×Option ByteArray:=
 (⟨(gQ c s.data.toList).1.toArray⟩,(gQ c s.data.toList).2.map λ r=>⟨r.toArray⟩)
theorem zM{c:UInt8}{s:ByteArray}{i:Nat}(h:s.data.toList[i]? =some c)(hn:∀j,j<i->s.data.toList[j]? ≠some c):
  aC c s=(s.extract 0 i,some (s.extract (i+1) s.size)):=by
 obtain⟨hi,he⟩:=List.getElem?_eq_some_iff.1 h
 have e:s.data.toList=s.data.toList.take i++c::s.data.toList.drop (i+1):=by
  rw[←he,←List.drop_eq_getElem_cons hi,List.take_append_drop]
 have hm:c∉s.data.toList.take i:=by
  intro hm;obtain⟨j,hj⟩:=List.mem_iff_getElem?.1 hm;rw[List.getElem?_take]at hj
  split at hj
  ·rename_i za;exact hn j za hj
  ·cases hj
 have q:=zL c (s.data.toList.drop (i+1)) _ hm;rw[←e]at q;unfold aC;rw[q];have e1:s.extract 0 i=⟨(s.data.toList.take i).toArray⟩:=by rw[Lib.extract_eq];simp
 have e2:s.extract (i+1) s.size=⟨(s.data.toList.drop (i+1)).toArray⟩:=by
  rw[Lib.extract_eq,List.take_of_length_le];rw[List.length_drop,←Lib.size_eq];exact le_refl _
 rw[e1,e2];rfl
theorem xp{c:UInt8}{s:ByteArray}(hn:∀j:Nat,s.data.toList[j]? ≠some c):aC c s=(s,none):=by
 have hm:c∉s.data.toList:=by
  intro hm;obtain⟨j,hj⟩:=List.mem_iff_getElem?.1 hm;exact hn j hj
 unfold aC;rw[qA c _ hm,Lib.mk_data];rfl
theorem acN(c:UInt8)(w:ByteArray)(h:c∉w.data.toList):aC c w=(w,none):=by
 unfold aC;rw[qA c _ h];simp only[Lib.mk_data,map_none]
theorem cj{c:UInt8}{s w r:ByteArray}(h:aC c s=(w,some r)):c∉w.data.toList/\s=w++(⟨#[c]⟩++r):=by
 obtain⟨h1,h2⟩:=qz c s.data.toList;unfold aC at h;generalize gQ c s.data.toList=q at h h1 h2;obtain⟨a,b⟩:=q;cases b with
 |none=>simp at h
 |some b=>
  simp only[map_some,Prod.mk.injEq,Option.some.injEq]at h;obtain⟨rfl,rfl⟩:=h;refine⟨h1,?_⟩;rw[←Lib.mk_data s,h2];apply ByteArray.ext;simp[ByteArray.data_append]
theorem fj{c:UInt8}{s w:ByteArray}(h:aC c s=(w,none)):c∉s.data.toList/\w=s:=by
 obtain⟨h1,h2⟩:=qz c s.data.toList;unfold aC at h;generalize gQ c s.data.toList=q at h h1 h2;obtain⟨a,b⟩:=q;cases b with
 |some b=>simp at h
 |none=>
  simp only[map_none,Prod.mk.injEq,and_true,List.append_nil]at h h2;subst h;rw[h2];refine⟨h1,?_⟩;rw[←h2,Lib.mk_data]
theorem oz(c:UInt8)(s:ByteArray):Lib.indexB s ⟨#[c]⟩=match(aC c s).2 with|none=> -1|some _=>((aC c s).1.size:Int):=by
 have h:=uA c s.data.toList;have e:Lib.indexB s ⟨#[c]⟩=Lib.index s.data.toList [c]:=rfl;rw[e,h];unfold aC;cases(gQ c s.data.toList).2 with
 |none=>rfl
 |some r=>simp only[map_some];rfl
theorem agb(w x:ByteArray):(w++x).data.toList=w.data.toList++x.data.toList:=by simp
theorem yn(w x:ByteArray):(w++x).extract 0 w.size=w:=by
 rw[Lib.extract_eq,agb,List.drop_zero,Nat.sub_zero,Lib.size_eq,List.take_left,Lib.mk_data]
theorem pg(w x:ByteArray)(c:UInt8):(w++(⟨#[c]⟩++x)).extract (w.size+1) (w++(⟨#[c]⟩++x)).size=x:=by
 rw[Lib.extract_eq,List.take_of_length_le]
 ·have e:(w++(⟨#[c]⟩++x)).data.toList=(w.data.toList++ [c])++x.data.toList:=by rw[agb,agb,List.append_assoc]
  have h:w.size+1=(w.data.toList++ [c]).length:=by rw[List.length_append,←Lib.size_eq];rfl
  rw[e,h,List.drop_left,Lib.mk_data]
 ·rw[List.length_drop,←Lib.size_eq];exact le_refl _
theorem jA(c:UInt8)(k:Nat)(s:ByteArray):Lib.splitB ⟨#[c]⟩ 0 (k+1) s=match aC c s with|(_,none)=>[s]|(w,some r)=>w::Lib.splitB ⟨#[c]⟩ 0 k r:=by
 have hi:=oz c s;rcases h:aC c s with⟨w,_|r⟩
 ·rw[h]at hi;exact Lib.splitB_miss _ _ _ _ hi
 ·rw[h]at hi;obtain⟨_,rfl⟩:=cj h;rw[Lib.splitB_hit _ _ _ _ w.size hi];have e:(⟨#[c]⟩:ByteArray).size=1:=rfl;simp only[e,Nat.add_zero,yn,pg]
theorem qT(c:UInt8)(s:ByteArray):Lib.countB s ⟨#[c]⟩=match(aC c s).2 with|none=>0|some r=>1+Lib.countB r ⟨#[c]⟩:=by
 have hi:=oz c s;rcases h:aC c s with⟨w,_|r⟩
 ·rw[h]at hi;exact Lib.countB_miss _ _ hi
 ·rw[h]at hi;obtain⟨_,rfl⟩:=cj h;have e:(⟨#[c]⟩:ByteArray).size=1:=rfl;rw[Lib.countB_hit _ _ w.size (by rw[e];exact le_refl _) hi,e,pg]
def df(c:UInt8)(s:ByteArray):List ByteArray:=Lib.splitB ⟨#[c]⟩ 0 (Lib.countB s ⟨#[c]⟩) s
theorem gJ{c:UInt8}{s w:ByteArray}(h:aC c s=(w,none)):df c s= [s]:=by
 unfold df;rw[qT,h];rfl
theorem iF{c:UInt8}{s w r:ByteArray}(h:aC c s=(w,some r)):df c s=w::df c r:=by
 unfold df;rw[qT,h];simp only;rw[Nat.add_comm,jA,h]
theorem oW(c:UInt8)(s:ByteArray):(df c s).length=Lib.countB s ⟨#[c]⟩+1:=Lib.splitB_all ⟨#[c]⟩ (le_refl _) 0 _ s rfl
theorem aca(c:UInt8)(s:ByteArray):df c s≠[]:=by
 intro h;have:=oW c s;rw[h]at this;simp at this
end Go.Ab
