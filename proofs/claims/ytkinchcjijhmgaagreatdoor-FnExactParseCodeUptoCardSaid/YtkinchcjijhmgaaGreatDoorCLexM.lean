/-
  THE LEXER IN PLAIN WORDS: blanks and notes, numbers, words, strings, signs; a whole text.
-/
import Derived.Test.YtkinchcjijhmgaaGreatDoorCLex
set_option linter.unusedVariables false
set_option linter.unusedSimpArgs false
namespace Go.Ab
set_option maxRecDepth 100000
set_option maxHeartbeats 4000000
set_option maxHeartbeats 4000000
theorem aqP(a:Int)(b:ByteArray)(c d:Int):(a6.mk a b c d).av= .agg [br a,bE b,br c,br d]:=nr rfl
def pG(l:List Int):ByteArray:=⟨(l.map λ c=>UInt8.ofNat c.toNat).toArray⟩
theorem amD{l:List Int}(h:∀c∈l,0<=c/\c<256):bs (pG l)=l:=by
 simp only[bs,pG,List.map_map]
 conv=>rhs;rw[←List.map_id l]
 refine List.map_congr_left λ c hc=> ?_
 obtain⟨h0,h1⟩:=h c hc;simp only[Function.comp_apply,UInt8.toNat_ofNat',id_eq];omega
theorem af7(s:ByteArray)(a b:Nat):bs (s.extract a b)=((bs s).drop a).take (b- a):=by
 simp only[bs]
 have:(s.extract a b).data.toList=(s.data.toList.drop a).take (b- a):=by
  rw[ByteArray.data_extract,Array.toList_extract]
 rw[this,List.map_take,List.map_drop]
def fB:List Int->Option (List Int×Nat)
 | []=>none
 |c::r=>if c=34 then some ([],1)
  else if c=92 then(match r with
   |d::r'=>if d=110 then(fB r').map λ q=>(10::q.1,q.2+2)else if d=34∨d=92 then(fB r').map λ q=>(d::q.1,q.2+2)else none
   | []=>none)
  else if jJ c 32 126=true then(fB r).map λ q=>(c::q.1,q.2+1)else none
section
variable (azY:Nat)
end
end Go.Ab
