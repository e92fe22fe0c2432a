/-
  A LINE OF CODE AS ITS PARSER TAKES IT: the parts of a form, word by word; what is taken is the line that the instruction prints.
-/
import Derived.Test.YtkinchcjijhmgaaGreatDoorCAsm
import Derived.Test.YtkinchcjijhmgaaGreatDoorCLexS
import Derived.Test.YtkinchcjijhmgaaGreatDoorPNum
import Derived.Test.YtkinchcjijhmgaaGreatDoorPWord
open Nat(le_refl)
open Option(bind_some map_some)
open List(length_cons)
set_option linter.unusedVariables false
set_option linter.unusedSimpArgs false
namespace Go.Ab
open Go.Proofs.Ab
set_option maxRecDepth 100000
def nQ(s:ByteArray):Option Int:=match s.data.toList with
 | []=>none
 |c::r=>if c=114 then(fS ⟨r.toArray⟩).bind λ n=>if 0<=n/\n<=15 then some n else none else none
def j7(s:ByteArray):Option ByteArray:=match bs s with
 | []=>none
 |c::r=>if c=34 then(fB r).bind λ q=>if q.2=r.length then some (pG q.1)else none else none
def aa.jt(x:aa)(c n:Int):aa:=if c=97 then⟨x.Op,n,x.B,x.C,x.N,x.Text⟩else if c=98 then⟨x.Op,x.A,n,x.C,x.N,x.Text⟩else if c=99 then⟨x.Op,x.A,x.B,n,x.N,x.Text⟩else⟨x.Op,x.A,x.B,x.C,n,x.Text⟩
def aa.aqV(x:aa)(t:ByteArray):aa:=⟨x.Op,x.A,x.B,x.C,x.N,t⟩
def aa.vI(x:aa)(c:Int):Int:=if c=97 then x.A else if c=98 then x.B else if c=99 then x.C else x.N
def numOf(c:Int)(w:ByteArray):Option Int:=if c=110 then fS w else nQ w
def uP:List Int->Option ByteArray->aa->Option aa
 | [],none,x=>some x
 | [],some _,_=>none
 |_::_,none,_=>none
 |c::cs,some r,x=>
  if c=32 then none
  else if c=116 then(j7 r).map λ t=>x.aqV t
  else match numOf c (aC 32 r).1 with
   |none=>none
   |some n=>uP cs (aC 32 r).2 (x.jt c n)
def mU(f:Int×ByteArray×ByteArray):aa:=⟨f.1,0,0,0,0,f.2.1⟩
def eR(line:ByteArray):Option aa:=uP (bs (fu (aC 32 line).1).2.2) (aC 32 line).2 (mU (fu (aC 32 line).1))
def jn(c:Int)(w:ByteArray)(x:aa):Option aa:=if c=116 then(j7 w).map λ t=>x.aqV t else(numOf c w).map (x.jt c)
def j9:List Int->List ByteArray->aa->Option aa
 | [],[],x=>some x
 |c::cs,w::ws,x=>match jn c w x with
  |none=>none
  |some y=>j9 cs ws y
 |_,_,_=>none
theorem aa0(a b:ByteArray):bs (a++b)=bs a++bs b:=by simp only[bs,gX,List.map_append]
theorem akg(c:Int)(h0:0<=c)(h1:c<256):bs (cP c)= [c]:=by
 rw[←aa4,amD];intro x hx;rw[List.mem_singleton.1 hx];exact⟨h0,h1⟩
theorem mj{s:ByteArray}{n:Int}(h:nQ s=some n):0<=n/\n<=15/\s=cP 114++im n:=by
 unfold nQ at h;cases hs:s.data.toList with
 |nil=>rw[hs]at h;cases h
 |cons c r=>
  rw[hs]at h;simp only at h
  split at h
  ·rename_i hc;subst hc;cases hp:fS ⟨r.toArray⟩with
   |none=>rw[hp]at h;cases h
   |some m=>
    rw[hp]at h;simp only[bind_some]at h
    split at h
    ·injection h with h;subst h;obtain⟨_,e⟩:=jF hp;refine⟨by omega,by omega,?_⟩;rw[←e,←Lib.mk_data s,hs];exact fP (by rw[gX];rfl)
    ·cases h
  ·cases h
theorem acI{c:Int}{w:ByteArray}{n:Int}(h:numOf c w=some n):(32:UInt8)∉w.data.toList:=by
 have key:∀v:Int,(32:UInt8)∉(im v).data.toList:=by
  intro v hm;rw[o7]at hm;have:=afs v _ hm
  revert this;decide
 unfold numOf at h
 split at h
 ·obtain⟨_,rfl⟩:=jF h;exact key n
 ·obtain⟨_,_,rfl⟩:=mj h;intro hm;rw[gX]at hm;rcases List.mem_append.1 hm with hm|hm
  ·have e:(cP 114).data.toList= [114]:=rfl;rw[e]at hm
   revert hm;decide
  ·exact key n hm
theorem qe(c:UInt8):∀(k:Nat) (s:ByteArray),Lib.countB s ⟨#[c]⟩<=k->Lib.splitB ⟨#[c]⟩ 0 k s=df c s
 |0,s,h=>by
  have:Lib.countB s ⟨#[c]⟩=0:=by omega
  unfold df;rw[this]
 |k+1,s,h=>by
  rw[jA];rw[qT]at h;rcases hn:aC c s with⟨w,_|r⟩
  ·rw[gJ hn]
  ·rw[hn]at h;simp only at h;rw[iF hn];simp only;rw[qe c k r (by omega)]
theorem ahi(c:UInt8)(n:Nat)(s:ByteArray)(h:1<=n):Lib.splitB ⟨#[c]⟩ 0 (min n (s.size+1)- 1) s=Lib.splitB ⟨#[c]⟩ 0 (n- 1) s:=by
 by_cases hn:n<=s.size+1
 ·rw[Nat.min_eq_left hn]
 ·rw[Nat.min_eq_right (by omega)];have hc:=Lib.countB_le ⟨#[c]⟩ (le_refl _) s.size s (le_refl _);rw[qe c _ s (by omega),qe c _ s (by omega)]
theorem adt:∀(cs:List Int) (r:ByteArray) (x:aa),cs≠[]->(∀c∈cs,c≠32)->(∀c∈cs.dropLast,c≠116)->
  j9 cs (Lib.splitB ⟨#[32]⟩ 0 (cs.length- 1) r) x=uP cs (some r) x
 | [],_,_,h,_,_=>absurd rfl h
 | [c],r,x,_,h32,_=>by
   have hc:=h32 c (by simp);simp only[length_cons,List.length_nil,Nat.zero_add,Nat.sub_self,Lib.splitB_zero,j9,uP,jn,if_neg hc];by_cases ht:c=116
   ·simp only[if_pos ht];cases j7 r<;>rfl
   ·simp only[if_neg ht];rcases hn:aC 32 r with⟨w,_|r'⟩
    ·obtain⟨_,rfl⟩:=fj hn;simp only;cases numOf c w<;>rfl
    ·obtain⟨_,rfl⟩:=cj hn
     have:numOf c (w++(⟨#[32]⟩++r'))=none:=by
      cases hq:numOf c (w++(⟨#[32]⟩++r'))with
      |none=>rfl
      |some n=>exact absurd (by simp) (acI hq)
     rw[this];simp only[Option.map_none];cases numOf c w<;>rfl
 |c::d::cs,r,x,_,h32,zc=>by
  have hc:=h32 c (by simp);have ht:¬c=116:=zc c (by simp);have e:(c::d::cs).length- 1=((d::cs).length- 1)+1:=by simp
  rw[e,jA];rcases hn:aC 32 r with⟨w,_|r'⟩
  ·obtain⟨_,rfl⟩:=fj hn;simp only[j9,uP,jn,if_neg hc,if_neg ht,hn];cases numOf c w<;>rfl
  ·simp only[j9,uP,jn,if_neg hc,if_neg ht,hn];cases numOf c w with
   |none=>rfl
   |some n=>
    simp only[map_some]
    exact adt (d::cs) r' _ (by simp) (λ y hy=>h32 y (by simp[hy])) (λ y hy=>zc y (by
     rw[List.dropLast_cons_of_ne_nil (by simp)];simp[hy]))
theorem oc:∀(n:Nat) (l:List Int),l.length<=n->(∀c∈l,0<=c/\c<256)->∀q,fB l=some q->q.2<=l.length/\(∀c∈q.1,0<=c/\c<256)/\l.take q.2=bs (oo q.1)++ [34]
 |n,[],_,_,q,h=>by simp[fB]at h
 |0,c::r,hl,_,q,h=>by simp at hl
 |n+1,c::r,hl,hr,q,h=>by
  have hl':r.length<=n:=by simpa using hl
  have hc:=hr c (by simp);have lI:∀d∈r,0<=d/\d<256:=λ d hd=>hr d (by simp[hd])
  by_cases h34:c=34
  ·subst h34;rw[aeC]at h;injection h with h;subst h;exact⟨by simp,by simp,rfl⟩
  by_cases h92:c=92
  ·subst h92;cases r with
   |nil=>rw[l8 (by simp)]at h;cases h
   |cons d r=>
    have hd:=hr d (by simp);by_cases hd1:d=110∨d=34∨d=92
    ·rw[wv (d:=d) (e:=if d=110 then 10 else d) (by rcases hd1 with rfl|rfl|rfl<;>simp)]at h;cases hq:fB r with
     |none=>rw[hq]at h;cases h
     |some p=>
      rw[hq]at h;simp only[map_some,Option.some.injEq]at h;subst h;obtain⟨h1,h2,h3⟩:=oc n r (by simp at hl';omega) (λ y hy=>hr y (by simp[hy])) p hq;refine⟨by simp only[length_cons];omega,?_,?_⟩
      ·intro y hy;rcases List.mem_cons.1 hy with rfl|hy
       ·split<;>omega
       ·exact h2 y hy
      ·simp only[List.take_succ_cons,h3,oo,aa0,aaV];rcases hd1 with rfl|rfl|rfl<;>rfl
    ·rw[l8 (λ y r' e=>by injection e with e1 e2;subst e1;exact⟨λ e=>hd1 (.inl e),λ e=>hd1 (.inr (.inl e)),λ e=>hd1 (.inr (.inr e))⟩)]at h;cases h
  by_cases hp:jJ c 32 126=true
  ·rw[p9 h34 h92 hp]at h;cases hq:fB r with
   |none=>rw[hq]at h;cases h
   |some p=>
    rw[hq]at h;simp only[map_some,Option.some.injEq]at h;subst h;obtain⟨h1,h2,h3⟩:=oc n r hl' lI p hq;refine⟨by simp only[length_cons];omega,?_,?_⟩
    ·intro y hy;rcases List.mem_cons.1 hy with rfl|hy
     ·exact hc
     ·exact h2 y hy
    ·have h10:¬c=10:=by rintro rfl;revert hp;decide
     simp only[List.take_succ_cons,h3,oo,aa0,aaV,if_neg h10,if_neg (show¬(c=34∨c=92)from λ e=>e.elim h34 h92)];rw[akg c hc.1 hc.2];rfl
  ·rw[aaE h34 h92 (by simpa using hp)]at h;cases h
theorem sI{s t:ByteArray}(h:j7 s=some t):s=iD t:=by
 unfold j7 at h;cases hs:bs s with
 |nil=>rw[hs]at h;cases h
 |cons c r=>
  rw[hs]at h;simp only at h
  split at h
  ·rename_i hc;subst hc;cases hq:fB r with
   |none=>rw[hq]at h;cases h
   |some q=>
    rw[hq]at h;simp only[bind_some]at h
    split at h
    ·rename_i hl;injection h with h;subst h;obtain⟨_,h2,h3⟩:=oc _ r (le_refl _) (λ y hy=>iA (s:=s) (by rw[hs];simp[hy])) q hq;rw[hl,List.take_length]at h3;apply abP;rw[hs,h3];unfold iD;rw[aa0,aa0,amD h2];rfl
    ·cases h
  ·cases h
end Go.Ab
