/-
  THE WHOLE TEXT OF CODE, line by line: what both parsers compute.
-/
import Derived.Test.YtkinchcjijhmgaaGreatDoorPLine2
set_option linter.unusedVariables false
set_option linter.unusedSimpArgs false
namespace Go.Ab
open Go.Proofs.Ab
set_option maxRecDepth 100000
theorem anQ(c:Int):1<=(aaV c).size:=by
 unfold aaV
 split
 ·rw[aL];have:(cP 92).size=1:=bo _;omega
 split
 ·rw[aL];have:(cP 92).size=1:=bo _;omega
 ·rw[bo];exact Nat.le_refl _
theorem ags:∀l:List Int,l.length<=(oo l).size
 | []=>Nat.zero_le _
 |c::r=>by
  have h1:=anQ c;have h2:=ags r;rw[oo,aL,List.length_cons];omega
theorem wZ(t:ByteArray):t.size+2<=(iD t).size:=by
 have h:=ags (bs t);have hl:=ep t;unfold iD;rw[aL,aL,bo];omega
theorem go_size:∀(cs:List Int) (o:Option ByteArray) (x y:aa),cs≠[]->uP cs o x=some y->y.Text.size+1<=x.Text.size+(zw o).size
 | [],_,_,_,h,_=>absurd rfl h
 |c::cs,none,x,y,_,h=>by rw[uP]at h;cases h
 |c::cs,some r,x,y,_,h=>by
  have hr:(zw (some r)).size=1+r.size:=by
   show(iq++r).size=_;rw[aL,de]
  rw[hr];rw[uP]at h
  split at h
  ·cases h
  ·split at h
   ·cases hs:j7 r with
    |none=>rw[hs]at h;cases h
    |some t=>
     rw[hs]at h;simp only[Option.map_some,Option.some.injEq]at h;subst h;have e:=wZ t;rw[←sI hs]at e
     show t.size+1<=_;omega
   ·cases hm:numOf c (aC 32 r).1 with
    |none=>rw[hm]at h;cases h
    |some n=>
     rw[hm]at h;simp only at h;obtain⟨_,e2⟩:=vR x c n;have hn:=congrArg ByteArray.size (mr r);rw[aL]at hn;cases cs with
     |nil=>
      cases ho:(aC 32 r).2 with
      |some _=>rw[ho,uP]at h;cases h
      |none=>
       rw[ho,uP]at h;injection h with h;subst h;rw[e2];omega
     |cons d cs=>
      have ih:=go_size (d::cs) _ _ y (by simp) h;rw[e2]at ih;omega
theorem aeI:∀p∈gN,p.1.size<=(opN p.1).size:=by
 intro p hp;simp only[gN,List.mem_cons,List.not_mem_nil,or_false]at hp;rcases hp with rfl|rfl|rfl|rfl|rfl|rfl<;>decide
theorem yh{w s:ByteArray}:∀l:List (ByteArray×ByteArray),jm w l=some s->∃t,(s,t)∈l
 | [],h=>by simp[jm]at h
 |(a,b)::r,h=>by
  rw[jm]at h
  split at h
  ·injection h with h;subst h;exact⟨b,by simp⟩
  ·obtain⟨t,ht⟩:=yh r h;exact⟨t,by simp[ht]⟩
def agX(w:ByteArray)(f:Int×ByteArray×ByteArray):Prop:=f.2.1.size<=w.size/\bs f.2.2≠[]
theorem abA{w:ByteArray}{n:Int}{p:ByteArray}(h:bs p≠[]):agX w (n,⟨#[]⟩,p):=⟨Nat.zero_le _,h⟩
theorem agW{w:ByteArray}{n:Int}{p:ByteArray}(h:bs p≠[]):agX w (n,w,p):=⟨Nat.le_refl _,h⟩
theorem apa(w:ByteArray):agX w (nI w):=by
 unfold nI;cases h:jm w gN with
 |some s=>
  simp only;have e:=qN _ h;obtain⟨t,ht⟩:=yh _ h;have hs:=aeI _ ht;refine⟨?_,show bs (⟨#[97,98,99]⟩:ByteArray)≠[] by decide⟩;rw[←e];exact hs
 |none=>
  simp only
  repeat (refine mS (λ h=>by first|exact abA (by decide)|exact agW (by decide)) λ _=> ?_)
  exact abA (by decide)
theorem aiD(w:ByteArray):(fu w).2.1.size<=w.size/\bs (fu w).2.2≠[]:=by
 show agX w (fu w);unfold fu
 repeat (refine mS (λ h=>by first|exact abA (by decide)|exact agW (by decide)) λ _=> ?_)
 exact apa w
theorem xf{line:ByteArray}{x:aa}(h:eR line=some x):x.Text.size+1<=line.size:=by
 obtain⟨h1,h2⟩:=aiD (aC 32 line).1;have h3:=go_size _ _ _ x h2 h;have hn:=congrArg ByteArray.size (mr line);rw[aL]at hn;have e:(mU (fu (aC 32 line).1)).Text=(fu (aC 32 line).1).2.1:=rfl;rw[e]at h3;omega
end Go.Ab
