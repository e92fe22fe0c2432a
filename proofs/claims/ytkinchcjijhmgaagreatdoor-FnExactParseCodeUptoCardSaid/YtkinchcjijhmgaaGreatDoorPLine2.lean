/-
  WHAT IS TAKEN IS THE LINE THAT THE INSTRUCTION PRINTS.
-/
import Derived.Test.YtkinchcjijhmgaaGreatDoorPLine
open Bool(or_eq_true)
set_option linter.unusedVariables false
set_option linter.unusedSimpArgs false
namespace Go.Ab
open Go.Proofs.Ab
set_option maxRecDepth 100000
def aa.uh(x:aa):List Int->ByteArray
 | []=>⟨#[]⟩
 |c::r=>x.kU c++x.uh r
theorem ua(a:ByteArray):a++(⟨#[]⟩:ByteArray)=a:=fP (by rw[gX];simp)
theorem adR(a b c:ByteArray):a++b++c=a++(b++c):=fP (by simp only[gX,List.append_assoc])
theorem uu(x:aa):∀(l:List Int) (acc:ByteArray),x.kx l acc=acc++x.uh l
 | [],acc=>by rw[aa.kx,aa.uh,ua]
 |c::r,acc=>by rw[aa.kx,aa.uh,uu x r,adR]
def zw:Option ByteArray->ByteArray
 |none=>⟨#[]⟩
 |some r=>iq++r
theorem mr(s:ByteArray):s=(aC 32 s).1++zw (aC 32 s).2:=by
 rcases h:aC 32 s with⟨w,_|r⟩
 ·obtain⟨_,rfl⟩:=fj h;simp only[zw,ua]
 ·exact(cj h).2
def mQ(c:Int):Bool:=decide (c=97)||decide (c=98)||decide (c=99)||decide (c=110)||decide (c=116)
def aaf:List Int->Bool
 | []=>true
 |c::r=>mQ c&& !(r.contains c)&&(decide (c≠116)||r.isEmpty)&&aaf r
theorem ahV{c:Int}{w:ByteArray}{n:Int}(y:aa)(h:numOf c w=some n)(hl:mQ c=true)(zc:c≠116)(hy:y.vI c=n):y.kU c=iq++w:=by
 simp only[mQ,or_eq_true,decide_eq_true_eq]at hl;unfold numOf at h;rcases hl with(((rfl|rfl)|rfl)|rfl)|rfl
 ·obtain⟨_,_,rfl⟩:=mj h;rw[←hy];rfl
 ·obtain⟨_,_,rfl⟩:=mj h;rw[←hy];rfl
 ·obtain⟨_,_,rfl⟩:=mj h;rw[←hy];rfl
 ·obtain⟨_,rfl⟩:=jF h;rw[←hy];rfl
 ·exact absurd rfl zc
theorem ajO(x:aa)(c n:Int):(x.jt c n).vI c=n:=by
 unfold aa.jt aa.vI;by_cases h1:c=97
 ·simp only[h1,if_true];rfl
 by_cases h2:c=98
 ·simp only[h1,h2,if_true,if_false];rfl
 by_cases h3:c=99
 ·simp only[h1,h2,h3,if_true,if_false];rfl
 simp only[h1,h2,h3,if_false];rfl
theorem aeJ(x:aa)(c d n:Int)(hc:mQ c=true)(hc6:c≠116)(hd:mQ d=true)(hd6:d≠116)(h:d≠c):(x.jt c n).vI d=x.vI d:=by
 simp only[mQ,or_eq_true,decide_eq_true_eq]at hc hd;rcases hc with(((rfl|rfl)|rfl)|rfl)|rfl<;>rcases hd with(((rfl|rfl)|rfl)|rfl)|rfl<;>first|rfl|exact absurd rfl h|exact absurd rfl hc6|exact absurd rfl hd6
theorem vR(x:aa)(c n:Int):(x.jt c n).Op=x.Op/\(x.jt c n).Text=x.Text:=by
 unfold aa.jt
 split
 ·exact⟨rfl,rfl⟩
 split
 ·exact⟨rfl,rfl⟩
 split<;>exact⟨rfl,rfl⟩
theorem agT:∀(cs:List Int) (o:Option ByteArray) (x y:aa),aaf cs=true->uP cs o x=some y->
  y.Op=x.Op/\((116:Int)∉cs->y.Text=x.Text)/\(∀d,mQ d=true->d≠116->d∉cs->y.vI d=x.vI d)/\zw o=y.uh cs
 | [],none,x,y,_,h=>by
   rw[uP]at h;injection h with h;subst h;exact⟨rfl,λ _=>rfl,λ _ _ _ _=>rfl,rfl⟩
 | [],some r,x,y,_,h=>by rw[uP]at h;cases h
 |c::cs,none,x,y,_,h=>by rw[uP]at h;cases h
 |c::cs,some r,x,y,hg,h=>by
  rw[aaf]at hg;simp only[Bool.and_eq_true,or_eq_true,Bool.not_eq_true',decide_eq_true_eq]at hg;obtain⟨⟨⟨hl,hn⟩,h6⟩,hg⟩:=hg;have hn:c∉cs:=by simpa using hn
  rw[uP]at h
  split at h
  ·cases h
  ·split at h
   ·rename_i h32 zc;subst zc
    have he:cs= []:=by
     rcases h6 with h6|h6
     ·exact absurd rfl h6
     ·simpa using h6
    subst he;cases hs:j7 r with
    |none=>rw[hs]at h;cases h
    |some t=>
     rw[hs]at h;simp only[Option.map_some,Option.some.injEq]at h;subst h;refine⟨rfl,λ hh=>absurd (by simp) hh,λ d _ _ _=>rfl,?_⟩;rw[sI hs,aa.uh,aa.uh,ua];rfl
   ·rename_i h32 zc;cases hm:numOf c (aC 32 r).1 with
    |none=>rw[hm]at h;cases h
    |some n=>
     rw[hm]at h;simp only at h;obtain⟨h1,h2,h3,h4⟩:=agT cs _ _ y hg h;obtain⟨e1,e2⟩:=vR x c n;refine⟨h1.trans e1,λ hh=>(h2 λ hx=>hh (by simp[hx])).trans e2,λ d hd hd6 hdn=> ?_,?_⟩
     ·have hdc:d≠c:=λ e=>hdn (by simp[e])
      exact(h3 d hd hd6 λ hx=>hdn (by simp[hx])).trans (aeJ x c d n hl zc hd hd6 hdc)
     ·have hy:y.vI c=n:=(h3 c hl zc hn).trans (ajO x c n);rw[aa.uh,ahV y hm hl zc hy,←h4,adR,←mr];rfl
def agY(w:ByteArray)(f:Int×ByteArray×ByteArray):Prop:=
 f.2.2=⟨#[32]⟩∨((∀x:aa,x.Op=f.1->(f.1=7->x.Text=f.2.1)->x.bl=w)/\aaf (bs f.2.2)=true/\((116:Int)∈bs f.2.2->f.1≠7))
theorem mS{p:Prop}[Decidable p]{Q:Int×ByteArray×ByteArray->Prop}{a b:Int×ByteArray×ByteArray}(ha:p->Q a)(hb:¬p->Q b):Q (if p then a else b):=by
 split
 ·rename_i h;exact ha h
 ·rename_i h;exact hb h
theorem aeA(x:aa)(op:Nat)(h:x.Op=op)(h7:op≠7):x.bl=mL.getD op ⟨#[]⟩:=by
 unfold aa.bl;rw[h,if_neg (by omega),Int.toNat_natCast]
theorem cC(op:Nat)(h7:op≠7)(p:ByteArray)(hp:aaf (bs p)=true)(w:ByteArray)(hw:w=mL.getD op ⟨#[]⟩):agY w ((op:Int),⟨#[]⟩,p):=by
 refine .inr ⟨λ x h _=> ?_,hp,λ _=> ?_⟩
 ·rw[hw];exact aeA x op h h7
 ·simp only;omega
theorem sv(t p:ByteArray)(hp:aaf (bs p)=true)(h6:(116:Int)∉bs p)(w:ByteArray)(hw:w=opN t):agY w (7,t,p):=by
 refine .inr ⟨λ x h ht=> ?_,hp,λ hh=>absurd hh h6⟩;rw[hw,aa.bl,if_pos h,ht rfl]
theorem apb(w:ByteArray):agY w (nI w):=by
 unfold nI;cases h:jm w gN with
 |some s=>exact sv s _ rfl (by decide) w (qN _ h).symm
 |none=>
  simp only;refine mS (λ h=>sv w _ rfl (by decide) w (h▸rfl)) λ _=> ?_
  refine mS (λ h=>sv w _ rfl (by decide) w (h▸rfl)) λ _=> ?_
  refine mS (λ h=>sv w _ rfl (by decide) w (h▸rfl)) λ _=> ?_
  refine mS (λ h=>cC 8 (by decide) _ rfl w (h▸rfl)) λ _=> ?_
  refine mS (λ h=>cC 9 (by decide) _ rfl w (h▸rfl)) λ _=> ?_
  refine mS (λ h=>cC 10 (by decide) _ rfl w (h▸rfl)) λ _=> ?_
  refine mS (λ h=>cC 11 (by decide) _ rfl w (h▸rfl)) λ _=> ?_
  refine mS (λ h=>cC 12 (by decide) _ rfl w (h▸rfl)) λ _=> ?_
  refine mS (λ h=>cC 13 (by decide) _ rfl w (h▸rfl)) λ _=> ?_
  refine mS (λ h=>cC 14 (by decide) _ rfl w (h▸rfl)) λ _=> ?_
  refine mS (λ h=>cC 15 (by decide) _ rfl w (h▸rfl)) λ _=> ?_
  exact .inl rfl
theorem agV(w:ByteArray):agY w (fu w):=by
 unfold fu;refine mS (λ h=>cC 1 (by decide) _ rfl w (h▸rfl)) λ _=> ?_
 refine mS (λ h=>cC 2 (by decide) _ rfl w (h▸rfl)) λ _=> ?_
 refine mS (λ h=>cC 3 (by decide) _ rfl w (h▸rfl)) λ _=> ?_
 refine mS (λ h=>cC 4 (by decide) _ rfl w (h▸rfl)) λ _=> ?_
 refine mS (λ h=>cC 5 (by decide) _ rfl w (h▸rfl)) λ _=> ?_
 refine mS (λ h=>cC 6 (by decide) _ rfl w (h▸rfl)) λ _=> ?_
 exact apb w
theorem ae3{line:ByteArray}{x:aa}(h:eR line=some x):x.ac1=line:=by
 unfold eR at h;have hn:=mr line;generalize (aC 32 line).1=w at h hn;generalize (aC 32 line).2=o at h hn;rcases agV w with h32|⟨hw,hg,h7⟩
 ·rw[h32]at h;have e:bs (⟨#[32]⟩:ByteArray)= [32]:=rfl;rw[e]at h;cases o with
  |none=>rw[uP]at h;cases h
  |some r=>rw[uP,if_pos rfl]at h;cases h
 ·obtain⟨h1,h2,_,h4⟩:=agT _ _ _ _ hg h;have hx:x.bl=w:=hw x h1 λ e7=>h2 λ h6=>h7 h6 e7
  unfold aa.ac1;rw[uu,hx,←h4,←hn]
end Go.Ab
