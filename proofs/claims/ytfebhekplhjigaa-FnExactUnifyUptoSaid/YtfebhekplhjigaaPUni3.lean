/-
  TYPES MADE ONE, the plain law: more nodes; a run over the pairs; the answer.
-/
import Derived.Test.YtfebhekplhjigaaPUni2
import Derived.Test.YtfebhekplhjigaaCSiz
import Derived.Test.YtfebhekplhjigaaCFree
open Nat(le_refl)
set_option linter.unusedVariables false
set_option linter.unusedSimpArgs false
namespace Go.Ab
set_option maxRecDepth 100000
def fQ(m:Int)(t:ad):Bool:=t.mO&&decide (t.dP<=200)&&(t.cV 11).all λ n=>decide (n<m)
def b9(m:Int)(a b:List ad):Bool:=oa m 0 300&&decide (a.length=b.length)&&decide (a.length<=200)&&(a++b).all (fQ m)
structure yo(S:Net)(up:Nat->Nat)(S':Net)(bh:Nat->Nat):Prop where
 N:S.N<=S'.N
 M:S'.M=S.M
 fk:∀x,x<S.N->S'.ty x=S.ty x/\S'.kids x=S.kids x/\bh x=up x
 new:∀x,S.N<=x->x<S'.N->bh x=x/\¬S'.mq x
section
variable {S S':Net} {up bh:Nat->Nat}
theorem yo.mq(g:yo S up S' bh){x:Nat}(hx:x<S.N):S'.mq x↔S.mq x:=by unfold Net.mq;rw[(g.fk x hx).1]
theorem bw.grow(g:yo S up S' bh)(hl:∀x,x<S.N->up x<S.N){x r:Nat}(h:bw up x r)(hx:x<S.N):bw bh x r:=by
 induction h with
 |here x h=>exact .here x (by rw[(g.fk x hx).2.2];exact h)
 |step x r h _ ih=>
  have e:=(g.fk x hx).2.2;exact .step x r (by rw[e];exact h) (by rw[e];exact ih (hl x hx))
theorem xl.grow(g:yo S up S' bh)(hl:∀x,x<S.N->up x<S.N){x y:Nat}(h:xl up x y)(hx:x<S.N)(hy:y<S.N):xl bh x y:=by
 obtain⟨r,a,b⟩:=h;exact⟨r,a.grow g hl hx,b.grow g hl hy⟩
theorem yo.tot(g:yo S up S' bh)(hl:∀x,x<S.N->up x<S.N)(ht:∀x,x<S.N->∃r,bw up x r):∀x,x<S'.N->∃r,bw bh x r:=λ x hx=>by
 by_cases h:x<S.N
 ·obtain⟨r,hr⟩:=ht x h;exact⟨r,hr.grow g hl h⟩
 ·exact⟨x,.here x (g.new x (by omega) hx).1⟩
theorem yo.inv(g:yo S up S' bh)(hl:∀x,x<S.N->up x<S.N)(ht:∀x,x<S.N->∃r,bw up x r){x r:Nat}(hx:x<S.N)(h:bw bh x r):bw up x r:=by
 obtain⟨s,hs⟩:=ht x hx;have:=h.rF (hs.grow g hl hx);subst this;exact hs
theorem UF.grow(g:yo S up S' bh)(hs:S.ok)(hs':S'.ok)(h:UF S up []):UF S' bh []:=by
 have hl:=h.lt;have ht':=g.tot hl h.tot;refine⟨λ x hx=> ?_,ht',λ x r hx k hm=> ?_,λ x r hx k hm=> ?_⟩
 ·by_cases sZ:x<S.N
  ·rw[(g.fk x sZ).2.2];exact Nat.lt_of_lt_of_le (hl x sZ) g.N
  ·rw[(g.new x (by omega) hx).1];exact hx
 ·by_cases sZ:x<S.N
  ·have k0:=g.inv hl h.tot sZ k;have hrn:=k0.lt hl sZ;obtain⟨a,b⟩:=h.rk x r sZ k0 ((g.mq hrn).1 hm);exact⟨(g.mq sZ).2 a,b⟩
  ·obtain⟨a,b⟩:=g.new x (by omega) hx;have:=k.self a;subst this;exact(b hm).elim
 ·by_cases sZ:x<S.N
  ·have k0:=g.inv hl h.tot sZ k;have hrn:=k0.lt hl sZ;obtain⟨⟨a1,a2,a3,a4⟩,b⟩:=h.cl x r sZ k0 (λ q=>hm ((g.mq sZ).2 q));obtain⟨e1,e2,_⟩:=g.fk x sZ;obtain⟨f1,f2,_⟩:=g.fk r hrn;refine⟨⟨by rw[e1,f1];exact a1,by rw[e1,f1];exact a2,by rw[e1,f1];exact a3,by rw[e2,f2];exact a4⟩,λ i p q hp hq=> ?_⟩;rw[e2]at hp;rw[f2]at hq;exact .base _ _ ((b i p q hp hq).none.grow g hl (hs.lt x sZ p (List.mem_of_getElem? hp)) (hs.lt r hrn q (List.mem_of_getElem? hq)))
  ·have:=k.self (g.new x (by omega) hx).1;subst this;refine⟨⟨rfl,rfl,rfl,rfl⟩,λ i p q hp hq=> ?_⟩;rw[hp]at hq;cases hq;obtain⟨s,hsr⟩:=ht' p (hs'.lt r hx p (List.mem_of_getElem? hp));exact .base _ _ ⟨s,hsr,hsr⟩
theorem Snd.grow(g:yo S up S' bh)(hl:∀x,x<S.N->up x<S.N)(ht:∀x,x<S.N->∃r,bw up x r){σ:Int->ad}(h:Snd S up σ):Snd S' bh σ:=λ x r hx k=>by
 by_cases sZ:x<S.N
 ·have k0:=g.inv hl ht sZ k;rw[(g.fk x sZ).1,(g.fk r (k0.lt hl sZ)).1];exact h x r sZ k0
 ·have:=k.self (g.new x (by omega) hx).1;subst this;rfl
end
structure sm(S:Net)(up:Nat->Nat)(qs:List (Nat×Nat))(ps:List (ad×ad)):Prop where
 ok:S.ok
 uf:UF S up []
 lt:∀p∈qs,p.1<S.N/\p.2<S.N
 eqv:∀p∈qs,xl up p.1 p.2
 ty:ps=qs.map λ p=>(S.ty p.1,S.ty p.2)
 snd:∀σ:Int->ad,(∀p∈ps,p.1.sub σ=p.2.sub σ)->Snd S up σ
 okm:∀x,x<S.N->(S.ty x).mO=true
theorem sm.grow{S S':Net}{up bh:Nat->Nat}{qs:List (Nat×Nat)}{ps:List (ad×ad)}(h:sm S up qs ps)(g:yo S up S' bh)(hs':S'.ok)(hk:∀x,S.N<=x->x<S'.N->(S'.ty x).mO=true):sm S' bh qs ps:=
 ⟨hs',h.uf.grow g h.ok hs',λ p hp=>⟨Nat.lt_of_lt_of_le (h.lt p hp).1 g.N,Nat.lt_of_lt_of_le (h.lt p hp).2 g.N⟩,λ p hp=>(h.eqv p hp).grow g h.uf.lt (h.lt p hp).1 (h.lt p hp).2,
  by rw[h.ty];exact List.map_congr_left λ p hp=>by rw[(g.fk _ (h.lt p hp).1).1,(g.fk _ (h.lt p hp).2).1],λ σ hσ=>(h.snd σ hσ).grow g h.uf.lt h.uf.tot,λ x hx=>by
  by_cases sZ:x<S.N
  ·rw[(g.fk x sZ).1];exact h.okm x sZ
  ·exact hk x (by omega) hx⟩
theorem sm.join{S:Net}{up bh:Nat->Nat}{qs:List (Nat×Nat)}{ps:List (ad×ad)}(h:sm S up qs ps){x y:Nat}(hx:x<S.N)(hy:y<S.N)(hj:Js S up [(x,y)] bh true):sm S bh (qs++ [(x,y)]) (ps++ [(S.ty x,S.ty y)]):=by
 have hin:∀p∈[(x,y)],p.1<S.N/\p.2<S.N:=λ p hp=>by rw[List.mem_singleton.1 hp];exact⟨hx,hy⟩
 have hu:UF S up ([(x,y)]++ []):=⟨h.uf.lt,h.uf.tot,h.uf.rk,λ z r hz k hm=>by
  obtain⟨a,b⟩:=h.uf.cl z r hz k hm;exact⟨a,λ i p q hp hq=> .base _ _ (b i p q hp hq).none⟩⟩
 obtain⟨u1,u2,u3⟩:=hj.uf [] h.ok rfl hu hin;refine⟨h.ok,u1,λ p hp=> ?_,λ p hp=> ?_,by rw[h.ty,List.map_append];rfl,λ σ hσ=> ?_,h.okm⟩
 ·rcases List.mem_append.1 hp with hp|hp
  ·exact h.lt p hp
  ·exact hin p hp
 ·rcases List.mem_append.1 hp with hp|hp
  ·exact u2 _ _ (h.eqv p hp)
  ·exact u3 p hp
 ·refine(hj.sound σ h.ok h.uf.lt h.uf.tot hin (h.snd σ λ p hp=>hσ p (by simp[hp])) λ p hp=> ?_).2;rw[List.mem_singleton.1 hp];exact hσ (S.ty x,S.ty y) (by simp)
theorem sm.j6{S:Net}{up bh:Nat->Nat}{qs:List (Nat×Nat)}{ps:List (ad×ad)}(h:sm S up qs ps){x y:Nat}(hx:x<S.N)(hy:y<S.N)(hj:Js S up [(x,y)] bh false):¬∃σ:Int->ad,∀p∈ps++ [(S.ty x,S.ty y)],p.1.sub σ=p.2.sub σ:=by
 rintro⟨σ,hσ⟩;have hin:∀p∈[(x,y)],p.1<S.N/\p.2<S.N:=λ p hp=>by rw[List.mem_singleton.1 hp];exact⟨hx,hy⟩
 have:=(hj.sound σ h.ok h.uf.lt h.uf.tot hin (h.snd σ λ p hp=>hσ p (by simp[hp])) λ p hp=>by
  rw[List.mem_singleton.1 hp];exact hσ (S.ty x,S.ty y) (by simp)).1
 cases this
theorem sm.atn{S:Net}{up:Nat->Nat}{qs:List (Nat×Nat)}{ps:List (ad×ad)}(h:sm S up qs ps){z:Nat}(hz:z<S.N)(hd:Dn S up z z):¬∃σ:Int->ad,∀p∈ps,p.1.sub σ=p.2.sub σ:=by
 rintro⟨σ,hσ⟩;obtain⟨t,ht⟩:=gC.exists h.ok h.uf (h.snd σ hσ) _ z hz (le_refl _);exact hd.not t ht
theorem sm.canon{S:Net}{up:Nat->Nat}{qs:List (Nat×Nat)}{ps:List (ad×ad)}(h:sm S up qs ps){τ:Int->ad}(zp:∀k:Nat,k<S.M->gC S up k (τ k)):Canon S.M ps τ:=
 Canon.auh h.ok h.uf zp h.lt h.eqv h.ty h.snd
def Net.jG(M:Nat):Net:=⟨M,M,λ k=>eA k,λ _=>[]⟩
theorem sm.init(M:Nat):sm (Net.jG M) id [] []:=by
 have hs:(Net.jG M).ok:=⟨le_refl _,λ x _ k hk=>by simp[Net.jG]at hk,λ x _=>rfl,λ k _=>⟨rfl,rfl⟩,λ x hx _=>hx⟩;refine⟨hs,⟨λ x hx=>hx,λ x _=>⟨x,.here x rfl⟩,λ x r _ k hm=> ?_,λ x r _ k hm=> ?_⟩,λ p hp=>by simp at hp,λ p hp=>by simp at hp,rfl,λ σ _ x r _ k=> ?_,λ x hx=> ?_⟩
 ·have:=k.self rfl;subst this;exact⟨hm,le_refl _⟩
 ·exact(hm rfl).elim
 ·have:=k.self rfl;subst this;rfl
 ·show(eA x).mO=true;rw[ad.qU];simp[eA,ad.gL,ad.Kind,ad.Kids,ad.N,ad.Name]
  rfl
def iC(m:Int)(a b:List ad)(ts:List ad)(code:Int):Prop:=
 (b9 m a b=false/\code=1/\ts= [])∨(b9 m a b=true/\
  ((code=2/\ts= []/\¬∃σ:Int->ad,∀p∈a.zip b,p.1.sub σ=p.2.sub σ)∨
    ∃τ,Canon m.toNat (a.zip b) τ/\((code=3/\ts= []/\∃k:Nat,k<m.toNat/\200<(τ k).dP)∨(code=0/\(∀k:Nat,k<m.toNat->(τ k).dP<=200)/\ts=(List.range m.toNat).map λ k:Nat=>τ k))))
theorem iC.unique{m:Int}{a b ts ts':List ad}{c c':Int}(h:iC m a b ts c)(h':iC m a b ts' c'):ts=ts'/\c=c':=by
 rcases h with⟨h0,h1,h2⟩|⟨h0,h⟩<;>rcases h' with⟨g0,g1,g2⟩|⟨g0,g⟩
 ·exact⟨h2.trans g2.symm,h1.trans g1.symm⟩
 ·rw[h0]at g0;cases g0
 ·rw[h0]at g0;cases g0
 ·rcases h with⟨h1,h2,h3⟩|⟨τ,zp,h⟩<;>rcases g with⟨g1,g2,g3⟩|⟨τ',alY,g⟩
  ·exact⟨h2.trans g2.symm,h1.trans g1.symm⟩
  ·exact(h3 ⟨τ',alY.uni⟩).elim
  ·exact(g3 ⟨τ,zp.uni⟩).elim
  ·have hu:=zp.unique alY;rcases h with⟨h1,h2,k,hk,h3⟩|⟨h1,h2,h3⟩<;>rcases g with⟨g1,g2,k',pr,g3⟩|⟨g1,g2,g3⟩
   ·exact⟨h2.trans g2.symm,h1.trans g1.symm⟩
   ·have:=g2 k hk;rw[←hu k hk]at this;omega
   ·have:=h2 k' pr;rw[hu k' pr]at this;omega
   ·refine⟨?_,h1.trans g1.symm⟩;rw[h3,g3];exact List.map_congr_left λ k hk=>hu k (by simpa using hk)
end Go.Ab
