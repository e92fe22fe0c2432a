/-
  TYPES MADE ONE, the plain law: more nodes; a run over the pairs; the answer.
-/
import Derived.Test.YtfebhekplhjigaaPUni2
import Derived.Test.YtfebhekplhjigaaCSiz
import Derived.Test.YtfebhekplhjigaaCFree
open Nat(le_refl)
set_option linter.unusedVariables false
set_option linter.unusedSimpArgs false
namespace Go.Ab
set_option maxRecDepth 100000
def jy(m:Int)(t:aa):Bool:=t.iU&&decide (t.eW<=200)&&(t.bC 11).all λ n=>decide (n<m)
def dA(m:Int)(a b:List aa):Bool:=ld m 0 300&&decide (a.length=b.length)&&decide (a.length<=200)&&(a++b).all (jy m)
structure vZ(S:Net)(up:Nat->Nat)(S':Net)(cj:Nat->Nat):Prop where
 N:S.N<=S'.N
 M:S'.M=S.M
 gB:∀x,x<S.N->S'.ty x=S.ty x/\S'.kids x=S.kids x/\cj x=up x
 new:∀x,S.N<=x->x<S'.N->cj x=x/\¬S'.mX x
section
variable {S S':Net} {up cj:Nat->Nat}
theorem vZ.mX(g:vZ S up S' cj){x:Nat}(hx:x<S.N):S'.mX x↔S.mX x:=by unfold Net.mX;rw[(g.gB x hx).1]
theorem cr.grow(g:vZ S up S' cj)(hl:∀x,x<S.N->up x<S.N){x r:Nat}(h:cr up x r)(hx:x<S.N):cr cj x r:=by
 induction h with
 |here x h=>exact .here x (by rw[(g.gB x hx).2.2];exact h)
 |step x r h _ ih=>
  have e:=(g.gB x hx).2.2;exact .step x r (by rw[e];exact h) (by rw[e];exact ih (hl x hx))
theorem tk.grow(g:vZ S up S' cj)(hl:∀x,x<S.N->up x<S.N){x y:Nat}(h:tk up x y)(hx:x<S.N)(hy:y<S.N):tk cj x y:=by
 obtain⟨r,a,b⟩:=h;exact⟨r,a.grow g hl hx,b.grow g hl hy⟩
theorem vZ.tot(g:vZ S up S' cj)(hl:∀x,x<S.N->up x<S.N)(ht:∀x,x<S.N->∃r,cr up x r):∀x,x<S'.N->∃r,cr cj x r:=λ x hx=>by
 by_cases h:x<S.N
 ·obtain⟨r,hr⟩:=ht x h;exact⟨r,hr.grow g hl h⟩
 ·exact⟨x,.here x (g.new x (by omega) hx).1⟩
theorem vZ.inv(g:vZ S up S' cj)(hl:∀x,x<S.N->up x<S.N)(ht:∀x,x<S.N->∃r,cr up x r){x r:Nat}(hx:x<S.N)(h:cr cj x r):cr up x r:=by
 obtain⟨s,hs⟩:=ht x hx;have:=h.qq (hs.grow g hl hx);subst this;exact hs
theorem UF.grow(g:vZ S up S' cj)(hs:S.ok)(hs':S'.ok)(h:UF S up []):UF S' cj []:=by
 have hl:=h.lt;have ht':=g.tot hl h.tot;refine⟨λ x hx=> ?_,ht',λ x r hx k hm=> ?_,λ x r hx k hm=> ?_⟩
 ·by_cases th:x<S.N
  ·rw[(g.gB x th).2.2];exact Nat.lt_of_lt_of_le (hl x th) g.N
  ·rw[(g.new x (by omega) hx).1];exact hx
 ·by_cases th:x<S.N
  ·have k0:=g.inv hl h.tot th k;have hrn:=k0.lt hl th;obtain⟨a,b⟩:=h.rk x r th k0 ((g.mX hrn).1 hm);exact⟨(g.mX th).2 a,b⟩
  ·obtain⟨a,b⟩:=g.new x (by omega) hx;have:=k.self a;subst this;exact(b hm).elim
 ·by_cases th:x<S.N
  ·have k0:=g.inv hl h.tot th k;have hrn:=k0.lt hl th;obtain⟨⟨a1,a2,a3,a4⟩,b⟩:=h.cl x r th k0 (λ q=>hm ((g.mX th).2 q));obtain⟨e1,e2,_⟩:=g.gB x th;obtain⟨f1,f2,_⟩:=g.gB r hrn;refine⟨⟨by rw[e1,f1];exact a1,by rw[e1,f1];exact a2,by rw[e1,f1];exact a3,by rw[e2,f2];exact a4⟩,λ i p q hp hq=> ?_⟩;rw[e2]at hp;rw[f2]at hq;exact .base _ _ ((b i p q hp hq).none.grow g hl (hs.lt x th p (List.mem_of_getElem? hp)) (hs.lt r hrn q (List.mem_of_getElem? hq)))
  ·have:=k.self (g.new x (by omega) hx).1;subst this;refine⟨⟨rfl,rfl,rfl,rfl⟩,λ i p q hp hq=> ?_⟩;rw[hp]at hq;cases hq;obtain⟨s,hsr⟩:=ht' p (hs'.lt r hx p (List.mem_of_getElem? hp));exact .base _ _ ⟨s,hsr,hsr⟩
theorem Snd.grow(g:vZ S up S' cj)(hl:∀x,x<S.N->up x<S.N)(ht:∀x,x<S.N->∃r,cr up x r){σ:Int->aa}(h:Snd S up σ):Snd S' cj σ:=λ x r hx k=>by
 by_cases th:x<S.N
 ·have k0:=g.inv hl ht th k;rw[(g.gB x th).1,(g.gB r (k0.lt hl th)).1];exact h x r th k0
 ·have:=k.self (g.new x (by omega) hx).1;subst this;rfl
end
structure pY(S:Net)(up:Nat->Nat)(qs:List (Nat×Nat))(ps:List (aa×aa)):Prop where
 ok:S.ok
 uf:UF S up []
 lt:∀p∈qs,p.1<S.N/\p.2<S.N
 eqv:∀p∈qs,tk up p.1 p.2
 ty:ps=qs.map λ p=>(S.ty p.1,S.ty p.2)
 snd:∀σ:Int->aa,(∀p∈ps,p.1.sub σ=p.2.sub σ)->Snd S up σ
 okm:∀x,x<S.N->(S.ty x).iU=true
theorem pY.grow{S S':Net}{up cj:Nat->Nat}{qs:List (Nat×Nat)}{ps:List (aa×aa)}(h:pY S up qs ps)(g:vZ S up S' cj)(hs':S'.ok)(hk:∀x,S.N<=x->x<S'.N->(S'.ty x).iU=true):pY S' cj qs ps:=
 ⟨hs',h.uf.grow g h.ok hs',λ p hp=>⟨Nat.lt_of_lt_of_le (h.lt p hp).1 g.N,Nat.lt_of_lt_of_le (h.lt p hp).2 g.N⟩,λ p hp=>(h.eqv p hp).grow g h.uf.lt (h.lt p hp).1 (h.lt p hp).2,
  by rw[h.ty];exact List.map_congr_left λ p hp=>by rw[(g.gB _ (h.lt p hp).1).1,(g.gB _ (h.lt p hp).2).1],λ σ zH=>(h.snd σ zH).grow g h.uf.lt h.uf.tot,λ x hx=>by
  by_cases th:x<S.N
  ·rw[(g.gB x th).1];exact h.okm x th
  ·exact hk x (by omega) hx⟩
theorem pY.join{S:Net}{up cj:Nat->Nat}{qs:List (Nat×Nat)}{ps:List (aa×aa)}(h:pY S up qs ps){x y:Nat}(hx:x<S.N)(hy:y<S.N)(hj:Js S up [(x,y)] cj true):pY S cj (qs++ [(x,y)]) (ps++ [(S.ty x,S.ty y)]):=by
 have rT:∀p∈[(x,y)],p.1<S.N/\p.2<S.N:=λ p hp=>by rw[List.mem_singleton.1 hp];exact⟨hx,hy⟩
 have hu:UF S up ([(x,y)]++ []):=⟨h.uf.lt,h.uf.tot,h.uf.rk,λ z r hz k hm=>by
  obtain⟨a,b⟩:=h.uf.cl z r hz k hm;exact⟨a,λ i p q hp hq=> .base _ _ (b i p q hp hq).none⟩⟩
 obtain⟨u1,u2,u3⟩:=hj.uf [] h.ok rfl hu rT;refine⟨h.ok,u1,λ p hp=> ?_,λ p hp=> ?_,by rw[h.ty,List.map_append];rfl,λ σ zH=> ?_,h.okm⟩
 ·rcases List.mem_append.1 hp with hp|hp
  ·exact h.lt p hp
  ·exact rT p hp
 ·rcases List.mem_append.1 hp with hp|hp
  ·exact u2 _ _ (h.eqv p hp)
  ·exact u3 p hp
 ·refine(hj.sound σ h.ok h.uf.lt h.uf.tot rT (h.snd σ λ p hp=>zH p (by simp[hp])) λ p hp=> ?_).2;rw[List.mem_singleton.1 hp];exact zH (S.ty x,S.ty y) (by simp)
theorem pY.nQ{S:Net}{up cj:Nat->Nat}{qs:List (Nat×Nat)}{ps:List (aa×aa)}(h:pY S up qs ps){x y:Nat}(hx:x<S.N)(hy:y<S.N)(hj:Js S up [(x,y)] cj false):¬∃σ:Int->aa,∀p∈ps++ [(S.ty x,S.ty y)],p.1.sub σ=p.2.sub σ:=by
 rintro⟨σ,zH⟩;have rT:∀p∈[(x,y)],p.1<S.N/\p.2<S.N:=λ p hp=>by rw[List.mem_singleton.1 hp];exact⟨hx,hy⟩
 have:=(hj.sound σ h.ok h.uf.lt h.uf.tot rT (h.snd σ λ p hp=>zH p (by simp[hp])) λ p hp=>by
  rw[List.mem_singleton.1 hp];exact zH (S.ty x,S.ty y) (by simp)).1
 cases this
theorem pY.axK{S:Net}{up:Nat->Nat}{qs:List (Nat×Nat)}{ps:List (aa×aa)}(h:pY S up qs ps){z:Nat}(hz:z<S.N)(hd:Dn S up z z):¬∃σ:Int->aa,∀p∈ps,p.1.sub σ=p.2.sub σ:=by
 rintro⟨σ,zH⟩;obtain⟨t,ht⟩:=iC.exists h.ok h.uf (h.snd σ zH) _ z hz (le_refl _);exact hd.not t ht
theorem pY.canon{S:Net}{up:Nat->Nat}{qs:List (Nat×Nat)}{ps:List (aa×aa)}(h:pY S up qs ps){τ:Int->aa}(hτ:∀k:Nat,k<S.M->iC S up k (τ k)):Canon S.M ps τ:=
 Canon.asi h.ok h.uf hτ h.lt h.eqv h.ty h.snd
def Net.oi(M:Nat):Net:=⟨M,M,λ k=>er k,λ _=>[]⟩
theorem pY.init(M:Nat):pY (Net.oi M) id [] []:=by
 have hs:(Net.oi M).ok:=⟨le_refl _,λ x _ k hk=>by simp[Net.oi]at hk,λ x _=>rfl,λ k _=>⟨rfl,rfl⟩,λ x hx _=>hx⟩;refine⟨hs,⟨λ x hx=>hx,λ x _=>⟨x,.here x rfl⟩,λ x r _ k hm=> ?_,λ x r _ k hm=> ?_⟩,λ p hp=>by simp at hp,λ p hp=>by simp at hp,rfl,λ σ _ x r _ k=> ?_,λ x hx=> ?_⟩
 ·have:=k.self rfl;subst this;exact⟨hm,le_refl _⟩
 ·exact(hm rfl).elim
 ·have:=k.self rfl;subst this;rfl
 ·show(er x).iU=true;rw[aa.iw];simp[er,aa.eT,aa.Kind,aa.Kids,aa.N,aa.Name]
  rfl
def nc(m:Int)(a b:List aa)(ts:List aa)(code:Int):Prop:=
 (dA m a b=false/\code=1/\ts= [])∨(dA m a b=true/\
  ((code=2/\ts= []/\¬∃σ:Int->aa,∀p∈a.zip b,p.1.sub σ=p.2.sub σ)∨
    ∃τ,Canon m.toNat (a.zip b) τ/\((code=3/\ts= []/\∃k:Nat,k<m.toNat/\200<(τ k).eW)∨(code=0/\(∀k:Nat,k<m.toNat->(τ k).eW<=200)/\ts=(List.range m.toNat).map λ k:Nat=>τ k))))
end Go.Ab
