/-
  TYPES MADE ONE, the plain law: more nodes; a run over the pairs; the answer.
-/
import Derived.Test.YtfebhekplhjigaaPUni2
import Derived.Test.YtfebhekplhjigaaCSiz
import Derived.Test.YtfebhekplhjigaaCFree
open Nat(le_refl)
set_option linter.unusedSimpArgs false
set_option linter.unusedVariables false
namespace Go.Ab
set_option maxRecDepth 100000
def fH(m:Int)(t:aa):Bool:=t.jn&&decide (t.dw<=200)&&(t.dn 11).all λ n=>decide (n<m)
def ch(m:Int)(a b:List aa):Bool:=l9 m 0 300&&decide (a.length=b.length)&&decide (a.length<=200)&&(a++b).all (fH m)
structure vF(S:Net)(up:Nat->Nat)(S':Net)(bw:Nat->Nat):Prop where
 N:S.N<=S'.N
 M:S'.M=S.M
 fx:∀x,x<S.N->S'.ty x=S.ty x/\S'.kids x=S.kids x/\bw x=up x
 new:∀x,S.N<=x->x<S'.N->bw x=x/\¬S'.lh x
section
variable {S S':Net} {up bw:Nat->Nat}
theorem vF.lh(g:vF S up S' bw){x:Nat}(hx:x<S.N):S'.lh x↔S.lh x:=by unfold Net.lh;rw[(g.fx x hx).1]
theorem bI.grow(g:vF S up S' bw)(hl:∀x,x<S.N->up x<S.N){x r:Nat}(h:bI up x r)(hx:x<S.N):bI bw x r:=by
 induction h with
 |here x h=>exact .here x (by rw[(g.fx x hx).2.2];exact h)
 |step x r h _ ih=>
  have e:=(g.fx x hx).2.2;exact .step x r (by rw[e];exact h) (by rw[e];exact ih (hl x hx))
theorem uy.grow(g:vF S up S' bw)(hl:∀x,x<S.N->up x<S.N){x y:Nat}(h:uy up x y)(hx:x<S.N)(hy:y<S.N):uy bw x y:=by
 obtain⟨r,a,b⟩:=h;exact⟨r,a.grow g hl hx,b.grow g hl hy⟩
theorem vF.tot(g:vF S up S' bw)(hl:∀x,x<S.N->up x<S.N)(ht:∀x,x<S.N->∃r,bI up x r):∀x,x<S'.N->∃r,bI bw x r:=λ x hx=>by
 by_cases h:x<S.N
 ·obtain⟨r,hr⟩:=ht x h;exact⟨r,hr.grow g hl h⟩
 ·exact⟨x,.here x (g.new x (by omega) hx).1⟩
theorem vF.inv(g:vF S up S' bw)(hl:∀x,x<S.N->up x<S.N)(ht:∀x,x<S.N->∃r,bI up x r){x r:Nat}(hx:x<S.N)(h:bI bw x r):bI up x r:=by
 obtain⟨s,hs⟩:=ht x hx;have:=h.pf (hs.grow g hl hx);subst this;exact hs
theorem UF.grow(g:vF S up S' bw)(hs:S.ok)(hs':S'.ok)(h:UF S up []):UF S' bw []:=by
 have hl:=h.lt;have ht':=g.tot hl h.tot;refine⟨λ x hx=> ?_,ht',λ x r hx k hm=> ?_,λ x r hx k hm=> ?_⟩
 ·by_cases qo:x<S.N
  ·rw[(g.fx x qo).2.2];exact Nat.lt_of_lt_of_le (hl x qo) g.N
  ·rw[(g.new x (by omega) hx).1];exact hx
 ·by_cases qo:x<S.N
  ·have k0:=g.inv hl h.tot qo k;have hrn:=k0.lt hl qo;obtain⟨a,b⟩:=h.rk x r qo k0 ((g.lh hrn).1 hm);exact⟨(g.lh qo).2 a,b⟩
  ·obtain⟨a,b⟩:=g.new x (by omega) hx;have:=k.self a;subst this;exact(b hm).elim
 ·by_cases qo:x<S.N
  ·have k0:=g.inv hl h.tot qo k;have hrn:=k0.lt hl qo;obtain⟨⟨a1,a2,a3,a4⟩,b⟩:=h.cl x r qo k0 (λ q=>hm ((g.lh qo).2 q));obtain⟨e1,e2,_⟩:=g.fx x qo;obtain⟨f1,f2,_⟩:=g.fx r hrn;refine⟨⟨by rw[e1,f1];exact a1,by rw[e1,f1];exact a2,by rw[e1,f1];exact a3,by rw[e2,f2];exact a4⟩,λ i p q hp hq=> ?_⟩;rw[e2]at hp;rw[f2]at hq;exact .base _ _ ((b i p q hp hq).none.grow g hl (hs.lt x qo p (List.mem_of_getElem? hp)) (hs.lt r hrn q (List.mem_of_getElem? hq)))
  ·have:=k.self (g.new x (by omega) hx).1;subst this;refine⟨⟨rfl,rfl,rfl,rfl⟩,λ i p q hp hq=> ?_⟩;rw[hp]at hq;cases hq;obtain⟨s,hsr⟩:=ht' p (hs'.lt r hx p (List.mem_of_getElem? hp));exact .base _ _ ⟨s,hsr,hsr⟩
theorem Snd.grow(g:vF S up S' bw)(hl:∀x,x<S.N->up x<S.N)(ht:∀x,x<S.N->∃r,bI up x r){σ:Int->aa}(h:Snd S up σ):Snd S' bw σ:=λ x r hx k=>by
 by_cases qo:x<S.N
 ·have k0:=g.inv hl ht qo k;rw[(g.fx x qo).1,(g.fx r (k0.lt hl qo)).1];exact h x r qo k0
 ·have:=k.self (g.new x (by omega) hx).1;subst this;rfl
end
structure pQ(S:Net)(up:Nat->Nat)(qs:List (Nat×Nat))(ps:List (aa×aa)):Prop where
 ok:S.ok
 uf:UF S up []
 lt:∀p∈qs,p.1<S.N/\p.2<S.N
 eqv:∀p∈qs,uy up p.1 p.2
 ty:ps=qs.map λ p=>(S.ty p.1,S.ty p.2)
 snd:∀σ:Int->aa,(∀p∈ps,p.1.sub σ=p.2.sub σ)->Snd S up σ
 okm:∀x,x<S.N->(S.ty x).jn=true
theorem pQ.grow{S S':Net}{up bw:Nat->Nat}{qs:List (Nat×Nat)}{ps:List (aa×aa)}(h:pQ S up qs ps)(g:vF S up S' bw)(hs':S'.ok)(hk:∀x,S.N<=x->x<S'.N->(S'.ty x).jn=true):pQ S' bw qs ps:=
 ⟨hs',h.uf.grow g h.ok hs',λ p hp=>⟨Nat.lt_of_lt_of_le (h.lt p hp).1 g.N,Nat.lt_of_lt_of_le (h.lt p hp).2 g.N⟩,λ p hp=>(h.eqv p hp).grow g h.uf.lt (h.lt p hp).1 (h.lt p hp).2,
  by rw[h.ty];exact List.map_congr_left λ p hp=>by rw[(g.fx _ (h.lt p hp).1).1,(g.fx _ (h.lt p hp).2).1],λ σ zE=>(h.snd σ zE).grow g h.uf.lt h.uf.tot,λ x hx=>by
  by_cases qo:x<S.N
  ·rw[(g.fx x qo).1];exact h.okm x qo
  ·exact hk x (by omega) hx⟩
theorem pQ.join{S:Net}{up bw:Nat->Nat}{qs:List (Nat×Nat)}{ps:List (aa×aa)}(h:pQ S up qs ps){x y:Nat}(hx:x<S.N)(hy:y<S.N)(hj:Js S up [(x,y)] bw true):pQ S bw (qs++ [(x,y)]) (ps++ [(S.ty x,S.ty y)]):=by
 have tV:∀p∈[(x,y)],p.1<S.N/\p.2<S.N:=λ p hp=>by rw[List.mem_singleton.1 hp];exact⟨hx,hy⟩
 have hu:UF S up ([(x,y)]++ []):=⟨h.uf.lt,h.uf.tot,h.uf.rk,λ z r hz k hm=>by
  obtain⟨a,b⟩:=h.uf.cl z r hz k hm;exact⟨a,λ i p q hp hq=> .base _ _ (b i p q hp hq).none⟩⟩
 obtain⟨u1,u2,u3⟩:=hj.uf [] h.ok rfl hu tV;refine⟨h.ok,u1,λ p hp=> ?_,λ p hp=> ?_,by rw[h.ty,List.map_append];rfl,λ σ zE=> ?_,h.okm⟩
 ·rcases List.mem_append.1 hp with hp|hp
  ·exact h.lt p hp
  ·exact tV p hp
 ·rcases List.mem_append.1 hp with hp|hp
  ·exact u2 _ _ (h.eqv p hp)
  ·exact u3 p hp
 ·refine(hj.sound σ h.ok h.uf.lt h.uf.tot tV (h.snd σ λ p hp=>zE p (by simp[hp])) λ p hp=> ?_).2;rw[List.mem_singleton.1 hp];exact zE (S.ty x,S.ty y) (by simp)
theorem pQ.jH{S:Net}{up bw:Nat->Nat}{qs:List (Nat×Nat)}{ps:List (aa×aa)}(h:pQ S up qs ps){x y:Nat}(hx:x<S.N)(hy:y<S.N)(hj:Js S up [(x,y)] bw false):¬∃σ:Int->aa,∀p∈ps++ [(S.ty x,S.ty y)],p.1.sub σ=p.2.sub σ:=by
 rintro⟨σ,zE⟩;have tV:∀p∈[(x,y)],p.1<S.N/\p.2<S.N:=λ p hp=>by rw[List.mem_singleton.1 hp];exact⟨hx,hy⟩
 have:=(hj.sound σ h.ok h.uf.lt h.uf.tot tV (h.snd σ λ p hp=>zE p (by simp[hp])) λ p hp=>by
  rw[List.mem_singleton.1 hp];exact zE (S.ty x,S.ty y) (by simp)).1
 cases this
theorem pQ.ath{S:Net}{up:Nat->Nat}{qs:List (Nat×Nat)}{ps:List (aa×aa)}(h:pQ S up qs ps){z:Nat}(hz:z<S.N)(hd:Dn S up z z):¬∃σ:Int->aa,∀p∈ps,p.1.sub σ=p.2.sub σ:=by
 rintro⟨σ,zE⟩;obtain⟨t,ht⟩:=gP.exists h.ok h.uf (h.snd σ zE) _ z hz (le_refl _);exact hd.not t ht
theorem pQ.canon{S:Net}{up:Nat->Nat}{qs:List (Nat×Nat)}{ps:List (aa×aa)}(h:pQ S up qs ps){τ:Int->aa}(xb:∀k:Nat,k<S.M->gP S up k (τ k)):Canon S.M ps τ:=
 Canon.auj h.ok h.uf xb h.lt h.eqv h.ty h.snd
def Net.jq(M:Nat):Net:=⟨M,M,λ k=>cN k,λ _=>[]⟩
theorem pQ.init(M:Nat):pQ (Net.jq M) id [] []:=by
 have hs:(Net.jq M).ok:=⟨le_refl _,λ x _ k hk=>by simp[Net.jq]at hk,λ x _=>rfl,λ k _=>⟨rfl,rfl⟩,λ x hx _=>hx⟩;refine⟨hs,⟨λ x hx=>hx,λ x _=>⟨x,.here x rfl⟩,λ x r _ k hm=> ?_,λ x r _ k hm=> ?_⟩,λ p hp=>by simp at hp,λ p hp=>by simp at hp,rfl,λ σ _ x r _ k=> ?_,λ x hx=> ?_⟩
 ·have:=k.self rfl;subst this;exact⟨hm,le_refl _⟩
 ·exact(hm rfl).elim
 ·have:=k.self rfl;subst this;rfl
 ·show(cN x).jn=true;rw[aa.jW];simp[cN,aa.eU,aa.Kind,aa.Kids,aa.N,aa.Name]
  rfl
def gH(m:Int)(a b:List aa)(ts:List aa)(code:Int):Prop:=
 (ch m a b=false/\code=1/\ts= [])∨(ch m a b=true/\
  ((code=2/\ts= []/\¬∃σ:Int->aa,∀p∈a.zip b,p.1.sub σ=p.2.sub σ)∨
    ∃τ,Canon m.toNat (a.zip b) τ/\((code=3/\ts= []/\∃k:Nat,k<m.toNat/\200<(τ k).dw)∨(code=0/\(∀k:Nat,k<m.toNat->(τ k).dw<=200)/\ts=(List.range m.toNat).map λ k:Nat=>τ k))))
theorem gH.unique{m:Int}{a b ts ts':List aa}{c c':Int}(h:gH m a b ts c)(h':gH m a b ts' c'):ts=ts'/\c=c':=by
 rcases h with⟨h0,h1,h2⟩|⟨h0,h⟩<;>rcases h' with⟨g0,g1,g2⟩|⟨g0,g⟩
 ·exact⟨h2.trans g2.symm,h1.trans g1.symm⟩
 ·rw[h0]at g0;cases g0
 ·rw[h0]at g0;cases g0
 ·rcases h with⟨h1,h2,h3⟩|⟨τ,xb,h⟩<;>rcases g with⟨g1,g2,g3⟩|⟨τ',ak1,g⟩
  ·exact⟨h2.trans g2.symm,h1.trans g1.symm⟩
  ·exact(h3 ⟨τ',ak1.uni⟩).elim
  ·exact(g3 ⟨τ,xb.uni⟩).elim
  ·have hu:=xb.unique ak1;rcases h with⟨h1,h2,k,hk,h3⟩|⟨h1,h2,h3⟩<;>rcases g with⟨g1,g2,k',nH,g3⟩|⟨g1,g2,g3⟩
   ·exact⟨h2.trans g2.symm,h1.trans g1.symm⟩
   ·have:=g2 k hk;rw[←hu k hk]at this;omega
   ·have:=h2 k' nH;rw[hu k' nH]at this;omega
   ·refine⟨?_,h1.trans g1.symm⟩;rw[h3,g3];exact List.map_congr_left λ k hk=>hu k (by simpa using hk)
end Go.Ab
