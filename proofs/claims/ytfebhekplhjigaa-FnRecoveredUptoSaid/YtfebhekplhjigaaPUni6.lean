/-
  TYPES MADE ONE, the plain law: what was put comes back (FnRecovered).
-/
import Derived.Test.YtfebhekplhjigaaPUni5
open Bool(and_eq_true)
open List(mem_append all_eq_true)
set_option linter.unusedVariables false
set_option linter.unusedSimpArgs false
namespace Go.Ab
set_option maxRecDepth 100000
theorem jE{n k:Int}:∀{l:List aa},n∈aa.gH l k↔∃y∈l,n∈y.bC k
 | []=>by simp[aa.gH]
 |x::l=>by
  rw[aa.gH,mem_append,jE (l:=l)];simp
theorem aa.yV(x:aa)(h:x.iU=true):x.allM λ n=>n∈x.bC 11:=by
 have hk:∀y∈x.Kids,y.iU=true:=by
  rw[aa.iw,and_eq_true,all_eq_true]at h;exact h.2
 have key:(aa.mk x.Kind x.N x.Name x.Kids).allM λ n=>n∈x.bC 11:=by
  refine⟨λ sU=> ?_,(aa.lM _ _).2 λ y hy=> ?_⟩
  ·obtain⟨h1,h2,_⟩:=aa.sy h ⟨by omega,by omega⟩;exact⟨h1,h2,by rw[aa.kI,if_pos sU];simp⟩
  ·refine aa.jr (λ n hn=> ?_) y (aa.yV y (hk y hy));rw[aa.kI,mem_append];exact .inr (jE.2 ⟨y,hy,hn⟩)
 rwa [←x.ug]at key
termination_by SizeOf.sizeOf x
decreasing_by exact aa.cP hy
theorem aa.rU{Q:Int->Prop}(x:aa)(h:x.allM Q):∀n∈x.bC 11,Q n:=by
 intro n hn;rw[aa.kI,mem_append]at hn;rcases hn with hn|hn
 ·split at hn
  ·rename_i hk;rw[List.mem_singleton.1 hn];exact(aa.mS h hk).2.2
  ·simp at hn
 ·obtain⟨y,hy,hn⟩:=jE.1 hn;exact aa.rU y (aa.j8 h y hy) n hn
termination_by SizeOf.sizeOf x
decreasing_by exact aa.cP hy
theorem aa.ag4{σ τ:Int->aa}(x:aa)(ho:x.iU=true)(h:x.sub σ=x.sub τ):∀n∈x.bC 11,σ n=τ n:=by
 intro n hn
 have hk:∀y∈x.Kids,y.iU=true:=by
  have h':=ho;rw[aa.iw,and_eq_true,all_eq_true]at h';exact h'.2
 by_cases sU:x.Kind=11
 ·obtain⟨_,h2,_⟩:=aa.sy ho ⟨by omega,by omega⟩;rw[aa.pq σ sU,aa.pq τ sU]at h;rw[aa.kI,if_pos sU,h2,aa.gH]at hn;simp at hn;rw[hn];exact h
 ·rw[aa.np σ sU,aa.np τ sU]at h;have hm:=(aa.mk_inj h).2.2.2;rw[aa.kI,if_neg sU,List.nil_append]at hn;obtain⟨y,hy,hn⟩:=jE.1 hn;obtain⟨i,hi⟩:=List.getElem?_of_mem hy;have:=congrArg (λ l=>l[i]?) hm;simp only[List.getElem?_map,hi,Option.map_some,Option.some.injEq]at this;exact aa.ag4 y (hk y hy) this n hn
termination_by SizeOf.sizeOf x
decreasing_by exact aa.cP hy
theorem recovered{m:Int}{a0:aa}{ps ts:List aa}{code:Int}(h1:1<=m)(h2:m<=300)(ho:a0.iU=true)(hs:a0.eW<=12)(hf:∀n∈a0.bC 11,n<m)(hp:(ps.length:Int)=m)
  (hps:∀p∈ps,p.iU=true/\p.eW<=3/\p.allM λ _=>False) (hu:nc m [a0] [a0.put 11 ps] ts code):code=0/\∀n∈a0.bC 11,0<=n/\n<m/\∃t,ts[n.toNat]? =some t/\ps[n.toNat]? =some t:=by
 have jP:a0.allM λ n=>∃j:Nat,j<ps.length/\n=j:=aa.jr (λ n ⟨j,hj,e⟩=>⟨j,by omega,e⟩) a0 (yD (m:=m) a0 ho hf)
 have rT:∀n∈a0.bC 11,∃j:Nat,j<ps.length/\n=j:=aa.rU a0 jP
 have cz:∀j:Nat,j<ps.length->ti ps j∈ps:=λ j hj=>by
  unfold ti;rw[Int.toNat_natCast,List.getElem?_eq_getElem hj];exact List.getElem_mem hj
 have hb:a0.put 11 ps=a0.sub (ti ps):=aa.ahd ps a0 jP;rw[hb]at hu;have bok:(a0.sub (ti ps)).iU=true:=aa.ag3 a0 ho (aa.jr (λ n ⟨j,hj,e⟩=>by subst e;exact(hps _ (cz j hj)).1) a0 jP)
 have bsz:(a0.sub (ti ps)).eW<=36:=by
  have:=aa.ag2 (σ:=ti ps) (B:=3) (by decide) a0 (aa.jr (λ n ⟨j,hj,e⟩=>by subst e;exact(hps _ (cz j hj)).2.1) a0 jP);have:a0.eW*3<=12*3:=Nat.mul_le_mul_right _ hs;omega
 have bno:(a0.sub (ti ps)).allM λ _=>False:=by
  have key:∀(x:aa),(x.allM λ n=>(ti ps n).allM λ _=>False)->(x.sub (ti ps)).allM λ _=>False:=by
   intro x
   induction hn:SizeOf.sizeOf x using Nat.strongRecOn generalizing x with
   |_ n ih=>
    intro hx;by_cases hk:x.Kind=11
    ·rw[aa.pq _ hk];exact(aa.mS hx hk).2.2
    ·rw[aa.np _ hk];refine⟨λ h=>(hk h).elim,(aa.lM _ _).2 λ y hy=> ?_⟩;obtain⟨z,hz,rfl⟩:=List.mem_map.1 hy;exact ih _ (by rw[←hn];exact aa.cP hz) z rfl (aa.j8 hx z hz)
  exact key a0 (aa.jr (λ n ⟨j,hj,e⟩=>by subst e;exact(hps _ (cz j hj)).2.2) a0 jP)
 have aui:∀σ:Int->aa,(a0.sub (ti ps)).sub σ=a0.sub (ti ps):=λ σ=>aa.ag5 _ (aa.jr (λ _ h=>h.elim) _ bno)
 have hU:dA m [a0] [a0.sub (ti ps)]=true:=by
  have f1:jy m a0=true:=by
   unfold jy;simp only[and_eq_true,decide_eq_true_eq,all_eq_true];exact⟨⟨ho,by omega⟩,hf⟩
  have f2:jy m (a0.sub (ti ps))=true:=by
   unfold jy;simp only[and_eq_true,decide_eq_true_eq,all_eq_true];exact⟨⟨bok,by omega⟩,λ n hn=>(aa.rU _ bno n hn).elim⟩
  have f3:ld m 0 300=true:=by unfold ld;rw[decide_eq_true (by omega),decide_eq_true (by omega)];rfl
  unfold dA;rw[f3];simp[f1,f2]
 have ayW:∀p∈[a0].zip [a0.sub (ti ps)],p.1.sub (ti ps)=p.2.sub (ti ps):=λ p hp=>by
  rw[List.mem_singleton.1 (show p∈[(a0,a0.sub (ti ps))]from hp)];exact(aui _).symm
 let σ1:Int->aa:=λ n=>if n∈a0.bC 11 then ti ps n else er n
 have ayV:∀p∈[a0].zip [a0.sub (ti ps)],p.1.sub σ1=p.2.sub σ1:=λ p hp=>by
  rw[List.mem_singleton.1 (show p∈[(a0,a0.sub (ti ps))]from hp)]
  show a0.sub σ1=(a0.sub (ti ps)).sub σ1;rw[aui];exact aa.sub_congr a0 (aa.jr (λ n hn=>by simp only[σ1,if_pos hn]) a0 (aa.yV a0 ho))
 rcases hu with⟨h0,_⟩|⟨_,⟨_,_,cE⟩|⟨τ,hC,hh⟩⟩
 ·rw[hU]at h0;cases h0
 ·exact(cE ⟨_,ayW⟩).elim
 have hτ:∀n∈a0.bC 11,τ n=ti ps n:=by
  refine aa.ag4 a0 ho ?_;have:=hC.uni (a0,a0.sub (ti ps)) (by show _∈[(a0,a0.sub (ti ps))];simp);rw[aui]at this;exact this
 have hsm:∀k:Nat,k<m.toNat->(τ k).eW<=200:=λ k hk=>by
  by_cases hkf:(k:Int)∈a0.bC 11
  ·rw[hτ _ hkf];have:=(hps _ (cz k (by omega))).2.1;omega
  ·have hg:=hC.gen σ1 ayV k hk;have e1:σ1 k=er k:=if_neg hkf;rw[e1]at hg;by_cases hkd:(τ k).Kind=11
   ·have hfx:=hC.fix k hk;obtain⟨_,q2,_⟩:=aa.mS hfx hkd;rw[aa.jV,q2];simp
   ·rw[aa.np _ hkd]at hg;exact(hkd (aa.mk_inj hg).1).elim
 rcases hh with⟨_,_,k,hk,acf⟩|⟨hc,_,sa⟩
 ·have:=hsm k hk;omega
 ·refine⟨hc,λ n hn=> ?_⟩;obtain⟨j,hj,rfl⟩:=rT n hn;refine⟨by omega,by omega,τ j,?_,?_⟩
  ·rw[sa,Int.toNat_natCast,List.getElem?_map,List.getElem?_range (by omega)];rfl
  ·rw[hτ _ hn];unfold ti;rw[Int.toNat_natCast,List.getElem?_eq_getElem hj];rfl
end Go.Ab
