/-
  TYPES MADE ONE, the plain law: what is put for metas; types that come back.
-/
import Derived.Test.YtfebhekplhjigaaPUni4
import Derived.Test.YtfebhekplhjigaaCPut
open Nat(add_mul)
open Bool(and_eq_true)
open List(map_cons sum_cons length_cons)
set_option linter.unusedVariables false
set_option linter.unusedSimpArgs false
namespace Go.Ab
set_option maxRecDepth 100000
theorem aa.sub_congr{σ τ:Int->aa}(x:aa)(h:x.allM λ n=>σ n=τ n):x.sub σ=x.sub τ:=by
 rw[aa.sub_eq,aa.sub_eq];by_cases hk:x.Kind=11
 ·rw[if_pos hk,if_pos hk];exact(aa.mS h hk).2.2
 ·rw[if_neg hk,if_neg hk];have:x.Kids.map (aa.sub σ)=x.Kids.map (aa.sub τ):=List.map_congr_left λ y hy=>aa.sub_congr y (aa.j8 h y hy)
  rw[this]
termination_by SizeOf.sizeOf x
decreasing_by exact aa.cP hy
def ti(ts:List aa):Int->aa:=λ n=>(ts[n.toNat]?).getD (er n)
theorem aa.ahd(ts:List aa)(x:aa)(h:x.allM λ n=>∃j:Nat,j<ts.length/\n=j):x.put 11 ts=x.sub (ti ts):=by
 rw[aa.put_eq,aa.sub_eq];by_cases hk:x.Kind=11
 ·obtain⟨_,_,j,hj,e⟩:=aa.mS h hk;rw[if_pos ⟨hk,by omega⟩,if_pos hk,e];unfold ti;rw[Int.toNat_natCast,List.getElem?_eq_getElem hj];rfl
 ·rw[if_neg (λ q=>hk q.1),if_neg hk];have:x.Kids.map (λ y=>y.put 11 ts)=x.Kids.map (aa.sub (ti ts)):=List.map_congr_left λ y hy=>aa.ahd ts y (aa.j8 h y hy)
  rw[this]
termination_by SizeOf.sizeOf x
decreasing_by exact aa.cP hy
theorem afR{K N:Int}{S:ByteArray}{l l':List aa}(h:l'.length=l.length):(aa.mk K N S l').eT=(aa.mk K N S l).eT:=by
 unfold aa.eT;simp only[aa.wz,aa.aqq,aa.iL,aa.eR,h]
theorem aa.ag3{σ:Int->aa}(x:aa)(ho:x.iU=true)(h:x.allM λ n=>(σ n).iU=true):(x.sub σ).iU=true:=by
 rw[aa.sub_eq];by_cases hk:x.Kind=11
 ·rw[if_pos hk];exact(aa.mS h hk).2.2
 ·rw[if_neg hk];rw[aa.iw,and_eq_true]at ho⊢;refine⟨?_,List.all_eq_true.2 λ y hy=> ?_⟩
  ·rw[afR (l:=x.Kids) (by simp),←x.ug];exact ho.1
  ·obtain⟨z,hz,rfl⟩:=List.mem_map.1 (show y∈x.Kids.map (aa.sub σ)from hy);exact aa.ag3 z (List.all_eq_true.1 ho.2 z hz) (aa.j8 h z hz)
termination_by SizeOf.sizeOf x
decreasing_by exact aa.cP hz
theorem aa.ag2{σ:Int->aa}{B:Nat}(hB:1<=B)(x:aa)(h:x.allM λ n=>(σ n).eW<=B):(x.sub σ).eW<=x.eW*B:=by
 have h1:=x.jV;rw[aa.sub_eq];by_cases hk:x.Kind=11
 ·rw[if_pos hk];have h2:=(aa.mS h hk).2.2;have h3:1*B<=x.eW*B:=Nat.mul_le_mul_right _ (by omega);omega
 ·rw[if_neg hk,aa.jV]
  show 1+((x.Kids.map (aa.sub σ)).map aa.eW).sum<=_
  have key:∀l:List aa,(∀y∈l,(y.sub σ).eW<=y.eW*B)->((l.map (aa.sub σ)).map aa.eW).sum<=(l.map aa.eW).sum*B:=by
   intro l
   induction l with
   |nil=>intro _;simp
   |cons y l ih=>
    intro h;have q1:=ih λ z hz=>h z (by simp[hz])
    have q2:=h y (by simp);simp only[map_cons,sum_cons,add_mul];omega
  have h2:=key x.Kids λ y hy=>aa.ag2 hB y (aa.j8 h y hy)
  rw[h1,add_mul];omega
termination_by SizeOf.sizeOf x
decreasing_by exact aa.cP hy
theorem aa.ald{x:aa}(h:x.iU=true):x.Name.size<=12:=by
 rw[aa.iw,and_eq_true]at h;have hn:=h.1;unfold aa.eT at hn;simp only[and_eq_true,Bool.or_eq_true,decide_eq_true_eq]at hn;obtain⟨⟨h1,_⟩,h2⟩:=hn;rcases h1 with h1|h1
 ·have e1:¬(x.Kind=1∨x.Kind=2∨x.Kind=3∨x.Kind=4):=by omega
  have e2:¬x.Kind=5:=by omega
  have e3:¬x.Kind=6:=by omega
  rw[if_neg e1,if_neg e2,if_neg e3,if_pos h1]at h2;unfold afX kg at h2;rw[and_eq_true]at h2;have h3:=h2.1;have hl:(bs x.Name).length=x.Name.size:=by simp[bs]
  generalize bs x.Name=l at h3 hl;cases l with
  |nil=>simp[sB]at h3
  |cons c r=>
   unfold sB at h3;simp only[and_eq_true,decide_eq_true_eq]at h3;have:=h3.1.1;simp at hl;omega
 ·rw[h1];decide
theorem aa.afI(x:aa)(h:x.iU=true):x.wt+1<=13*x.eW:=by
 have h1:=aa.ald h;have h2:=x.bg;have h3:=x.jV
 have hk:∀y∈x.Kids,y.iU=true:=by
  rw[aa.iw,and_eq_true,List.all_eq_true]at h;exact h.2
 have h4:∀l:List aa,(∀y∈l,y.wt+1<=13*y.eW)->l.length+(l.map aa.wt).sum<=13*(l.map aa.eW).sum:=by
  intro l
  induction l with
  |nil=>intro _;simp
  |cons y l ih=>
   intro h;have q1:=ih λ z hz=>h z (by simp[hz])
   have q2:=h y (by simp);simp only[length_cons,map_cons,sum_cons];omega
 have h5:=h4 x.Kids λ y hy=>aa.afI y (hk y hy)
 omega
termination_by SizeOf.sizeOf x
decreasing_by exact aa.cP hy
theorem nc.facts{m:Int}{a b ts:List aa}{code:Int}(h:nc m a b ts code):ts.length<=300/\(∀t∈ts,t.eW<=200)/\0<=code/\code<=3/\(code≠0->ts= []):=by
 rcases h with⟨_,rfl,rfl⟩|⟨h0,h⟩
 ·exact⟨by simp,λ t ht=>by simp at ht,by decide,by decide,λ _=>rfl⟩
 ·obtain⟨h1,h2,_⟩:=qD h0;rcases h with⟨rfl,rfl,_⟩|⟨τ,hC,⟨rfl,rfl,_⟩|⟨rfl,h3,rfl⟩⟩
  ·exact⟨by simp,λ t ht=>by simp at ht,by decide,by decide,λ _=>rfl⟩
  ·exact⟨by simp,λ t ht=>by simp at ht,by decide,by decide,λ _=>rfl⟩
  ·refine⟨by simp;omega,λ t ht=> ?_,by decide,by decide,λ h=>(h rfl).elim⟩;obtain⟨k,hk,rfl⟩:=List.mem_map.1 ht;exact h3 k (List.mem_range.1 hk)
theorem akw:∀l:List aa,(∀y∈l,y.iU=true/\y.eW<=200)->l.length+(l.map aa.wt).sum<=2600*l.length
 | [],_=>by simp
 |y::l,h=>by
  have q1:=akw l λ z hz=>h z (by simp[hz])
  have q2:=aa.afI y (h y (by simp)).1;have q3:=(h y (by simp)).2;simp only[length_cons,map_cons,sum_cons];omega
theorem nc.small{m:Int}{a b ts:List aa}{code:Int}(h:nc m a b ts code)(ho:∀t∈ts,t.iU=true):ts.length+(ts.map aa.wt).sum<=780000:=by
 obtain⟨h1,h2,_⟩:=h.facts;have:=akw ts λ y hy=>⟨ho y hy,h2 y hy⟩
 omega
theorem aa.afv(kd:Int)(l:List aa)(L:Nat)(hl:∀y∈l,y.wt<=L)(x:aa):(x.put kd l).wt+1<=(x.wt+1)*(L+1):=by
 have hpe:=x.put_eq kd l;have hw:=x.bg;have h1:1*(L+1)<=(x.wt+1)*(L+1):=Nat.mul_le_mul_right _ (by omega);have hx0:x.wt+1<=(x.wt+1)*(L+1):=Nat.le_mul_of_pos_right _ (by omega)
 split at hpe
 ·rw[hpe];cases hq:l[x.N.toNat]? with
  |none=>simp only[Option.getD_none];exact hx0
  |some y=>
   simp only[Option.getD_some];have:=hl y (List.mem_of_getElem? hq);omega
 ·have hs:∀ks:List aa,(∀y∈ks,(y.put kd l).wt+1<=(y.wt+1)*(L+1))->ks.length+((ks.map λ y=>y.put kd l).map aa.wt).sum<=(ks.length+(ks.map aa.wt).sum)*(L+1):=by
    intro ks
    induction ks with
    |nil=>intro _;simp
    |cons y ks ih=>
     intro h;have h2:=ih λ z hz=>h z (by simp[hz])
     have h3:=h y (by simp);simp only[length_cons,map_cons,sum_cons];have:(ks.length+1+(y.wt+(ks.map aa.wt).sum))*(L+1)=(y.wt+1)*(L+1)+(ks.length+(ks.map aa.wt).sum)*(L+1):=by rw[←add_mul];congr 1;omega
     omega
  have h2:=hs x.Kids λ y hy=>aa.afv kd l L hl y
  have hm:(x.put kd l).wt=x.Name.size+(x.Kids.length+((x.Kids.map λ y=>y.put kd l).map aa.wt).sum):=by
   rw[hpe,aa.bg,aa.iL,aa.eR,List.length_map]
  have h3:(x.wt+1)*(L+1)=(x.Name.size+1)*(L+1)+(x.Kids.length+(x.Kids.map aa.wt).sum)*(L+1):=by rw[←add_mul];congr 1;omega
  have h4:x.Name.size+1<=(x.Name.size+1)*(L+1):=Nat.le_mul_of_pos_right _ (by omega);omega
termination_by SizeOf.sizeOf x
decreasing_by all_goals exact aa.cP (by assumption)
end Go.Ab
