/-
  TYPES MADE ONE, the plain law: what is put for metas; types that come back.
-/
import Derived.Test.YtfebhekplhjigaaPUni4
import Derived.Test.YtfebhekplhjigaaCPut
open Nat(add_mul)
open Bool(and_eq_true)
open List(map_cons sum_cons length_cons mem_of_getElem?)
set_option linter.unusedSimpArgs false
set_option linter.unusedVariables false
namespace Go.Ab
set_option maxRecDepth 100000
theorem aa.sub_congr{σ τ:Int->aa}(x:aa)(h:x.allM λ n=>σ n=τ n):x.sub σ=x.sub τ:=by
 rw[aa.sub_eq,aa.sub_eq];by_cases hk:x.Kind=11
 ·rw[if_pos hk,if_pos hk];exact(aa.rq h hk).2.2
 ·rw[if_neg hk,if_neg hk];have:x.Kids.map (aa.sub σ)=x.Kids.map (aa.sub τ):=List.map_congr_left λ y hy=>aa.sub_congr y (aa.mB h y hy)
  rw[this]
termination_by SizeOf.sizeOf x
decreasing_by exact aa.cW hy
def atL(ts:List aa):Int->aa:=λ n=>(ts[n.toNat]?).getD (cN n)
theorem aa.ai5(ts:List aa)(x:aa)(h:x.allM λ n=>∃j:Nat,j<ts.length/\n=j):x.put 11 ts=x.sub (atL ts):=by
 rw[aa.put_eq,aa.sub_eq];by_cases hk:x.Kind=11
 ·obtain⟨_,_,j,hj,e⟩:=aa.rq h hk;rw[if_pos ⟨hk,by omega⟩,if_pos hk,e];unfold atL;rw[Int.toNat_natCast,List.getElem?_eq_getElem hj];rfl
 ·rw[if_neg (λ q=>hk q.1),if_neg hk];have:x.Kids.map (λ y=>y.put 11 ts)=x.Kids.map (aa.sub (atL ts)):=List.map_congr_left λ y hy=>aa.ai5 ts y (aa.mB h y hy)
  rw[this]
termination_by SizeOf.sizeOf x
decreasing_by exact aa.cW hy
theorem ahD{K N:Int}{S:ByteArray}{l l':List aa}(h:l'.length=l.length):(aa.mk K N S l').eU=(aa.mk K N S l).eU:=by
 unfold aa.eU;simp only[aa.xK,aa.ass,aa.kg,aa.gI,h]
theorem aa.aiV{σ:Int->aa}(x:aa)(ho:x.jn=true)(h:x.allM λ n=>(σ n).jn=true):(x.sub σ).jn=true:=by
 rw[aa.sub_eq];by_cases hk:x.Kind=11
 ·rw[if_pos hk];exact(aa.rq h hk).2.2
 ·rw[if_neg hk];rw[aa.jW,and_eq_true]at ho⊢;refine⟨?_,List.all_eq_true.2 λ y hy=> ?_⟩
  ·rw[ahD (l:=x.Kids) (by simp),←x.qC];exact ho.1
  ·obtain⟨z,hz,rfl⟩:=List.mem_map.1 (show y∈x.Kids.map (aa.sub σ)from hy);exact aa.aiV z (List.all_eq_true.1 ho.2 z hz) (aa.mB h z hz)
termination_by SizeOf.sizeOf x
decreasing_by exact aa.cW hz
theorem aa.aiU{σ:Int->aa}{B:Nat}(hB:1<=B)(x:aa)(h:x.allM λ n=>(σ n).dw<=B):(x.sub σ).dw<=x.dw*B:=by
 have h1:=x.lA;rw[aa.sub_eq];by_cases hk:x.Kind=11
 ·rw[if_pos hk];have h2:=(aa.rq h hk).2.2;have h3:1*B<=x.dw*B:=Nat.mul_le_mul_right _ (by omega);omega
 ·rw[if_neg hk,aa.lA]
  show 1+((x.Kids.map (aa.sub σ)).map aa.dw).sum<=_
  have key:∀l:List aa,(∀y∈l,(y.sub σ).dw<=y.dw*B)->((l.map (aa.sub σ)).map aa.dw).sum<=(l.map aa.dw).sum*B:=by
   intro l
   induction l with
   |nil=>intro _;simp
   |cons y l ih=>
    intro h;have q1:=ih λ z hz=>h z (by simp[hz])
    have q2:=h y (by simp);simp only[map_cons,sum_cons,add_mul];omega
  have h2:=key x.Kids λ y hy=>aa.aiU hB y (aa.mB h y hy)
  rw[h1,add_mul];omega
termination_by SizeOf.sizeOf x
decreasing_by exact aa.cW hy
theorem aa.am6{x:aa}(h:x.jn=true):x.Name.size<=12:=by
 rw[aa.jW,and_eq_true]at h;have hn:=h.1;unfold aa.eU at hn;simp only[and_eq_true,Bool.or_eq_true,decide_eq_true_eq]at hn;obtain⟨⟨h1,_⟩,h2⟩:=hn;rcases h1 with h1|h1
 ·have e1:¬(x.Kind=1∨x.Kind=2∨x.Kind=3∨x.Kind=4):=by omega
  have e2:¬x.Kind=5:=by omega
  have e3:¬x.Kind=6:=by omega
  rw[if_neg e1,if_neg e2,if_neg e3,if_pos h1]at h2;unfold ahJ kS at h2;rw[and_eq_true]at h2;have h3:=h2.1;have hl:(bs x.Name).length=x.Name.size:=by simp[bs]
  generalize bs x.Name=l at h3 hl;cases l with
  |nil=>simp[tA]at h3
  |cons c r=>
   unfold tA at h3;simp only[and_eq_true,decide_eq_true_eq]at h3;have:=h3.1.1;simp at hl;omega
 ·rw[h1];decide
theorem aa.ahu(x:aa)(h:x.jn=true):x.wt+1<=13*x.dw:=by
 have h1:=aa.am6 h;have h2:=x.dH;have h3:=x.lA
 have hk:∀y∈x.Kids,y.jn=true:=by
  rw[aa.jW,and_eq_true,List.all_eq_true]at h;exact h.2
 have h4:∀l:List aa,(∀y∈l,y.wt+1<=13*y.dw)->l.length+(l.map aa.wt).sum<=13*(l.map aa.dw).sum:=by
  intro l
  induction l with
  |nil=>intro _;simp
  |cons y l ih=>
   intro h;have q1:=ih λ z hz=>h z (by simp[hz])
   have q2:=h y (by simp);simp only[length_cons,map_cons,sum_cons];omega
 have h5:=h4 x.Kids λ y hy=>aa.ahu y (hk y hy)
 omega
termination_by SizeOf.sizeOf x
decreasing_by exact aa.cW hy
theorem gH.facts{m:Int}{a b ts:List aa}{code:Int}(h:gH m a b ts code):ts.length<=300/\(∀t∈ts,t.dw<=200)/\0<=code/\code<=3/\(code≠0->ts= []):=by
 rcases h with⟨_,rfl,rfl⟩|⟨h0,h⟩
 ·exact⟨by simp,λ t ht=>by simp at ht,by decide,by decide,λ _=>rfl⟩
 ·obtain⟨h1,h2,_⟩:=kP h0;rcases h with⟨rfl,rfl,_⟩|⟨τ,hC,⟨rfl,rfl,_⟩|⟨rfl,h3,rfl⟩⟩
  ·exact⟨by simp,λ t ht=>by simp at ht,by decide,by decide,λ _=>rfl⟩
  ·exact⟨by simp,λ t ht=>by simp at ht,by decide,by decide,λ _=>rfl⟩
  ·refine⟨by simp;omega,λ t ht=> ?_,by decide,by decide,λ h=>(h rfl).elim⟩;obtain⟨k,hk,rfl⟩:=List.mem_map.1 ht;exact h3 k (List.mem_range.1 hk)
theorem amn:∀l:List aa,(∀y∈l,y.jn=true/\y.dw<=200)->l.length+(l.map aa.wt).sum<=2600*l.length
 | [],_=>by simp
 |y::l,h=>by
  have q1:=amn l λ z hz=>h z (by simp[hz])
  have q2:=aa.ahu y (h y (by simp)).1;have q3:=(h y (by simp)).2;simp only[length_cons,map_cons,sum_cons];omega
theorem gH.small{m:Int}{a b ts:List aa}{code:Int}(h:gH m a b ts code)(ho:∀t∈ts,t.jn=true):ts.length+(ts.map aa.wt).sum<=780000:=by
 obtain⟨h1,h2,_⟩:=h.facts;have:=amn ts λ y hy=>⟨ho y hy,h2 y hy⟩
 omega
theorem aa.amO(kd:Int)(l:List aa)(L:Nat)(hl:∀y∈l,y.wt<=L)(x:aa):(x.put kd l).wt+1<=(x.wt+1)*(L+1):=by
 have hpe:=x.put_eq kd l;have hw:=x.dH;have h1:1*(L+1)<=(x.wt+1)*(L+1):=Nat.mul_le_mul_right _ (by omega);have hx0:x.wt+1<=(x.wt+1)*(L+1):=Nat.le_mul_of_pos_right _ (by omega)
 split at hpe
 ·rw[hpe];cases hq:l[x.N.toNat]? with
  |none=>simp only[Option.getD_none];exact hx0
  |some y=>
   simp only[Option.getD_some];have:=hl y (mem_of_getElem? hq);omega
 ·have hs:∀ks:List aa,(∀y∈ks,(y.put kd l).wt+1<=(y.wt+1)*(L+1))->ks.length+((ks.map λ y=>y.put kd l).map aa.wt).sum<=(ks.length+(ks.map aa.wt).sum)*(L+1):=by
    intro ks
    induction ks with
    |nil=>intro _;simp
    |cons y ks ih=>
     intro h;have h2:=ih λ z hz=>h z (by simp[hz])
     have h3:=h y (by simp);simp only[length_cons,map_cons,sum_cons];have:(ks.length+1+(y.wt+(ks.map aa.wt).sum))*(L+1)=(y.wt+1)*(L+1)+(ks.length+(ks.map aa.wt).sum)*(L+1):=by rw[←add_mul];congr 1;omega
     omega
  have h2:=hs x.Kids λ y hy=>aa.amO kd l L hl y
  have hm:(x.put kd l).wt=x.Name.size+(x.Kids.length+((x.Kids.map λ y=>y.put kd l).map aa.wt).sum):=by
   rw[hpe,aa.dH,aa.kg,aa.gI,List.length_map]
  have h3:(x.wt+1)*(L+1)=(x.Name.size+1)*(L+1)+(x.Kids.length+(x.Kids.map aa.wt).sum)*(L+1):=by rw[←add_mul];congr 1;omega
  have h4:x.Name.size+1<=(x.Name.size+1)*(L+1):=Nat.le_mul_of_pos_right _ (by omega);omega
termination_by SizeOf.sizeOf x
decreasing_by all_goals exact aa.cW (by assumption)
theorem gH.ap9{m:Int}{a b ts:List aa}(h:gH m a b ts 0)(ho:∀t∈ts,t.jn=true):0<=m/\(ts.length:Int)=m/\a.length=b.length/\a.length<=200/\(∀x,x∈a∨x∈b->x.jn=true/\x.dw<=200/\(x.put 11 ts).wt<=520000)/\
  (∀(i:Nat) x y,a[i]? =some x->b[i]? =some y->x.put 11 ts=y.put 11 ts)/\∀t∈ts,t.put 11 ts=t:=by
 rcases h with⟨_,h,_⟩|⟨h0,h⟩
 ·cases h
 obtain⟨h1,h2,h3,h4,h5⟩:=kP h0;rcases h with⟨h,_⟩|⟨τ,hC,⟨h,_⟩|⟨_,hs,oI⟩⟩
 ·cases h
 ·cases h
 have hl:ts.length=m.toNat:=by rw[oI];simp
 have xi:∀j:Nat,j<m.toNat->atL ts j=τ j:=λ j hj=>by
  unfold atL;rw[Int.toNat_natCast,oI,List.getElem?_map,List.getElem?_range hj];rfl
 have aib:∀x:aa,(x.allM λ n=>∃j:Nat,j<m.toNat/\n=j)->x.put 11 ts=x.sub τ:=λ x hx=>by
  rw[aa.ai5 ts x (aa.jL (λ n hn=>by rw[hl];exact hn) x hx)];exact aa.sub_congr x (aa.jL (λ n ⟨j,hj,e⟩=>by subst e;exact xi j hj) x hx)
 have ko:∀x,x∈a∨x∈b->x.dw<=200:=λ x hx=>by
  unfold ch at h0;simp only[and_eq_true,List.all_eq_true]at h0;have:=h0.2 x (List.mem_append.2 hx);unfold fH at this;simp only[and_eq_true,decide_eq_true_eq]at this;exact this.1.2
 have ayH:∀j:Nat,j<m.toNat->(τ j).jn=true:=λ j hj=>ho _ (by rw[oI];exact List.mem_map.2 ⟨j,List.mem_range.2 hj,rfl⟩)
 refine⟨h1,by omega,h3,h4,λ x hx=> ?_,λ i x y hx hy=> ?_,λ t ht=> ?_⟩
 ·obtain⟨q1,q2⟩:=h5 x hx;refine⟨q1,ko x hx,?_⟩;rw[aib x q2];have w1:=aa.aiV (σ:=τ) x q1 (aa.jL (λ n ⟨j,hj,e⟩=>by subst e;exact ayH j hj) x q2);have w2:=aa.aiU (σ:=τ) (B:=200) (by decide) x (aa.jL (λ n ⟨j,hj,e⟩=>by subst e;exact hs j hj) x q2);have w3:=aa.ahu _ w1;have w4:=ko x hx;have w5:x.dw*200<=200*200:=Nat.mul_le_mul_right _ w4;omega
 ·have hxm:=mem_of_getElem? hx;have hym:=mem_of_getElem? hy;rw[aib x (h5 x (.inl hxm)).2,aib y (h5 y (.inr hym)).2]
  have hz:(x,y)∈a.zip b:=by
   refine mem_of_getElem? (i:=i) ?_;rw[List.getElem?_zip_eq_some];exact⟨hx,hy⟩
  exact hC.uni (x,y) hz
 ·rw[oI]at ht;obtain⟨k,hk,rfl⟩:=List.mem_map.1 ht;have hf:=hC.fix k (List.mem_range.1 hk);rw[aib _ (aa.jL (λ n ⟨j,hj,e,_⟩=>⟨j,hj,e⟩) _ hf)];exact aa.acD _ (aa.jL (λ n ⟨j,hj,e,q⟩=>by subst e;exact q) _ hf)
end Go.Ab
