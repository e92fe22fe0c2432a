/-
  The same for two results.
-/
import Derived.Test.YtfebhekplhjigaaWClo
open List(getElem?_eq_none getElem?_append_right getElem?_append_left)
set_option linter.unusedVariables false
set_option linter.unusedSimpArgs false
namespace Go.Ab
set_option maxRecDepth 100000
theorem WK.ap7{n0:Nat}{O:List ae}{cs:List AV}{nl:Bool}{j k len ty z:Nat}{ys xs:List AV}(hj:cs[j]? =some (.row k len))(hv:∀(i:Nat) c,i≠j->cs[i]? =some c->∃v,c= .v v)
  (hO:O[k]? =some (cK nl ty z ys)) (hl:ys.length=len) (hs:Split O ys xs):
  ∃O1,WK n0 (λ t=>if t=0 then .ba cs else .top) O (λ t=>if t=0 then .ba (cs.set j (.own O.length))else .top) (O1++ [.own (.sl xs)])/\O1.length=O.length/\∀m,m≠k->(∀(i:Nat) y (j:Nat),ys[i]? =some y->y.cells[j]? ≠some (.own m))->O1[m]? =O[m]? :=by
 classical
 let bad:Nat->Prop:=λ m=>m=k∨∃(i:Nat) (y:AV) (j:Nat),ys[i]? =some y/\y.cells[j]? =some (.own m)
 let O1:List ae:=(List.range O.length).map λ m=>if bad m then .dead else O.getD m .dead
 have hlen:O1.length=O.length:=by simp[O1]
 have cz:∀m,m<O.length->O1[m]? =if bad m then some .dead else O[m]? :=λ m hm=>by
  simp only[O1,List.getElem?_map,List.getElem?_range hm,Option.map_some]
  split
  ·rfl
  ·simp[List.getD,List.getElem?_eq_getElem hm]
 have yl:∀m,¬bad m->O1[m]? =O[m]? :=λ m hb=>by
  by_cases hm:m<O.length
  ·rw[cz m hm,if_neg hb]
  ·rw[getElem?_eq_none (by omega),getElem?_eq_none (by omega)]
 have hK:∀m:Nat,O1[m]? =O[m]? ∨O1[m]? =some .dead:=λ m=>by
  by_cases hb:bad m
  ·by_cases hm:m<O.length
   ·right;rw[cz m hm,if_pos hb]
   ·left;rw[getElem?_eq_none (by omega),getElem?_eq_none (by omega)]
  ·left;exact yl m hb
 have aL:∀{m:Nat} {ob:ae},O1[m]? =some ob->ob≠ .dead->¬bad m/\O[m]? =some ob:=by
  intro m ob hm bB;have o8:m<O.length:=by have:=(List.getElem?_eq_some_iff.1 hm).1;omega
  rw[cz m o8]at hm
  split at hm
  ·cases hm;exact(bB rfl).elim
  ·rename_i hb;exact⟨hb,hm⟩
 refine⟨O1,?_,hlen,λ m hm cE=>yl m λ hb=>by
  rcases hb with h|⟨i,y,j,h1,h2⟩
  ·exact hm h
  ·exact cE i y j h1 h2⟩
 intro I0 L0 O0 w0 I L w f wm hg hr;have pd:=hr 0;simp only[if_true]at pd;generalize hf:f 0=y0 at pd;cases pd with
 |ba _ vs h1 h2=>
 have hjl:=(List.getElem?_eq_some_iff.1 hj).1;have hjv:vs[j]? =some (vs[j]'(by omega)):=by simp[h1▸hjl]
 have hrj:=h2 j _ _ hj hjv
 obtain⟨S,hS,hb⟩:∃S:Nat->Prop,OT w (.sl xs) (vs[j]'(by omega)) S/\∀b,S b->(∃e s zs,O[k]? =some (.live e s zs)/\b=(L k).bh)∨∃(i:Nat) (y:AV) (j m:Nat) (a:AV),ys[i]? =some y/\y.cells[j]? =some (.own m)/\O[m]? =some (.own a)/\∃o v,(L m).mem b o=some v:=by
  by_cases hy:nl=true/\ys= []
  ·obtain⟨rfl,rfl⟩:=hy;have nU:xs= []:=List.eq_nil_of_length_eq_zero (by rw[←hs.len];rfl);subst nU;have o9:O[k]? =some (.nil ty z):=by rw[hO];simp[cK]
   rw[(hrj.kf o9).1];exact⟨_,.lG _ _,λ b h=>h.elim⟩
  ·have o9:O[k]? =some (.live ty z ys):=by rw[hO];unfold cK;rw[if_neg hy]
   rw[hrj.ep o9 hl,←hl,hs.len];obtain⟨S,s1,s2⟩:=hg.inv.ahP o9 hs;exact⟨S,s1,λ b hb=>(s2 b hb).imp (λ h=>⟨_,_,_,o9,h⟩) id⟩
 obtain⟨qT,hx1⟩:=hg.alO hlen hK
 have hLB:∀b,S b->LB L O b:=λ b hSb=>by
  rcases hb b hSb with⟨e,s,zs,g1,g2⟩|⟨i,y,j',m,a,g1,g2,g3,o,v,g4⟩
  ·exact .inl ⟨k,e,s,zs,g1,g2.symm⟩
  ·exact .inr (.inl ⟨m,a,o,v,g3,g4⟩)
 have k1:∀b,S b->¬LV L O1 b:=by
  rintro b hSb ⟨n,e,s,zs,hn,kV⟩;obtain⟨hnb,lz⟩:=aL hn (by simp);rcases hb b hSb with⟨e',s',zs',g1,g2⟩|⟨i,y,j',m,a,g1,g2,g3,o,v,g4⟩
  ·exact hnb (.inl (hg.inv.sep n k e s zs e' s' zs' lz g1 (kV.trans g2)))
  ·exact hg.inv.ow.live m a g3 b o v g4 n e s zs lz kV
 have k2:∀b,S b->¬OB L O1 b:=by
  rintro b hSb ⟨n,c,o,v,hn,jO⟩;obtain⟨hnb,lz⟩:=aL hn (by simp);rcases hb b hSb with⟨e',s',zs',g1,g2⟩|⟨i,y,j',m,a,g1,g2,g3,o',v',g4⟩
  ·exact hg.inv.ow.live n c lz b o v jO k e' s' zs' g1 g2.symm
  ·have:=hg.inv.ow.sep n m c a lz g3 b o o' v v' jO g4;exact hnb (.inr ⟨i,y,j',g1,by rw[this];exact g2⟩)
 have k3:∀b,S b->∀o,I b o=none:=by
  intro b hSb o;rcases hb b hSb with⟨e',s',zs',g1,g2⟩|⟨i,y,j',m,a,g1,g2,g3,o',v',g4⟩
  ·rw[g2];exact hg.inv.dS k e' s' zs' o g1
  ·exact hg.inv.ow.j4 m a g3 b o' v' g4 o
 obtain⟨hinv,hx2⟩:=qT.inv.acB hS k1 k2 k3;rw[hlen]at hinv hx2
 have tX:∀t,R I _ (O1++ [.own (.sl xs)]) ((λ t=>if t=0 then AV.ba (cs.set j (.own O.length))else AV.top) t) (f t):=λ t=>by
  by_cases ht:t=0
  ·subst ht;simp only[if_true];rw[hf];refine .ba _ vs (by simpa using h1) λ i c q hc hq=> ?_
   rw[List.getElem?_set]at hc
   split at hc
   ·rename_i qR;subst qR;cases hc;rw[hjv]at hq;cases hq;have dL:(O1++ [ae.own (.sl xs)])[O.length]? =some (.own (.sl xs)):=by rw[getElem?_append_right (by omega)];simp[hlen]
    have:=R.dV (I:=I) (L:=λ n=>if n=O.length then⟨0,0,vs[j]'(by omega),λ b o=>if S b then w.cell? ⟨b,o,none⟩else none⟩else L n) O.length (.sl xs) dL (by simp only[if_true];exact hS.we);simpa using this
   ·rename_i qR;obtain⟨v,rfl⟩:=hv i c (λ h=>qR h.symm) hc;have:=h2 i _ q hc hq;cases this;exact .v _ (by assumption)
  ·simp only[if_neg ht];exact .top _
 refine⟨I,_,⟨hinv,qT.ext.trans hx2,hg.pa,λ b h=> ?_,hg.iz⟩,tX⟩;rcases h with⟨n,e,s,zs,hn,kV⟩|⟨n,c,o,v,hn,jO⟩|⟨n,g,hn,kV⟩
 ·by_cases hnl:n<O.length
  ·rw[getElem?_append_left (by omega)]at hn;simp only[if_neg (show n≠O.length by omega)]at kV;exact qT.lb b (.inl ⟨n,e,s,zs,hn,kV⟩)
  ·rw[getElem?_append_right (by omega)]at hn;generalize n- O1.length=q at hn;cases q<;>simp at hn
 ·by_cases hnl:n<O.length
  ·rw[getElem?_append_left (by omega)]at hn;simp only[if_neg (show n≠O.length by omega)]at jO;exact qT.lb b (.inr (.inl ⟨n,c,o,v,hn,jO⟩))
  ·have bB:n=O.length:=by have:=(List.getElem?_eq_some_iff.1 hn).1;simp at this;omega
   simp only[if_pos bB]at jO
   have hSb:S b:=by
    by_cases lh:S b
    ·exact lh
    ·simp[lh]at jO
   exact hg.lb b (hLB b hSb)
 ·by_cases hnl:n<O.length
  ·rw[getElem?_append_left (by omega)]at hn;simp only[if_neg (show n≠O.length by omega)]at kV;exact qT.lb b (.inr (.inr ⟨n,g,hn,kV⟩))
  ·rw[getElem?_append_right (by omega)]at hn;generalize n- O1.length=q at hn;cases q<;>simp at hn
theorem WK.ap8{n0:Nat}{O:List ae}{cs:List AV}{j:Nat}(hj:cs[j]? =some .aw)(hv:∀(i:Nat) c,i≠j->cs[i]? =some c->∃v,c= .v v):
  WK n0 (λ t=>if t=0 then .ba cs else .top) O (λ t=>if t=0 then .ba (cs.set j (.own O.length))else .top) (O++ [.own (.sl [])]):=by
 intro I0 L0 O0 w0 I L w f wm hg hr;have pd:=hr 0;simp only[if_true]at pd;generalize hf:f 0=y0 at pd;cases pd with
 |ba _ vs h1 h2=>
 have hjl:=(List.getElem?_eq_some_iff.1 hj).1;have hjv:vs[j]? =some (vs[j]'(by omega)):=by simp[h1▸hjl]
 have hrj:=h2 j _ _ hj hjv
 have hS:OT w (.sl []) (vs[j]'(by omega)) λ _=>False:=by
  generalize vs[j]'(by omega)=q at hrj;cases hrj;exact .lG _ _
 obtain⟨hinv,hx2⟩:=hg.inv.acB hS (λ b h=>h.elim) (λ b h=>h.elim) (λ b h=>h.elim);refine⟨I,_,⟨hinv,hg.ext.trans hx2,hg.pa,λ b h=> ?_,hg.iz⟩,λ t=> ?_⟩
 ·rcases h with⟨n,e,s,zs,hn,kV⟩|⟨n,c,o,v,hn,jO⟩|⟨n,g,hn,kV⟩
  ·by_cases hnl:n<O.length
   ·rw[getElem?_append_left (by omega)]at hn;simp only[if_neg (show n≠O.length by omega)]at kV;exact hg.lb b (.inl ⟨n,e,s,zs,hn,kV⟩)
   ·rw[getElem?_append_right (by omega)]at hn;generalize n- O.length=q at hn;cases q<;>simp at hn
  ·by_cases hnl:n<O.length
   ·rw[getElem?_append_left (by omega)]at hn;simp only[if_neg (show n≠O.length by omega)]at jO;exact hg.lb b (.inr (.inl ⟨n,c,o,v,hn,jO⟩))
   ·have bB:n=O.length:=by have:=(List.getElem?_eq_some_iff.1 hn).1;simp at this;omega
    simp[if_pos bB]at jO
  ·by_cases hnl:n<O.length
   ·rw[getElem?_append_left (by omega)]at hn;simp only[if_neg (show n≠O.length by omega)]at kV;exact hg.lb b (.inr (.inr ⟨n,g,hn,kV⟩))
   ·rw[getElem?_append_right (by omega)]at hn;generalize n- O.length=q at hn;cases q<;>simp at hn
 ·by_cases ht:t=0
  ·subst ht;simp only[if_true];rw[hf];refine .ba _ vs (by simpa using h1) λ i c q hc hq=> ?_
   rw[List.getElem?_set]at hc
   split at hc
   ·rename_i qR;subst qR;cases hc;rw[hjv]at hq;cases hq;have dL:(O++ [ae.own (.sl [])])[O.length]? =some (.own (.sl [])):=by simp
    have:=R.dV (I:=I) (L:=λ n=>if n=O.length then⟨0,0,vs[j]'(by omega),λ b o=>if False then w.cell? ⟨b,o,none⟩else none⟩else L n) O.length (.sl []) dL (by simp only[if_true];exact hS.we);simpa using this
   ·rename_i qR;obtain⟨v,rfl⟩:=hv i c (λ h=>qR h.symm) hc;have:=h2 i _ q hc hq;cases this;exact .v _ (by assumption)
  ·simp only[if_neg ht];exact .top _
theorem WK.only{O1:List ae}{n:Nat}{v:Value}{d:AV}(h:O1.length=n):WK 0 (λ t=>if t=0 then .ba [.own n,.v v]else .top) (O1++ [.own d]) (λ t=>if t=0 then .ba [.own 0,.v v]else .top) [.own d]:=by
 refine .select (λ i=>n+i) (λ i hi=> ?_) (λ i j _ _ he=>by omega) (λ ob hb=> ?_) (λ t=> ?_)
 ·have:i=0:=by simp at hi;omega
  subst this;rw[getElem?_append_right (by omega)];simp[h,ae.bU]
 ·rw[List.mem_singleton.1 hb];rfl
 ·by_cases ht:t=0
  ·subst ht;exact .inr ⟨by simp[AV.bU,AV.rB],rfl⟩
  ·exact .inl (by simp[ht])
theorem akH{rs:List dO}{Q:AV->List ae->Prop}{x:AX}(hx:x= .ret∨x= .normal){e:Env}{O:List ae}{nl:Bool}{k len ty z:Nat}{ys xs:List AV}{v:Value}(h:dQ e O rs [] λ xs=>bz xs= .ba [.row k len,.v v])
  (hO:O[k]? =some (cK nl ty z ys)) (hl:ys.length=len) (hs:Split O ys xs) (hQ:Q (.ba [.own 0,.v v]) [.own (.sl xs)]):afo 0 rs Q x e O:=by
 obtain⟨O1,h1,h2,h3⟩:=WK.ap7 (n0:=0) (cs:=[.row k len,.v v]) (j:=0) rfl (λ i c hi hc=>by
  match i,hc with
  |0,_=>exact(hi rfl).elim
  |1,hc=>simp at hc;exact⟨_,hc.symm⟩
  |i+2,hc=>simp at hc) hO hl hs
 have:dQ e O rs [] λ xs=>∃e' O',WK 0 (λ t=>if t=0 then bz xs else .top) O e' O'/\Q (e' 0) O':=
  nE rs _ _ _ (λ gZ hp=>⟨_,_,by rw[hp];exact h1.trans (WK.only h2),hQ⟩) h
 rcases hx with rfl|rfl<;>exact this
theorem aik{rs:List dO}{Q:AV->List ae->Prop}{x:AX}(hx:x= .ret∨x= .normal){e:Env}{O:List ae}{v:Value}(h:dQ e O rs [] λ xs=>bz xs= .ba [.aw,.v v])
  (hQ:Q (.ba [.own 0,.v v]) [.own (.sl [])]):afo 0 rs Q x e O:=by
 have h1:=WK.ap8 (n0:=0) (O:=O) (cs:=[.aw,.v v]) (j:=0) rfl (λ i c hi hc=>by
  match i,hc with
  |0,_=>exact(hi rfl).elim
  |1,hc=>simp at hc;exact⟨_,hc.symm⟩
  |i+2,hc=>simp at hc)
 have:dQ e O rs [] λ xs=>∃e' O',WK 0 (λ t=>if t=0 then bz xs else .top) O e' O'/\Q (e' 0) O':=
  nE rs _ _ _ (λ gZ hp=>⟨_,_,by rw[hp];exact h1.trans (WK.only rfl),hQ⟩) h
 rcases hx with rfl|rfl<;>exact this
end Go.Ab
