/-
  A ROW OF TREES OF ONE's OWN BECOMES SUCH A TREE, whatever else lies in memory.
-/
import Derived.Test.YtfebhekplhjigaaGM
import Derived.Test.YtfebhekplhjigaaAbM5
open Nat(le_refl)
open List(getElem?_append_left getElem?_append_right getElem?_eq_none)
set_option linter.unusedVariables false
set_option linter.unusedSimpArgs false
namespace Go.Ab
set_option maxRecDepth 100000
section
variable {P:Program} {I:dv} {L:Nat->Loc} {O:List ae} {w:World}
open Classical in
theorem Inv.ahP(hi:Inv I L O w){k e s:Nat}{ys xs:List AV}(hk:O[k]? =some (.live e s ys))(hs:Split O ys xs):
  ∃S:Nat->Prop,OT w (.sl xs) (.slice (some ⟨(L k).bh,0,none⟩) xs.length (L k).cap) S/\∀b,S b->b=(L k).bh∨∃(i:Nat) (y:AV) (j m:Nat) (a:AV),ys[i]? =some y/\y.cells[j]? =some (.own m)/\O[m]? =some (.own a)/\∃o v,(L m).mem b o=some v:=by
 obtain⟨c,⟨kR,h1,dE⟩,h2,h3,h4,h5,h6⟩:=hi.obj k e s ys hk;by_cases hx:xs= []
 ·subst hx;exact⟨_,.lG _ _,λ b h=>h.elim⟩
 let bA:Nat->Nat->Value:=λ i j=>(c[i*s+j]?).getD undef
 let nm:Nat->Nat->Option Nat:=λ i j=>match ys[i]? with
  |some y=>match y.cells[j]? with
   |some (.own m)=>some m
   |_=>none
  |none=>none
 let S:Nat->Nat->Nat->Prop:=λ i j b=>∃m,nm i j=some m/\∃o v,(L m).mem b o=some v
 have nm1:∀{i j m:Nat},nm i j=some m->∃y,ys[i]? =some y/\y.cells[j]? =some (.own m):=by
  intro i j m h;simp only[nm]at h;cases hy:ys[i]? with
  |none=>simp[hy]at h
  |some y=>
   simp only[hy]at h;cases hc:y.cells[j]? with
   |none=>simp[hc]at h
   |some a=>
    simp only[hc]at h;cases a<;>simp at h
    subst h;exact⟨y,rfl,hc⟩
 have pair:∀{i:Nat} {x:AV},xs[i]? =some x->∃y,ys[i]? =some y:=by
  intro i x h;have:=(List.getElem?_eq_some_iff.1 h).1;exact⟨ys[i]'(by rw[hs.len];exact this),by simp[hs.len,this]⟩
 have ak6:∀{i:Nat} {x y:AV} {j:Nat} {a:AV},xs[i]? =some x->ys[i]? =some y->x.cells[j]? =some a->∃b,y.cells[j]? =some b:=by
  intro i x y j a h h' ha;have:=(List.getElem?_eq_some_iff.1 ha).1;have hl:=hs.cells i y x h' h;exact⟨y.cells[j]'(by rw[hl];exact this),by simp[hl,this]⟩
 have ak7:∀{i:Nat} {y:AV},ys[i]? =some y->∃x,xs[i]? =some x:=by
  intro i x h;have:=(List.getElem?_eq_some_iff.1 h).1;exact⟨xs[i]'(by rw[←hs.len];exact this),by simp[←hs.len,this]⟩
 have afE:∀{i:Nat} {x y:AV} {j:Nat} {a:AV},xs[i]? =some x->ys[i]? =some y->y.cells[j]? =some a->∃b,x.cells[j]? =some b:=by
  intro i x y j a h h' ha;have:=(List.getElem?_eq_some_iff.1 ha).1;have hl:=hs.cells i y x h' h;exact⟨x.cells[j]'(by rw[←hl];exact this),by simp[←hl,this]⟩
 have half:∀{i:Nat} {x:AV} {j:Nat} {a:AV},xs[i]? =some x->x.cells[j]? =some a->c[i*s+j]? =some (bA i j)/\(bA i j).oneCell'=true/\
   ((nm i j=none/\∃v,a= .v v/\v=bA i j)∨∃m,nm i j=some m/\O[m]? =some (.own a)/\bA i j=(L m).val):=by
  intro i x j a sS ha;obtain⟨y,hy⟩:=pair sS;obtain⟨b,hb⟩:=ak6 sS hy ha;obtain⟨z,hz,ho,hr⟩:=(h6 i y hy).2 j b hb;have hv:bA i j=z:=by simp[bA,hz]
  rw[hv];refine⟨hz,ho,?_⟩;rcases hs.half i y x j b a hy sS hb ha with⟨rfl,v,rfl⟩|⟨m,rfl,hm⟩
  ·refine .inl ⟨by simp only[nm,hy,hb],v,rfl,?_⟩;cases hr;rfl
  ·exact .inr ⟨m,by simp only[nm,hy,hb],hm,xu hi hm hr⟩
 have sep:∀{i j m:Nat} {x a:AV},xs[i]? =some x->x.cells[j]? =some a->nm i j=some m->O[m]? =some (.own a):=by
  intro i j m x a sS ha hm;rcases(half sS ha).2.2 with⟨h,_⟩|⟨m',h,h',_⟩
  ·rw[hm]at h;cases h
  ·rw[hm]at h;cases h;exact h'
 have deep:∀{i j m:Nat},nm i j=some m->∃x a:AV,xs[i]? =some x/\x.cells[j]? =some a/\O[m]? =some (.own a):=by
  intro i j m hm;obtain⟨y,hy,hc⟩:=nm1 hm;obtain⟨x,hx⟩:=ak7 hy;obtain⟨a,ha⟩:=afE hx hy hc;exact⟨x,a,hx,ha,sep hx ha hm⟩
 refine⟨λ b=>b=(L k).bh∨∃i j,S i j b,.sl xs (L k).bh (L k).cap s e c bA S kR h1 dE h2 (by rw[←hs.len];exact h3) h4 h5 hx (λ i x sS=> ?_) (λ i x j a sS ha=>⟨(half sS ha).1,(half sS ha).2.1⟩) (λ i x j a sS ha=> ?_)
  (λ i j b hb=> ?_) (λ i j hb=> ?_) (λ i j i' j' b hb lh=> ?_),?_⟩
 ·obtain⟨y,hy⟩:=pair sS;rw[←hs.cells i y x hy sS];exact(h6 i y hy).1
 ·rcases(half sS ha).2.2 with⟨hn,v,rfl,hv⟩|⟨m,hm,hO,hv⟩
  ·have:S i j=λ _=>False:=by
     funext b;simp only[S,hn];simp
   rw[this,←hv];exact .v v (by have:=(half sS ha).2.1;rw[←hv]at this;exact this)
  ·obtain⟨T,t1,t2⟩:=hi.ow.deep m a hO
   have:S i j=T:=by
    funext b
    simp only[S,hm,Option.some.injEq,exists_eq_left'];exact propext (t2 b).symm
   rw[this,hv];exact t1
 ·obtain⟨m,hm,_⟩:=hb;obtain⟨x,a,h1,h2,_⟩:=deep hm;exact⟨x,a,h1,h2⟩
 ·obtain⟨m,hm,o,v,hv⟩:=hb;obtain⟨x,a,_,_,hO⟩:=deep hm;exact hi.ow.live m a hO _ o v hv k _ _ _ hk rfl
 ·obtain⟨m,hm,o,v,hv⟩:=hb;obtain⟨m',uX,o',v',jO⟩:=lh;obtain⟨x,a,_,_,hO⟩:=deep hm;obtain⟨x',a',_,_,o9⟩:=deep uX;have:=hi.ow.sep m m' a a' hO o9 b o o' v v' hv jO;subst this;obtain⟨y,hy,hc⟩:=nm1 hm;obtain⟨y',lf,fT⟩:=nm1 uX;exact hs.inj i y j i' y' j' m hy hc lf fT
 ·rintro b (rfl|⟨i,j,m,hm,o,v,hv⟩)
  ·exact .inl rfl
  ·obtain⟨y,hy,hc⟩:=nm1 hm;obtain⟨x,a,_,_,hO⟩:=deep hm;exact .inr ⟨i,y,j,m,a,hy,hc,hO,o,v,hv⟩
open Classical in
theorem Inv.acB(hi:Inv I L O w){a:AV}{x:Value}{S:Nat->Prop}(h:OT w a x S)(h1:∀b,S b->¬LV L O b)(h2:∀b,S b->¬OB L O b)(h3:∀b,S b->∀o,I b o=none):
  Inv I (λ n=>if n=O.length then⟨0,0,x,λ b o=>if S b then w.cell? ⟨b,o,none⟩else none⟩else L n) (O++ [.own a]) w/\Ext I L O I (λ n=>if n=O.length then⟨0,0,x,λ b o=>if S b then w.cell? ⟨b,o,none⟩else none⟩else L n) (O++ [.own a]):=by
 generalize hL':(λ n=>if n=O.length then(⟨0,0,x,λ b o=>if S b then w.cell? ⟨b,o,none⟩else none⟩:Loc)else L n)=L';have lo:∀n,n<O.length->L' n=L n:=λ n hn=>by subst hL';exact if_neg (by omega)
 have ln:L' O.length=⟨0,0,x,λ b o=>if S b then w.cell? ⟨b,o,none⟩else none⟩:=by subst hL';exact if_pos rfl
 have lt:∀{n:Nat} {ob:ae},(O++ [.own a])[n]? =some ob->(n<O.length/\O[n]? =some ob)∨(n=O.length/\ob= .own a):=by
  intro n ob hn;by_cases aF:n<O.length
  ·rw[getElem?_append_left aF]at hn;exact .inl ⟨aF,hn⟩
  ·have:n=O.length:=by have:=(List.getElem?_eq_some_iff.1 hn).1;simp at this;omega
   subst this;rw[getElem?_append_right (le_refl _),Nat.sub_self]at hn;simp at hn;exact .inr ⟨rfl,hn.symm⟩
 have gB:∀{n:Nat} {ob:ae},(O++ [.own a])[n]? =some ob->(∀d,ob≠ .own d)->n<O.length/\O[n]? =some ob:=by
  intro n ob hn hd;rcases lt hn with h|⟨_,h⟩
  ·exact h
  ·exact(hd a h).elim
 have du:Ext I L O I L' (O++ [.own a]):=⟨λ _ _ _ h=>h,by simp,λ n hn e s xs hx=> .inl ⟨xs,(gB hx (by simp)).2,le_refl _,λ _=>lo n hn⟩,λ n hn e s hx=>(gB hx (by simp)).2,
  λ n hn c hx=>⟨⟨c,by rw[getElem?_append_left hn]at hx;exact hx⟩,by rw[lo n hn]⟩,λ n hn g hx=>⟨⟨g,(gB hx (by simp)).2,rfl⟩,by rw[lo n hn]⟩⟩
 have sp:∀{b o:Nat} {v:Value},(L' O.length).mem b o=some v->S b/\w.cell? ⟨b,o,none⟩=some v:=by
  intro b o v hv;rw[ln]at hv;simp only at hv
  split at hv
  ·rename_i hb;exact⟨hb,hv⟩
  ·cases hv
 refine⟨⟨hi.j4,λ n e s xs hn=> ?_,λ n m e s xs e' s' ys hn hm hb=> ?_,λ n e s xs o hn=> ?_,hi.fix,hi.bh,⟨λ n c hn L2 O2=> ?_,λ n c hn b o v hv=> ?_,λ n c hn b o v hv o'=> ?_,λ n c hn b o v hv m e s xs hm=> ?_,λ n m c d hn hm b o o' v v' hv jO=> ?_,λ n c hn=> ?_⟩,?_⟩,du⟩
 ·obtain⟨g1,g2⟩:=gB hn (by simp);have:=(hi.obj n e s xs g2).congr rfl λ _ _ h=>h.mono du
  rw[lo n g1];exact this
 ·obtain⟨g1,g2⟩:=gB hn (by simp);obtain⟨g3,g4⟩:=gB hm (by simp);rw[lo n g1,lo m g3]at hb;exact hi.sep n m e s xs e' s' ys g2 g4 hb
 ·obtain⟨g1,g2⟩:=gB hn (by simp);rw[lo n g1];exact hi.dS n e s xs o g2
 ·rcases lt hn with⟨g1,g2⟩|⟨rfl,g2⟩
  ·rw[lo n g1];exact hi.ow.tree n c g2 L2 O2
  ·cases g2;have:(L' O.length).val=x:=by rw[ln]
   rw[this];refine h.read _ _ _ λ b o v hb hv=> ?_
   rw[ln]
   show(if S b then _ else _)=_;rw[if_pos hb];exact hv
 ·rcases lt hn with⟨g1,g2⟩|⟨rfl,g2⟩
  ·rw[lo n g1]at hv;exact hi.ow.cell n c g2 b o v hv
  ·exact(sp hv).2
 ·rcases lt hn with⟨g1,g2⟩|⟨rfl,g2⟩
  ·rw[lo n g1]at hv;exact hi.ow.j4 n c g2 b o v hv o'
  ·exact h3 b (sp hv).1 o'
 ·obtain⟨g3,g4⟩:=gB hm (by simp);rw[lo m g3];rcases lt hn with⟨g1,g2⟩|⟨rfl,g2⟩
  ·rw[lo n g1]at hv;exact hi.ow.live n c g2 b o v hv m e s xs g4
  ·exact λ e'=>h1 b (sp hv).1 ⟨m,e,s,xs,g4,e'⟩
 ·rcases lt hn with⟨g1,g2⟩|⟨rfl,g2⟩<;>rcases lt hm with⟨g3,g4⟩|⟨rfl,g4⟩
  ·rw[lo n g1]at hv;rw[lo m g3]at jO;exact hi.ow.sep n m c d g2 g4 b o o' v v' hv jO
  ·rw[lo n g1]at hv;exact(h2 b (sp jO).1 ⟨n,c,o,v,g2,hv⟩).elim
  ·rw[lo m g3]at jO;exact(h2 b (sp hv).1 ⟨m,d,o',v',g4,jO⟩).elim
  ·rfl
 ·rcases lt hn with⟨g1,g2⟩|⟨rfl,g2⟩
  ·rw[lo n g1];exact hi.ow.deep n c g2
  ·cases g2;have:(L' O.length).val=x:=by rw[ln]
   rw[this];refine⟨S,h,λ b=>⟨λ hb=> ?_,λ ⟨o,v,hv⟩=>(sp hv).1⟩⟩;obtain⟨v,hv⟩:=(h.block b hb).2;exact⟨0,v,by rw[ln];show(if S b then _ else _)=_;rw[if_pos hb];exact hv⟩
 ·refine hi.gh.step (λ n g hn=> ?_) (λ _ _ h=>h.mono du) λ _ _=>rfl
  obtain⟨g1,g2⟩:=gB hn (by simp);exact⟨g2,by rw[lo n g1]⟩
end
theorem Good.alO{I0:dv}{L0:Nat->Loc}{O0:List ae}{w0:World}{I:dv}{L:Nat->Loc}{O O':List ae}{w:World}(hlen:O'.length=O.length)(h:∀m:Nat,O'[m]? =O[m]? ∨O'[m]? =some .dead)(hg:Good I0 L0 O0 w0 I L O w):Good I0 L0 O0 w0 I L O' w/\Ext I L O I L O':=by
 have cz:∀{m:Nat} {ob},O'[m]? =some ob->ob≠ .dead->O[m]? =some ob:=by
  intro m ob ho bB;rcases h m with h1|h1
  ·rw[←h1];exact ho
  ·rw[h1]at ho;cases ho;exact(bB rfl).elim
 have du:Ext I L O I L O':=⟨λ _ _ _ h=>h,by omega,λ m _ ee k zs hz=> .inl ⟨zs,cz hz (by simp),le_refl _,λ _=>rfl⟩,λ m _ ee k h=>cz h (by simp),λ m _ a h=>⟨⟨a,cz h (by simp)⟩,rfl⟩,λ m _ a h=>⟨⟨a,cz h (by simp),rfl⟩,rfl⟩⟩;refine⟨hg.aku (by omega) (λ _ _ _ h=>h) (λ _ _ _ h=> .inl h) (λ m ee k zs hm=> ?_) (λ m ee k _ hm=>cz hm (by simp)) (λ m a hm=>cz hm (by simp)) (λ m a hm=>⟨cz hm (by simp),λ _ _ h=>h.mono du⟩),du⟩;have h1:=cz hm (by simp);exact⟨zs,h1,rfl,(hg.inv.obj m _ _ _ h1).congr rfl λ _ _ h=>h.mono du,λ o=>hg.inv.dS m _ _ _ o h1⟩
theorem WK.at3{n0:Nat}{O:List ae}{cs:List AV}{nl:Bool}{j k len ty z:Nat}{ys xs:List AV}(hj:cs[j]? =some (.row k len))(hv:∀(i:Nat) c,i≠j->cs[i]? =some c->∃v,c= .v v)
  (hO:O[k]? =some (cK nl ty z ys)) (hl:ys.length=len) (hs:Split O ys xs):
  ∃O1,WK n0 (λ t=>if t=0 then .agg cs else .top) O (λ t=>if t=0 then .agg (cs.set j (.own O.length))else .top) (O1++ [.own (.sl xs)])/\O1.length=O.length/\∀m,m≠k->(∀(i:Nat) y (j:Nat),ys[i]? =some y->y.cells[j]? ≠some (.own m))->O1[m]? =O[m]? :=by
 classical
 let bad:Nat->Prop:=λ m=>m=k∨∃(i:Nat) (y:AV) (j:Nat),ys[i]? =some y/\y.cells[j]? =some (.own m)
 let O1:List ae:=(List.range O.length).map λ m=>if bad m then .dead else O.getD m .dead
 have hlen:O1.length=O.length:=by simp[O1]
 have cz:∀m,m<O.length->O1[m]? =if bad m then some .dead else O[m]? :=λ m hm=>by
  simp only[O1,List.getElem?_map,List.getElem?_range hm,Option.map_some]
  split
  ·rfl
  ·simp[List.getD,List.getElem?_eq_getElem hm]
 have yl:∀m,¬bad m->O1[m]? =O[m]? :=λ m hb=>by
  by_cases hm:m<O.length
  ·rw[cz m hm,if_neg hb]
  ·rw[getElem?_eq_none (by omega),getElem?_eq_none (by omega)]
 have hK:∀m:Nat,O1[m]? =O[m]? ∨O1[m]? =some .dead:=λ m=>by
  by_cases hb:bad m
  ·by_cases hm:m<O.length
   ·right;rw[cz m hm,if_pos hb]
   ·left;rw[getElem?_eq_none (by omega),getElem?_eq_none (by omega)]
  ·left;exact yl m hb
 have aL:∀{m:Nat} {ob:ae},O1[m]? =some ob->ob≠ .dead->¬bad m/\O[m]? =some ob:=by
  intro m ob hm bB;have o8:m<O.length:=by have:=(List.getElem?_eq_some_iff.1 hm).1;omega
  rw[cz m o8]at hm
  split at hm
  ·cases hm;exact(bB rfl).elim
  ·rename_i hb;exact⟨hb,hm⟩
 refine⟨O1,?_,hlen,λ m hm cE=>yl m λ hb=>by
  rcases hb with h|⟨i,y,j,h1,h2⟩
  ·exact hm h
  ·exact cE i y j h1 h2⟩
 intro I0 L0 O0 w0 I L w f wm hg hr;have pd:=hr 0;simp only[if_true]at pd;generalize hf:f 0=y0 at pd;cases pd with
 |agg _ vs h1 h2=>
 have hjl:=(List.getElem?_eq_some_iff.1 hj).1;have hjv:vs[j]? =some (vs[j]'(by omega)):=by simp[h1▸hjl]
 have hrj:=h2 j _ _ hj hjv
 obtain⟨S,hS,hb⟩:∃S:Nat->Prop,OT w (.sl xs) (vs[j]'(by omega)) S/\∀b,S b->(∃e s zs,O[k]? =some (.live e s zs)/\b=(L k).bh)∨∃(i:Nat) (y:AV) (j m:Nat) (a:AV),ys[i]? =some y/\y.cells[j]? =some (.own m)/\O[m]? =some (.own a)/\∃o v,(L m).mem b o=some v:=by
  by_cases hy:nl=true/\ys= []
  ·obtain⟨rfl,rfl⟩:=hy;have nU:xs= []:=List.eq_nil_of_length_eq_zero (by rw[←hs.len];rfl);subst nU;have o9:O[k]? =some (.nil ty z):=by rw[hO];simp[cK]
   rw[(hrj.kf o9).1];exact⟨_,.lG _ _,λ b h=>h.elim⟩
  ·have o9:O[k]? =some (.live ty z ys):=by rw[hO];unfold cK;rw[if_neg hy]
   rw[hrj.ep o9 hl,←hl,hs.len];obtain⟨S,s1,s2⟩:=hg.inv.ahP o9 hs;exact⟨S,s1,λ b hb=>(s2 b hb).imp (λ h=>⟨_,_,_,o9,h⟩) id⟩
 obtain⟨qT,hx1⟩:=hg.alO hlen hK
 have hLB:∀b,S b->LB L O b:=λ b hSb=>by
  rcases hb b hSb with⟨e,s,zs,g1,g2⟩|⟨i,y,j',m,a,g1,g2,g3,o,v,g4⟩
  ·exact .inl ⟨k,e,s,zs,g1,g2.symm⟩
  ·exact .inr (.inl ⟨m,a,o,v,g3,g4⟩)
 have k1:∀b,S b->¬LV L O1 b:=by
  rintro b hSb ⟨n,e,s,zs,hn,kV⟩;obtain⟨hnb,lz⟩:=aL hn (by simp);rcases hb b hSb with⟨e',s',zs',g1,g2⟩|⟨i,y,j',m,a,g1,g2,g3,o,v,g4⟩
  ·exact hnb (.inl (hg.inv.sep n k e s zs e' s' zs' lz g1 (kV.trans g2)))
  ·exact hg.inv.ow.live m a g3 b o v g4 n e s zs lz kV
 have k2:∀b,S b->¬OB L O1 b:=by
  rintro b hSb ⟨n,c,o,v,hn,jO⟩;obtain⟨hnb,lz⟩:=aL hn (by simp);rcases hb b hSb with⟨e',s',zs',g1,g2⟩|⟨i,y,j',m,a,g1,g2,g3,o',v',g4⟩
  ·exact hg.inv.ow.live n c lz b o v jO k e' s' zs' g1 g2.symm
  ·have:=hg.inv.ow.sep n m c a lz g3 b o o' v v' jO g4;exact hnb (.inr ⟨i,y,j',g1,by rw[this];exact g2⟩)
 have k3:∀b,S b->∀o,I b o=none:=by
  intro b hSb o;rcases hb b hSb with⟨e',s',zs',g1,g2⟩|⟨i,y,j',m,a,g1,g2,g3,o',v',g4⟩
  ·rw[g2];exact hg.inv.dS k e' s' zs' o g1
  ·exact hg.inv.ow.j4 m a g3 b o' v' g4 o
 obtain⟨hinv,hx2⟩:=qT.inv.acB hS k1 k2 k3;rw[hlen]at hinv hx2
 have tX:∀t,R I _ (O1++ [.own (.sl xs)]) ((λ t=>if t=0 then AV.agg (cs.set j (.own O.length))else AV.top) t) (f t):=λ t=>by
  by_cases ht:t=0
  ·subst ht;simp only[if_true];rw[hf];refine .agg _ vs (by simpa using h1) λ i c q hc hq=> ?_
   rw[List.getElem?_set]at hc
   split at hc
   ·rename_i qR;subst qR;cases hc;rw[hjv]at hq;cases hq;have dL:(O1++ [ae.own (.sl xs)])[O.length]? =some (.own (.sl xs)):=by rw[getElem?_append_right (by omega)];simp[hlen]
    have:=R.dV (I:=I) (L:=λ n=>if n=O.length then⟨0,0,vs[j]'(by omega),λ b o=>if S b then w.cell? ⟨b,o,none⟩else none⟩else L n) O.length (.sl xs) dL (by simp only[if_true];exact hS.we);simpa using this
   ·rename_i qR;obtain⟨v,rfl⟩:=hv i c (λ h=>qR h.symm) hc;have:=h2 i _ q hc hq;cases this;exact .v _ (by assumption)
  ·simp only[if_neg ht];exact .top _
 refine⟨I,_,⟨hinv,qT.ext.trans hx2,hg.pa,λ b h=> ?_,hg.iz⟩,tX⟩;rcases h with⟨n,e,s,zs,hn,kV⟩|⟨n,c,o,v,hn,jO⟩|⟨n,g,hn,kV⟩
 ·by_cases hnl:n<O.length
  ·rw[getElem?_append_left (by omega)]at hn;simp only[if_neg (show n≠O.length by omega)]at kV;exact qT.lb b (.inl ⟨n,e,s,zs,hn,kV⟩)
  ·rw[getElem?_append_right (by omega)]at hn;generalize n- O1.length=q at hn;cases q<;>simp at hn
 ·by_cases hnl:n<O.length
  ·rw[getElem?_append_left (by omega)]at hn;simp only[if_neg (show n≠O.length by omega)]at jO;exact qT.lb b (.inr (.inl ⟨n,c,o,v,hn,jO⟩))
  ·have bB:n=O.length:=by have:=(List.getElem?_eq_some_iff.1 hn).1;simp at this;omega
   simp only[if_pos bB]at jO
   have hSb:S b:=by
    by_cases lh:S b
    ·exact lh
    ·simp[lh]at jO
   exact hg.lb b (hLB b hSb)
 ·by_cases hnl:n<O.length
  ·rw[getElem?_append_left (by omega)]at hn;simp only[if_neg (show n≠O.length by omega)]at kV;exact qT.lb b (.inr (.inr ⟨n,g,hn,kV⟩))
  ·rw[getElem?_append_right (by omega)]at hn;generalize n- O1.length=q at hn;cases q<;>simp at hn
theorem WK.at4{n0:Nat}{O:List ae}{cs:List AV}{j:Nat}(hj:cs[j]? =some .aw)(hv:∀(i:Nat) c,i≠j->cs[i]? =some c->∃v,c= .v v):
  WK n0 (λ t=>if t=0 then .agg cs else .top) O (λ t=>if t=0 then .agg (cs.set j (.own O.length))else .top) (O++ [.own (.sl [])]):=by
 intro I0 L0 O0 w0 I L w f wm hg hr;have pd:=hr 0;simp only[if_true]at pd;generalize hf:f 0=y0 at pd;cases pd with
 |agg _ vs h1 h2=>
 have hjl:=(List.getElem?_eq_some_iff.1 hj).1;have hjv:vs[j]? =some (vs[j]'(by omega)):=by simp[h1▸hjl]
 have hrj:=h2 j _ _ hj hjv
 have hS:OT w (.sl []) (vs[j]'(by omega)) λ _=>False:=by
  generalize vs[j]'(by omega)=q at hrj;cases hrj;exact .lG _ _
 obtain⟨hinv,hx2⟩:=hg.inv.acB hS (λ b h=>h.elim) (λ b h=>h.elim) (λ b h=>h.elim);refine⟨I,_,⟨hinv,hg.ext.trans hx2,hg.pa,λ b h=> ?_,hg.iz⟩,λ t=> ?_⟩
 ·rcases h with⟨n,e,s,zs,hn,kV⟩|⟨n,c,o,v,hn,jO⟩|⟨n,g,hn,kV⟩
  ·by_cases hnl:n<O.length
   ·rw[getElem?_append_left (by omega)]at hn;simp only[if_neg (show n≠O.length by omega)]at kV;exact hg.lb b (.inl ⟨n,e,s,zs,hn,kV⟩)
   ·rw[getElem?_append_right (by omega)]at hn;generalize n- O.length=q at hn;cases q<;>simp at hn
  ·by_cases hnl:n<O.length
   ·rw[getElem?_append_left (by omega)]at hn;simp only[if_neg (show n≠O.length by omega)]at jO;exact hg.lb b (.inr (.inl ⟨n,c,o,v,hn,jO⟩))
   ·have bB:n=O.length:=by have:=(List.getElem?_eq_some_iff.1 hn).1;simp at this;omega
    simp[if_pos bB]at jO
  ·by_cases hnl:n<O.length
   ·rw[getElem?_append_left (by omega)]at hn;simp only[if_neg (show n≠O.length by omega)]at kV;exact hg.lb b (.inr (.inr ⟨n,g,hn,kV⟩))
   ·rw[getElem?_append_right (by omega)]at hn;generalize n- O.length=q at hn;cases q<;>simp at hn
 ·by_cases ht:t=0
  ·subst ht;simp only[if_true];rw[hf];refine .agg _ vs (by simpa using h1) λ i c q hc hq=> ?_
   rw[List.getElem?_set]at hc
   split at hc
   ·rename_i qR;subst qR;cases hc;rw[hjv]at hq;cases hq;have dL:(O++ [ae.own (.sl [])])[O.length]? =some (.own (.sl [])):=by simp
    have:=R.dV (I:=I) (L:=λ n=>if n=O.length then⟨0,0,vs[j]'(by omega),λ b o=>if False then w.cell? ⟨b,o,none⟩else none⟩else L n) O.length (.sl []) dL (by simp only[if_true];exact hS.we);simpa using this
   ·rename_i qR;obtain⟨v,rfl⟩:=hv i c (λ h=>qR h.symm) hc;have:=h2 i _ q hc hq;cases this;exact .v _ (by assumption)
  ·simp only[if_neg ht];exact .top _
theorem afn{n0:Nat}{rs:List dO}{Q:AV->List ae->Prop}{x:AX}(hx:x= .ret∨x= .normal){e:Env}{O:List ae}{cs:List AV}{nl:Bool}{j k len ty z:Nat}{ys xs:List AV}(h:dQ e O rs [] λ xs=>bz xs= .agg cs)(hj:cs[j]? =some (.row k len))(hv:∀(i:Nat) c,i≠j->cs[i]? =some c->∃v,c= .v v)
  (hO:O[k]? =some (cK nl ty z ys)) (hl:ys.length=len) (hs:Split O ys xs) (hQ:∀O1,O1.length=O.length->(∀m,m≠k->(∀(i:Nat) y (j:Nat),ys[i]? =some y->y.cells[j]? ≠some (.own m))->O1[m]? =O[m]?)->Q (.agg (cs.set j (.own O.length))) (O1++ [.own (.sl xs)])):afo n0 rs Q x e O:=by
 obtain⟨O1,h1,h2,h3⟩:=WK.at3 (n0:=n0) hj hv hO hl hs
 have:dQ e O rs [] λ xs=>∃e' O',WK n0 (λ t=>if t=0 then bz xs else .top) O e' O'/\Q (e' 0) O':=
  nE rs _ _ _ (λ gZ hp=>⟨_,_,by rw[hp];exact h1,hQ O1 h2 h3⟩) h
 rcases hx with rfl|rfl<;>exact this
theorem uC{n0:Nat}{rs:List dO}{Q:AV->List ae->Prop}{x:AX}(hx:x= .ret∨x= .normal){e:Env}{O:List ae}{cs:List AV}{j:Nat}(h:dQ e O rs [] λ xs=>bz xs= .agg cs)(hj:cs[j]? =some .aw)(hv:∀(i:Nat) c,i≠j->cs[i]? =some c->∃v,c= .v v)
  (hQ:Q (.agg (cs.set j (.own O.length))) (O++ [.own (.sl [])])):afo n0 rs Q x e O:=by
 have:dQ e O rs [] λ xs=>∃e' O',WK n0 (λ t=>if t=0 then bz xs else .top) O e' O'/\Q (e' 0) O':=
  nE rs _ _ _ (λ gZ hp=>⟨_,_,by rw[hp];exact WK.at4 hj hv,hQ⟩) h
 rcases hx with rfl|rfl<;>exact this
theorem Split.add{O O':List ae}{ys xs:List AV}(h:Split O ys xs){K N:Int}{S:ByteArray}{kk:Nat}{a:AV}(hk:O'[kk]? =some (.own a))(ho:∀(i:Nat) y (j m:Nat),ys[i]? =some y->y.cells[j]? =some (.own m)->O'[m]? =O[m]? /\m≠kk):
  Split O' (ys++ [.agg [.v (.int .i64 K),.v (.int .i64 N),.v (.string S),.own kk]]) (xs++ [.agg [.v (.int .i64 K),.v (.int .i64 N),.v (.string S),a]]):=by
 have hlen:=h.len
 have get:∀{α:Type} {l:List α} {z y:α} {i:Nat},(l++ [z])[i]? =some y->(i<l.length/\l[i]? =some y)∨(i=l.length/\y=z):=by
  intro α l z y i hi;by_cases aF:i<l.length
  ·rw[getElem?_append_left aF]at hi;exact .inl ⟨aF,hi⟩
  ·have:=(List.getElem?_eq_some_iff.1 hi).1;simp at this;have e:i=l.length:=by omega
   subst e;rw[getElem?_append_right (le_refl _),Nat.sub_self]at hi;simp at hi;exact .inr ⟨rfl,hi.symm⟩
 have four:∀{j:Nat} {c:AV},(AV.agg [.v (.int .i64 K),.v (.int .i64 N),.v (.string S),.own kk]).cells[j]? =some c->(j=3/\c= .own kk)∨(j<3/\∃v,c= .v v/\(AV.agg [.v (.int .i64 K),.v (.int .i64 N),.v (.string S),a]).cells[j]? =some (.v v)):=by
  intro j c hc
  match j,hc with
  |0,hc=>simp[AV.cells]at hc;exact .inr ⟨by omega,_,hc.symm,rfl⟩
  |1,hc=>simp[AV.cells]at hc;exact .inr ⟨by omega,_,hc.symm,rfl⟩
  |2,hc=>simp[AV.cells]at hc;exact .inr ⟨by omega,_,hc.symm,rfl⟩
  |3,hc=>simp[AV.cells]at hc;exact .inl ⟨rfl,hc.symm⟩
  |j+4,hc=>simp[AV.cells]at hc
 refine⟨by simp[hlen],λ i y x hy hx=> ?_,λ i y x j c d hy hx hc hd=> ?_,λ i y j i' y' j' k hy hc lf fT=> ?_⟩
 ·rcases get hy with⟨h1,h2⟩|⟨h1,rfl⟩<;>rcases get hx with⟨h3,h4⟩|⟨h3,rfl⟩
  ·exact h.cells i y x h2 h4
  ·omega
  ·omega
  ·rfl
 ·rcases get hy with⟨h1,h2⟩|⟨h1,rfl⟩<;>rcases get hx with⟨h3,h4⟩|⟨h3,rfl⟩
  ·refine(h.half i y x j c d h2 h4 hc hd).imp id λ ⟨m,e1,e2⟩=>⟨m,e1,?_⟩
   rw[(ho i y j m h2 (by rw[hc,e1])).1];exact e2
  ·omega
  ·omega
  ·rcases four hc with⟨rfl,rfl⟩|⟨_,v,rfl,hd'⟩
   ·simp[AV.cells]at hd;subst hd;exact .inr ⟨kk,rfl,hk⟩
   ·rw[hd']at hd;cases hd;exact .inl ⟨rfl,v,rfl⟩
 ·rcases get hy with⟨h1,h2⟩|⟨h1,rfl⟩<;>rcases get lf with⟨h3,h4⟩|⟨h3,rfl⟩
  ·exact h.inj i y j i' y' j' k h2 hc h4 fT
  ·rcases four fT with⟨rfl,e⟩|⟨_,v,e,_⟩
   ·cases e;exact((ho i y j _ h2 hc).2 rfl).elim
   ·cases e
  ·rcases four hc with⟨rfl,e⟩|⟨_,v,e,_⟩
   ·cases e;exact((ho i' y' j' _ h4 fT).2 rfl).elim
   ·cases e
  ·rcases four hc with⟨rfl,e⟩|⟨_,v,e,_⟩<;>rcases four fT with⟨rfl,e'⟩|⟨_,v',e',_⟩
   ·exact⟨by omega,rfl⟩
   ·cases e'
   ·cases e
   ·cases e
end Go.Ab
