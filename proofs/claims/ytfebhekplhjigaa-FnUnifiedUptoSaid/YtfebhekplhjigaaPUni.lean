/-
  TYPES MADE ONE, the plain law: nodes that are made one by pairs; what their classes read as.
-/
import Derived.Test.YtfebhekplhjigaaGM
open Nat(le_refl)
open Option(map_some)
open List(mem_of_getElem?)
set_option linter.unusedSimpArgs false
set_option linter.unusedVariables false
namespace Go.Ab
set_option maxRecDepth 100000
mutual
def aa.sub(σ:Int->aa):aa->aa
 | .mk kd n nm kids=>if kd=11 then σ n else .mk kd n nm (aa.ajX σ kids)
def aa.ajX(σ:Int->aa):List aa->List aa
 | []=>[]
 |x::l=>x.sub σ::aa.ajX σ l
end
theorem aa.aiT(σ:Int->aa):∀l:List aa,aa.ajX σ l=l.map (aa.sub σ)
 | []=>rfl
 |x::l=>by simp only[aa.ajX,aa.aiT σ l,List.map_cons]
theorem aa.sub_eq(σ:Int->aa)(x:aa):x.sub σ=if x.Kind=11 then σ x.N else .mk x.Kind x.N x.Name (x.Kids.map (aa.sub σ)):=by
 cases x;rw[aa.sub,aa.aiT];rfl
theorem aa.aeB(σ:Int->aa){x:aa}(h:x.Kind=11):x.sub σ=σ x.N:=by rw[aa.sub_eq,if_pos h]
theorem aa.xZ(σ:Int->aa){x:aa}(h:x.Kind≠11):x.sub σ= .mk x.Kind x.N x.Name (x.Kids.map (aa.sub σ)):=by rw[aa.sub_eq,if_neg h]
def cN(k:Int):aa:= .mk 11 k ⟨#[]⟩ []
theorem aa.qC(x:aa):x= .mk x.Kind x.N x.Name x.Kids:=by cases x;rfl
inductive bI(up:Nat->Nat):Nat->Nat->Prop
 |here (x:Nat):up x=x->bI up x x
 |step (x r:Nat):up x≠x->bI up (up x) r->bI up x r
theorem bI.root{up:Nat->Nat}{x r:Nat}(h:bI up x r):up r=r:=by
 induction h with
 |here x h=>exact h
 |step x r h _ ih=>exact ih
theorem bI.self{up:Nat->Nat}{x r:Nat}(h:bI up x r)(hx:up x=x):r=x:=by
 cases h with
 |here _ _=>rfl
 |step _ _ hn _=>exact(hn hx).elim
theorem bI.pf{up:Nat->Nat}{x r s:Nat}(h:bI up x r)(k:bI up x s):r=s:=by
 induction h with
 |here x h=>exact(k.self h).symm
 |step x r h _ ih=>
  cases k with
  |here _ hx=>exact(h hx).elim
  |step _ _ _ k=>exact ih k
def uy(up:Nat->Nat)(x y:Nat):Prop:=∃r,bI up x r/\bI up y r
theorem uy.symm{up:Nat->Nat}{x y:Nat}(h:uy up x y):uy up y x:=by obtain⟨r,a,b⟩:=h;exact⟨r,b,a⟩
theorem uy.trans{up:Nat->Nat}{x y z:Nat}(h:uy up x y)(k:uy up y z):uy up x z:=by
 obtain⟨r,a,b⟩:=h;obtain⟨s,c,d⟩:=k;have:=b.pf c;subst this;exact⟨r,a,d⟩
def bV(up:Nat->Nat)(c p:Nat):Nat->Nat:=λ x=>if x=c then p else up x
theorem bI.union{up:Nat->Nat}{c p:Nat}(hc:up c=c)(hp:up p=p)(bn:c≠p){x r:Nat}(h:bI up x r):bI (bV up c p) x (if r=c then p else r):=by
 have hpp:bV up c p p=p:=by unfold bV;rw[if_neg bn.symm];exact hp
 induction h with
 |here x h=>
  by_cases hx:x=c
  ·subst hx;rw[if_pos rfl];exact .step x p (by unfold bV;rw[if_pos rfl];exact bn.symm) (by unfold bV;rw[if_pos rfl];exact .here p hpp)
  ·rw[if_neg hx];exact .here x (by unfold bV;rw[if_neg hx];exact h)
 |step x r h _ ih=>
  have hx:x≠c:=λ e=>h (e▸hc)
  have hu:bV up c p x=up x:=by unfold bV;rw[if_neg hx]
  exact .step x _ (by rw[hu];exact h) (by rw[hu];exact ih)
def dy(up bw:Nat->Nat):Prop:=∀x r,bI up x r->bI bw x r
theorem bI.azg{up:Nat->Nat}{c q:Nat}(hc:bI up c q)(hn:up c≠c):dy up (bV up c (up (up c))):=by
 have hq:bI up (up (up c)) q:=by
  cases hc with
  |here _ h=>exact(hn h).elim
  |step _ _ _ k=>
   cases k with
   |here _ h=>rw[h];exact .here _ h
   |step _ _ _ k=>exact k
 have len:∀x r,bI up x r->∃n,(Nat.repeat up n x=r/\∀m<n,up (Nat.repeat up m x)≠Nat.repeat up m x):=by
  intro x r h
  induction h with
  |here x h=>exact⟨0,rfl,λ m hm=>by omega⟩
  |step x r h _ ih=>
   obtain⟨n,h1,h2⟩:=ih
   have arA:∀m,Nat.repeat up m (up x)=Nat.repeat up (m+1) x:=by
    intro m
    induction m with
    |zero=>rfl
    |succ m ihm=>show up _=up _;rw[ihm]
   refine⟨n+1,by rw[←arA];exact h1,λ m hm=> ?_⟩;cases m with
   |zero=>exact h
   |succ m=>rw[←arA];exact h2 m (by omega)
 intro x r h
 induction h with
 |here x h=>exact .here x (by unfold bV;rw[if_neg (λ e=>hn (by rw[←e];exact h))];exact h)
 |step x r h hs ih=>
  by_cases hx:x=c
  ·subst hx;have hr:r=q:=(bI.step x r h hs).pf hc;subst hr
   have bn:up (up x)≠x:=by
    intro e;obtain⟨n,h1,h2⟩:=len x r hc
    have mf:∀m,Nat.repeat up m x=x∨Nat.repeat up m x=up x:=by
     intro m
     induction m with
     |zero=>exact .inl rfl
     |succ m ihm=>
      show up (Nat.repeat up m x)=x∨up (Nat.repeat up m x)=up x;rcases ihm with e'|e'
      ·rw[e'];exact .inr rfl
      ·rw[e'];exact .inl e
    have py:=hc.root;rcases mf n with e'|e'
    ·rw[h1]at e';rw[e']at py;exact h py
    ·rw[h1]at e';rw[e',e]at py;exact h py.symm
   have hu:bV up x (up (up x)) x=up (up x):=by unfold bV;rw[if_pos rfl]
   have hux:bV up x (up (up x)) (up x)=up (up x):=by unfold bV;rw[if_neg h]
   refine .step x r (by rw[hu];exact bn) ?_;rw[hu];generalize bV up x (up (up x))=f at*;by_cases h':up (up x)=up x
   ·rw[h'];exact ih
   ·cases ih with
    |here _ h2=>exact(h' (by rw[←hux];exact h2)).elim
    |step _ _ h2 k=>rw[hux]at k;exact k
  ·have hu:bV up c (up (up c)) x=up x:=by unfold bV;rw[if_neg hx]
   exact .step x r (by rw[hu];exact h) (by rw[hu];exact ih)
end Go.Ab
namespace Go.Ab
structure Net where
 N:Nat
 M:Nat
 ty:Nat->aa
 kids:Nat->List Nat
def Net.lh(S:Net)(x:Nat):Prop:=(S.ty x).Kind=11
instance(S:Net)(x:Nat):Decidable (S.lh x):=by unfold Net.lh;infer_instance
structure Net.ok(S:Net):Prop where
 le:S.M<=S.N
 lt:∀x,x<S.N->∀k∈S.kids x,k<S.N
 zj:∀x,x<S.N->(S.ty x).Kids=(S.kids x).map S.ty
 nC:∀k,k<S.M->S.ty k=cN k/\S.kids k= []
 isMeta:∀x,x<S.N->S.lh x->x<S.M
def Net.head(S:Net)(x y:Nat):Prop:=(S.ty x).Kind=(S.ty y).Kind/\(S.ty x).N=(S.ty y).N/\(S.ty x).Name=(S.ty y).Name/\(S.kids x).length=(S.kids y).length
theorem Net.head.symm{S:Net}{x y:Nat}(h:S.head x y):S.head y x:=⟨h.1.symm,h.2.1.symm,h.2.2.1.symm,h.2.2.2.symm⟩
theorem Net.head.trans{S:Net}{x y z:Nat}(h:S.head x y)(k:S.head y z):S.head x z:=⟨h.1.trans k.1,h.2.1.trans k.2.1,h.2.2.1.trans k.2.2.1,h.2.2.2.trans k.2.2.2⟩
inductive EqW(up:Nat->Nat)(W:List (Nat×Nat)):Nat->Nat->Prop
 |base (x y:Nat):uy up x y->EqW up W x y
 |ae1 (x y:Nat):(x,y)∈W->EqW up W x y
 |symm (x y:Nat):EqW up W x y->EqW up W y x
 |trans (x y z:Nat):EqW up W x y->EqW up W y z->EqW up W x z
theorem EqW.mono{up bw:Nat->Nat}{W W':List (Nat×Nat)}(hb:∀x y,uy up x y->EqW bw W' x y)(hp:∀x y,(x,y)∈W->EqW bw W' x y){x y:Nat}(h:EqW up W x y):EqW bw W' x y:=by
 induction h with
 |base x y h=>exact hb x y h
 |ae1 x y h=>exact hp x y h
 |symm x y _ ih=>exact ih.symm
 |trans x y z _ _ i1 i2=>exact .trans _ _ _ i1 i2
theorem EqW.none{up:Nat->Nat}{x y:Nat}(h:EqW up [] x y):uy up x y:=by
 induction h with
 |base x y h=>exact h
 |ae1 x y h=>simp at h
 |symm x y _ ih=>exact ih.symm
 |trans x y z _ _ i1 i2=>exact i1.trans i2
structure UF(S:Net)(up:Nat->Nat)(W:List (Nat×Nat)):Prop where
 lt:∀x,x<S.N->up x<S.N
 tot:∀x,x<S.N->∃r,bI up x r
 rk:∀x r,x<S.N->bI up x r->S.lh r->S.lh x/\r<=x
 cl:∀x r,x<S.N->bI up x r->¬S.lh x->S.head x r/\∀(i p q:Nat),(S.kids x)[i]? =some p->(S.kids r)[i]? =some q->EqW up W p q
theorem bI.lt{up:Nat->Nat}{n:Nat}(hl:∀x,x<n->up x<n){x r:Nat}(h:bI up x r)(hx:x<n):r<n:=by
 induction h with
 |here x _=>exact hx
 |step x r _ _ ih=>exact ih (hl x hx)
theorem uy.union{up:Nat->Nat}{c p:Nat}(hc:up c=c)(hp:up p=p)(bn:c≠p){x y:Nat}(h:uy up x y):uy (bV up c p) x y:=by
 obtain⟨r,a,b⟩:=h;exact⟨_,a.union hc hp bn,b.union hc hp bn⟩
theorem bI.qO{S:Net}{up:Nat->Nat}{W:List (Nat×Nat)}(h:UF S up W){c p:Nat}(hc:up c=c)(hp:up p=p)(bn:c≠p){x r:Nat}(hx:x<S.N)(k:bI (bV up c p) x r):∃r0,bI up x r0/\r=if r0=c then p else r0:=by
 obtain⟨r0,h0⟩:=h.tot x hx;exact⟨r0,h0,k.pf (h0.union hc hp bn)⟩
inductive Js(S:Net):(Nat->Nat)->List (Nat×Nat)->(Nat->Nat)->Bool->Prop
 |nil (up):Js S up [] up true
 |eq (up sj bw l ok):dy up sj->(∀x,x<S.N->sj x<S.N)->Js S sj l bw ok->Js S up l bw ok
 |same (up bw x y a l ok):bI up x a->bI up y a->Js S up l bw ok->Js S up ((x,y)::l) bw ok
 |mt (up bw x y a b c p l ok):bI up x a->bI up y b->a≠b->(c=a/\p=b∨c=b/\p=a)->S.lh c->(S.lh p->p<c)->Js S (bV up c p) l bw ok->Js S up ((x,y)::l) bw ok
 |jH (up x y a b l):bI up x a->bI up y b->a≠b->¬S.lh a->¬S.lh b->¬S.head a b->Js S up ((x,y)::l) up false
 |node (up bw x y a b c p l ok):bI up x a->bI up y b->a≠b->(c=a/\p=b∨c=b/\p=a)->¬S.lh a->¬S.lh b->S.head a b->Js S (bV up c p) ((S.kids a).zip (S.kids b)++l) bw ok->Js S up ((x,y)::l) bw ok
theorem Js.append{S:Net}{up sj bw:Nat->Nat}{l m:List (Nat×Nat)}{ok ok1:Bool}(h:Js S up l sj ok1)(ho:ok1=true)(k:Js S sj m bw ok):Js S up (l++m) bw ok:=by
 induction h with
 |nil up=>exact k
 |eq up sj uu l o h1 h2 _ ih=>exact .eq _ _ _ _ _ h1 h2 (ih ho k)
 |same up uu x y a l o h1 h2 _ ih=>exact .same _ _ _ _ _ _ _ h1 h2 (ih ho k)
 |mt up uu x y a b c p l o h1 h2 h3 h4 h5 h6 _ ih=>exact .mt _ _ _ _ _ _ _ _ _ _ h1 h2 h3 h4 h5 h6 (ih ho k)
 |jH=>cases ho
 |node up uu x y a b c p l o h1 h2 h3 h4 h5 h6 h7 _ ih=>exact .node _ _ _ _ _ _ _ _ _ _ h1 h2 h3 h4 h5 h6 h7 (by show Js S _ (_++(l++m)) _ _;rw[←List.append_assoc];exact ih ho k)
theorem Js.uc{S:Net}{up sj:Nat->Nat}{l m:List (Nat×Nat)}{ok1:Bool}(h:Js S up l sj ok1)(ho:ok1=false):Js S up (l++m) sj false:=by
 induction h with
 |nil up=>cases ho
 |eq up sj uu l o h1 h2 _ ih=>exact .eq _ _ _ _ _ h1 h2 (ih ho)
 |same up uu x y a l o h1 h2 _ ih=>exact .same _ _ _ _ _ _ _ h1 h2 (ih ho)
 |mt up uu x y a b c p l o h1 h2 h3 h4 h5 h6 _ ih=>exact .mt _ _ _ _ _ _ _ _ _ _ h1 h2 h3 h4 h5 h6 (ih ho)
 |jH up x y a b l h1 h2 h3 h4 h5 h6=>exact .jH _ _ _ _ _ _ h1 h2 h3 h4 h5 h6
 |node up uu x y a b c p l o h1 h2 h3 h4 h5 h6 h7 _ ih=>exact .node _ _ _ _ _ _ _ _ _ _ h1 h2 h3 h4 h5 h6 h7 (by show Js S _ (_++(l++m)) _ _;rw[←List.append_assoc];exact ih ho)
theorem dy.uf{S:Net}{up sj:Nat->Nat}{W:List (Nat×Nat)}(he:dy up sj)(hl:∀x,x<S.N->sj x<S.N)(h:UF S up W):UF S sj W:=by
 have inv:∀x r,x<S.N->bI sj x r->bI up x r:=λ x r hx k=>by
  obtain⟨r0,h0⟩:=h.tot x hx;have:=k.pf (he x r0 h0);subst this;exact h0
 refine⟨hl,λ x hx=> ?_,λ x r hx k=>h.rk x r hx (inv x r hx k),λ x r hx k hm=> ?_⟩
 ·obtain⟨r,hr⟩:=h.tot x hx;exact⟨r,he x r hr⟩
 ·obtain⟨h1,h2⟩:=h.cl x r hx (inv x r hx k) hm;exact⟨h1,λ i p q hp hq=>(h2 i p q hp hq).mono (λ x y ⟨r,a,b⟩=> .base _ _ ⟨r,he _ _ a,he _ _ b⟩) (λ x y hw=> .ae1 _ _ hw)⟩
theorem acy{α β:Type}:∀(l:List α) (m:List β) (i:Nat) (a:α) (b:β),l[i]? =some a->m[i]? =some b->(a,b)∈l.zip m
 | [],_,_,_,_,h,_=>by simp at h
 |_::_,[],_,_,_,_,h=>by simp at h
 |x::l,y::m,0,a,b,h,k=>by simp at h k;subst h;subst k;simp
 |x::l,y::m,i+1,a,b,h,k=>by
  simp only[List.zip_cons_cons,List.mem_cons];exact .inr (acy l m i a b (by simpa using h) (by simpa using k))
theorem oM{S:Net}{up:Nat->Nat}{c p:Nat}(hl:∀x,x<S.N->up x<S.N)(hp:p<S.N):∀x,x<S.N->bV up c p x<S.N:=λ x hx=>by
 unfold bV;split
 ·exact hp
 ·exact hl x hx
theorem Js.uf{S:Net}{up bw:Nat->Nat}{l:List (Nat×Nat)}{ok:Bool}(h:Js S up l bw ok):∀(W:List (Nat×Nat)),S.ok->ok=true->UF S up (l++W)->(∀p∈l,p.1<S.N/\p.2<S.N)->UF S bw W/\(∀x y,uy up x y->uy bw x y)/\∀p∈l,uy bw p.1 p.2:=by
 induction h with
 |nil up=>intro W _ _ hu _;exact⟨hu,λ _ _ h=>h,λ p hp=>by simp at hp⟩
 |eq up sj uu l o h1 h2 _ ih=>
  intro W hs ho hu hl;obtain⟨q1,q2,q3⟩:=ih W hs ho (h1.uf h2 hu) hl;exact⟨q1,λ x y ⟨r,a,b⟩=>q2 x y ⟨r,h1 _ _ a,h1 _ _ b⟩,q3⟩
 |same up uu x y a l o h1 h2 _ ih=>
  intro W hs ho hu hl
  have hu':UF S up (l++W):=⟨hu.lt,hu.tot,hu.rk,λ z r hz k hm=>by
   obtain⟨c1,c2⟩:=hu.cl z r hz k hm
   exact⟨c1,λ i p q hp hq=>(c2 i p q hp hq).mono (λ _ _ h=> .base _ _ h) λ u v hw=>by
    rcases List.mem_cons.1 hw with e|e
    ·cases e;exact .base _ _ ⟨a,h1,h2⟩
    ·exact .ae1 _ _ e⟩⟩
  obtain⟨q1,q2,q3⟩:=ih W hs ho hu' λ p hp=>hl p (by simp[hp])
  refine⟨q1,q2,λ p hp=> ?_⟩;rcases List.mem_cons.1 hp with e|e
  ·subst e;exact q2 _ _ ⟨a,h1,h2⟩
  ·exact q3 p e
 |mt up uu x y a b c p l o h1 h2 h3 h4 h5 h6 _ ih=>
  intro W hs ho hu hl;have zG:=hl (x,y) (by simp);have ha:=h1.lt hu.lt zG.1;have hb:=h2.lt hu.lt zG.2
  have hcp:up c=c/\up p=p/\c≠p/\c<S.N/\p<S.N:=by
   rcases h4 with⟨rfl,rfl⟩|⟨rfl,rfl⟩
   ·exact⟨h1.root,h2.root,h3,ha,hb⟩
   ·exact⟨h2.root,h1.root,h3.symm,hb,ha⟩
  obtain⟨hc,hp,bn,mu,uw⟩:=hcp
  have hE:uy (bV up c p) x y:=by
   rcases h4 with⟨rfl,rfl⟩|⟨rfl,rfl⟩
   ·exact⟨_,by have:=h1.union hc hp bn;rwa [if_pos rfl]at this,by have:=h2.union hc hp bn;rwa [if_neg bn.symm]at this⟩
   ·exact⟨_,by have:=h1.union hc hp bn;rwa [if_neg bn.symm]at this,by have:=h2.union hc hp bn;rwa [if_pos rfl]at this⟩
  have hu':UF S (bV up c p) (l++W):=by
   refine⟨oM hu.lt uw,λ z hz=> ?_,λ z r hz k hm=> ?_,λ z r hz k hm=> ?_⟩
   ·obtain⟨r,hr⟩:=hu.tot z hz;exact⟨_,hr.union hc hp bn⟩
   ·obtain⟨r0,k0,rfl⟩:=bI.qO hu hc hp bn hz k;by_cases hr:r0=c
    ·subst hr;rw[if_pos rfl]at hm⊢;obtain⟨g1,g2⟩:=hu.rk z r0 hz k0 h5;exact⟨g1,by have:=h6 hm;omega⟩
    ·rw[if_neg hr]at hm⊢;exact hu.rk z r0 hz k0 hm
   ·obtain⟨r0,k0,rfl⟩:=bI.qO hu hc hp bn hz k;by_cases hr:r0=c
    ·subst hr;exact(hm (hu.rk z r0 hz k0 h5).1).elim
    ·rw[if_neg hr];obtain⟨c1,c2⟩:=hu.cl z r0 hz k0 hm
     exact⟨c1,λ i u v hp' hq=>(c2 i u v hp' hq).mono (λ _ _ h=> .base _ _ (h.union hc hp bn)) λ u v hw=>by
      rcases List.mem_cons.1 hw with e|e
      ·cases e;exact .base _ _ hE
      ·exact .ae1 _ _ e⟩
  obtain⟨q1,q2,q3⟩:=ih W hs ho hu' λ p hp=>hl p (by simp[hp])
  refine⟨q1,λ _ _ h=>q2 _ _ (h.union hc hp bn),λ q hq=> ?_⟩;rcases List.mem_cons.1 hq with e|e
  ·subst e;exact q2 _ _ hE
  ·exact q3 q e
 |jH=>intro W _ ho;cases ho
 |node up uu x y a b c p l o h1 h2 h3 h4 h5 h6 h7 _ ih=>
  intro W hs ho hu hl;have zG:=hl (x,y) (by simp);have ha:=h1.lt hu.lt zG.1;have hb:=h2.lt hu.lt zG.2
  have hcp:up c=c/\up p=p/\c≠p/\c<S.N/\p<S.N/\¬S.lh c/\¬S.lh p/\S.head c p:=by
   rcases h4 with⟨rfl,rfl⟩|⟨rfl,rfl⟩
   ·exact⟨h1.root,h2.root,h3,ha,hb,h5,h6,h7⟩
   ·exact⟨h2.root,h1.root,h3.symm,hb,ha,h6,h5,h7.symm⟩
  obtain⟨hc,hp,bn,mu,uw,hcm,hpm,hh⟩:=hcp
  have hE:uy (bV up c p) x y:=by
   rcases h4 with⟨rfl,rfl⟩|⟨rfl,rfl⟩
   ·exact⟨_,by have:=h1.union hc hp bn;rwa [if_pos rfl]at this,by have:=h2.union hc hp bn;rwa [if_neg bn.symm]at this⟩
   ·exact⟨_,by have:=h1.union hc hp bn;rwa [if_neg bn.symm]at this,by have:=h2.union hc hp bn;rwa [if_pos rfl]at this⟩
  have conv:∀u v,EqW up (((x,y)::l)++W) u v->EqW (bV up c p) (((S.kids a).zip (S.kids b)++l)++W) u v:=λ u v h=>
   h.mono (λ _ _ h=> .base _ _ (h.union hc hp bn)) λ u v hw=>by
     rcases List.mem_cons.1 hw with e|e
     ·cases e;exact .base _ _ hE
     ·exact .ae1 _ _ (by
       rcases List.mem_append.1 e with e|e
       ·simp[e]
       ·simp[e])
  have auQ:∀(i u v:Nat),(S.kids c)[i]? =some u->(S.kids p)[i]? =some v->EqW (bV up c p) (((S.kids a).zip (S.kids b)++l)++W) u v:=by
   intro i u v hu' hv;rcases h4 with⟨rfl,rfl⟩|⟨rfl,rfl⟩
   ·exact .ae1 _ _ (by simp[acy _ _ i u v hu' hv])
   ·exact .symm _ _ (.ae1 _ _ (by simp[acy _ _ i v u hv hu']))
  have hu':UF S (bV up c p) (((S.kids a).zip (S.kids b)++l)++W):=by
   refine⟨oM hu.lt uw,λ z hz=> ?_,λ z r hz k hm=> ?_,λ z r hz k hm=> ?_⟩
   ·obtain⟨r,hr⟩:=hu.tot z hz;exact⟨_,hr.union hc hp bn⟩
   ·obtain⟨r0,k0,rfl⟩:=bI.qO hu hc hp bn hz k;by_cases hr:r0=c
    ·rw[if_pos hr]at hm;exact(hpm hm).elim
    ·rw[if_neg hr]at hm⊢;exact hu.rk z r0 hz k0 hm
   ·obtain⟨r0,k0,rfl⟩:=bI.qO hu hc hp bn hz k;obtain⟨c1,c2⟩:=hu.cl z r0 hz k0 hm;by_cases hr:r0=c
    ·subst hr;rw[if_pos rfl];refine⟨c1.trans hh,λ i u v hu1 hv=> ?_⟩
     have aF:i<(S.kids r0).length:=by
      have:=(List.getElem?_eq_some_iff.1 hv).1;rw[hh.2.2.2];exact this
     exact .trans _ _ _ (conv _ _ (c2 i u _ hu1 (List.getElem?_eq_getElem aF))) (auQ i _ v (List.getElem?_eq_getElem aF) hv)
    ·rw[if_neg hr];exact⟨c1,λ i u v hu1 hv=>conv _ _ (c2 i u v hu1 hv)⟩
  obtain⟨q1,q2,q3⟩:=ih W hs ho hu' λ q hq=>by
   rcases List.mem_append.1 hq with e|e
   ·obtain⟨u,v⟩:=q;have:=List.of_mem_zip e;exact⟨hs.lt a ha u this.1,hs.lt b hb v this.2⟩
   ·exact hl q (by simp[e])
  refine⟨q1,λ _ _ h=>q2 _ _ (h.union hc hp bn),λ q hq=> ?_⟩;rcases List.mem_cons.1 hq with e|e
  ·subst e;exact q2 _ _ hE
  ·exact q3 q (by simp[e])
end Go.Ab
namespace Go.Ab
def Snd(S:Net)(up:Nat->Nat)(σ:Int->aa):Prop:=∀x r,x<S.N->bI up x r->(S.ty x).sub σ=(S.ty r).sub σ
theorem Net.ok.mP{S:Net}(hs:S.ok)(σ:Int->aa){x:Nat}(hx:x<S.N)(hm:¬S.lh x):(S.ty x).sub σ= .mk (S.ty x).Kind (S.ty x).N (S.ty x).Name ((S.kids x).map λ k=>(S.ty k).sub σ):=by
 rw[aa.xZ σ hm,hs.zj x hx,List.map_map];rfl
theorem aa.mk_inj{k n k' n':Int}{s s':ByteArray}{l l':List aa}(h:aa.mk k n s l=aa.mk k' n' s' l'):k=k'/\n=n'/\s=s'/\l=l':=by cases h;exact⟨rfl,rfl,rfl,rfl⟩
theorem Js.sound{S:Net}{up bw:Nat->Nat}{l:List (Nat×Nat)}{ok:Bool}(h:Js S up l bw ok):∀(σ:Int->aa),S.ok->(∀x,x<S.N->up x<S.N)->(∀x,x<S.N->∃r,bI up x r)->(∀p∈l,p.1<S.N/\p.2<S.N)->Snd S up σ->(∀p∈l,(S.ty p.1).sub σ=(S.ty p.2).sub σ)->ok=true/\Snd S bw σ:=by
 have un:∀{up:Nat->Nat} {c p:Nat} {σ:Int->aa},(∀x,x<S.N->∃r,bI up x r)->up c=c->up p=p->c≠p->p<S.N->Snd S up σ->(S.ty c).sub σ=(S.ty p).sub σ->Snd S (bV up c p) σ/\∀x,x<S.N->∃r,bI (bV up c p) x r:=by
  intro up c p σ ht hc hp bn uw hn he;refine⟨λ x r hx k=> ?_,λ x hx=> ?_⟩
  ·obtain⟨r0,h0⟩:=ht x hx;have:=k.pf (h0.union hc hp bn);subst this;by_cases hr:r0=c
   ·rw[if_pos hr,hn x r0 hx h0,hr,he]
   ·rw[if_neg hr];exact hn x r0 hx h0
  ·obtain⟨r,hr⟩:=ht x hx;exact⟨_,hr.union hc hp bn⟩
 induction h with
 |nil up=>intro σ _ _ _ _ hn _;exact⟨rfl,hn⟩
 |eq up sj uu l o h1 h2 _ ih=>
  intro σ hs hl ht hp hn he;refine ih σ hs h2 (λ x hx=>by obtain⟨r,hr⟩:=ht x hx;exact⟨r,h1 _ _ hr⟩) hp (λ x r hx k=> ?_) he;obtain⟨r0,h0⟩:=ht x hx;have:=k.pf (h1 _ _ h0);subst this;exact hn x r hx h0
 |same up uu x y a l o h1 h2 _ ih=>
  intro σ hs hl ht hp hn he;exact ih σ hs hl ht (λ p hq=>hp p (by simp[hq])) hn λ p hq=>he p (by simp[hq])
 |mt up uu x y a b c p l o h1 h2 h3 h4 h5 h6 _ ih=>
  intro σ hs hl ht hp hn he;have zG:=hp (x,y) (by simp);have afL:=he (x,y) (by simp);simp only at zG afL;have ha:=h1.lt hl zG.1;have hb:=h2.lt hl zG.2;have qw:(S.ty a).sub σ=(S.ty b).sub σ:=by rw[←hn x a zG.1 h1,←hn y b zG.2 h2,afL]
  have hcp:up c=c/\up p=p/\c≠p/\p<S.N/\(S.ty c).sub σ=(S.ty p).sub σ:=by
   rcases h4 with⟨rfl,rfl⟩|⟨rfl,rfl⟩
   ·exact⟨h1.root,h2.root,h3,hb,qw⟩
   ·exact⟨h2.root,h1.root,h3.symm,ha,qw.symm⟩
  obtain⟨u1,u2⟩:=un ht hcp.1 hcp.2.1 hcp.2.2.1 hcp.2.2.2.1 hn hcp.2.2.2.2;exact ih σ hs (oM hl hcp.2.2.2.1) u2 (λ p hq=>hp p (by simp[hq])) u1 λ p hq=>he p (by simp[hq])
 |jH up x y a b l h1 h2 h3 h4 h5 h6=>
  intro σ hs hl ht hp hn he;have zG:=hp (x,y) (by simp);have afL:=he (x,y) (by simp);simp only at zG afL;have ha:=h1.lt hl zG.1;have hb:=h2.lt hl zG.2;have qw:(S.ty a).sub σ=(S.ty b).sub σ:=by rw[←hn x a zG.1 h1,←hn y b zG.2 h2,afL]
  rw[hs.mP σ ha h4,hs.mP σ hb h5]at qw;obtain⟨e1,e2,e3,e4⟩:=aa.mk_inj qw;have e5:=congrArg List.length e4;simp only[List.length_map]at e5;exact(h6 ⟨e1,e2,e3,e5⟩).elim
 |node up uu x y a b c p l o h1 h2 h3 h4 h5 h6 h7 _ ih=>
  intro σ hs hl ht hp hn he;have zG:=hp (x,y) (by simp);have afL:=he (x,y) (by simp);simp only at zG afL;have ha:=h1.lt hl zG.1;have hb:=h2.lt hl zG.2;have qw:(S.ty a).sub σ=(S.ty b).sub σ:=by rw[←hn x a zG.1 h1,←hn y b zG.2 h2,afL]
  have hcp:up c=c/\up p=p/\c≠p/\p<S.N/\(S.ty c).sub σ=(S.ty p).sub σ:=by
   rcases h4 with⟨rfl,rfl⟩|⟨rfl,rfl⟩
   ·exact⟨h1.root,h2.root,h3,hb,qw⟩
   ·exact⟨h2.root,h1.root,h3.symm,ha,qw.symm⟩
  obtain⟨u1,u2⟩:=un ht hcp.1 hcp.2.1 hcp.2.2.1 hcp.2.2.2.1 hn hcp.2.2.2.2;rw[hs.mP σ ha h5,hs.mP σ hb h6]at qw;obtain⟨_,_,_,e4⟩:=aa.mk_inj qw;refine ih σ hs (oM hl hcp.2.2.2.1) u2 (λ q hq=> ?_) u1 λ q hq=> ?_
  ·rcases List.mem_append.1 hq with e|e
   ·obtain⟨u,v⟩:=q;have:=List.of_mem_zip e;exact⟨hs.lt a ha u this.1,hs.lt b hb v this.2⟩
   ·exact hp q (by simp[e])
  ·rcases List.mem_append.1 hq with e|e
   ·obtain⟨i,hi⟩:=List.getElem?_of_mem e;rw[List.getElem?_zip_eq_some]at hi;have:=congrArg (λ l=>l[i]?) e4;simp only[List.getElem?_map,hi.1,hi.2,map_some,Option.some.injEq]at this;exact this
   ·exact he q (by simp[e])
mutual
inductive gP(S:Net)(up:Nat->Nat):Nat->aa->Prop
 |mt (x r:Nat):bI up x r->S.lh r->gP S up x (cN r)
 |node (x r:Nat) (ts:List aa):bI up x r->¬S.lh r->jQ S up (S.kids r) ts->gP S up x (.mk (S.ty r).Kind (S.ty r).N (S.ty r).Name ts)
inductive jQ(S:Net)(up:Nat->Nat):List Nat->List aa->Prop
 |nil:jQ S up [] []
 |cons (k:Nat) (l:List Nat) (t:aa) (ts:List aa):gP S up k t->jQ S up l ts->jQ S up (k::l) (t::ts)
end
theorem gP.eqv{S:Net}{up:Nat->Nat}{x y:Nat}{t:aa}(h:gP S up x t)(he:uy up y x):gP S up y t:=by
 obtain⟨r,a,b⟩:=he;cases h with
 |mt _ r' k hm=>
  have:=b.pf k;subst this;exact .mt y r a hm
 |node _ r' ts k hm hv=>
  have:=b.pf k;subst this;exact .node y r ts a hm hv
mutual
theorem gP.pf{S:Net}{up:Nat->Nat}{x:Nat}{t u:aa}:gP S up x t->gP S up x u->t=u
 | .mt _ r h hm,k=>by
   cases k with
   |mt _ r' k xB=>rw[h.pf k]
   |node _ r' ts k xB _=>have:=h.pf k;subst this;exact(xB hm).elim
 | .node _ r ts h hm hv,k=>by
   cases k with
   |mt _ r' k xB=>have:=h.pf k;subst this;exact(hm xB).elim
   |node _ r' us k xB hw=>
    have:=h.pf k;subst this;rw[jQ.pf hv hw]
theorem jQ.pf{S:Net}{up:Nat->Nat}{l:List Nat}{ts us:List aa}:jQ S up l ts->jQ S up l us->ts=us
 | .nil,k=>by cases k;rfl
 | .cons _ _ _ _ h hv,k=>by
   cases k with
   |cons _ _ _ _ k kv=>rw[gP.pf h k,jQ.pf hv kv]
end
theorem jQ.at{S:Net}{up:Nat->Nat}:∀{l:List Nat} {ts:List aa},jQ S up l ts->ts.length=l.length/\∀(i k:Nat),l[i]? =some k->∃t,ts[i]? =some t/\gP S up k t
 | [],_,h=>by cases h;exact⟨rfl,λ i k h=>by simp at h⟩
 |k::l,_,h=>by
  cases h with
  |cons _ _ t ts h1 h2=>
   obtain⟨q1,q2⟩:=jQ.at h2;refine⟨by simp[q1],λ i k' hk=> ?_⟩;cases i with
   |zero=>simp at hk;subst hk;exact⟨t,rfl,h1⟩
   |succ i=>simpa using q2 i k' (by simpa using hk)
theorem gm{x y:aa}(h:y∈x.Kids):SizeOf.sizeOf y<SizeOf.sizeOf x:=aa.cW h
theorem gP.exists{S:Net}{up:Nat->Nat}{W:List (Nat×Nat)}(hs:S.ok)(hu:UF S up W){σ:Int->aa}(hn:Snd S up σ):∀(n x:Nat),x<S.N->SizeOf.sizeOf ((S.ty x).sub σ)<=n->∃t,gP S up x t:=by
 intro n
 induction n with
 |zero=>intro x _ h;have:0<SizeOf.sizeOf ((S.ty x).sub σ):=by cases(S.ty x).sub σ;simp;omega
        omega
 |succ n ih=>
  intro x hx h;obtain⟨r,hr⟩:=hu.tot x hx;have ep:=hr.lt hu.lt hx;by_cases hm:S.lh r
  ·exact⟨_,.mt x r hr hm⟩
  ·rw[hn x r hx hr,hs.mP σ ep hm]at h
   have hk:∀k∈S.kids r,∃t,gP S up k t:=λ k hk=>ih k (hs.lt r ep k hk) (by
    have:SizeOf.sizeOf ((S.ty k).sub σ)<SizeOf.sizeOf (aa.mk (S.ty r).Kind (S.ty r).N (S.ty r).Name ((S.kids r).map λ k=>(S.ty k).sub σ)):=gm (by show _∈List.map _ _;exact List.mem_map.2 ⟨k,hk,rfl⟩);omega)
   have:∀l:List Nat,(∀k∈l,∃t,gP S up k t)->∃ts,jQ S up l ts:=by
    intro l
    induction l with
    |nil=>intro _;exact⟨[],.nil⟩
    |cons k l ih=>
     intro h;obtain⟨t,ht⟩:=h k (by simp);obtain⟨ts,oI⟩:=ih λ q hq=>h q (by simp[hq])
     exact⟨t::ts,.cons _ _ _ _ ht oI⟩
   obtain⟨ts,oI⟩:=this _ hk;exact⟨_,.node x r ts hr hm oI⟩
theorem gP.types{S:Net}{up:Nat->Nat}(hs:S.ok)(hu:UF S up []){τ:Int->aa}(xb:∀k,k<S.M->gP S up k (τ k)):∀(n x:Nat),x<S.N->SizeOf.sizeOf (S.ty x)<=n->gP S up x ((S.ty x).sub τ):=by
 intro n
 induction n with
 |zero=>intro x _ h;have:0<SizeOf.sizeOf (S.ty x):=by cases S.ty x;simp;omega
        omega
 |succ n ih=>
  intro x hx h;by_cases hm:S.lh x
  ·have hxm:=hs.isMeta x hx hm;rw[aa.aeB τ hm,(hs.nC x hxm).1];exact xb x hxm
  ·obtain⟨r,hr⟩:=hu.tot x hx;have ep:=hr.lt hu.lt hx;have hrm:¬S.lh r:=λ q=>hm (hu.rk x r hx hr q).1
   obtain⟨⟨e1,e2,e3,e4⟩,hk⟩:=hu.cl x r hx hr hm;rw[hs.mP τ hx hm,e1,e2,e3];refine .node x r _ hr hrm ?_
   have aB2:∀k∈S.kids x,gP S up k ((S.ty k).sub τ):=λ k nH=>ih k (hs.lt x hx k nH) (by
    have:SizeOf.sizeOf (S.ty k)<SizeOf.sizeOf (S.ty x):=gm (by rw[hs.zj x hx];exact List.mem_map.2 ⟨k,nH,rfl⟩);omega)
   have aAT:∀(l m:List Nat),l.length=m.length->(∀(i p q:Nat),l[i]? =some p->m[i]? =some q->uy up p q)->(∀k∈l,gP S up k ((S.ty k).sub τ))->jQ S up m (l.map λ k=>(S.ty k).sub τ):=by
    intro l
    induction l with
    |nil=>intro m hl _ _;obtain rfl:=List.eq_nil_of_length_eq_zero hl.symm;exact .nil
    |cons p l ih=>
     intro m hl he hv;cases m with
     |nil=>simp at hl
     |cons q m=>exact .cons _ _ _ _ ((hv p (by simp)).eqv (he 0 p q rfl rfl).symm) (ih m (by simpa using hl) (λ i p q hp hq=>he (i+1) p q (by simpa using hp) (by simpa using hq)) λ k hk=>hv k (by simp[hk]))
   exact aAT _ _ e4 (λ i p q hp hq=>(hk i p q hp hq).none) aB2
theorem gP.arT{S:Net}{up:Nat->Nat}(hs:S.ok)(hl:∀x,x<S.N->up x<S.N){σ:Int->aa}(hn:Snd S up σ):∀(n x:Nat) (t:aa),x<S.N->SizeOf.sizeOf t<=n->gP S up x t->t.sub σ=(S.ty x).sub σ:=by
 intro n
 induction n with
 |zero=>intro x t _ h;have:0<SizeOf.sizeOf t:=by cases t;simp;omega
        omega
 |succ n ih=>
  intro x t hx h hv;cases hv with
  |mt _ r hr hm=>
   have hrm:=hs.isMeta r (hr.lt hl hx) hm;rw[hn x r hx hr,(hs.nC r hrm).1]
  |node _ r ts hr hm nd=>
   have ep:=hr.lt hl hx;have aok:(aa.mk (S.ty r).Kind (S.ty r).N (S.ty r).Name ts).Kind≠11:=hm;rw[hn x r hx hr,hs.mP σ ep hm,aa.xZ σ aok]
   show aa.mk _ _ _ (ts.map _)=_;obtain⟨q1,q2⟩:=jQ.at nd;congr 1;apply List.ext_getElem?;intro i;rw[List.getElem?_map,List.getElem?_map];cases hk:(S.kids r)[i]? with
   |none=>rw[List.getElem?_eq_none (by rw[q1];exact List.getElem?_eq_none_iff.1 hk)];rfl
   |some k=>
    obtain⟨t,ht,hvt⟩:=q2 i k hk;rw[ht];simp only[map_some];congr 1
    exact ih k t (hs.lt r ep k (mem_of_getElem? hk)) (by
     have:SizeOf.sizeOf t<SizeOf.sizeOf (aa.mk (S.ty r).Kind (S.ty r).N (S.ty r).Name ts):=gm (show t∈ts from mem_of_getElem? ht);omega) hvt
end Go.Ab
namespace Go.Ab
mutual
def aa.allM(Q:Int->Prop):aa->Prop
 | .mk kd n nm kids=>(kd=11->nm=⟨#[]⟩/\kids= []/\Q n)/\aa.wv Q kids
def aa.wv(Q:Int->Prop):List aa->Prop
 | []=>True
 |x::l=>x.allM Q/\aa.wv Q l
end
theorem aa.rn(Q:Int->Prop):∀l:List aa,aa.wv Q l↔∀y∈l,y.allM Q
 | []=>by simp[aa.wv]
 |x::l=>by simp[aa.wv,aa.rn Q l]
theorem aa.rq{Q:Int->Prop}{x:aa}(h:x.allM Q)(hk:x.Kind=11):x.Name=⟨#[]⟩/\x.Kids= []/\Q x.N:=by
 rw[x.qC]at h;exact h.1 hk
theorem aa.mB{Q:Int->Prop}{x:aa}(h:x.allM Q):∀y∈x.Kids,y.allM Q:=by
 rw[x.qC]at h;exact(aa.rn Q _).1 h.2
theorem aa.alR{Q:Int->Prop}{k:Int}(h:Q k):(cN k).allM Q:=⟨λ _=>⟨rfl,rfl,h⟩,trivial⟩
mutual
theorem aa.jL{Q Q':Int->Prop}(hq:∀n,Q n->Q' n):∀(x:aa),x.allM Q->x.allM Q'
 | .mk kd n nm kids,h=>⟨λ hk=>⟨(h.1 hk).1,(h.1 hk).2.1,hq _ (h.1 hk).2.2⟩,aa.aaq hq kids h.2⟩
theorem aa.aaq{Q Q':Int->Prop}(hq:∀n,Q n->Q' n):∀(l:List aa),aa.wv Q l->aa.wv Q' l
 | [],_=>trivial
 |x::l,h=>⟨aa.jL hq x h.1,aa.aaq hq l h.2⟩
end
mutual
theorem aa.acD{σ:Int->aa}:∀(x:aa),x.allM (λ m=>σ m=cN m)->x.sub σ=x
 | .mk kd n nm kids,h=>by
   rw[aa.sub];by_cases hk:kd=11
   ·obtain⟨h1,h2,h3⟩:=h.1 hk;rw[if_pos hk,h3,hk,h1,h2];rfl
   ·rw[if_neg hk,aa.aeA kids h.2]
theorem aa.aeA{σ:Int->aa}:∀(l:List aa),aa.wv (λ m=>σ m=cN m) l->aa.ajX σ l=l
 | [],_=>rfl
 |x::l,h=>by rw[aa.ajX,aa.acD x h.1,aa.aeA l h.2]
end
structure Canon(M:Nat)(ps:List (aa×aa))(τ:Int->aa):Prop where
 uni:∀p∈ps,p.1.sub τ=p.2.sub τ
 gen:∀σ:Int->aa,(∀p∈ps,p.1.sub σ=p.2.sub σ)->∀k:Nat,k<M->(τ k).sub σ=σ k
 fix:∀k:Nat,k<M->(τ k).allM λ m=>∃j:Nat,j<M/\m=j/\τ j=cN j
 low:∀k:Nat,k<M->∀r:Nat,τ k=cN r->r<=k
theorem akK{a b:Int}(h:cN a=cN b):a=b:=(aa.mk_inj h).2.1
theorem abS(σ:Int->aa)(k:Int):(cN k).sub σ=σ k:=aa.aeB σ rfl
theorem Canon.unique{M:Nat}{ps:List (aa×aa)}{τ τ':Int->aa}(h:Canon M ps τ)(h':Canon M ps τ'):∀k:Nat,k<M->τ k=τ' k:=by
 have e1:=h.gen τ' h'.uni;have e2:=h'.gen τ h.uni
 have roots:∀m:Nat,m<M->τ m=cN m->τ' m=cN m:=by
  intro m hm hr;have q:=e2 m hm;rw[hr]at q;by_cases hk:(τ' m).Kind=11
  ·have hf:=h'.fix m hm;rw[(τ' m).qC]at hf;obtain⟨h1,h2,j,hj,hj1,hj2⟩:=hf.1 hk;have ak1:τ' m=cN j:=by rw[(τ' m).qC,hk,h1,h2,hj1];rfl
   have hle:=h'.low m hm j ak1;rw[ak1,abS]at q;have aEX:=h.low j hj m q;have:j=m:=by omega
   rw[ak1,this]
  ·rw[aa.xZ τ hk]at q;exact(hk (aa.mk_inj q).1).elim
 intro k hk;have q:=e1 k hk;rw[aa.acD _ (aa.jL (λ m ⟨j,hj,e,hr⟩=>by subst e;exact roots j hj hr) _ (h.fix k hk))]at q;exact q
theorem Canon.auj{S:Net}{up:Nat->Nat}(hs:S.ok)(hu:UF S up []){τ:Int->aa}(xb:∀k:Nat,k<S.M->gP S up k (τ k)){l:List (Nat×Nat)}{ps:List (aa×aa)}(hl:∀p∈l,p.1<S.N/\p.2<S.N)(he:∀p∈l,uy up p.1 p.2)
  (hp:ps=l.map λ p=>(S.ty p.1,S.ty p.2)) (aBD:∀σ:Int->aa,(∀p∈ps,p.1.sub σ=p.2.sub σ)->Snd S up σ):Canon S.M ps τ:=by
 have py:∀r:Nat,r<S.N->up r=r->S.lh r->r<S.M/\τ r=cN r:=λ r hr hur hm=>by
  have h1:=hs.isMeta r hr hm;exact⟨h1,(xb r h1).pf (.mt r r (.here r hur) hm)⟩
 have aCR:∀(n x:Nat) (t:aa),x<S.N->SizeOf.sizeOf t<=n->gP S up x t->t.allM λ m=>∃j:Nat,j<S.M/\m=j/\τ j=cN j:=by
  intro n
  induction n with
  |zero=>intro x t _ h;have:0<SizeOf.sizeOf t:=by cases t;simp;omega
         omega
  |succ n ih=>
   intro x t hx h hv;cases hv with
   |mt _ r hr hm=>
    obtain⟨h1,h2⟩:=py r (hr.lt hu.lt hx) hr.root hm;exact aa.alR ⟨r,h1,rfl,h2⟩
   |node _ r ts hr hm nd=>
    have ep:=hr.lt hu.lt hx;refine⟨λ hk=>(hm hk).elim,(aa.rn _ _).2 λ t ht=> ?_⟩;obtain⟨q1,q2⟩:=jQ.at nd;obtain⟨i,hi⟩:=List.getElem?_of_mem ht;have hil:=(List.getElem?_eq_some_iff.1 hi).1;have hk:(S.kids r)[i]? =some ((S.kids r)[i]'(by omega)):=List.getElem?_eq_getElem (by omega);obtain⟨t',ht',hvt⟩:=q2 i _ hk;rw[hi]at ht';cases ht'
    exact ih _ t (hs.lt r ep _ (mem_of_getElem? hk)) (by
     have:SizeOf.sizeOf t<SizeOf.sizeOf (aa.mk (S.ty r).Kind (S.ty r).N (S.ty r).Name ts):=gm (show t∈ts from ht);omega) hvt
 refine⟨λ p hp'=> ?_,λ σ zE k hk=> ?_,λ k hk=>aCR _ k _ (Nat.lt_of_lt_of_le hk hs.le) (le_refl _) (xb k hk),λ k hk r hr=> ?_⟩
 ·rw[hp]at hp';obtain⟨q,hq,rfl⟩:=List.mem_map.1 hp';obtain⟨h1,h2⟩:=hl q hq;exact(gP.types hs hu xb _ q.1 h1 (le_refl _)).pf ((gP.types hs hu xb _ q.2 h2 (le_refl _)).eqv (he q hq))
 ·have:=gP.arT hs hu.lt (aBD σ zE) _ k (τ k) (Nat.lt_of_lt_of_le hk hs.le) (le_refl _) (xb k hk);rw[this,(hs.nC k hk).1,abS]
 ·have hv:=xb k hk;rw[hr]at hv;generalize hg:cN (r:Int)=t at hv;cases hv with
  |mt _ r' h1 hm=>
   have:=akK hg;have:=(hu.rk k r' (Nat.lt_of_lt_of_le hk hs.le) h1 hm).2;omega
  |node _ r' ts h1 hm _=>
   exact(hm (aa.mk_inj hg).1.symm).elim
inductive Dn(S:Net)(up:Nat->Nat):Nat->Nat->Prop
 |wK (x r k y:Nat):bI up x r->¬S.lh r->k∈S.kids r->uy up k y->Dn S up x y
 |trans (x y z:Nat):Dn S up x y->Dn S up y z->Dn S up x z
theorem Dn.less{S:Net}{up:Nat->Nat}{x y:Nat}(h:Dn S up x y):∀t,gP S up x t->∃u,gP S up y u/\SizeOf.sizeOf u<SizeOf.sizeOf t:=by
 induction h with
 |wK x r k y h1 h2 h3 h4=>
  intro t hv;cases hv with
  |mt _ r' h hm=>have:=h1.pf h;subst this;exact(h2 hm).elim
  |node _ r' ts h hm nd=>
   have:=h1.pf h;subst this;obtain⟨q1,q2⟩:=jQ.at nd;obtain⟨i,hi⟩:=List.getElem?_of_mem h3;obtain⟨u,hu,hvu⟩:=q2 i k hi;exact⟨u,hvu.eqv h4.symm,gm (show u∈ts from mem_of_getElem? hu)⟩
 |trans x y z _ _ i1 i2=>
  intro t hv;obtain⟨u,hu,h1⟩:=i1 t hv;obtain⟨v,km,h2⟩:=i2 u hu;exact⟨v,km,by omega⟩
theorem Dn.not{S:Net}{up:Nat->Nat}{x:Nat}(h:Dn S up x x)(t:aa):¬gP S up x t:=by
 have:∀(n:Nat) (t:aa),SizeOf.sizeOf t<=n->¬gP S up x t:=by
  intro n
  induction n with
  |zero=>intro t h _;have:0<SizeOf.sizeOf t:=by cases t;simp;omega
         omega
  |succ n ih=>
   intro t ht hv;obtain⟨u,hu,aF⟩:=h.less t hv;exact ih u (by omega) hu
 exact this _ t (le_refl _)
theorem Dn.eqv{S:Net}{up:Nat->Nat}{x y z:Nat}(h:Dn S up x y)(he:uy up y z):Dn S up x z:=by
 induction h with
 |wK x r k y h1 h2 h3 h4=>exact .wK x r k z h1 h2 h3 (h4.trans he)
 |trans x y w h1 _ _ i2=>exact .trans _ _ _ h1 (i2 he)
theorem Dn.from{S:Net}{up:Nat->Nat}{x y z:Nat}(h:Dn S up x y)(he:uy up z x):Dn S up z y:=by
 induction h with
 |wK x r k y h1 h2 h3 h4=>
  obtain⟨r',a,b⟩:=he;have:=b.pf h1;subst this;exact .wK z r' k y a h2 h3 h4
 |trans x y w _ h2 i1 _=>exact .trans _ _ _ (i1 he) h2
end Go.Ab
