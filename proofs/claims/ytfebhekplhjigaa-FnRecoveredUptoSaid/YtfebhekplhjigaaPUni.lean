/-
  TYPES MADE ONE, the plain law: nodes that are made one by pairs; what their classes read as.
-/
import Derived.Test.YtfebhekplhjigaaGM
open Nat(le_refl)
open Option(map_some)
open List(mem_of_getElem?)
set_option linter.unusedVariables false
set_option linter.unusedSimpArgs false
namespace Go.Ab
set_option maxRecDepth 100000
mutual
def aa.sub(σ:Int->aa):aa->aa
 | .mk kd n nm kids=>if kd=11 then σ n else .mk kd n nm (aa.ah5 σ kids)
def aa.ah5(σ:Int->aa):List aa->List aa
 | []=>[]
 |x::l=>x.sub σ::aa.ah5 σ l
end
theorem aa.agZ(σ:Int->aa):∀l:List aa,aa.ah5 σ l=l.map (aa.sub σ)
 | []=>rfl
 |x::l=>by simp only[aa.ah5,aa.agZ σ l,List.map_cons]
theorem aa.sub_eq(σ:Int->aa)(x:aa):x.sub σ=if x.Kind=11 then σ x.N else .mk x.Kind x.N x.Name (x.Kids.map (aa.sub σ)):=by
 cases x;rw[aa.sub,aa.agZ];rfl
theorem aa.pq(σ:Int->aa){x:aa}(h:x.Kind=11):x.sub σ=σ x.N:=by rw[aa.sub_eq,if_pos h]
theorem aa.np(σ:Int->aa){x:aa}(h:x.Kind≠11):x.sub σ= .mk x.Kind x.N x.Name (x.Kids.map (aa.sub σ)):=by rw[aa.sub_eq,if_neg h]
def er(k:Int):aa:= .mk 11 k ⟨#[]⟩ []
theorem aa.ug(x:aa):x= .mk x.Kind x.N x.Name x.Kids:=by cases x;rfl
inductive cr(up:Nat->Nat):Nat->Nat->Prop
 |here (x:Nat):up x=x->cr up x x
 |step (x r:Nat):up x≠x->cr up (up x) r->cr up x r
theorem cr.root{up:Nat->Nat}{x r:Nat}(h:cr up x r):up r=r:=by
 induction h with
 |here x h=>exact h
 |step x r h _ ih=>exact ih
theorem cr.self{up:Nat->Nat}{x r:Nat}(h:cr up x r)(hx:up x=x):r=x:=by
 cases h with
 |here _ _=>rfl
 |step _ _ hn _=>exact(hn hx).elim
theorem cr.qq{up:Nat->Nat}{x r s:Nat}(h:cr up x r)(k:cr up x s):r=s:=by
 induction h with
 |here x h=>exact(k.self h).symm
 |step x r h _ ih=>
  cases k with
  |here _ hx=>exact(h hx).elim
  |step _ _ _ k=>exact ih k
def tk(up:Nat->Nat)(x y:Nat):Prop:=∃r,cr up x r/\cr up y r
theorem tk.symm{up:Nat->Nat}{x y:Nat}(h:tk up x y):tk up y x:=by obtain⟨r,a,b⟩:=h;exact⟨r,b,a⟩
theorem tk.trans{up:Nat->Nat}{x y z:Nat}(h:tk up x y)(k:tk up y z):tk up x z:=by
 obtain⟨r,a,b⟩:=h;obtain⟨s,c,d⟩:=k;have:=b.qq c;subst this;exact⟨r,a,d⟩
def cT(up:Nat->Nat)(c p:Nat):Nat->Nat:=λ x=>if x=c then p else up x
theorem cr.union{up:Nat->Nat}{c p:Nat}(hc:up c=c)(hp:up p=p)(bB:c≠p){x r:Nat}(h:cr up x r):cr (cT up c p) x (if r=c then p else r):=by
 have hpp:cT up c p p=p:=by unfold cT;rw[if_neg bB.symm];exact hp
 induction h with
 |here x h=>
  by_cases hx:x=c
  ·subst hx;rw[if_pos rfl];exact .step x p (by unfold cT;rw[if_pos rfl];exact bB.symm) (by unfold cT;rw[if_pos rfl];exact .here p hpp)
  ·rw[if_neg hx];exact .here x (by unfold cT;rw[if_neg hx];exact h)
 |step x r h _ ih=>
  have hx:x≠c:=λ e=>h (e▸hc)
  have hu:cT up c p x=up x:=by unfold cT;rw[if_neg hx]
  exact .step x _ (by rw[hu];exact h) (by rw[hu];exact ih)
def dy(up cj:Nat->Nat):Prop:=∀x r,cr up x r->cr cj x r
theorem cr.axl{up:Nat->Nat}{c q:Nat}(hc:cr up c q)(hn:up c≠c):dy up (cT up c (up (up c))):=by
 have hq:cr up (up (up c)) q:=by
  cases hc with
  |here _ h=>exact(hn h).elim
  |step _ _ _ k=>
   cases k with
   |here _ h=>rw[h];exact .here _ h
   |step _ _ _ k=>exact k
 have len:∀x r,cr up x r->∃n,(Nat.repeat up n x=r/\∀m<n,up (Nat.repeat up m x)≠Nat.repeat up m x):=by
  intro x r h
  induction h with
  |here x h=>exact⟨0,rfl,λ m hm=>by omega⟩
  |step x r h _ ih=>
   obtain⟨n,h1,h2⟩:=ih
   have awI:∀m,Nat.repeat up m (up x)=Nat.repeat up (m+1) x:=by
    intro m
    induction m with
    |zero=>rfl
    |succ m ihm=>show up _=up _;rw[ihm]
   refine⟨n+1,by rw[←awI];exact h1,λ m hm=> ?_⟩;cases m with
   |zero=>exact h
   |succ m=>rw[←awI];exact h2 m (by omega)
 intro x r h
 induction h with
 |here x h=>exact .here x (by unfold cT;rw[if_neg (λ e=>hn (by rw[←e];exact h))];exact h)
 |step x r h hs ih=>
  by_cases hx:x=c
  ·subst hx;have hr:r=q:=(cr.step x r h hs).qq hc;subst hr
   have bB:up (up x)≠x:=by
    intro e;obtain⟨n,h1,h2⟩:=len x r hc
    have jP:∀m,Nat.repeat up m x=x∨Nat.repeat up m x=up x:=by
     intro m
     induction m with
     |zero=>exact .inl rfl
     |succ m ihm=>
      show up (Nat.repeat up m x)=x∨up (Nat.repeat up m x)=up x;rcases ihm with e'|e'
      ·rw[e'];exact .inr rfl
      ·rw[e'];exact .inl e
    have pG:=hc.root;rcases jP n with e'|e'
    ·rw[h1]at e';rw[e']at pG;exact h pG
    ·rw[h1]at e';rw[e',e]at pG;exact h pG.symm
   have hu:cT up x (up (up x)) x=up (up x):=by unfold cT;rw[if_pos rfl]
   have hux:cT up x (up (up x)) (up x)=up (up x):=by unfold cT;rw[if_neg h]
   refine .step x r (by rw[hu];exact bB) ?_;rw[hu];generalize cT up x (up (up x))=f at*;by_cases h':up (up x)=up x
   ·rw[h'];exact ih
   ·cases ih with
    |here _ h2=>exact(h' (by rw[←hux];exact h2)).elim
    |step _ _ h2 k=>rw[hux]at k;exact k
  ·have hu:cT up c (up (up c)) x=up x:=by unfold cT;rw[if_neg hx]
   exact .step x r (by rw[hu];exact h) (by rw[hu];exact ih)
end Go.Ab
namespace Go.Ab
structure Net where
 N:Nat
 M:Nat
 ty:Nat->aa
 kids:Nat->List Nat
def Net.mX(S:Net)(x:Nat):Prop:=(S.ty x).Kind=11
instance(S:Net)(x:Nat):Decidable (S.mX x):=by unfold Net.mX;infer_instance
structure Net.ok(S:Net):Prop where
 le:S.M<=S.N
 lt:∀x,x<S.N->∀k∈S.kids x,k<S.N
 xT:∀x,x<S.N->(S.ty x).Kids=(S.kids x).map S.ty
 qJ:∀k,k<S.M->S.ty k=er k/\S.kids k= []
 isMeta:∀x,x<S.N->S.mX x->x<S.M
def Net.head(S:Net)(x y:Nat):Prop:=(S.ty x).Kind=(S.ty y).Kind/\(S.ty x).N=(S.ty y).N/\(S.ty x).Name=(S.ty y).Name/\(S.kids x).length=(S.kids y).length
theorem Net.head.symm{S:Net}{x y:Nat}(h:S.head x y):S.head y x:=⟨h.1.symm,h.2.1.symm,h.2.2.1.symm,h.2.2.2.symm⟩
theorem Net.head.trans{S:Net}{x y z:Nat}(h:S.head x y)(k:S.head y z):S.head x z:=⟨h.1.trans k.1,h.2.1.trans k.2.1,h.2.2.1.trans k.2.2.1,h.2.2.2.trans k.2.2.2⟩
inductive EqW(up:Nat->Nat)(W:List (Nat×Nat)):Nat->Nat->Prop
 |base (x y:Nat):tk up x y->EqW up W x y
 |adl (x y:Nat):(x,y)∈W->EqW up W x y
 |symm (x y:Nat):EqW up W x y->EqW up W y x
 |trans (x y z:Nat):EqW up W x y->EqW up W y z->EqW up W x z
theorem EqW.mono{up cj:Nat->Nat}{W W':List (Nat×Nat)}(hb:∀x y,tk up x y->EqW cj W' x y)(hp:∀x y,(x,y)∈W->EqW cj W' x y){x y:Nat}(h:EqW up W x y):EqW cj W' x y:=by
 induction h with
 |base x y h=>exact hb x y h
 |adl x y h=>exact hp x y h
 |symm x y _ ih=>exact ih.symm
 |trans x y z _ _ i1 i2=>exact .trans _ _ _ i1 i2
theorem EqW.none{up:Nat->Nat}{x y:Nat}(h:EqW up [] x y):tk up x y:=by
 induction h with
 |base x y h=>exact h
 |adl x y h=>simp at h
 |symm x y _ ih=>exact ih.symm
 |trans x y z _ _ i1 i2=>exact i1.trans i2
structure UF(S:Net)(up:Nat->Nat)(W:List (Nat×Nat)):Prop where
 lt:∀x,x<S.N->up x<S.N
 tot:∀x,x<S.N->∃r,cr up x r
 rk:∀x r,x<S.N->cr up x r->S.mX r->S.mX x/\r<=x
 cl:∀x r,x<S.N->cr up x r->¬S.mX x->S.head x r/\∀(i p q:Nat),(S.kids x)[i]? =some p->(S.kids r)[i]? =some q->EqW up W p q
theorem cr.lt{up:Nat->Nat}{n:Nat}(hl:∀x,x<n->up x<n){x r:Nat}(h:cr up x r)(hx:x<n):r<n:=by
 induction h with
 |here x _=>exact hx
 |step x r _ _ ih=>exact ih (hl x hx)
theorem tk.union{up:Nat->Nat}{c p:Nat}(hc:up c=c)(hp:up p=p)(bB:c≠p){x y:Nat}(h:tk up x y):tk (cT up c p) x y:=by
 obtain⟨r,a,b⟩:=h;exact⟨_,a.union hc hp bB,b.union hc hp bB⟩
theorem cr.p8{S:Net}{up:Nat->Nat}{W:List (Nat×Nat)}(h:UF S up W){c p:Nat}(hc:up c=c)(hp:up p=p)(bB:c≠p){x r:Nat}(hx:x<S.N)(k:cr (cT up c p) x r):∃r0,cr up x r0/\r=if r0=c then p else r0:=by
 obtain⟨r0,h0⟩:=h.tot x hx;exact⟨r0,h0,k.qq (h0.union hc hp bB)⟩
inductive Js(S:Net):(Nat->Nat)->List (Nat×Nat)->(Nat->Nat)->Bool->Prop
 |nil (up):Js S up [] up true
 |eq (up tl cj l ok):dy up tl->(∀x,x<S.N->tl x<S.N)->Js S tl l cj ok->Js S up l cj ok
 |same (up cj x y a l ok):cr up x a->cr up y a->Js S up l cj ok->Js S up ((x,y)::l) cj ok
 |mt (up cj x y a b c p l ok):cr up x a->cr up y b->a≠b->(c=a/\p=b∨c=b/\p=a)->S.mX c->(S.mX p->p<c)->Js S (cT up c p) l cj ok->Js S up ((x,y)::l) cj ok
 |nQ (up x y a b l):cr up x a->cr up y b->a≠b->¬S.mX a->¬S.mX b->¬S.head a b->Js S up ((x,y)::l) up false
 |node (up cj x y a b c p l ok):cr up x a->cr up y b->a≠b->(c=a/\p=b∨c=b/\p=a)->¬S.mX a->¬S.mX b->S.head a b->Js S (cT up c p) ((S.kids a).zip (S.kids b)++l) cj ok->Js S up ((x,y)::l) cj ok
theorem Js.append{S:Net}{up tl cj:Nat->Nat}{l m:List (Nat×Nat)}{ok ok1:Bool}(h:Js S up l tl ok1)(ho:ok1=true)(k:Js S tl m cj ok):Js S up (l++m) cj ok:=by
 induction h with
 |nil up=>exact k
 |eq up tl y5 l o h1 h2 _ ih=>exact .eq _ _ _ _ _ h1 h2 (ih ho k)
 |same up y5 x y a l o h1 h2 _ ih=>exact .same _ _ _ _ _ _ _ h1 h2 (ih ho k)
 |mt up y5 x y a b c p l o h1 h2 h3 h4 h5 h6 _ ih=>exact .mt _ _ _ _ _ _ _ _ _ _ h1 h2 h3 h4 h5 h6 (ih ho k)
 |nQ=>cases ho
 |node up y5 x y a b c p l o h1 h2 h3 h4 h5 h6 h7 _ ih=>exact .node _ _ _ _ _ _ _ _ _ _ h1 h2 h3 h4 h5 h6 h7 (by show Js S _ (_++(l++m)) _ _;rw[←List.append_assoc];exact ih ho k)
theorem Js.acn{S:Net}{up tl:Nat->Nat}{l m:List (Nat×Nat)}{ok1:Bool}(h:Js S up l tl ok1)(ho:ok1=false):Js S up (l++m) tl false:=by
 induction h with
 |nil up=>cases ho
 |eq up tl y5 l o h1 h2 _ ih=>exact .eq _ _ _ _ _ h1 h2 (ih ho)
 |same up y5 x y a l o h1 h2 _ ih=>exact .same _ _ _ _ _ _ _ h1 h2 (ih ho)
 |mt up y5 x y a b c p l o h1 h2 h3 h4 h5 h6 _ ih=>exact .mt _ _ _ _ _ _ _ _ _ _ h1 h2 h3 h4 h5 h6 (ih ho)
 |nQ up x y a b l h1 h2 h3 h4 h5 h6=>exact .nQ _ _ _ _ _ _ h1 h2 h3 h4 h5 h6
 |node up y5 x y a b c p l o h1 h2 h3 h4 h5 h6 h7 _ ih=>exact .node _ _ _ _ _ _ _ _ _ _ h1 h2 h3 h4 h5 h6 h7 (by show Js S _ (_++(l++m)) _ _;rw[←List.append_assoc];exact ih ho)
theorem dy.uf{S:Net}{up tl:Nat->Nat}{W:List (Nat×Nat)}(he:dy up tl)(hl:∀x,x<S.N->tl x<S.N)(h:UF S up W):UF S tl W:=by
 have inv:∀x r,x<S.N->cr tl x r->cr up x r:=λ x r hx k=>by
  obtain⟨r0,h0⟩:=h.tot x hx;have:=k.qq (he x r0 h0);subst this;exact h0
 refine⟨hl,λ x hx=> ?_,λ x r hx k=>h.rk x r hx (inv x r hx k),λ x r hx k hm=> ?_⟩
 ·obtain⟨r,hr⟩:=h.tot x hx;exact⟨r,he x r hr⟩
 ·obtain⟨h1,h2⟩:=h.cl x r hx (inv x r hx k) hm;exact⟨h1,λ i p q hp hq=>(h2 i p q hp hq).mono (λ x y ⟨r,a,b⟩=> .base _ _ ⟨r,he _ _ a,he _ _ b⟩) (λ x y hw=> .adl _ _ hw)⟩
theorem aa0{α β:Type}:∀(l:List α) (m:List β) (i:Nat) (a:α) (b:β),l[i]? =some a->m[i]? =some b->(a,b)∈l.zip m
 | [],_,_,_,_,h,_=>by simp at h
 |_::_,[],_,_,_,_,h=>by simp at h
 |x::l,y::m,0,a,b,h,k=>by simp at h k;subst h;subst k;simp
 |x::l,y::m,i+1,a,b,h,k=>by
  simp only[List.zip_cons_cons,List.mem_cons];exact .inr (aa0 l m i a b (by simpa using h) (by simpa using k))
theorem p7{S:Net}{up:Nat->Nat}{c p:Nat}(hl:∀x,x<S.N->up x<S.N)(hp:p<S.N):∀x,x<S.N->cT up c p x<S.N:=λ x hx=>by
 unfold cT;split
 ·exact hp
 ·exact hl x hx
theorem Js.uf{S:Net}{up cj:Nat->Nat}{l:List (Nat×Nat)}{ok:Bool}(h:Js S up l cj ok):∀(W:List (Nat×Nat)),S.ok->ok=true->UF S up (l++W)->(∀p∈l,p.1<S.N/\p.2<S.N)->UF S cj W/\(∀x y,tk up x y->tk cj x y)/\∀p∈l,tk cj p.1 p.2:=by
 induction h with
 |nil up=>intro W _ _ hu _;exact⟨hu,λ _ _ h=>h,λ p hp=>by simp at hp⟩
 |eq up tl y5 l o h1 h2 _ ih=>
  intro W hs ho hu hl;obtain⟨q1,q2,q3⟩:=ih W hs ho (h1.uf h2 hu) hl;exact⟨q1,λ x y ⟨r,a,b⟩=>q2 x y ⟨r,h1 _ _ a,h1 _ _ b⟩,q3⟩
 |same up y5 x y a l o h1 h2 _ ih=>
  intro W hs ho hu hl
  have hu':UF S up (l++W):=⟨hu.lt,hu.tot,hu.rk,λ z r hz k hm=>by
   obtain⟨c1,c2⟩:=hu.cl z r hz k hm
   exact⟨c1,λ i p q hp hq=>(c2 i p q hp hq).mono (λ _ _ h=> .base _ _ h) λ u v hw=>by
    rcases List.mem_cons.1 hw with e|e
    ·cases e;exact .base _ _ ⟨a,h1,h2⟩
    ·exact .adl _ _ e⟩⟩
  obtain⟨q1,q2,q3⟩:=ih W hs ho hu' λ p hp=>hl p (by simp[hp])
  refine⟨q1,q2,λ p hp=> ?_⟩;rcases List.mem_cons.1 hp with e|e
  ·subst e;exact q2 _ _ ⟨a,h1,h2⟩
  ·exact q3 p e
 |mt up y5 x y a b c p l o h1 h2 h3 h4 h5 h6 _ ih=>
  intro W hs ho hu hl;have yk:=hl (x,y) (by simp);have ha:=h1.lt hu.lt yk.1;have hb:=h2.lt hu.lt yk.2
  have hcp:up c=c/\up p=p/\c≠p/\c<S.N/\p<S.N:=by
   rcases h4 with⟨rfl,rfl⟩|⟨rfl,rfl⟩
   ·exact⟨h1.root,h2.root,h3,ha,hb⟩
   ·exact⟨h2.root,h1.root,h3.symm,hb,ha⟩
  obtain⟨hc,hp,bB,mw,hpl⟩:=hcp
  have hE:tk (cT up c p) x y:=by
   rcases h4 with⟨rfl,rfl⟩|⟨rfl,rfl⟩
   ·exact⟨_,by have:=h1.union hc hp bB;rwa [if_pos rfl]at this,by have:=h2.union hc hp bB;rwa [if_neg bB.symm]at this⟩
   ·exact⟨_,by have:=h1.union hc hp bB;rwa [if_neg bB.symm]at this,by have:=h2.union hc hp bB;rwa [if_pos rfl]at this⟩
  have hu':UF S (cT up c p) (l++W):=by
   refine⟨p7 hu.lt hpl,λ z hz=> ?_,λ z r hz k hm=> ?_,λ z r hz k hm=> ?_⟩
   ·obtain⟨r,hr⟩:=hu.tot z hz;exact⟨_,hr.union hc hp bB⟩
   ·obtain⟨r0,k0,rfl⟩:=cr.p8 hu hc hp bB hz k;by_cases hr:r0=c
    ·subst hr;rw[if_pos rfl]at hm⊢;obtain⟨g1,g2⟩:=hu.rk z r0 hz k0 h5;exact⟨g1,by have:=h6 hm;omega⟩
    ·rw[if_neg hr]at hm⊢;exact hu.rk z r0 hz k0 hm
   ·obtain⟨r0,k0,rfl⟩:=cr.p8 hu hc hp bB hz k;by_cases hr:r0=c
    ·subst hr;exact(hm (hu.rk z r0 hz k0 h5).1).elim
    ·rw[if_neg hr];obtain⟨c1,c2⟩:=hu.cl z r0 hz k0 hm
     exact⟨c1,λ i u v hp' hq=>(c2 i u v hp' hq).mono (λ _ _ h=> .base _ _ (h.union hc hp bB)) λ u v hw=>by
      rcases List.mem_cons.1 hw with e|e
      ·cases e;exact .base _ _ hE
      ·exact .adl _ _ e⟩
  obtain⟨q1,q2,q3⟩:=ih W hs ho hu' λ p hp=>hl p (by simp[hp])
  refine⟨q1,λ _ _ h=>q2 _ _ (h.union hc hp bB),λ q hq=> ?_⟩;rcases List.mem_cons.1 hq with e|e
  ·subst e;exact q2 _ _ hE
  ·exact q3 q e
 |nQ=>intro W _ ho;cases ho
 |node up y5 x y a b c p l o h1 h2 h3 h4 h5 h6 h7 _ ih=>
  intro W hs ho hu hl;have yk:=hl (x,y) (by simp);have ha:=h1.lt hu.lt yk.1;have hb:=h2.lt hu.lt yk.2
  have hcp:up c=c/\up p=p/\c≠p/\c<S.N/\p<S.N/\¬S.mX c/\¬S.mX p/\S.head c p:=by
   rcases h4 with⟨rfl,rfl⟩|⟨rfl,rfl⟩
   ·exact⟨h1.root,h2.root,h3,ha,hb,h5,h6,h7⟩
   ·exact⟨h2.root,h1.root,h3.symm,hb,ha,h6,h5,h7.symm⟩
  obtain⟨hc,hp,bB,mw,hpl,hcm,hpm,hh⟩:=hcp
  have hE:tk (cT up c p) x y:=by
   rcases h4 with⟨rfl,rfl⟩|⟨rfl,rfl⟩
   ·exact⟨_,by have:=h1.union hc hp bB;rwa [if_pos rfl]at this,by have:=h2.union hc hp bB;rwa [if_neg bB.symm]at this⟩
   ·exact⟨_,by have:=h1.union hc hp bB;rwa [if_neg bB.symm]at this,by have:=h2.union hc hp bB;rwa [if_pos rfl]at this⟩
  have conv:∀u v,EqW up (((x,y)::l)++W) u v->EqW (cT up c p) (((S.kids a).zip (S.kids b)++l)++W) u v:=λ u v h=>
   h.mono (λ _ _ h=> .base _ _ (h.union hc hp bB)) λ u v hw=>by
     rcases List.mem_cons.1 hw with e|e
     ·cases e;exact .base _ _ hE
     ·exact .adl _ _ (by
       rcases List.mem_append.1 e with e|e
       ·simp[e]
       ·simp[e])
  have asR:∀(i u v:Nat),(S.kids c)[i]? =some u->(S.kids p)[i]? =some v->EqW (cT up c p) (((S.kids a).zip (S.kids b)++l)++W) u v:=by
   intro i u v hu' hv;rcases h4 with⟨rfl,rfl⟩|⟨rfl,rfl⟩
   ·exact .adl _ _ (by simp[aa0 _ _ i u v hu' hv])
   ·exact .symm _ _ (.adl _ _ (by simp[aa0 _ _ i v u hv hu']))
  have hu':UF S (cT up c p) (((S.kids a).zip (S.kids b)++l)++W):=by
   refine⟨p7 hu.lt hpl,λ z hz=> ?_,λ z r hz k hm=> ?_,λ z r hz k hm=> ?_⟩
   ·obtain⟨r,hr⟩:=hu.tot z hz;exact⟨_,hr.union hc hp bB⟩
   ·obtain⟨r0,k0,rfl⟩:=cr.p8 hu hc hp bB hz k;by_cases hr:r0=c
    ·rw[if_pos hr]at hm;exact(hpm hm).elim
    ·rw[if_neg hr]at hm⊢;exact hu.rk z r0 hz k0 hm
   ·obtain⟨r0,k0,rfl⟩:=cr.p8 hu hc hp bB hz k;obtain⟨c1,c2⟩:=hu.cl z r0 hz k0 hm;by_cases hr:r0=c
    ·subst hr;rw[if_pos rfl];refine⟨c1.trans hh,λ i u v hu1 hv=> ?_⟩
     have aF:i<(S.kids r0).length:=by
      have:=(List.getElem?_eq_some_iff.1 hv).1;rw[hh.2.2.2];exact this
     exact .trans _ _ _ (conv _ _ (c2 i u _ hu1 (List.getElem?_eq_getElem aF))) (asR i _ v (List.getElem?_eq_getElem aF) hv)
    ·rw[if_neg hr];exact⟨c1,λ i u v hu1 hv=>conv _ _ (c2 i u v hu1 hv)⟩
  obtain⟨q1,q2,q3⟩:=ih W hs ho hu' λ q hq=>by
   rcases List.mem_append.1 hq with e|e
   ·obtain⟨u,v⟩:=q;have:=List.of_mem_zip e;exact⟨hs.lt a ha u this.1,hs.lt b hb v this.2⟩
   ·exact hl q (by simp[e])
  refine⟨q1,λ _ _ h=>q2 _ _ (h.union hc hp bB),λ q hq=> ?_⟩;rcases List.mem_cons.1 hq with e|e
  ·subst e;exact q2 _ _ hE
  ·exact q3 q (by simp[e])
end Go.Ab
namespace Go.Ab
def Snd(S:Net)(up:Nat->Nat)(σ:Int->aa):Prop:=∀x r,x<S.N->cr up x r->(S.ty x).sub σ=(S.ty r).sub σ
theorem Net.ok.lX{S:Net}(hs:S.ok)(σ:Int->aa){x:Nat}(hx:x<S.N)(hm:¬S.mX x):(S.ty x).sub σ= .mk (S.ty x).Kind (S.ty x).N (S.ty x).Name ((S.kids x).map λ k=>(S.ty k).sub σ):=by
 rw[aa.np σ hm,hs.xT x hx,List.map_map];rfl
theorem aa.mk_inj{k n k' n':Int}{s s':ByteArray}{l l':List aa}(h:aa.mk k n s l=aa.mk k' n' s' l'):k=k'/\n=n'/\s=s'/\l=l':=by cases h;exact⟨rfl,rfl,rfl,rfl⟩
theorem Js.sound{S:Net}{up cj:Nat->Nat}{l:List (Nat×Nat)}{ok:Bool}(h:Js S up l cj ok):∀(σ:Int->aa),S.ok->(∀x,x<S.N->up x<S.N)->(∀x,x<S.N->∃r,cr up x r)->(∀p∈l,p.1<S.N/\p.2<S.N)->Snd S up σ->(∀p∈l,(S.ty p.1).sub σ=(S.ty p.2).sub σ)->ok=true/\Snd S cj σ:=by
 have un:∀{up:Nat->Nat} {c p:Nat} {σ:Int->aa},(∀x,x<S.N->∃r,cr up x r)->up c=c->up p=p->c≠p->p<S.N->Snd S up σ->(S.ty c).sub σ=(S.ty p).sub σ->Snd S (cT up c p) σ/\∀x,x<S.N->∃r,cr (cT up c p) x r:=by
  intro up c p σ ht hc hp bB hpl hn he;refine⟨λ x r hx k=> ?_,λ x hx=> ?_⟩
  ·obtain⟨r0,h0⟩:=ht x hx;have:=k.qq (h0.union hc hp bB);subst this;by_cases hr:r0=c
   ·rw[if_pos hr,hn x r0 hx h0,hr,he]
   ·rw[if_neg hr];exact hn x r0 hx h0
  ·obtain⟨r,hr⟩:=ht x hx;exact⟨_,hr.union hc hp bB⟩
 induction h with
 |nil up=>intro σ _ _ _ _ hn _;exact⟨rfl,hn⟩
 |eq up tl y5 l o h1 h2 _ ih=>
  intro σ hs hl ht hp hn he;refine ih σ hs h2 (λ x hx=>by obtain⟨r,hr⟩:=ht x hx;exact⟨r,h1 _ _ hr⟩) hp (λ x r hx k=> ?_) he;obtain⟨r0,h0⟩:=ht x hx;have:=k.qq (h1 _ _ h0);subst this;exact hn x r hx h0
 |same up y5 x y a l o h1 h2 _ ih=>
  intro σ hs hl ht hp hn he;exact ih σ hs hl ht (λ p hq=>hp p (by simp[hq])) hn λ p hq=>he p (by simp[hq])
 |mt up y5 x y a b c p l o h1 h2 h3 h4 h5 h6 _ ih=>
  intro σ hs hl ht hp hn he;have yk:=hp (x,y) (by simp);have adX:=he (x,y) (by simp);simp only at yk adX;have ha:=h1.lt hl yk.1;have hb:=h2.lt hl yk.2;have uZ:(S.ty a).sub σ=(S.ty b).sub σ:=by rw[←hn x a yk.1 h1,←hn y b yk.2 h2,adX]
  have hcp:up c=c/\up p=p/\c≠p/\p<S.N/\(S.ty c).sub σ=(S.ty p).sub σ:=by
   rcases h4 with⟨rfl,rfl⟩|⟨rfl,rfl⟩
   ·exact⟨h1.root,h2.root,h3,hb,uZ⟩
   ·exact⟨h2.root,h1.root,h3.symm,ha,uZ.symm⟩
  obtain⟨u1,u2⟩:=un ht hcp.1 hcp.2.1 hcp.2.2.1 hcp.2.2.2.1 hn hcp.2.2.2.2;exact ih σ hs (p7 hl hcp.2.2.2.1) u2 (λ p hq=>hp p (by simp[hq])) u1 λ p hq=>he p (by simp[hq])
 |nQ up x y a b l h1 h2 h3 h4 h5 h6=>
  intro σ hs hl ht hp hn he;have yk:=hp (x,y) (by simp);have adX:=he (x,y) (by simp);simp only at yk adX;have ha:=h1.lt hl yk.1;have hb:=h2.lt hl yk.2;have uZ:(S.ty a).sub σ=(S.ty b).sub σ:=by rw[←hn x a yk.1 h1,←hn y b yk.2 h2,adX]
  rw[hs.lX σ ha h4,hs.lX σ hb h5]at uZ;obtain⟨e1,e2,e3,e4⟩:=aa.mk_inj uZ;have e5:=congrArg List.length e4;simp only[List.length_map]at e5;exact(h6 ⟨e1,e2,e3,e5⟩).elim
 |node up y5 x y a b c p l o h1 h2 h3 h4 h5 h6 h7 _ ih=>
  intro σ hs hl ht hp hn he;have yk:=hp (x,y) (by simp);have adX:=he (x,y) (by simp);simp only at yk adX;have ha:=h1.lt hl yk.1;have hb:=h2.lt hl yk.2;have uZ:(S.ty a).sub σ=(S.ty b).sub σ:=by rw[←hn x a yk.1 h1,←hn y b yk.2 h2,adX]
  have hcp:up c=c/\up p=p/\c≠p/\p<S.N/\(S.ty c).sub σ=(S.ty p).sub σ:=by
   rcases h4 with⟨rfl,rfl⟩|⟨rfl,rfl⟩
   ·exact⟨h1.root,h2.root,h3,hb,uZ⟩
   ·exact⟨h2.root,h1.root,h3.symm,ha,uZ.symm⟩
  obtain⟨u1,u2⟩:=un ht hcp.1 hcp.2.1 hcp.2.2.1 hcp.2.2.2.1 hn hcp.2.2.2.2;rw[hs.lX σ ha h5,hs.lX σ hb h6]at uZ;obtain⟨_,_,_,e4⟩:=aa.mk_inj uZ;refine ih σ hs (p7 hl hcp.2.2.2.1) u2 (λ q hq=> ?_) u1 λ q hq=> ?_
  ·rcases List.mem_append.1 hq with e|e
   ·obtain⟨u,v⟩:=q;have:=List.of_mem_zip e;exact⟨hs.lt a ha u this.1,hs.lt b hb v this.2⟩
   ·exact hp q (by simp[e])
  ·rcases List.mem_append.1 hq with e|e
   ·obtain⟨i,hi⟩:=List.getElem?_of_mem e;rw[List.getElem?_zip_eq_some]at hi;have:=congrArg (λ l=>l[i]?) e4;simp only[List.getElem?_map,hi.1,hi.2,map_some,Option.some.injEq]at this;exact this
   ·exact he q (by simp[e])
mutual
inductive iC(S:Net)(up:Nat->Nat):Nat->aa->Prop
 |mt (x r:Nat):cr up x r->S.mX r->iC S up x (er r)
 |node (x r:Nat) (ts:List aa):cr up x r->¬S.mX r->lF S up (S.kids r) ts->iC S up x (.mk (S.ty r).Kind (S.ty r).N (S.ty r).Name ts)
inductive lF(S:Net)(up:Nat->Nat):List Nat->List aa->Prop
 |nil:lF S up [] []
 |cons (k:Nat) (l:List Nat) (t:aa) (ts:List aa):iC S up k t->lF S up l ts->lF S up (k::l) (t::ts)
end
theorem iC.eqv{S:Net}{up:Nat->Nat}{x y:Nat}{t:aa}(h:iC S up x t)(he:tk up y x):iC S up y t:=by
 obtain⟨r,a,b⟩:=he;cases h with
 |mt _ r' k hm=>
  have:=b.qq k;subst this;exact .mt y r a hm
 |node _ r' ts k hm hv=>
  have:=b.qq k;subst this;exact .node y r ts a hm hv
mutual
theorem iC.qq{S:Net}{up:Nat->Nat}{x:Nat}{t u:aa}:iC S up x t->iC S up x u->t=u
 | .mt _ r h hm,k=>by
   cases k with
   |mt _ r' k uX=>rw[h.qq k]
   |node _ r' ts k uX _=>have:=h.qq k;subst this;exact(uX hm).elim
 | .node _ r ts h hm hv,k=>by
   cases k with
   |mt _ r' k uX=>have:=h.qq k;subst this;exact(hm uX).elim
   |node _ r' us k uX hw=>
    have:=h.qq k;subst this;rw[lF.qq hv hw]
theorem lF.qq{S:Net}{up:Nat->Nat}{l:List Nat}{ts us:List aa}:lF S up l ts->lF S up l us->ts=us
 | .nil,k=>by cases k;rfl
 | .cons _ _ _ _ h hv,k=>by
   cases k with
   |cons _ _ _ _ k kv=>rw[iC.qq h k,lF.qq hv kv]
end
theorem lF.at{S:Net}{up:Nat->Nat}:∀{l:List Nat} {ts:List aa},lF S up l ts->ts.length=l.length/\∀(i k:Nat),l[i]? =some k->∃t,ts[i]? =some t/\iC S up k t
 | [],_,h=>by cases h;exact⟨rfl,λ i k h=>by simp at h⟩
 |k::l,_,h=>by
  cases h with
  |cons _ _ t ts h1 h2=>
   obtain⟨q1,q2⟩:=lF.at h2;refine⟨by simp[q1],λ i k' hk=> ?_⟩;cases i with
   |zero=>simp at hk;subst hk;exact⟨t,rfl,h1⟩
   |succ i=>simpa using q2 i k' (by simpa using hk)
theorem gP{x y:aa}(h:y∈x.Kids):SizeOf.sizeOf y<SizeOf.sizeOf x:=aa.cP h
theorem iC.exists{S:Net}{up:Nat->Nat}{W:List (Nat×Nat)}(hs:S.ok)(hu:UF S up W){σ:Int->aa}(hn:Snd S up σ):∀(n x:Nat),x<S.N->SizeOf.sizeOf ((S.ty x).sub σ)<=n->∃t,iC S up x t:=by
 intro n
 induction n with
 |zero=>intro x _ h;have:0<SizeOf.sizeOf ((S.ty x).sub σ):=by cases(S.ty x).sub σ;simp;omega
        omega
 |succ n ih=>
  intro x hx h;obtain⟨r,hr⟩:=hu.tot x hx;have jw:=hr.lt hu.lt hx;by_cases hm:S.mX r
  ·exact⟨_,.mt x r hr hm⟩
  ·rw[hn x r hx hr,hs.lX σ jw hm]at h
   have hk:∀k∈S.kids r,∃t,iC S up k t:=λ k hk=>ih k (hs.lt r jw k hk) (by
    have:SizeOf.sizeOf ((S.ty k).sub σ)<SizeOf.sizeOf (aa.mk (S.ty r).Kind (S.ty r).N (S.ty r).Name ((S.kids r).map λ k=>(S.ty k).sub σ)):=gP (by show _∈List.map _ _;exact List.mem_map.2 ⟨k,hk,rfl⟩);omega)
   have:∀l:List Nat,(∀k∈l,∃t,iC S up k t)->∃ts,lF S up l ts:=by
    intro l
    induction l with
    |nil=>intro _;exact⟨[],.nil⟩
    |cons k l ih=>
     intro h;obtain⟨t,ht⟩:=h k (by simp);obtain⟨ts,sa⟩:=ih λ q hq=>h q (by simp[hq])
     exact⟨t::ts,.cons _ _ _ _ ht sa⟩
   obtain⟨ts,sa⟩:=this _ hk;exact⟨_,.node x r ts hr hm sa⟩
theorem iC.types{S:Net}{up:Nat->Nat}(hs:S.ok)(hu:UF S up []){τ:Int->aa}(hτ:∀k,k<S.M->iC S up k (τ k)):∀(n x:Nat),x<S.N->SizeOf.sizeOf (S.ty x)<=n->iC S up x ((S.ty x).sub τ):=by
 intro n
 induction n with
 |zero=>intro x _ h;have:0<SizeOf.sizeOf (S.ty x):=by cases S.ty x;simp;omega
        omega
 |succ n ih=>
  intro x hx h;by_cases hm:S.mX x
  ·have hxm:=hs.isMeta x hx hm;rw[aa.pq τ hm,(hs.qJ x hxm).1];exact hτ x hxm
  ·obtain⟨r,hr⟩:=hu.tot x hx;have jw:=hr.lt hu.lt hx;have hrm:¬S.mX r:=λ q=>hm (hu.rk x r hx hr q).1
   obtain⟨⟨e1,e2,e3,e4⟩,hk⟩:=hu.cl x r hx hr hm;rw[hs.lX τ hx hm,e1,e2,e3];refine .node x r _ hr hrm ?_
   have azT:∀k∈S.kids x,iC S up k ((S.ty k).sub τ):=λ k ot=>ih k (hs.lt x hx k ot) (by
    have:SizeOf.sizeOf (S.ty k)<SizeOf.sizeOf (S.ty x):=gP (by rw[hs.xT x hx];exact List.mem_map.2 ⟨k,ot,rfl⟩);omega)
   have ayQ:∀(l m:List Nat),l.length=m.length->(∀(i p q:Nat),l[i]? =some p->m[i]? =some q->tk up p q)->(∀k∈l,iC S up k ((S.ty k).sub τ))->lF S up m (l.map λ k=>(S.ty k).sub τ):=by
    intro l
    induction l with
    |nil=>intro m hl _ _;obtain rfl:=List.eq_nil_of_length_eq_zero hl.symm;exact .nil
    |cons p l ih=>
     intro m hl he hv;cases m with
     |nil=>simp at hl
     |cons q m=>exact .cons _ _ _ _ ((hv p (by simp)).eqv (he 0 p q rfl rfl).symm) (ih m (by simpa using hl) (λ i p q hp hq=>he (i+1) p q (by simpa using hp) (by simpa using hq)) λ k hk=>hv k (by simp[hk]))
   exact ayQ _ _ e4 (λ i p q hp hq=>(hk i p q hp hq).none) azT
theorem iC.apT{S:Net}{up:Nat->Nat}(hs:S.ok)(hl:∀x,x<S.N->up x<S.N){σ:Int->aa}(hn:Snd S up σ):∀(n x:Nat) (t:aa),x<S.N->SizeOf.sizeOf t<=n->iC S up x t->t.sub σ=(S.ty x).sub σ:=by
 intro n
 induction n with
 |zero=>intro x t _ h;have:0<SizeOf.sizeOf t:=by cases t;simp;omega
        omega
 |succ n ih=>
  intro x t hx h hv;cases hv with
  |mt _ r hr hm=>
   have hrm:=hs.isMeta r (hr.lt hl hx) hm;rw[hn x r hx hr,(hs.qJ r hrm).1]
  |node _ r ts hr hm nh=>
   have jw:=hr.lt hl hx;have sU:(aa.mk (S.ty r).Kind (S.ty r).N (S.ty r).Name ts).Kind≠11:=hm;rw[hn x r hx hr,hs.lX σ jw hm,aa.np σ sU]
   show aa.mk _ _ _ (ts.map _)=_;obtain⟨q1,q2⟩:=lF.at nh;congr 1;apply List.ext_getElem?;intro i;rw[List.getElem?_map,List.getElem?_map];cases hk:(S.kids r)[i]? with
   |none=>rw[List.getElem?_eq_none (by rw[q1];exact List.getElem?_eq_none_iff.1 hk)];rfl
   |some k=>
    obtain⟨t,ht,hvt⟩:=q2 i k hk;rw[ht];simp only[map_some];congr 1
    exact ih k t (hs.lt r jw k (mem_of_getElem? hk)) (by
     have:SizeOf.sizeOf t<SizeOf.sizeOf (aa.mk (S.ty r).Kind (S.ty r).N (S.ty r).Name ts):=gP (show t∈ts from mem_of_getElem? ht);omega) hvt
end Go.Ab
namespace Go.Ab
mutual
def aa.allM(Q:Int->Prop):aa->Prop
 | .mk kd n nm kids=>(kd=11->nm=⟨#[]⟩/\kids= []/\Q n)/\aa.vh Q kids
def aa.vh(Q:Int->Prop):List aa->Prop
 | []=>True
 |x::l=>x.allM Q/\aa.vh Q l
end
theorem aa.lM(Q:Int->Prop):∀l:List aa,aa.vh Q l↔∀y∈l,y.allM Q
 | []=>by simp[aa.vh]
 |x::l=>by simp[aa.vh,aa.lM Q l]
theorem aa.mS{Q:Int->Prop}{x:aa}(h:x.allM Q)(hk:x.Kind=11):x.Name=⟨#[]⟩/\x.Kids= []/\Q x.N:=by
 rw[x.ug]at h;exact h.1 hk
theorem aa.j8{Q:Int->Prop}{x:aa}(h:x.allM Q):∀y∈x.Kids,y.allM Q:=by
 rw[x.ug]at h;exact(aa.lM Q _).1 h.2
theorem aa.ajV{Q:Int->Prop}{k:Int}(h:Q k):(er k).allM Q:=⟨λ _=>⟨rfl,rfl,h⟩,trivial⟩
mutual
theorem aa.jr{Q Q':Int->Prop}(hq:∀n,Q n->Q' n):∀(x:aa),x.allM Q->x.allM Q'
 | .mk kd n nm kids,h=>⟨λ hk=>⟨(h.1 hk).1,(h.1 hk).2.1,hq _ (h.1 hk).2.2⟩,aa.yU hq kids h.2⟩
theorem aa.yU{Q Q':Int->Prop}(hq:∀n,Q n->Q' n):∀(l:List aa),aa.vh Q l->aa.vh Q' l
 | [],_=>trivial
 |x::l,h=>⟨aa.jr hq x h.1,aa.yU hq l h.2⟩
end
mutual
theorem aa.ag5{σ:Int->aa}:∀(x:aa),x.allM (λ m=>σ m=er m)->x.sub σ=x
 | .mk kd n nm kids,h=>by
   rw[aa.sub];by_cases hk:kd=11
   ·obtain⟨h1,h2,h3⟩:=h.1 hk;rw[if_pos hk,h3,hk,h1,h2];rfl
   ·rw[if_neg hk,aa.acU kids h.2]
theorem aa.acU{σ:Int->aa}:∀(l:List aa),aa.vh (λ m=>σ m=er m) l->aa.ah5 σ l=l
 | [],_=>rfl
 |x::l,h=>by rw[aa.ah5,aa.ag5 x h.1,aa.acU l h.2]
end
structure Canon(M:Nat)(ps:List (aa×aa))(τ:Int->aa):Prop where
 uni:∀p∈ps,p.1.sub τ=p.2.sub τ
 gen:∀σ:Int->aa,(∀p∈ps,p.1.sub σ=p.2.sub σ)->∀k:Nat,k<M->(τ k).sub σ=σ k
 fix:∀k:Nat,k<M->(τ k).allM λ m=>∃j:Nat,j<M/\m=j/\τ j=er j
 low:∀k:Nat,k<M->∀r:Nat,τ k=er r->r<=k
theorem aiU{a b:Int}(h:er a=er b):a=b:=(aa.mk_inj h).2.1
theorem aiT(σ:Int->aa)(k:Int):(er k).sub σ=σ k:=aa.pq σ rfl
theorem Canon.asi{S:Net}{up:Nat->Nat}(hs:S.ok)(hu:UF S up []){τ:Int->aa}(hτ:∀k:Nat,k<S.M->iC S up k (τ k)){l:List (Nat×Nat)}{ps:List (aa×aa)}(hl:∀p∈l,p.1<S.N/\p.2<S.N)(he:∀p∈l,tk up p.1 p.2)
  (hp:ps=l.map λ p=>(S.ty p.1,S.ty p.2)) (azr:∀σ:Int->aa,(∀p∈ps,p.1.sub σ=p.2.sub σ)->Snd S up σ):Canon S.M ps τ:=by
 have pG:∀r:Nat,r<S.N->up r=r->S.mX r->r<S.M/\τ r=er r:=λ r hr hur hm=>by
  have h1:=hs.isMeta r hr hm;exact⟨h1,(hτ r h1).qq (.mt r r (.here r hur) hm)⟩
 have aAH:∀(n x:Nat) (t:aa),x<S.N->SizeOf.sizeOf t<=n->iC S up x t->t.allM λ m=>∃j:Nat,j<S.M/\m=j/\τ j=er j:=by
  intro n
  induction n with
  |zero=>intro x t _ h;have:0<SizeOf.sizeOf t:=by cases t;simp;omega
         omega
  |succ n ih=>
   intro x t hx h hv;cases hv with
   |mt _ r hr hm=>
    obtain⟨h1,h2⟩:=pG r (hr.lt hu.lt hx) hr.root hm;exact aa.ajV ⟨r,h1,rfl,h2⟩
   |node _ r ts hr hm nh=>
    have jw:=hr.lt hu.lt hx;refine⟨λ hk=>(hm hk).elim,(aa.lM _ _).2 λ t ht=> ?_⟩;obtain⟨q1,q2⟩:=lF.at nh;obtain⟨i,hi⟩:=List.getElem?_of_mem ht;have hil:=(List.getElem?_eq_some_iff.1 hi).1;have hk:(S.kids r)[i]? =some ((S.kids r)[i]'(by omega)):=List.getElem?_eq_getElem (by omega);obtain⟨t',ht',hvt⟩:=q2 i _ hk;rw[hi]at ht';cases ht'
    exact ih _ t (hs.lt r jw _ (mem_of_getElem? hk)) (by
     have:SizeOf.sizeOf t<SizeOf.sizeOf (aa.mk (S.ty r).Kind (S.ty r).N (S.ty r).Name ts):=gP (show t∈ts from ht);omega) hvt
 refine⟨λ p hp'=> ?_,λ σ zH k hk=> ?_,λ k hk=>aAH _ k _ (Nat.lt_of_lt_of_le hk hs.le) (le_refl _) (hτ k hk),λ k hk r hr=> ?_⟩
 ·rw[hp]at hp';obtain⟨q,hq,rfl⟩:=List.mem_map.1 hp';obtain⟨h1,h2⟩:=hl q hq;exact(iC.types hs hu hτ _ q.1 h1 (le_refl _)).qq ((iC.types hs hu hτ _ q.2 h2 (le_refl _)).eqv (he q hq))
 ·have:=iC.apT hs hu.lt (azr σ zH) _ k (τ k) (Nat.lt_of_lt_of_le hk hs.le) (le_refl _) (hτ k hk);rw[this,(hs.qJ k hk).1,aiT]
 ·have hv:=hτ k hk;rw[hr]at hv;generalize hg:er (r:Int)=t at hv;cases hv with
  |mt _ r' h1 hm=>
   have:=aiU hg;have:=(hu.rk k r' (Nat.lt_of_lt_of_le hk hs.le) h1 hm).2;omega
  |node _ r' ts h1 hm _=>
   exact(hm (aa.mk_inj hg).1.symm).elim
inductive Dn(S:Net)(up:Nat->Nat):Nat->Nat->Prop
 |kid (x r k y:Nat):cr up x r->¬S.mX r->k∈S.kids r->tk up k y->Dn S up x y
 |trans (x y z:Nat):Dn S up x y->Dn S up y z->Dn S up x z
theorem Dn.less{S:Net}{up:Nat->Nat}{x y:Nat}(h:Dn S up x y):∀t,iC S up x t->∃u,iC S up y u/\SizeOf.sizeOf u<SizeOf.sizeOf t:=by
 induction h with
 |kid x r k y h1 h2 h3 h4=>
  intro t hv;cases hv with
  |mt _ r' h hm=>have:=h1.qq h;subst this;exact(h2 hm).elim
  |node _ r' ts h hm nh=>
   have:=h1.qq h;subst this;obtain⟨q1,q2⟩:=lF.at nh;obtain⟨i,hi⟩:=List.getElem?_of_mem h3;obtain⟨u,hu,hvu⟩:=q2 i k hi;exact⟨u,hvu.eqv h4.symm,gP (show u∈ts from mem_of_getElem? hu)⟩
 |trans x y z _ _ i1 i2=>
  intro t hv;obtain⟨u,hu,h1⟩:=i1 t hv;obtain⟨v,jO,h2⟩:=i2 u hu;exact⟨v,jO,by omega⟩
theorem Dn.not{S:Net}{up:Nat->Nat}{x:Nat}(h:Dn S up x x)(t:aa):¬iC S up x t:=by
 have:∀(n:Nat) (t:aa),SizeOf.sizeOf t<=n->¬iC S up x t:=by
  intro n
  induction n with
  |zero=>intro t h _;have:0<SizeOf.sizeOf t:=by cases t;simp;omega
         omega
  |succ n ih=>
   intro t ht hv;obtain⟨u,hu,aF⟩:=h.less t hv;exact ih u (by omega) hu
 exact this _ t (le_refl _)
theorem Dn.eqv{S:Net}{up:Nat->Nat}{x y z:Nat}(h:Dn S up x y)(he:tk up y z):Dn S up x z:=by
 induction h with
 |kid x r k y h1 h2 h3 h4=>exact .kid x r k z h1 h2 h3 (h4.trans he)
 |trans x y w h1 _ _ i2=>exact .trans _ _ _ h1 (i2 he)
theorem Dn.from{S:Net}{up:Nat->Nat}{x y z:Nat}(h:Dn S up x y)(he:tk up z x):Dn S up z y:=by
 induction h with
 |kid x r k y h1 h2 h3 h4=>
  obtain⟨r',a,b⟩:=he;have:=b.qq h1;subst this;exact .kid z r' k y a h2 h3 h4
 |trans x y w _ h2 i1 _=>exact .trans _ _ _ (i1 he) h2
end Go.Ab
