/-
  TYPES MADE ONE, the plain law: nodes that are made one by pairs; what their classes read as.
-/
import Derived.Test.YtfebhekplhjigaaGM
open Nat(le_refl)
open Option(map_some)
open List(mem_of_getElem?)
set_option linter.unusedVariables false
set_option linter.unusedSimpArgs false
namespace Go.Ab
set_option maxRecDepth 100000
mutual
def ad.sub(σ:Int->ad):ad->ad
 | .mk kd n nm kids=>if kd=11 then σ n else .mk kd n nm (ad.akS σ kids)
def ad.akS(σ:Int->ad):List ad->List ad
 | []=>[]
 |x::l=>x.sub σ::ad.akS σ l
end
theorem ad.ajQ(σ:Int->ad):∀l:List ad,ad.akS σ l=l.map (ad.sub σ)
 | []=>rfl
 |x::l=>by simp only[ad.akS,ad.ajQ σ l,List.map_cons]
theorem ad.sub_eq(σ:Int->ad)(x:ad):x.sub σ=if x.Kind=11 then σ x.N else .mk x.Kind x.N x.Name (x.Kids.map (ad.sub σ)):=by
 cases x;rw[ad.sub,ad.ajQ];rfl
theorem ad.agi(σ:Int->ad){x:ad}(h:x.Kind=11):x.sub σ=σ x.N:=by rw[ad.sub_eq,if_pos h]
theorem ad.aad(σ:Int->ad){x:ad}(h:x.Kind≠11):x.sub σ= .mk x.Kind x.N x.Name (x.Kids.map (ad.sub σ)):=by rw[ad.sub_eq,if_neg h]
def eA(k:Int):ad:= .mk 11 k ⟨#[]⟩ []
theorem ad.vI(x:ad):x= .mk x.Kind x.N x.Name x.Kids:=by cases x;rfl
inductive bw(up:Nat->Nat):Nat->Nat->Prop
 |here (x:Nat):up x=x->bw up x x
 |step (x r:Nat):up x≠x->bw up (up x) r->bw up x r
theorem bw.root{up:Nat->Nat}{x r:Nat}(h:bw up x r):up r=r:=by
 induction h with
 |here x h=>exact h
 |step x r h _ ih=>exact ih
theorem bw.self{up:Nat->Nat}{x r:Nat}(h:bw up x r)(hx:up x=x):r=x:=by
 cases h with
 |here _ _=>rfl
 |step _ _ hn _=>exact(hn hx).elim
theorem bw.rF{up:Nat->Nat}{x r s:Nat}(h:bw up x r)(k:bw up x s):r=s:=by
 induction h with
 |here x h=>exact(k.self h).symm
 |step x r h _ ih=>
  cases k with
  |here _ hx=>exact(h hx).elim
  |step _ _ _ k=>exact ih k
def xl(up:Nat->Nat)(x y:Nat):Prop:=∃r,bw up x r/\bw up y r
theorem xl.symm{up:Nat->Nat}{x y:Nat}(h:xl up x y):xl up y x:=by obtain⟨r,a,b⟩:=h;exact⟨r,b,a⟩
theorem xl.trans{up:Nat->Nat}{x y z:Nat}(h:xl up x y)(k:xl up y z):xl up x z:=by
 obtain⟨r,a,b⟩:=h;obtain⟨s,c,d⟩:=k;have:=b.rF c;subst this;exact⟨r,a,d⟩
def bH(up:Nat->Nat)(c p:Nat):Nat->Nat:=λ x=>if x=c then p else up x
theorem bw.union{up:Nat->Nat}{c p:Nat}(hc:up c=c)(hp:up p=p)(bk:c≠p){x r:Nat}(h:bw up x r):bw (bH up c p) x (if r=c then p else r):=by
 have hpp:bH up c p p=p:=by unfold bH;rw[if_neg bk.symm];exact hp
 induction h with
 |here x h=>
  by_cases hx:x=c
  ·subst hx;rw[if_pos rfl];exact .step x p (by unfold bH;rw[if_pos rfl];exact bk.symm) (by unfold bH;rw[if_pos rfl];exact .here p hpp)
  ·rw[if_neg hx];exact .here x (by unfold bH;rw[if_neg hx];exact h)
 |step x r h _ ih=>
  have hx:x≠c:=λ e=>h (e▸hc)
  have hu:bH up c p x=up x:=by unfold bH;rw[if_neg hx]
  exact .step x _ (by rw[hu];exact h) (by rw[hu];exact ih)
def df(up bh:Nat->Nat):Prop:=∀x r,bw up x r->bw bh x r
theorem bw.ay4{up:Nat->Nat}{c q:Nat}(hc:bw up c q)(hn:up c≠c):df up (bH up c (up (up c))):=by
 have hq:bw up (up (up c)) q:=by
  cases hc with
  |here _ h=>exact(hn h).elim
  |step _ _ _ k=>
   cases k with
   |here _ h=>rw[h];exact .here _ h
   |step _ _ _ k=>exact k
 have len:∀x r,bw up x r->∃n,(Nat.repeat up n x=r/\∀m<n,up (Nat.repeat up m x)≠Nat.repeat up m x):=by
  intro x r h
  induction h with
  |here x h=>exact⟨0,rfl,λ m hm=>by omega⟩
  |step x r h _ ih=>
   obtain⟨n,h1,h2⟩:=ih
   have arK:∀m,Nat.repeat up m (up x)=Nat.repeat up (m+1) x:=by
    intro m
    induction m with
    |zero=>rfl
    |succ m ihm=>show up _=up _;rw[ihm]
   refine⟨n+1,by rw[←arK];exact h1,λ m hm=> ?_⟩;cases m with
   |zero=>exact h
   |succ m=>rw[←arK];exact h2 m (by omega)
 intro x r h
 induction h with
 |here x h=>exact .here x (by unfold bH;rw[if_neg (λ e=>hn (by rw[←e];exact h))];exact h)
 |step x r h hs ih=>
  by_cases hx:x=c
  ·subst hx;have hr:r=q:=(bw.step x r h hs).rF hc;subst hr
   have bk:up (up x)≠x:=by
    intro e;obtain⟨n,h1,h2⟩:=len x r hc
    have m9:∀m,Nat.repeat up m x=x∨Nat.repeat up m x=up x:=by
     intro m
     induction m with
     |zero=>exact .inl rfl
     |succ m ihm=>
      show up (Nat.repeat up m x)=x∨up (Nat.repeat up m x)=up x;rcases ihm with e'|e'
      ·rw[e'];exact .inr rfl
      ·rw[e'];exact .inl e
    have rT:=hc.root;rcases m9 n with e'|e'
    ·rw[h1]at e';rw[e']at rT;exact h rT
    ·rw[h1]at e';rw[e',e]at rT;exact h rT.symm
   have hu:bH up x (up (up x)) x=up (up x):=by unfold bH;rw[if_pos rfl]
   have hux:bH up x (up (up x)) (up x)=up (up x):=by unfold bH;rw[if_neg h]
   refine .step x r (by rw[hu];exact bk) ?_;rw[hu];generalize bH up x (up (up x))=f at*;by_cases h':up (up x)=up x
   ·rw[h'];exact ih
   ·cases ih with
    |here _ h2=>exact(h' (by rw[←hux];exact h2)).elim
    |step _ _ h2 k=>rw[hux]at k;exact k
  ·have hu:bH up c (up (up c)) x=up x:=by unfold bH;rw[if_neg hx]
   exact .step x r (by rw[hu];exact h) (by rw[hu];exact ih)
end Go.Ab
namespace Go.Ab
structure Net where
 N:Nat
 M:Nat
 ty:Nat->ad
 kids:Nat->List Nat
def Net.mq(S:Net)(x:Nat):Prop:=(S.ty x).Kind=11
instance(S:Net)(x:Nat):Decidable (S.mq x):=by unfold Net.mq;infer_instance
structure Net.ok(S:Net):Prop where
 le:S.M<=S.N
 lt:∀x,x<S.N->∀k∈S.kids x,k<S.N
 abl:∀x,x<S.N->(S.ty x).Kids=(S.kids x).map S.ty
 pj:∀k,k<S.M->S.ty k=eA k/\S.kids k= []
 isMeta:∀x,x<S.N->S.mq x->x<S.M
def Net.head(S:Net)(x y:Nat):Prop:=(S.ty x).Kind=(S.ty y).Kind/\(S.ty x).N=(S.ty y).N/\(S.ty x).Name=(S.ty y).Name/\(S.kids x).length=(S.kids y).length
theorem Net.head.symm{S:Net}{x y:Nat}(h:S.head x y):S.head y x:=⟨h.1.symm,h.2.1.symm,h.2.2.1.symm,h.2.2.2.symm⟩
theorem Net.head.trans{S:Net}{x y z:Nat}(h:S.head x y)(k:S.head y z):S.head x z:=⟨h.1.trans k.1,h.2.1.trans k.2.1,h.2.2.1.trans k.2.2.1,h.2.2.2.trans k.2.2.2⟩
inductive EqW(up:Nat->Nat)(W:List (Nat×Nat)):Nat->Nat->Prop
 |base (x y:Nat):xl up x y->EqW up W x y
 |agD (x y:Nat):(x,y)∈W->EqW up W x y
 |symm (x y:Nat):EqW up W x y->EqW up W y x
 |trans (x y z:Nat):EqW up W x y->EqW up W y z->EqW up W x z
theorem EqW.mono{up bh:Nat->Nat}{W W':List (Nat×Nat)}(hb:∀x y,xl up x y->EqW bh W' x y)(hp:∀x y,(x,y)∈W->EqW bh W' x y){x y:Nat}(h:EqW up W x y):EqW bh W' x y:=by
 induction h with
 |base x y h=>exact hb x y h
 |agD x y h=>exact hp x y h
 |symm x y _ ih=>exact ih.symm
 |trans x y z _ _ i1 i2=>exact .trans _ _ _ i1 i2
theorem EqW.none{up:Nat->Nat}{x y:Nat}(h:EqW up [] x y):xl up x y:=by
 induction h with
 |base x y h=>exact h
 |agD x y h=>simp at h
 |symm x y _ ih=>exact ih.symm
 |trans x y z _ _ i1 i2=>exact i1.trans i2
structure UF(S:Net)(up:Nat->Nat)(W:List (Nat×Nat)):Prop where
 lt:∀x,x<S.N->up x<S.N
 tot:∀x,x<S.N->∃r,bw up x r
 rk:∀x r,x<S.N->bw up x r->S.mq r->S.mq x/\r<=x
 cl:∀x r,x<S.N->bw up x r->¬S.mq x->S.head x r/\∀(i p q:Nat),(S.kids x)[i]? =some p->(S.kids r)[i]? =some q->EqW up W p q
theorem bw.lt{up:Nat->Nat}{n:Nat}(hl:∀x,x<n->up x<n){x r:Nat}(h:bw up x r)(hx:x<n):r<n:=by
 induction h with
 |here x _=>exact hx
 |step x r _ _ ih=>exact ih (hl x hx)
theorem xl.union{up:Nat->Nat}{c p:Nat}(hc:up c=c)(hp:up p=p)(bk:c≠p){x y:Nat}(h:xl up x y):xl (bH up c p) x y:=by
 obtain⟨r,a,b⟩:=h;exact⟨_,a.union hc hp bk,b.union hc hp bk⟩
theorem bw.tB{S:Net}{up:Nat->Nat}{W:List (Nat×Nat)}(h:UF S up W){c p:Nat}(hc:up c=c)(hp:up p=p)(bk:c≠p){x r:Nat}(hx:x<S.N)(k:bw (bH up c p) x r):∃r0,bw up x r0/\r=if r0=c then p else r0:=by
 obtain⟨r0,h0⟩:=h.tot x hx;exact⟨r0,h0,k.rF (h0.union hc hp bk)⟩
inductive Js(S:Net):(Nat->Nat)->List (Nat×Nat)->(Nat->Nat)->Bool->Prop
 |nil (up):Js S up [] up true
 |eq (up u7 bh l ok):df up u7->(∀x,x<S.N->u7 x<S.N)->Js S u7 l bh ok->Js S up l bh ok
 |same (up bh x y a l ok):bw up x a->bw up y a->Js S up l bh ok->Js S up ((x,y)::l) bh ok
 |mt (up bh x y a b c p l ok):bw up x a->bw up y b->a≠b->(c=a/\p=b∨c=b/\p=a)->S.mq c->(S.mq p->p<c)->Js S (bH up c p) l bh ok->Js S up ((x,y)::l) bh ok
 |j6 (up x y a b l):bw up x a->bw up y b->a≠b->¬S.mq a->¬S.mq b->¬S.head a b->Js S up ((x,y)::l) up false
 |node (up bh x y a b c p l ok):bw up x a->bw up y b->a≠b->(c=a/\p=b∨c=b/\p=a)->¬S.mq a->¬S.mq b->S.head a b->Js S (bH up c p) ((S.kids a).zip (S.kids b)++l) bh ok->Js S up ((x,y)::l) bh ok
theorem Js.append{S:Net}{up u7 bh:Nat->Nat}{l m:List (Nat×Nat)}{ok ok1:Bool}(h:Js S up l u7 ok1)(ho:ok1=true)(k:Js S u7 m bh ok):Js S up (l++m) bh ok:=by
 induction h with
 |nil up=>exact k
 |eq up u7 xi l o h1 h2 _ ih=>exact .eq _ _ _ _ _ h1 h2 (ih ho k)
 |same up xi x y a l o h1 h2 _ ih=>exact .same _ _ _ _ _ _ _ h1 h2 (ih ho k)
 |mt up xi x y a b c p l o h1 h2 h3 h4 h5 h6 _ ih=>exact .mt _ _ _ _ _ _ _ _ _ _ h1 h2 h3 h4 h5 h6 (ih ho k)
 |j6=>cases ho
 |node up xi x y a b c p l o h1 h2 h3 h4 h5 h6 h7 _ ih=>exact .node _ _ _ _ _ _ _ _ _ _ h1 h2 h3 h4 h5 h6 h7 (by show Js S _ (_++(l++m)) _ _;rw[←List.append_assoc];exact ih ho k)
theorem Js.wW{S:Net}{up u7:Nat->Nat}{l m:List (Nat×Nat)}{ok1:Bool}(h:Js S up l u7 ok1)(ho:ok1=false):Js S up (l++m) u7 false:=by
 induction h with
 |nil up=>cases ho
 |eq up u7 xi l o h1 h2 _ ih=>exact .eq _ _ _ _ _ h1 h2 (ih ho)
 |same up xi x y a l o h1 h2 _ ih=>exact .same _ _ _ _ _ _ _ h1 h2 (ih ho)
 |mt up xi x y a b c p l o h1 h2 h3 h4 h5 h6 _ ih=>exact .mt _ _ _ _ _ _ _ _ _ _ h1 h2 h3 h4 h5 h6 (ih ho)
 |j6 up x y a b l h1 h2 h3 h4 h5 h6=>exact .j6 _ _ _ _ _ _ h1 h2 h3 h4 h5 h6
 |node up xi x y a b c p l o h1 h2 h3 h4 h5 h6 h7 _ ih=>exact .node _ _ _ _ _ _ _ _ _ _ h1 h2 h3 h4 h5 h6 h7 (by show Js S _ (_++(l++m)) _ _;rw[←List.append_assoc];exact ih ho)
theorem df.uf{S:Net}{up u7:Nat->Nat}{W:List (Nat×Nat)}(he:df up u7)(hl:∀x,x<S.N->u7 x<S.N)(h:UF S up W):UF S u7 W:=by
 have inv:∀x r,x<S.N->bw u7 x r->bw up x r:=λ x r hx k=>by
  obtain⟨r0,h0⟩:=h.tot x hx;have:=k.rF (he x r0 h0);subst this;exact h0
 refine⟨hl,λ x hx=> ?_,λ x r hx k=>h.rk x r hx (inv x r hx k),λ x r hx k hm=> ?_⟩
 ·obtain⟨r,hr⟩:=h.tot x hx;exact⟨r,he x r hr⟩
 ·obtain⟨h1,h2⟩:=h.cl x r hx (inv x r hx k) hm;exact⟨h1,λ i p q hp hq=>(h2 i p q hp hq).mono (λ x y ⟨r,a,b⟩=> .base _ _ ⟨r,he _ _ a,he _ _ b⟩) (λ x y hw=> .agD _ _ hw)⟩
theorem aeo{α β:Type}:∀(l:List α) (m:List β) (i:Nat) (a:α) (b:β),l[i]? =some a->m[i]? =some b->(a,b)∈l.zip m
 | [],_,_,_,_,h,_=>by simp at h
 |_::_,[],_,_,_,_,h=>by simp at h
 |x::l,y::m,0,a,b,h,k=>by simp at h k;subst h;subst k;simp
 |x::l,y::m,i+1,a,b,h,k=>by
  simp only[List.zip_cons_cons,List.mem_cons];exact .inr (aeo l m i a b (by simpa using h) (by simpa using k))
theorem qI{S:Net}{up:Nat->Nat}{c p:Nat}(hl:∀x,x<S.N->up x<S.N)(hp:p<S.N):∀x,x<S.N->bH up c p x<S.N:=λ x hx=>by
 unfold bH;split
 ·exact hp
 ·exact hl x hx
theorem Js.uf{S:Net}{up bh:Nat->Nat}{l:List (Nat×Nat)}{ok:Bool}(h:Js S up l bh ok):∀(W:List (Nat×Nat)),S.ok->ok=true->UF S up (l++W)->(∀p∈l,p.1<S.N/\p.2<S.N)->UF S bh W/\(∀x y,xl up x y->xl bh x y)/\∀p∈l,xl bh p.1 p.2:=by
 induction h with
 |nil up=>intro W _ _ hu _;exact⟨hu,λ _ _ h=>h,λ p hp=>by simp at hp⟩
 |eq up u7 xi l o h1 h2 _ ih=>
  intro W hs ho hu hl;obtain⟨q1,q2,q3⟩:=ih W hs ho (h1.uf h2 hu) hl;exact⟨q1,λ x y ⟨r,a,b⟩=>q2 x y ⟨r,h1 _ _ a,h1 _ _ b⟩,q3⟩
 |same up xi x y a l o h1 h2 _ ih=>
  intro W hs ho hu hl
  have hu':UF S up (l++W):=⟨hu.lt,hu.tot,hu.rk,λ z r hz k hm=>by
   obtain⟨c1,c2⟩:=hu.cl z r hz k hm
   exact⟨c1,λ i p q hp hq=>(c2 i p q hp hq).mono (λ _ _ h=> .base _ _ h) λ u v hw=>by
    rcases List.mem_cons.1 hw with e|e
    ·cases e;exact .base _ _ ⟨a,h1,h2⟩
    ·exact .agD _ _ e⟩⟩
  obtain⟨q1,q2,q3⟩:=ih W hs ho hu' λ p hp=>hl p (by simp[hp])
  refine⟨q1,q2,λ p hp=> ?_⟩;rcases List.mem_cons.1 hp with e|e
  ·subst e;exact q2 _ _ ⟨a,h1,h2⟩
  ·exact q3 p e
 |mt up xi x y a b c p l o h1 h2 h3 h4 h5 h6 _ ih=>
  intro W hs ho hu hl;have hxy:=hl (x,y) (by simp);have ha:=h1.lt hu.lt hxy.1;have hb:=h2.lt hu.lt hxy.2
  have hcp:up c=c/\up p=p/\c≠p/\c<S.N/\p<S.N:=by
   rcases h4 with⟨rfl,rfl⟩|⟨rfl,rfl⟩
   ·exact⟨h1.root,h2.root,h3,ha,hb⟩
   ·exact⟨h2.root,h1.root,h3.symm,hb,ha⟩
  obtain⟨hc,hp,bk,mS,sn⟩:=hcp
  have hE:xl (bH up c p) x y:=by
   rcases h4 with⟨rfl,rfl⟩|⟨rfl,rfl⟩
   ·exact⟨_,by have:=h1.union hc hp bk;rwa [if_pos rfl]at this,by have:=h2.union hc hp bk;rwa [if_neg bk.symm]at this⟩
   ·exact⟨_,by have:=h1.union hc hp bk;rwa [if_neg bk.symm]at this,by have:=h2.union hc hp bk;rwa [if_pos rfl]at this⟩
  have hu':UF S (bH up c p) (l++W):=by
   refine⟨qI hu.lt sn,λ z hz=> ?_,λ z r hz k hm=> ?_,λ z r hz k hm=> ?_⟩
   ·obtain⟨r,hr⟩:=hu.tot z hz;exact⟨_,hr.union hc hp bk⟩
   ·obtain⟨r0,k0,rfl⟩:=bw.tB hu hc hp bk hz k;by_cases hr:r0=c
    ·subst hr;rw[if_pos rfl]at hm⊢;obtain⟨g1,g2⟩:=hu.rk z r0 hz k0 h5;exact⟨g1,by have:=h6 hm;omega⟩
    ·rw[if_neg hr]at hm⊢;exact hu.rk z r0 hz k0 hm
   ·obtain⟨r0,k0,rfl⟩:=bw.tB hu hc hp bk hz k;by_cases hr:r0=c
    ·subst hr;exact(hm (hu.rk z r0 hz k0 h5).1).elim
    ·rw[if_neg hr];obtain⟨c1,c2⟩:=hu.cl z r0 hz k0 hm
     exact⟨c1,λ i u v hp' hq=>(c2 i u v hp' hq).mono (λ _ _ h=> .base _ _ (h.union hc hp bk)) λ u v hw=>by
      rcases List.mem_cons.1 hw with e|e
      ·cases e;exact .base _ _ hE
      ·exact .agD _ _ e⟩
  obtain⟨q1,q2,q3⟩:=ih W hs ho hu' λ p hp=>hl p (by simp[hp])
  refine⟨q1,λ _ _ h=>q2 _ _ (h.union hc hp bk),λ q hq=> ?_⟩;rcases List.mem_cons.1 hq with e|e
  ·subst e;exact q2 _ _ hE
  ·exact q3 q e
 |j6=>intro W _ ho;cases ho
 |node up xi x y a b c p l o h1 h2 h3 h4 h5 h6 h7 _ ih=>
  intro W hs ho hu hl;have hxy:=hl (x,y) (by simp);have ha:=h1.lt hu.lt hxy.1;have hb:=h2.lt hu.lt hxy.2
  have hcp:up c=c/\up p=p/\c≠p/\c<S.N/\p<S.N/\¬S.mq c/\¬S.mq p/\S.head c p:=by
   rcases h4 with⟨rfl,rfl⟩|⟨rfl,rfl⟩
   ·exact⟨h1.root,h2.root,h3,ha,hb,h5,h6,h7⟩
   ·exact⟨h2.root,h1.root,h3.symm,hb,ha,h6,h5,h7.symm⟩
  obtain⟨hc,hp,bk,mS,sn,hcm,hpm,hh⟩:=hcp
  have hE:xl (bH up c p) x y:=by
   rcases h4 with⟨rfl,rfl⟩|⟨rfl,rfl⟩
   ·exact⟨_,by have:=h1.union hc hp bk;rwa [if_pos rfl]at this,by have:=h2.union hc hp bk;rwa [if_neg bk.symm]at this⟩
   ·exact⟨_,by have:=h1.union hc hp bk;rwa [if_neg bk.symm]at this,by have:=h2.union hc hp bk;rwa [if_pos rfl]at this⟩
  have conv:∀u v,EqW up (((x,y)::l)++W) u v->EqW (bH up c p) (((S.kids a).zip (S.kids b)++l)++W) u v:=λ u v h=>
   h.mono (λ _ _ h=> .base _ _ (h.union hc hp bk)) λ u v hw=>by
     rcases List.mem_cons.1 hw with e|e
     ·cases e;exact .base _ _ hE
     ·exact .agD _ _ (by
       rcases List.mem_append.1 e with e|e
       ·simp[e]
       ·simp[e])
  have auJ:∀(i u v:Nat),(S.kids c)[i]? =some u->(S.kids p)[i]? =some v->EqW (bH up c p) (((S.kids a).zip (S.kids b)++l)++W) u v:=by
   intro i u v hu' hv;rcases h4 with⟨rfl,rfl⟩|⟨rfl,rfl⟩
   ·exact .agD _ _ (by simp[aeo _ _ i u v hu' hv])
   ·exact .symm _ _ (.agD _ _ (by simp[aeo _ _ i v u hv hu']))
  have hu':UF S (bH up c p) (((S.kids a).zip (S.kids b)++l)++W):=by
   refine⟨qI hu.lt sn,λ z hz=> ?_,λ z r hz k hm=> ?_,λ z r hz k hm=> ?_⟩
   ·obtain⟨r,hr⟩:=hu.tot z hz;exact⟨_,hr.union hc hp bk⟩
   ·obtain⟨r0,k0,rfl⟩:=bw.tB hu hc hp bk hz k;by_cases hr:r0=c
    ·rw[if_pos hr]at hm;exact(hpm hm).elim
    ·rw[if_neg hr]at hm⊢;exact hu.rk z r0 hz k0 hm
   ·obtain⟨r0,k0,rfl⟩:=bw.tB hu hc hp bk hz k;obtain⟨c1,c2⟩:=hu.cl z r0 hz k0 hm;by_cases hr:r0=c
    ·subst hr;rw[if_pos rfl];refine⟨c1.trans hh,λ i u v hu1 hv=> ?_⟩
     have aw:i<(S.kids r0).length:=by
      have:=(List.getElem?_eq_some_iff.1 hv).1;rw[hh.2.2.2];exact this
     exact .trans _ _ _ (conv _ _ (c2 i u _ hu1 (List.getElem?_eq_getElem aw))) (auJ i _ v (List.getElem?_eq_getElem aw) hv)
    ·rw[if_neg hr];exact⟨c1,λ i u v hu1 hv=>conv _ _ (c2 i u v hu1 hv)⟩
  obtain⟨q1,q2,q3⟩:=ih W hs ho hu' λ q hq=>by
   rcases List.mem_append.1 hq with e|e
   ·obtain⟨u,v⟩:=q;have:=List.of_mem_zip e;exact⟨hs.lt a ha u this.1,hs.lt b hb v this.2⟩
   ·exact hl q (by simp[e])
  refine⟨q1,λ _ _ h=>q2 _ _ (h.union hc hp bk),λ q hq=> ?_⟩;rcases List.mem_cons.1 hq with e|e
  ·subst e;exact q2 _ _ hE
  ·exact q3 q (by simp[e])
end Go.Ab
namespace Go.Ab
def Snd(S:Net)(up:Nat->Nat)(σ:Int->ad):Prop:=∀x r,x<S.N->bw up x r->(S.ty x).sub σ=(S.ty r).sub σ
theorem Net.ok.nX{S:Net}(hs:S.ok)(σ:Int->ad){x:Nat}(hx:x<S.N)(hm:¬S.mq x):(S.ty x).sub σ= .mk (S.ty x).Kind (S.ty x).N (S.ty x).Name ((S.kids x).map λ k=>(S.ty k).sub σ):=by
 rw[ad.aad σ hm,hs.abl x hx,List.map_map];rfl
theorem ad.mk_inj{k n k' n':Int}{s s':ByteArray}{l l':List ad}(h:ad.mk k n s l=ad.mk k' n' s' l'):k=k'/\n=n'/\s=s'/\l=l':=by cases h;exact⟨rfl,rfl,rfl,rfl⟩
theorem Js.sound{S:Net}{up bh:Nat->Nat}{l:List (Nat×Nat)}{ok:Bool}(h:Js S up l bh ok):∀(σ:Int->ad),S.ok->(∀x,x<S.N->up x<S.N)->(∀x,x<S.N->∃r,bw up x r)->(∀p∈l,p.1<S.N/\p.2<S.N)->Snd S up σ->(∀p∈l,(S.ty p.1).sub σ=(S.ty p.2).sub σ)->ok=true/\Snd S bh σ:=by
 have un:∀{up:Nat->Nat} {c p:Nat} {σ:Int->ad},(∀x,x<S.N->∃r,bw up x r)->up c=c->up p=p->c≠p->p<S.N->Snd S up σ->(S.ty c).sub σ=(S.ty p).sub σ->Snd S (bH up c p) σ/\∀x,x<S.N->∃r,bw (bH up c p) x r:=by
  intro up c p σ ht hc hp bk sn hn he;refine⟨λ x r hx k=> ?_,λ x hx=> ?_⟩
  ·obtain⟨r0,h0⟩:=ht x hx;have:=k.rF (h0.union hc hp bk);subst this;by_cases hr:r0=c
   ·rw[if_pos hr,hn x r0 hx h0,hr,he]
   ·rw[if_neg hr];exact hn x r0 hx h0
  ·obtain⟨r,hr⟩:=ht x hx;exact⟨_,hr.union hc hp bk⟩
 induction h with
 |nil up=>intro σ _ _ _ _ hn _;exact⟨rfl,hn⟩
 |eq up u7 xi l o h1 h2 _ ih=>
  intro σ hs hl ht hp hn he;refine ih σ hs h2 (λ x hx=>by obtain⟨r,hr⟩:=ht x hx;exact⟨r,h1 _ _ hr⟩) hp (λ x r hx k=> ?_) he;obtain⟨r0,h0⟩:=ht x hx;have:=k.rF (h1 _ _ h0);subst this;exact hn x r hx h0
 |same up xi x y a l o h1 h2 _ ih=>
  intro σ hs hl ht hp hn he;exact ih σ hs hl ht (λ p hq=>hp p (by simp[hq])) hn λ p hq=>he p (by simp[hq])
 |mt up xi x y a b c p l o h1 h2 h3 h4 h5 h6 _ ih=>
  intro σ hs hl ht hp hn he;have hxy:=hp (x,y) (by simp);have aho:=he (x,y) (by simp);simp only at hxy aho;have ha:=h1.lt hl hxy.1;have hb:=h2.lt hl hxy.2;have tW:(S.ty a).sub σ=(S.ty b).sub σ:=by rw[←hn x a hxy.1 h1,←hn y b hxy.2 h2,aho]
  have hcp:up c=c/\up p=p/\c≠p/\p<S.N/\(S.ty c).sub σ=(S.ty p).sub σ:=by
   rcases h4 with⟨rfl,rfl⟩|⟨rfl,rfl⟩
   ·exact⟨h1.root,h2.root,h3,hb,tW⟩
   ·exact⟨h2.root,h1.root,h3.symm,ha,tW.symm⟩
  obtain⟨u1,u2⟩:=un ht hcp.1 hcp.2.1 hcp.2.2.1 hcp.2.2.2.1 hn hcp.2.2.2.2;exact ih σ hs (qI hl hcp.2.2.2.1) u2 (λ p hq=>hp p (by simp[hq])) u1 λ p hq=>he p (by simp[hq])
 |j6 up x y a b l h1 h2 h3 h4 h5 h6=>
  intro σ hs hl ht hp hn he;have hxy:=hp (x,y) (by simp);have aho:=he (x,y) (by simp);simp only at hxy aho;have ha:=h1.lt hl hxy.1;have hb:=h2.lt hl hxy.2;have tW:(S.ty a).sub σ=(S.ty b).sub σ:=by rw[←hn x a hxy.1 h1,←hn y b hxy.2 h2,aho]
  rw[hs.nX σ ha h4,hs.nX σ hb h5]at tW;obtain⟨e1,e2,e3,e4⟩:=ad.mk_inj tW;have e5:=congrArg List.length e4;simp only[List.length_map]at e5;exact(h6 ⟨e1,e2,e3,e5⟩).elim
 |node up xi x y a b c p l o h1 h2 h3 h4 h5 h6 h7 _ ih=>
  intro σ hs hl ht hp hn he;have hxy:=hp (x,y) (by simp);have aho:=he (x,y) (by simp);simp only at hxy aho;have ha:=h1.lt hl hxy.1;have hb:=h2.lt hl hxy.2;have tW:(S.ty a).sub σ=(S.ty b).sub σ:=by rw[←hn x a hxy.1 h1,←hn y b hxy.2 h2,aho]
  have hcp:up c=c/\up p=p/\c≠p/\p<S.N/\(S.ty c).sub σ=(S.ty p).sub σ:=by
   rcases h4 with⟨rfl,rfl⟩|⟨rfl,rfl⟩
   ·exact⟨h1.root,h2.root,h3,hb,tW⟩
   ·exact⟨h2.root,h1.root,h3.symm,ha,tW.symm⟩
  obtain⟨u1,u2⟩:=un ht hcp.1 hcp.2.1 hcp.2.2.1 hcp.2.2.2.1 hn hcp.2.2.2.2;rw[hs.nX σ ha h5,hs.nX σ hb h6]at tW;obtain⟨_,_,_,e4⟩:=ad.mk_inj tW;refine ih σ hs (qI hl hcp.2.2.2.1) u2 (λ q hq=> ?_) u1 λ q hq=> ?_
  ·rcases List.mem_append.1 hq with e|e
   ·obtain⟨u,v⟩:=q;have:=List.of_mem_zip e;exact⟨hs.lt a ha u this.1,hs.lt b hb v this.2⟩
   ·exact hp q (by simp[e])
  ·rcases List.mem_append.1 hq with e|e
   ·obtain⟨i,hi⟩:=List.getElem?_of_mem e;rw[List.getElem?_zip_eq_some]at hi;have:=congrArg (λ l=>l[i]?) e4;simp only[List.getElem?_map,hi.1,hi.2,map_some,Option.some.injEq]at this;exact this
   ·exact he q (by simp[e])
mutual
inductive gC(S:Net)(up:Nat->Nat):Nat->ad->Prop
 |mt (x r:Nat):bw up x r->S.mq r->gC S up x (eA r)
 |node (x r:Nat) (ts:List ad):bw up x r->¬S.mq r->kj S up (S.kids r) ts->gC S up x (.mk (S.ty r).Kind (S.ty r).N (S.ty r).Name ts)
inductive kj(S:Net)(up:Nat->Nat):List Nat->List ad->Prop
 |nil:kj S up [] []
 |cons (k:Nat) (l:List Nat) (t:ad) (ts:List ad):gC S up k t->kj S up l ts->kj S up (k::l) (t::ts)
end
theorem gC.eqv{S:Net}{up:Nat->Nat}{x y:Nat}{t:ad}(h:gC S up x t)(he:xl up y x):gC S up y t:=by
 obtain⟨r,a,b⟩:=he;cases h with
 |mt _ r' k hm=>
  have:=b.rF k;subst this;exact .mt y r a hm
 |node _ r' ts k hm hv=>
  have:=b.rF k;subst this;exact .node y r ts a hm hv
mutual
theorem gC.rF{S:Net}{up:Nat->Nat}{x:Nat}{t u:ad}:gC S up x t->gC S up x u->t=u
 | .mt _ r h hm,k=>by
   cases k with
   |mt _ r' k hm'=>rw[h.rF k]
   |node _ r' ts k hm' _=>have:=h.rF k;subst this;exact(hm' hm).elim
 | .node _ r ts h hm hv,k=>by
   cases k with
   |mt _ r' k hm'=>have:=h.rF k;subst this;exact(hm hm').elim
   |node _ r' us k hm' hw=>
    have:=h.rF k;subst this;rw[kj.rF hv hw]
theorem kj.rF{S:Net}{up:Nat->Nat}{l:List Nat}{ts us:List ad}:kj S up l ts->kj S up l us->ts=us
 | .nil,k=>by cases k;rfl
 | .cons _ _ _ _ h hv,k=>by
   cases k with
   |cons _ _ _ _ k kv=>rw[gC.rF h k,kj.rF hv kv]
end
theorem kj.at{S:Net}{up:Nat->Nat}:∀{l:List Nat} {ts:List ad},kj S up l ts->ts.length=l.length/\∀(i k:Nat),l[i]? =some k->∃t,ts[i]? =some t/\gC S up k t
 | [],_,h=>by cases h;exact⟨rfl,λ i k h=>by simp at h⟩
 |k::l,_,h=>by
  cases h with
  |cons _ _ t ts h1 h2=>
   obtain⟨q1,q2⟩:=kj.at h2;refine⟨by simp[q1],λ i k' hk=> ?_⟩;cases i with
   |zero=>simp at hk;subst hk;exact⟨t,rfl,h1⟩
   |succ i=>simpa using q2 i k' (by simpa using hk)
theorem fX{x y:ad}(h:y∈x.Kids):SizeOf.sizeOf y<SizeOf.sizeOf x:=ad.fg h
theorem gC.exists{S:Net}{up:Nat->Nat}{W:List (Nat×Nat)}(hs:S.ok)(hu:UF S up W){σ:Int->ad}(hn:Snd S up σ):∀(n x:Nat),x<S.N->SizeOf.sizeOf ((S.ty x).sub σ)<=n->∃t,gC S up x t:=by
 intro n
 induction n with
 |zero=>intro x _ h;have:0<SizeOf.sizeOf ((S.ty x).sub σ):=by cases(S.ty x).sub σ;simp;omega
        omega
 |succ n ih=>
  intro x hx h;obtain⟨r,hr⟩:=hu.tot x hx;have dV:=hr.lt hu.lt hx;by_cases hm:S.mq r
  ·exact⟨_,.mt x r hr hm⟩
  ·rw[hn x r hx hr,hs.nX σ dV hm]at h
   have hk:∀k∈S.kids r,∃t,gC S up k t:=λ k hk=>ih k (hs.lt r dV k hk) (by
    have:SizeOf.sizeOf ((S.ty k).sub σ)<SizeOf.sizeOf (ad.mk (S.ty r).Kind (S.ty r).N (S.ty r).Name ((S.kids r).map λ k=>(S.ty k).sub σ)):=fX (by show _∈List.map _ _;exact List.mem_map.2 ⟨k,hk,rfl⟩);omega)
   have:∀l:List Nat,(∀k∈l,∃t,gC S up k t)->∃ts,kj S up l ts:=by
    intro l
    induction l with
    |nil=>intro _;exact⟨[],.nil⟩
    |cons k l ih=>
     intro h;obtain⟨t,ht⟩:=h k (by simp);obtain⟨ts,uB⟩:=ih λ q hq=>h q (by simp[hq])
     exact⟨t::ts,.cons _ _ _ _ ht uB⟩
   obtain⟨ts,uB⟩:=this _ hk;exact⟨_,.node x r ts hr hm uB⟩
theorem gC.types{S:Net}{up:Nat->Nat}(hs:S.ok)(hu:UF S up []){τ:Int->ad}(zp:∀k,k<S.M->gC S up k (τ k)):∀(n x:Nat),x<S.N->SizeOf.sizeOf (S.ty x)<=n->gC S up x ((S.ty x).sub τ):=by
 intro n
 induction n with
 |zero=>intro x _ h;have:0<SizeOf.sizeOf (S.ty x):=by cases S.ty x;simp;omega
        omega
 |succ n ih=>
  intro x hx h;by_cases hm:S.mq x
  ·have hxm:=hs.isMeta x hx hm;rw[ad.agi τ hm,(hs.pj x hxm).1];exact zp x hxm
  ·obtain⟨r,hr⟩:=hu.tot x hx;have dV:=hr.lt hu.lt hx;have hrm:¬S.mq r:=λ q=>hm (hu.rk x r hx hr q).1
   obtain⟨⟨e1,e2,e3,e4⟩,hk⟩:=hu.cl x r hx hr hm;rw[hs.nX τ hx hm,e1,e2,e3];refine .node x r _ hr hrm ?_
   have aBK:∀k∈S.kids x,gC S up k ((S.ty k).sub τ):=λ k pr=>ih k (hs.lt x hx k pr) (by
    have:SizeOf.sizeOf (S.ty k)<SizeOf.sizeOf (S.ty x):=fX (by rw[hs.abl x hx];exact List.mem_map.2 ⟨k,pr,rfl⟩);omega)
   have aAB:∀(l m:List Nat),l.length=m.length->(∀(i p q:Nat),l[i]? =some p->m[i]? =some q->xl up p q)->(∀k∈l,gC S up k ((S.ty k).sub τ))->kj S up m (l.map λ k=>(S.ty k).sub τ):=by
    intro l
    induction l with
    |nil=>intro m hl _ _;obtain rfl:=List.eq_nil_of_length_eq_zero hl.symm;exact .nil
    |cons p l ih=>
     intro m hl he hv;cases m with
     |nil=>simp at hl
     |cons q m=>exact .cons _ _ _ _ ((hv p (by simp)).eqv (he 0 p q rfl rfl).symm) (ih m (by simpa using hl) (λ i p q hp hq=>he (i+1) p q (by simpa using hp) (by simpa using hq)) λ k hk=>hv k (by simp[hk]))
   exact aAB _ _ e4 (λ i p q hp hq=>(hk i p q hp hq).none) aBK
theorem gC.ar5{S:Net}{up:Nat->Nat}(hs:S.ok)(hl:∀x,x<S.N->up x<S.N){σ:Int->ad}(hn:Snd S up σ):∀(n x:Nat) (t:ad),x<S.N->SizeOf.sizeOf t<=n->gC S up x t->t.sub σ=(S.ty x).sub σ:=by
 intro n
 induction n with
 |zero=>intro x t _ h;have:0<SizeOf.sizeOf t:=by cases t;simp;omega
        omega
 |succ n ih=>
  intro x t hx h hv;cases hv with
  |mt _ r hr hm=>
   have hrm:=hs.isMeta r (hr.lt hl hx) hm;rw[hn x r hx hr,(hs.pj r hrm).1]
  |node _ r ts hr hm vR=>
   have dV:=hr.lt hl hx;have ao0:(ad.mk (S.ty r).Kind (S.ty r).N (S.ty r).Name ts).Kind≠11:=hm;rw[hn x r hx hr,hs.nX σ dV hm,ad.aad σ ao0]
   show ad.mk _ _ _ (ts.map _)=_;obtain⟨q1,q2⟩:=kj.at vR;congr 1;apply List.ext_getElem?;intro i;rw[List.getElem?_map,List.getElem?_map];cases hk:(S.kids r)[i]? with
   |none=>rw[List.getElem?_eq_none (by rw[q1];exact List.getElem?_eq_none_iff.1 hk)];rfl
   |some k=>
    obtain⟨t,ht,hvt⟩:=q2 i k hk;rw[ht];simp only[map_some];congr 1
    exact ih k t (hs.lt r dV k (mem_of_getElem? hk)) (by
     have:SizeOf.sizeOf t<SizeOf.sizeOf (ad.mk (S.ty r).Kind (S.ty r).N (S.ty r).Name ts):=fX (show t∈ts from mem_of_getElem? ht);omega) hvt
end Go.Ab
namespace Go.Ab
mutual
def ad.allM(Q:Int->Prop):ad->Prop
 | .mk kd n nm kids=>(kd=11->nm=⟨#[]⟩/\kids= []/\Q n)/\ad.yW Q kids
def ad.yW(Q:Int->Prop):List ad->Prop
 | []=>True
 |x::l=>x.allM Q/\ad.yW Q l
end
theorem ad.uq(Q:Int->Prop):∀l:List ad,ad.yW Q l↔∀y∈l,y.allM Q
 | []=>by simp[ad.yW]
 |x::l=>by simp[ad.yW,ad.uq Q l]
theorem ad.amJ{Q:Int->Prop}{k:Int}(h:Q k):(eA k).allM Q:=⟨λ _=>⟨rfl,rfl,h⟩,trivial⟩
mutual
theorem ad.aek{Q Q':Int->Prop}(hq:∀n,Q n->Q' n):∀(x:ad),x.allM Q->x.allM Q'
 | .mk kd n nm kids,h=>⟨λ hk=>⟨(h.1 hk).1,(h.1 hk).2.1,hq _ (h.1 hk).2.2⟩,ad.ack hq kids h.2⟩
theorem ad.ack{Q Q':Int->Prop}(hq:∀n,Q n->Q' n):∀(l:List ad),ad.yW Q l->ad.yW Q' l
 | [],_=>trivial
 |x::l,h=>⟨ad.aek hq x h.1,ad.ack hq l h.2⟩
end
mutual
theorem ad.ajR{σ:Int->ad}:∀(x:ad),x.allM (λ m=>σ m=eA m)->x.sub σ=x
 | .mk kd n nm kids,h=>by
   rw[ad.sub];by_cases hk:kd=11
   ·obtain⟨h1,h2,h3⟩:=h.1 hk;rw[if_pos hk,h3,hk,h1,h2];rfl
   ·rw[if_neg hk,ad.agh kids h.2]
theorem ad.agh{σ:Int->ad}:∀(l:List ad),ad.yW (λ m=>σ m=eA m) l->ad.akS σ l=l
 | [],_=>rfl
 |x::l,h=>by rw[ad.akS,ad.ajR x h.1,ad.agh l h.2]
end
structure Canon(M:Nat)(ps:List (ad×ad))(τ:Int->ad):Prop where
 uni:∀p∈ps,p.1.sub τ=p.2.sub τ
 gen:∀σ:Int->ad,(∀p∈ps,p.1.sub σ=p.2.sub σ)->∀k:Nat,k<M->(τ k).sub σ=σ k
 fix:∀k:Nat,k<M->(τ k).allM λ m=>∃j:Nat,j<M/\m=j/\τ j=eA j
 low:∀k:Nat,k<M->∀r:Nat,τ k=eA r->r<=k
theorem alD{a b:Int}(h:eA a=eA b):a=b:=(ad.mk_inj h).2.1
theorem adI(σ:Int->ad)(k:Int):(eA k).sub σ=σ k:=ad.agi σ rfl
theorem Canon.unique{M:Nat}{ps:List (ad×ad)}{τ τ':Int->ad}(h:Canon M ps τ)(h':Canon M ps τ'):∀k:Nat,k<M->τ k=τ' k:=by
 have e1:=h.gen τ' h'.uni;have e2:=h'.gen τ h.uni
 have roots:∀m:Nat,m<M->τ m=eA m->τ' m=eA m:=by
  intro m hm hr;have q:=e2 m hm;rw[hr]at q;by_cases hk:(τ' m).Kind=11
  ·have hf:=h'.fix m hm;rw[(τ' m).vI]at hf;obtain⟨h1,h2,j,hj,hj1,hj2⟩:=hf.1 hk;have alY:τ' m=eA j:=by rw[(τ' m).vI,hk,h1,h2,hj1];rfl
   have hle:=h'.low m hm j alY;rw[alY,adI]at q;have aEB:=h.low j hj m q;have:j=m:=by omega
   rw[alY,this]
  ·rw[ad.aad τ hk]at q;exact(hk (ad.mk_inj q).1).elim
 intro k hk;have q:=e1 k hk;rw[ad.ajR _ (ad.aek (λ m ⟨j,hj,e,hr⟩=>by subst e;exact roots j hj hr) _ (h.fix k hk))]at q;exact q
theorem Canon.auh{S:Net}{up:Nat->Nat}(hs:S.ok)(hu:UF S up []){τ:Int->ad}(zp:∀k:Nat,k<S.M->gC S up k (τ k)){l:List (Nat×Nat)}{ps:List (ad×ad)}(hl:∀p∈l,p.1<S.N/\p.2<S.N)(he:∀p∈l,xl up p.1 p.2)
  (hp:ps=l.map λ p=>(S.ty p.1,S.ty p.2)) (aBi:∀σ:Int->ad,(∀p∈ps,p.1.sub σ=p.2.sub σ)->Snd S up σ):Canon S.M ps τ:=by
 have rT:∀r:Nat,r<S.N->up r=r->S.mq r->r<S.M/\τ r=eA r:=λ r hr hur hm=>by
  have h1:=hs.isMeta r hr hm;exact⟨h1,(zp r h1).rF (.mt r r (.here r hur) hm)⟩
 have aCA:∀(n x:Nat) (t:ad),x<S.N->SizeOf.sizeOf t<=n->gC S up x t->t.allM λ m=>∃j:Nat,j<S.M/\m=j/\τ j=eA j:=by
  intro n
  induction n with
  |zero=>intro x t _ h;have:0<SizeOf.sizeOf t:=by cases t;simp;omega
         omega
  |succ n ih=>
   intro x t hx h hv;cases hv with
   |mt _ r hr hm=>
    obtain⟨h1,h2⟩:=rT r (hr.lt hu.lt hx) hr.root hm;exact ad.amJ ⟨r,h1,rfl,h2⟩
   |node _ r ts hr hm vR=>
    have dV:=hr.lt hu.lt hx;refine⟨λ hk=>(hm hk).elim,(ad.uq _ _).2 λ t ht=> ?_⟩;obtain⟨q1,q2⟩:=kj.at vR;obtain⟨i,hi⟩:=List.getElem?_of_mem ht;have hil:=(List.getElem?_eq_some_iff.1 hi).1;have hk:(S.kids r)[i]? =some ((S.kids r)[i]'(by omega)):=List.getElem?_eq_getElem (by omega);obtain⟨t',ht',hvt⟩:=q2 i _ hk;rw[hi]at ht';cases ht'
    exact ih _ t (hs.lt r dV _ (mem_of_getElem? hk)) (by
     have:SizeOf.sizeOf t<SizeOf.sizeOf (ad.mk (S.ty r).Kind (S.ty r).N (S.ty r).Name ts):=fX (show t∈ts from ht);omega) hvt
 refine⟨λ p hp'=> ?_,λ σ hσ k hk=> ?_,λ k hk=>aCA _ k _ (Nat.lt_of_lt_of_le hk hs.le) (le_refl _) (zp k hk),λ k hk r hr=> ?_⟩
 ·rw[hp]at hp';obtain⟨q,hq,rfl⟩:=List.mem_map.1 hp';obtain⟨h1,h2⟩:=hl q hq;exact(gC.types hs hu zp _ q.1 h1 (le_refl _)).rF ((gC.types hs hu zp _ q.2 h2 (le_refl _)).eqv (he q hq))
 ·have:=gC.ar5 hs hu.lt (aBi σ hσ) _ k (τ k) (Nat.lt_of_lt_of_le hk hs.le) (le_refl _) (zp k hk);rw[this,(hs.pj k hk).1,adI]
 ·have hv:=zp k hk;rw[hr]at hv;generalize hg:eA (r:Int)=t at hv;cases hv with
  |mt _ r' h1 hm=>
   have:=alD hg;have:=(hu.rk k r' (Nat.lt_of_lt_of_le hk hs.le) h1 hm).2;omega
  |node _ r' ts h1 hm _=>
   exact(hm (ad.mk_inj hg).1.symm).elim
inductive Dn(S:Net)(up:Nat->Nat):Nat->Nat->Prop
 |za (x r k y:Nat):bw up x r->¬S.mq r->k∈S.kids r->xl up k y->Dn S up x y
 |trans (x y z:Nat):Dn S up x y->Dn S up y z->Dn S up x z
theorem Dn.less{S:Net}{up:Nat->Nat}{x y:Nat}(h:Dn S up x y):∀t,gC S up x t->∃u,gC S up y u/\SizeOf.sizeOf u<SizeOf.sizeOf t:=by
 induction h with
 |za x r k y h1 h2 h3 h4=>
  intro t hv;cases hv with
  |mt _ r' h hm=>have:=h1.rF h;subst this;exact(h2 hm).elim
  |node _ r' ts h hm vR=>
   have:=h1.rF h;subst this;obtain⟨q1,q2⟩:=kj.at vR;obtain⟨i,hi⟩:=List.getElem?_of_mem h3;obtain⟨u,hu,hvu⟩:=q2 i k hi;exact⟨u,hvu.eqv h4.symm,fX (show u∈ts from mem_of_getElem? hu)⟩
 |trans x y z _ _ i1 i2=>
  intro t hv;obtain⟨u,hu,h1⟩:=i1 t hv;obtain⟨v,iV,h2⟩:=i2 u hu;exact⟨v,iV,by omega⟩
theorem Dn.not{S:Net}{up:Nat->Nat}{x:Nat}(h:Dn S up x x)(t:ad):¬gC S up x t:=by
 have:∀(n:Nat) (t:ad),SizeOf.sizeOf t<=n->¬gC S up x t:=by
  intro n
  induction n with
  |zero=>intro t h _;have:0<SizeOf.sizeOf t:=by cases t;simp;omega
         omega
  |succ n ih=>
   intro t ht hv;obtain⟨u,hu,aw⟩:=h.less t hv;exact ih u (by omega) hu
 exact this _ t (le_refl _)
theorem Dn.eqv{S:Net}{up:Nat->Nat}{x y z:Nat}(h:Dn S up x y)(he:xl up y z):Dn S up x z:=by
 induction h with
 |za x r k y h1 h2 h3 h4=>exact .za x r k z h1 h2 h3 (h4.trans he)
 |trans x y w h1 _ _ i2=>exact .trans _ _ _ h1 (i2 he)
theorem Dn.from{S:Net}{up:Nat->Nat}{x y z:Nat}(h:Dn S up x y)(he:xl up z x):Dn S up z y:=by
 induction h with
 |za x r k y h1 h2 h3 h4=>
  obtain⟨r',a,b⟩:=he;have:=b.rF h1;subst this;exact .za z r' k y a h2 h3 h4
 |trans x y w _ h2 i1 _=>exact .trans _ _ _ (i1 he) h2
end Go.Ab
