/-
  DRAWS: contracts whose result is not told ahead; loops of draws; small draws.
-/
import Derived.Test.YtdbbmffachgajaaGreatCDraw
import Derived.Test.YtdbbmffachgajaaGreatGM
import Derived.Test.YtdbbmffachgajaaGreatAbM5
set_option maxHeartbeats 4000000
set_option maxRecDepth 100000
open Option(getD_some)
open List(length_cons length_nil)
set_option linter.unusedVariables false
set_option linter.unusedSimpArgs false
namespace Go.Ab
theorem j7.ahb{P:Program}{f:FuncId}{tq:List AV}{O O':List aj}{a b:AV}(h:j7 P f tq O a O')(hle:AV.oY a b):j7 P f tq O b O':=by
 refine⟨h.1,λ I L w vs hi hr=>(h.2 I L w vs hi hr).mono ?_⟩;rintro e w' ⟨y,I',L',rfl,hy,hg⟩;exact⟨y,I',L',rfl,hle.sound hy,hg⟩
theorem jY.ahb{P:Program}{f:FuncId}{g:eK}{ins l:List AV}{a b:AV}{e:Nat}(h1:g.res= .d (.x 0))(h2:g.da= [.box e [.d (.x 1),.d (.x 2),.d (.x 3)]])(h:jY P f g ins (a::l))(hle:AV.oY a b):jY P f g ins (b::l):=by
 unfold jY at h⊢;rw[h1,h2]at h⊢;exact j7.ahb h hle
def dx{X:Type}(av:X->AV)(gJ:X->Prop):AV->Prop:=ex 4 λ outs=>∃a x c,outs=a::et.gL c/\AV.oY a (av x)/\gJ x/\et.ok c
def agj(P:Program)(f:FuncId)(g:eK)(ins:List AV){X:Type}(av:X->AV)(gJ:X->Prop):Prop:=∃x c,gJ x/\et.ok c/\jY P f g ins (av x::et.gL c)
theorem agj.intro{P:Program}{f:FuncId}{g:eK}{ins:List AV}{X:Type}{av:X->AV}{gJ:X->Prop}{t:T}{e:Nat}(h1:g.res= .d (.x 0))(h2:g.da= [.box e [.d (.x 1),.d (.x 2),.d (.x 3)]])
  (con:∀outs:List AV,outs.length=4->cL P LF (λ a=>a=cv outs) t ins []->jY P f g ins outs) (x0:X) (g0:gJ x0) (c0:et) (hc0:c0.ok) (hw:cL P LF (dx av gJ) t ins []):agj P f g ins av gJ:=by
 have ej:∃outs:List AV,outs.length=4/\∃a x c,outs=a::et.gL c/\AV.oY a (av x)/\gJ x/\et.ok c:=⟨_,rfl,av x0,x0,c0,rfl,.refl _,g0,hc0⟩;obtain⟨outs,hl,⟨a,x,c,rfl,hle,hg,hc⟩,h⟩:=anS ej hw;exact⟨x,c,hg,hc,jY.ahb h1 h2 (con _ hl h) hle⟩
theorem agj.use{P:Program}{f:FuncId}{g:eK}{ins:List AV}{X:Type}{av:X->AV}{gJ:X->Prop}{K:AV->Prop}(h:agj P f g ins av gJ)(hm:g.m=4)(hn:∀x,(av x).ag=true)
  (k:∀x c,gJ x->et.ok c->gn K (.aZ [av x,.sl (rk c.l),aD c.i,aD c.h])):rB P f g ins K:=by
 obtain⟨x,c,hg,hc,hs⟩:=h;exact fj hs hm.symm (by have:=hn x;have:=c.ag;simp only[AV.ae,et.gL]at*;simp_all) (k x c hg hc)
theorem azQ{X:Type}{av:X->AV}{gJ:X->Prop}{a:AV}{c:et}(hc:c.ok)(x:X)(hle:AV.oY a (av x))(hg:gJ x):aj8 (dx av gJ) [a,.sl (rk c.l),aD c.i,aD c.h]:=by
 unfold aj8 dx ex;exact⟨_,rfl,⟨a,x,c,rfl,hle,hg,hc⟩,rfl⟩
theorem atF{P:Program}{R:AV->Prop}{t:T}{r:List AV}{S:List (List AV->Prop)}{X:Type}(av:X->AV)(gJ:X->Prop){c0:et}(hc0:c0.ok)(n:Int)(hn:0<=n)
  (hr:∀(c:et) (xs:List X) (i:Int),c.ok->(∀x∈xs,gJ x)->0<=i->(xs.length:Int)+i=n->
   cL P LF R t (r++ [.sl (rk c.l),aD c.i,aD c.h,.sl (xs.map av),aD i]) ((λ vs=>0<i/\∃c' x,et.ok c'/\gJ x/\vs= [.sl (rk c'.l),aD c'.i,aD c'.h,.sl (xs.map av++ [av x]),aD (i- 1)])::S)):
  tL P LF R [.sl (rk c0.l),aD c0.i,aD c0.h,.sl [],aD n] t r S:=by
 refine fK (ι:=et×List X×Int) (λ q=>q.1.ok/\(∀x∈q.2.1,gJ x)/\0<=q.2.2/\(q.2.1.length:Int)+q.2.2=n) (λ q=>[.sl (rk q.1.l),aD q.1.i,aD q.1.h,.sl (q.2.1.map av),aD q.2.2]) (λ q=>q.2.2.toNat) (c0,[],n) ⟨hc0,by simp,hn,by simp⟩ rfl λ q hq=> ?_
 obtain⟨c,xs,i⟩:=q;obtain⟨h1,h2,h3,h4⟩:=hq;refine ef (λ _ _ _ h=>h) (λ _ h=>h) t (.cons (λ vs hv=> ?_) (.refl _)) (hr c xs i h1 h2 h3 h4);obtain⟨hi,c',x,nS,hx,rfl⟩:=hv;refine⟨(c',xs++ [x],i- 1),⟨nS,λ y hy=> ?_,by show 0<=i- 1;omega,by simp only[List.length_append,length_cons,length_nil]at*;omega⟩,by show(i- 1).toNat<i.toNat;omega,by simp⟩;rcases List.mem_append.1 hy with hy|hy
 ·exact h2 y hy
 ·rw[List.mem_singleton.1 hy];exact hx
theorem ayf{P:Program}{R:AV->Prop}{t:T}{r:List AV}{S:List (List AV->Prop)}{X:Type}(av:X->AV)(gJ:X->Prop){c0:et}(hc0:c0.ok)(n:Int)(hn:0<=n)
  (hr:∀(c:et) (xs:List X),c.ok->(∀x∈xs,gJ x)->(xs.length:Int)<=n->
   cL P LF R t (r++ [.sl (rk c.l),aD c.i,aD c.h,.sl (xs.map av),aD (xs.length:Int)]) ((λ vs=>(xs.length:Int)<n/\∃c' x,et.ok c'/\gJ x/\vs= [.sl (rk c'.l),aD c'.i,aD c'.h,.sl (xs.map av++ [av x]),aD ((xs.length:Int)+1)])::S)):
  tL P LF R [.sl (rk c0.l),aD c0.i,aD c0.h,.sl [],aD 0] t r S:=by
 refine fK (ι:=et×List X) (λ q=>q.1.ok/\(∀x∈q.2,gJ x)/\(q.2.length:Int)<=n) (λ q=>[.sl (rk q.1.l),aD q.1.i,aD q.1.h,.sl (q.2.map av),aD (q.2.length:Int)]) (λ q=>n.toNat- q.2.length) (c0,[]) ⟨hc0,by simp,by simpa using hn⟩ rfl λ q hq=> ?_
 obtain⟨c,xs⟩:=q;obtain⟨h1,h2,h4⟩:=hq;refine ef (λ _ _ _ h=>h) (λ _ h=>h) t (.cons (λ vs hv=> ?_) (.refl _)) (hr c xs h1 h2 h4);obtain⟨hi,c',x,nS,hx,rfl⟩:=hv;refine⟨(c',xs++ [x]),⟨nS,λ y hy=> ?_,by simp only[List.length_append,length_cons,length_nil];omega⟩,by simp only[List.length_append,length_cons,length_nil];omega,by simp⟩;rcases List.mem_append.1 hy with hy|hy
 ·exact h2 y hy
 ·rw[List.mem_singleton.1 hy];exact hx
end Go.Ab
namespace Go.Proofs.Ab
open Go.Ab
theorem oH{c:et}(hc:c.ok)(n:Int)(hn:0<n){K:AV->Prop}(k:∀(m:Int) (c':et),0<=m->m<n->c'.ok->gn K (.aZ [aD m,.sl (rk c'.l),aD c'.i,aD c'.h])):rB Tryz.prog F.aH G.aH [.sl (rk c.l),aD c.i,aD c.h,aD n] K:=by
 obtain⟨h1,h2,h3⟩:=et.vp hc n;exact fj (mI hc n) rfl (by simp[et.gL,AV.ae,AV.ag,cH]) (k _ _ h2 (h3 hn) h1)
theorem asH{c:et}(hc:c.ok)(n:Int){K:AV->Prop}(k:∀(b:Bool) (c':et),c'.ok->gn K (.aZ [.v (.bool b),.sl (rk c'.l),aD c'.i,aD c'.h])):rB Tryz.prog F.cY G.cY [.sl (rk c.l),aD c.i,aD c.h,aD n] K:=by
 obtain⟨h1,h2,h3⟩:=et.vp hc n;exact fj (wJ hc n) rfl (by simp[et.gL,AV.ae,AV.ag,cH]) (k _ _ h1)
theorem ajP{c:et}(hc:c.ok)(l:List ByteArray)(hl:l≠[])(hlen:l.length<=1048576):∃s c',s∈l/\et.ok c'/\jY Tryz.prog F.eC G.eC (c.gL++ [.sl (l.map oJ)]) (oJ s::c'.gL):=by
 have hp:=List.length_pos_iff.2 hl;obtain⟨h1,h2,h3⟩:=et.vp hc l.length;have h3:=h3 (by omega);have aK:(c.below l.length).1.toNat<l.length:=by omega
 refine⟨l.getD (c.below l.length).1.toNat ⟨#[]⟩,(c.below l.length).2,by simp only[List.getD,List.getElem?_eq_getElem aK,getD_some];exact List.getElem_mem aK,h1,?_⟩;refine T.aci rfl rfl (by simp[et.gL,AV.ae,AV.ag,cH,bt (f:=oJ) (l:=l) λ _=>rfl]) ?_;simp only[T.eC,et.gL,List.length_map,WA,seval];refine fj (mI hc l.length) rfl (by simp[et.gL,AV.ae,AV.ag,cH]) ?_;simp only[et.gL,WA,seval];have he:(c.below l.length).1=(((c.below l.length).1.toNat:Nat):Int):=by omega
 rw[he];refine fS oJ aK rfl ?_;simp only[WA,seval];simp only[List.getD,List.getElem?_eq_getElem aK,getD_some]
theorem aH5{c:et}(hc:c.ok)(l:List ByteArray)(hl:l≠[])(hlen:l.length<=1048576){K:AV->Prop}(k:∀(s:ByteArray) (c':et),s∈l->c'.ok->gn K (.aZ [oJ s,.sl (rk c'.l),aD c'.i,aD c'.h])):rB Tryz.prog F.eC G.eC [.sl (rk c.l),aD c.i,aD c.h,.sl (l.map oJ)] K:=by
 obtain⟨s,c',hs,nS,h⟩:=ajP hc l hl hlen;exact fj h rfl (by simp[et.gL,AV.ae,AV.ag,cH]) (k _ _ hs nS)
end Go.Proofs.Ab
