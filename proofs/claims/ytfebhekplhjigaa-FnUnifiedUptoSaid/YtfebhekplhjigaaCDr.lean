/-
  DRAWS: contracts whose result is not told ahead; loops of draws; small draws.
-/
import Derived.Test.YtfebhekplhjigaaCDraw
import Derived.Test.YtfebhekplhjigaaGM
import Derived.Test.YtfebhekplhjigaaAbM5
open Option(getD_some)
set_option linter.unusedSimpArgs false
set_option linter.unusedVariables false
namespace Go.Ab
set_option maxRecDepth 100000
set_option maxHeartbeats 4000000
theorem fE.at1{P:Program}{f:FuncId}{as':List AV}{O O':List ad}{a b:AV}(h:fE P f as' O a O')(hle:AV.leD a b):fE P f as' O b O':=by
 refine⟨h.1,λ I L w vs hi hr=>(h.2 I L w vs hi hr).mono ?_⟩;rintro e w' ⟨y,I',L',rfl,hy,hg⟩;exact⟨y,I',L',rfl,hle.sound hy,hg⟩
theorem gQ.at1{P:Program}{f:FuncId}{g:hD}{ins l:List AV}{a b:AV}{e:Nat}(h1:g.res= .d (.x 0))(h2:g.cz= [.box e [.d (.x 1),.d (.x 2),.d (.x 3)]])(h:gQ P f g ins (a::l))(hle:AV.leD a b):gQ P f g ins (b::l):=by
 unfold gQ at h⊢;rw[h1,h2]at h⊢;exact fE.at1 h hle
def dx{X:Type}(av:X->AV)(dA:X->Prop):AV->Prop:=ex 4 λ outs=>∃a x c,outs=a::cB.eS c/\AV.leD a (av x)/\dA x/\cB.ok c
def pF(P:Program)(f:FuncId)(g:hD)(ins:List AV){X:Type}(av:X->AV)(dA:X->Prop):Prop:=∃x c,dA x/\cB.ok c/\gQ P f g ins (av x::cB.eS c)
theorem pF.intro{P:Program}{f:FuncId}{g:hD}{ins:List AV}{X:Type}{av:X->AV}{dA:X->Prop}{t:T}{e:Nat}(h1:g.res= .d (.x 0))(h2:g.cz= [.box e [.d (.x 1),.d (.x 2),.d (.x 3)]])
  (con:∀outs:List AV,outs.length=4->bD P LF (λ a=>a=br outs) t ins []->gQ P f g ins outs) (x0:X) (g0:dA x0) (c0:cB) (hc0:c0.ok) (hw:bD P LF (dx av dA) t ins []):pF P f g ins av dA:=by
 have bn:∃outs:List AV,outs.length=4/\∃a x c,outs=a::cB.eS c/\AV.leD a (av x)/\dA x/\cB.ok c:=⟨_,rfl,av x0,x0,c0,rfl,.refl _,g0,hc0⟩;obtain⟨outs,hl,⟨a,x,c,rfl,hle,hg,hc⟩,h⟩:=qB bn hw;exact⟨x,c,hg,hc,gQ.at1 h1 h2 (con _ hl h) hle⟩
theorem pF.use{P:Program}{f:FuncId}{g:hD}{ins:List AV}{X:Type}{av:X->AV}{dA:X->Prop}{K:AV->Prop}(h:pF P f g ins av dA)(hm:g.m=4)(hn:∀x,(av x).ag=true)
  (k:∀x c,dA x->cB.ok c->fq K (.a9 [av x,.sl (j8 c.l),au c.i,au c.h])):lB P f g ins K:=by
 obtain⟨x,c,hg,hc,hs⟩:=h;exact dU hs hm.symm (by have:=hn x;have:=c.ag;simp only[AV.ae,cB.eS]at*;simp_all) (k x c hg hc)
theorem aip{X:Type}{av:X->AV}{dA:X->Prop}{a:AV}{c:cB}(hc:c.ok)(x:X)(hle:AV.leD a (av x))(hg:dA x):uM (dx av dA) [a,.sl (j8 c.l),au c.i,au c.h]:=by
 unfold uM dx ex;exact⟨_,rfl,⟨a,x,c,rfl,hle,hg,hc⟩,rfl⟩
theorem ant{P:Program}{R:AV->Prop}{t:T}{r:List AV}{S:List (List AV->Prop)}{X:Type}(av:X->AV)(dA:X->Prop){c0:cB}(hc0:c0.ok)(n:Int)(hn:0<=n)
  (hr:∀(c:cB) (xs:List X),c.ok->(∀x∈xs,dA x)->(xs.length:Int)<=n->
   bD P LF R t (r++ [.sl (j8 c.l),au c.i,au c.h,.sl (xs.map av),au (xs.length:Int)]) ((λ vs=>(xs.length:Int)<n/\∃c' x,cB.ok c'/\dA x/\vs= [.sl (j8 c'.l),au c'.i,au c'.h,.sl (xs.map av++ [av x]),au ((xs.length:Int)+1)])::S)):
  rQ P LF R [.sl (j8 c0.l),au c0.i,au c0.h,.sl [],au 0] t r S:=by
 refine eh (ι:=cB×List X) (λ q=>q.1.ok/\(∀x∈q.2,dA x)/\(q.2.length:Int)<=n) (λ q=>[.sl (j8 q.1.l),au q.1.i,au q.1.h,.sl (q.2.map av),au (q.2.length:Int)]) (λ q=>n.toNat- q.2.length) (c0,[]) ⟨hc0,by simp,by simpa using hn⟩ rfl λ q hq=> ?_
 obtain⟨c,xs⟩:=q;obtain⟨h1,h2,h4⟩:=hq;refine dz (λ _ _ _ h=>h) (λ _ h=>h) t (.cons (λ vs hv=> ?_) (.refl _)) (hr c xs h1 h2 h4);obtain⟨hi,c',x,gf,hx,rfl⟩:=hv;refine⟨(c',xs++ [x]),⟨gf,λ y hy=> ?_,by simp only[List.length_append,List.length_cons,List.length_nil];omega⟩,by simp only[List.length_append,List.length_cons,List.length_nil];omega,by simp⟩;rcases List.mem_append.1 hy with hy|hy
 ·exact h2 y hy
 ·rw[List.mem_singleton.1 hy];exact hx
end Go.Ab
namespace Go.Proofs.Ab
open Go.Ab
set_option maxRecDepth 100000
set_option maxHeartbeats 4000000
theorem gN{c:cB}(hc:c.ok)(n:Int)(hn:0<n){K:AV->Prop}(k:∀(m:Int) (c':cB),0<=m->m<n->c'.ok->fq K (.a9 [au m,.sl (j8 c'.l),au c'.i,au c'.h])):lB Try.prog F.aj G.aj [.sl (j8 c.l),au c.i,au c.h,au n] K:=by
 obtain⟨h1,h2,h3⟩:=cB.qK hc n;exact dU (jR hc n) rfl (by simp[cB.eS,AV.ae,AV.ag,bj]) (k _ _ h2 (h3 hn) h1)
theorem pe{c:cB}(hc:c.ok)(n:Int){K:AV->Prop}(k:∀(b:Bool) (c':cB),c'.ok->fq K (.a9 [.v (.bool b),.sl (j8 c'.l),au c'.i,au c'.h])):lB Try.prog F.bL G.bL [.sl (j8 c.l),au c.i,au c.h,au n] K:=by
 obtain⟨h1,h2,h3⟩:=cB.qK hc n;exact dU (aaR hc n) rfl (by simp[cB.eS,AV.ae,AV.ag,bj]) (k _ _ h1)
theorem ait{c:cB}(hc:c.ok)(l:List Int)(hl:l≠[])(hlen:l.length<=1048576){K:AV->Prop}(k:∀(m:Int) (c':cB),m∈l->c'.ok->fq K (.a9 [au m,.sl (j8 c'.l),au c'.i,au c'.h])):lB Try.prog F.b8 G.b8 [.sl (j8 c.l),au c.i,au c.h,.sl (l.map au)] K:=by
 obtain⟨h1,h2⟩:=cB.ada hc hl;exact dU (acW hc l hl hlen) rfl (by simp[cB.eS,AV.ae,AV.ag,bj]) (k _ _ h2 h1)
theorem acM{c:cB}(hc:c.ok)(l:List ByteArray)(hl:l≠[])(hlen:l.length<=1048576):∃s c',s∈l/\cB.ok c'/\gQ Try.prog F.b7 G.b7 (c.eS++ [.sl (l.map bZ)]) (bZ s::c'.eS):=by
 have hp:=List.length_pos_iff.2 hl;obtain⟨h1,h2,h3⟩:=cB.qK hc l.length;have h3:=h3 (by omega);have aF:(c.below l.length).1.toNat<l.length:=by omega
 refine⟨l.getD (c.below l.length).1.toNat ⟨#[]⟩,(c.below l.length).2,by simp only[List.getD,List.getElem?_eq_getElem aF,getD_some];exact List.getElem_mem aF,h1,?_⟩;refine T.wD rfl rfl (by simp[cB.eS,AV.ae,AV.ag,bj,bA (f:=bZ) (l:=l) λ _=>rfl]) ?_;simp only[T.b7,cB.eS,List.length_map,WA];refine dU (jR hc l.length) rfl (by simp[cB.eS,AV.ae,AV.ag,bj]) ?_;simp only[cB.eS,WA];have he:(c.below l.length).1=(((c.below l.length).1.toNat:Nat):Int):=by omega
 rw[he];refine lR bZ aF rfl ?_;simp only[WA];simp only[List.getD,List.getElem?_eq_getElem aF,getD_some]
theorem aag{c:cB}(hc:c.ok)(l:List ByteArray)(hl:l≠[])(hlen:l.length<=1048576){K:AV->Prop}(k:∀(s:ByteArray) (c':cB),s∈l->c'.ok->fq K (.a9 [bZ s,.sl (j8 c'.l),au c'.i,au c'.h])):lB Try.prog F.b7 G.b7 [.sl (j8 c.l),au c.i,au c.h,.sl (l.map bZ)] K:=by
 obtain⟨s,c',hs,gf,h⟩:=acM hc l hl hlen;exact dU h rfl (by simp[cB.eS,AV.ae,AV.ag,bj]) (k _ _ hs gf)
end Go.Proofs.Ab
