/-
  DRAWS: contracts whose result is not told ahead; loops of draws; small draws.
-/
import Derived.Test.YtfebhekplhjigaaCDraw
import Derived.Test.YtfebhekplhjigaaGM
import Derived.Test.YtfebhekplhjigaaAbM5
open Option(getD_some)
open Nat(reduceEqDiff reduceLeDiff reduceAdd reduceLT reduceMul)
set_option linter.unusedVariables false
set_option linter.unusedSimpArgs false
namespace Go.Ab
set_option maxRecDepth 100000
set_option maxHeartbeats 4000000
theorem hD.ar0{P:Program}{f:FuncId}{as':List AV}{O O':List ae}{a b:AV}(h:hD P f as' O a O')(hle:AV.uO a b):hD P f as' O b O':=by
 refine⟨h.1,λ I L w vs hi hr=>(h.2 I L w vs hi hr).mono ?_⟩;rintro e w' ⟨y,I',L',rfl,hy,hg⟩;exact⟨y,I',L',rfl,hle.sound hy,hg⟩
theorem gA.ar0{P:Program}{f:FuncId}{g:gK}{ins l:List AV}{a b:AV}{e:Nat}(h1:g.res= .d (.x 0))(h2:g.cG= [.box e [.d (.x 1),.d (.x 2),.d (.x 3)]])(h:gA P f g ins (a::l))(hle:AV.uO a b):gA P f g ins (b::l):=by
 unfold gA at h⊢;rw[h1,h2]at h⊢;exact hD.ar0 h hle
def dx{X:Type}(av:X->AV)(dB:X->Prop):AV->Prop:=ex 4 λ outs=>∃a x c,outs=a::cF.eM c/\AV.uO a (av x)/\dB x/\cF.ok c
def oZ(P:Program)(f:FuncId)(g:gK)(ins:List AV){X:Type}(av:X->AV)(dB:X->Prop):Prop:=∃x c,dB x/\cF.ok c/\gA P f g ins (av x::cF.eM c)
theorem oZ.intro{P:Program}{f:FuncId}{g:gK}{ins:List AV}{X:Type}{av:X->AV}{dB:X->Prop}{t:T}{e:Nat}(h1:g.res= .d (.x 0))(h2:g.cG= [.box e [.d (.x 1),.d (.x 2),.d (.x 3)]])
  (con:∀outs:List AV,outs.length=4->bF P LF (λ a=>a=bz outs) t ins []->gA P f g ins outs) (x0:X) (g0:dB x0) (c0:cF) (hc0:c0.ok) (hw:bF P LF (dx av dB) t ins []):oZ P f g ins av dB:=by
 have bB:∃outs:List AV,outs.length=4/\∃a x c,outs=a::cF.eM c/\AV.uO a (av x)/\dB x/\cF.ok c:=⟨_,rfl,av x0,x0,c0,rfl,.refl _,g0,hc0⟩;obtain⟨outs,hl,⟨a,x,c,rfl,hle,hg,hc⟩,h⟩:=pN bB hw;exact⟨x,c,hg,hc,gA.ar0 h1 h2 (con _ hl h) hle⟩
theorem oZ.use{P:Program}{f:FuncId}{g:gK}{ins:List AV}{X:Type}{av:X->AV}{dB:X->Prop}{K:AV->Prop}(h:oZ P f g ins av dB)(hm:g.m=4)(hn:∀x,(av x).ag=true)
  (k:∀x c,dB x->cF.ok c->e7 K (.ba [av x,.sl (jx c.l),aA c.i,aA c.h])):kP P f g ins K:=by
 obtain⟨x,c,hg,hc,hs⟩:=h;exact dT hs hm.symm (by have:=hn x;have:=c.ag;simp only[AV.ad,cF.eM]at*;simp_all) (k x c hg hc)
theorem agx{X:Type}{av:X->AV}{dB:X->Prop}{a:AV}{c:cF}(hc:c.ok)(x:X)(hle:AV.uO a (av x))(hg:dB x):tC (dx av dB) [a,.sl (jx c.l),aA c.i,aA c.h]:=by
 unfold tC dx ex;exact⟨_,rfl,⟨a,x,c,rfl,hle,hg,hc⟩,rfl⟩
theorem alA{P:Program}{R:AV->Prop}{t:T}{r:List AV}{S:List (List AV->Prop)}{X:Type}(av:X->AV)(dB:X->Prop){c0:cF}(hc0:c0.ok)(n:Int)(hn:0<=n)
  (hr:∀(c:cF) (xs:List X),c.ok->(∀x∈xs,dB x)->(xs.length:Int)<=n->
   bF P LF R t (r++ [.sl (jx c.l),aA c.i,aA c.h,.sl (xs.map av),aA (xs.length:Int)]) ((λ vs=>(xs.length:Int)<n/\∃c' x,cF.ok c'/\dB x/\vs= [.sl (jx c'.l),aA c'.i,aA c'.h,.sl (xs.map av++ [av x]),aA ((xs.length:Int)+1)])::S)):
  qL P LF R [.sl (jx c0.l),aA c0.i,aA c0.h,.sl [],aA 0] t r S:=by
 refine dk (ι:=cF×List X) (λ q=>q.1.ok/\(∀x∈q.2,dB x)/\(q.2.length:Int)<=n) (λ q=>[.sl (jx q.1.l),aA q.1.i,aA q.1.h,.sl (q.2.map av),aA (q.2.length:Int)]) (λ q=>n.toNat- q.2.length) (c0,[]) ⟨hc0,by simp,by simpa using hn⟩ rfl λ q hq=> ?_
 obtain⟨c,xs⟩:=q;obtain⟨h1,h2,h4⟩:=hq;refine dz (λ _ _ _ h=>h) (λ _ h=>h) t (.cons (λ vs hv=> ?_) (.refl _)) (hr c xs h1 h2 h4);obtain⟨hi,c',x,fT,hx,rfl⟩:=hv;refine⟨(c',xs++ [x]),⟨fT,λ y hy=> ?_,by simp only[List.length_append,List.length_cons,List.length_nil];omega⟩,by simp only[List.length_append,List.length_cons,List.length_nil];omega,by simp⟩;rcases List.mem_append.1 hy with hy|hy
 ·exact h2 y hy
 ·rw[List.mem_singleton.1 hy];exact hx
end Go.Ab
namespace Go.Proofs.Ab
open Go.Ab
set_option maxRecDepth 100000
set_option maxHeartbeats 4000000
theorem gx{c:cF}(hc:c.ok)(n:Int)(hn:0<n){K:AV->Prop}(k:∀(m:Int) (c':cF),0<=m->m<n->c'.ok->e7 K (.ba [aA m,.sl (jx c'.l),aA c'.i,aA c'.h])):kP Try.prog F.aj G.aj [.sl (jx c.l),aA c.i,aA c.h,aA n] K:=by
 obtain⟨h1,h2,h3⟩:=cF.pW hc n;exact dT (jz hc n) rfl (by simp[cF.eM,AV.ad,AV.ag,bl]) (k _ _ h2 (h3 hn) h1)
theorem oG{c:cF}(hc:c.ok)(n:Int){K:AV->Prop}(k:∀(b:Bool) (c':cF),c'.ok->e7 K (.ba [.v (.bool b),.sl (jx c'.l),aA c'.i,aA c'.h])):kP Try.prog F.bO G.bO [.sl (jx c.l),aA c.i,aA c.h,aA n] K:=by
 obtain⟨h1,h2,h3⟩:=cF.pW hc n;exact dT (zi hc n) rfl (by simp[cF.eM,AV.ad,AV.ag,bl]) (k _ _ h1)
theorem agB{c:cF}(hc:c.ok)(l:List Int)(hl:l≠[])(hlen:l.length<=1048576){K:AV->Prop}(k:∀(m:Int) (c':cF),m∈l->c'.ok->e7 K (.ba [aA m,.sl (jx c'.l),aA c'.i,aA c'.h])):kP Try.prog F.cf G.cf [.sl (jx c.l),aA c.i,aA c.h,.sl (l.map aA)] K:=by
 obtain⟨h1,h2⟩:=cF.abC hc hl;exact dT (abn hc l hl hlen) rfl (by simp[cF.eM,AV.ad,AV.ag,bl]) (k _ _ h2 h1)
theorem abd{c:cF}(hc:c.ok)(l:List ByteArray)(hl:l≠[])(hlen:l.length<=1048576):∃s c',s∈l/\cF.ok c'/\gA Try.prog F.cd G.cd (c.eM++ [.sl (l.map ch)]) (ch s::c'.eM):=by
 have hp:=List.length_pos_iff.2 hl;obtain⟨h1,h2,h3⟩:=cF.pW hc l.length;have h3:=h3 (by omega);have aF:(c.below l.length).1.toNat<l.length:=by omega
 refine⟨l.getD (c.below l.length).1.toNat ⟨#[]⟩,(c.below l.length).2,by simp only[List.getD,List.getElem?_eq_getElem aF,getD_some];exact List.getElem_mem aF,h1,?_⟩;refine T.vm rfl rfl (by simp[cF.eM,AV.ad,AV.ag,bl,bH (f:=ch) (l:=l) λ _=>rfl]) ?_;simp only[T.cd,cF.eM,List.length_map,WA,reduceEqDiff,reduceAdd,reduceLT,reduceLeDiff,reduceMul,reduceIte,reduceCtorEq,Int.reduceEq,Int.reduceLT,Int.reduceLE,Int.reduceNe];refine dT (jz hc l.length) rfl (by simp[cF.eM,AV.ad,AV.ag,bl]) ?_;simp only[cF.eM,WA,reduceEqDiff,reduceAdd,reduceLT,reduceLeDiff,reduceMul,reduceIte,reduceCtorEq,Int.reduceEq,Int.reduceLT,Int.reduceLE,Int.reduceNe];have he:(c.below l.length).1=(((c.below l.length).1.toNat:Nat):Int):=by omega
 rw[he];refine nP ch aF rfl ?_;simp only[WA,reduceEqDiff,reduceAdd,reduceLT,reduceLeDiff,reduceMul,reduceIte,reduceCtorEq,Int.reduceEq,Int.reduceLT,Int.reduceLE,Int.reduceNe];simp only[Int.toNat_natCast,List.getD,List.getElem?_eq_getElem aF,getD_some]
theorem yJ{c:cF}(hc:c.ok)(l:List ByteArray)(hl:l≠[])(hlen:l.length<=1048576){K:AV->Prop}(k:∀(s:ByteArray) (c':cF),s∈l->c'.ok->e7 K (.ba [ch s,.sl (jx c'.l),aA c'.i,aA c'.h])):kP Try.prog F.cd G.cd [.sl (jx c.l),aA c.i,aA c.h,.sl (l.map ch)] K:=by
 obtain⟨s,c',hs,fT,h⟩:=abd hc l hl hlen;exact dT h rfl (by simp[cF.eM,AV.ad,AV.ag,bl]) (k _ _ hs fT)
end Go.Proofs.Ab
