/-
  FnRecovered.
-/
import Derived.Test.YtfebhekplhjigaaWUni7
import Derived.Test.YtfebhekplhjigaaWThaw
import Derived.Test.YtfebhekplhjigaaCDrawUni
import Derived.Test.YtfebhekplhjigaaCPutI
import Derived.Test.YtfebhekplhjigaaCSameTy
import Derived.Test.YtfebhekplhjigaaPUni6
import Derived.Test.YtfebhekplhjigaaCUr
open Int(toNat_natCast)
open Nat(zero_le)
open List(getElem?_eq_getElem getElem_mem map_cons map_nil sum_cons sum_nil length_cons length_nil length_map)
open Nat(reduceEqDiff reduceLeDiff reduceAdd reduceLT reduceMul)
set_option linter.unusedVariables false
set_option linter.unusedSimpArgs false
namespace Go.Ab
theorem aaX{α:Type}{p:α->α->Bool}:∀l:List α,(∀y∈l,p y y=true)->kX p l l=true
 | [],_=>rfl
 |x::l,h=>by
  rw[kX,h x (by simp),Bool.true_and];exact aaX l λ y hy=>h y (by simp[hy])
theorem aa.zY(x:aa):x.same x=true:=by
 rw[x.abu,aaX x.Kids λ y hy=>aa.zY y];simp
termination_by SizeOf.sizeOf x
decreasing_by all_goals exact aa.cP hy
theorem alJ{c d:AV}(h:AV.uO c d)(hd:d.cg=true):c.cg=true:=by
 cases h with
 |refl=>exact hd
 |nil=>rfl
 |agg=>simp[AV.cg]at hd
 |sl=>rfl
theorem adA{a:AV}{x:aa}(h:AV.uO a x.av):a.isAgg=true/\a.storable=true:=by
 have hx:=aa.storable x;have hg:=aa.isAgg x;generalize x.av=b at h hx hg;cases h with
 |refl=>exact⟨hg,hx⟩
 |nil=>cases hg
 |sl=>cases hg
 |agg cs ds hl hh=>
  refine⟨rfl,?_⟩;unfold AV.storable at hx⊢;rw[List.all_eq_true]at hx⊢;intro c hc;have hc:c∈cs:=hc;obtain⟨i,hi⟩:=List.getElem?_of_mem hc;have hil:=(List.getElem?_eq_some_iff.1 hi).1;have hd:ds[i]? =some (ds[i]'(by omega)):=getElem?_eq_getElem (by omega);exact alJ (hh i _ _ hi hd) (hx _ (getElem_mem _))
structure anQ(p:aa):Prop where
 ok:p.iU=true
 eW:p.eW<=3
 no:p.allM λ _=>False
 wt:p.wt<=2
theorem aqB{K:Int}(h:1<=K/\K<=4):anQ (.mk K 0 ⟨#[]⟩ []):=by
 refine⟨(yk0 (B:=0) (.inl ⟨h.1,h.2,rfl⟩)).ok,by rw[aa.jV];simp[aa.eR],⟨λ hk=>by omega,trivial⟩,Nat.le_trans (yk0 (B:=0) (.inl ⟨h.1,h.2,rfl⟩)).wt (by omega)⟩
theorem avz{K:Int}{k:Int}(h:1<=K/\K<=4)(hk:0<=k):anQ (.mk 5 0 ⟨#[]⟩ [.mk K 0 ⟨#[]⟩ [],.mk 9 k ⟨#[]⟩ []]):=by
 have h1:=aqB h;have h2:=yk0 (B:=0) (K:=9) (N:=k) (.inr ⟨by omega,by omega,hk⟩);refine⟨?_,?_,⟨λ hk=>by omega,h1.no,⟨λ hk=>by omega,trivial⟩,trivial⟩,?_⟩
 ·have:=yk1 (B:=7) (b:=0) (K:=5) (n:=2) (S:=⟨#[]⟩) (kids:=[.mk K 0 ⟨#[]⟩ [],.mk 9 k ⟨#[]⟩ []]) (λ x hx=>by
    simp only[List.mem_cons,List.not_mem_nil,or_false]at hx;rcases hx with rfl|rfl
    ·exact yk0 (.inl ⟨h.1,h.2,rfl⟩)
    ·exact h2) rfl (.inl ⟨rfl,rfl,rfl⟩) (by omega)
  exact this.ok
 ·rw[aa.jV];simp only[aa.eR,map_cons,map_nil,sum_cons,sum_nil,aa.jV];omega
 ·rw[aa.bg];simp only[aa.iL,aa.eR,length_cons,length_nil,map_cons,map_nil,sum_cons,sum_nil];have e1:(aa.mk K 0 ⟨#[]⟩ []).wt=0:=by rw[aa.bg];rfl
  have e2:(aa.mk 9 k ⟨#[]⟩ []).wt=0:=by rw[aa.bg];rfl
  rw[e1,e2]
  decide
theorem asI{K k:Int}:AV.uO (.agg [aA 5,aA 0,ch ⟨#[]⟩,.sl [.agg [aA K,aA 0,ch ⟨#[]⟩,.sl []],.agg [aA 9,aA k,ch ⟨#[]⟩,.aw]]]) (aa.mk 5 0 ⟨#[]⟩ [.mk K 0 ⟨#[]⟩ [],.mk 9 k ⟨#[]⟩ []]).av:=by
 have h:=(((LD.of []).app (a:= .agg [aA K,aA 0,ch ⟨#[]⟩,.sl []]) (x:= .mk K 0 ⟨#[]⟩ []) (by rw[←vS];exact .refl _) rfl).app (a:= .agg [aA 9,aA k,ch ⟨#[]⟩,.aw]) (x:= .mk 9 k ⟨#[]⟩ []) leY rfl).sl;rw[←vS];refine .agg _ _ rfl λ i c d hc hd=> ?_
 rcases i with _|_|_|_|i
 ·simp at hc hd;subst hc;subst hd;exact .refl _
 ·simp at hc hd;subst hc;subst hd;exact .refl _
 ·simp at hc hd;subst hc;subst hd;exact .refl _
 ·simp only[List.getElem?_cons_succ,List.getElem?_cons_zero,Option.some.injEq]at hc hd;subst hc;subst hd;exact h
 ·simp at hc
def atN(l:List Int)(i:Nat):Int:=if h:i<l.length then l[i]else(((i*31+l.length*7:Nat):Int)).tmod 256
theorem agY(n:Nat):0<=(n:Int).tmod 256/\(n:Int).tmod 256<256:=by
 have:(n:Int).tmod 256=((n%256:Nat):Int):=rfl;omega
theorem uq(l:List Int)(hb:∀x∈l,0<=x/\x<256)(i:Nat):0<=atN l i/\atN l i<256:=by
 unfold atN
 split
 ·exact hb _ (getElem_mem _)
 ·exact agY _
end Go.Ab
namespace Go.Proofs.Ab
open Go.Ab
set_option maxRecDepth 100000
set_option maxHeartbeats 4000000
set_option maxHeartbeats 4000000
theorem avn{P:Program}{f:FuncId}{args:List AV}{xs:List AV}{v:Value}(h:hD P f args [] (.ba [.own 0,.v v]) [.own (.sl xs)]):a7 P f args (.ba [.sl xs,.v v]):=
 h.ayX (.ba _ _ rfl λ i a b ha hb=>by
   rcases i with _|_|i<;>simp at ha hb<;>subst ha<;>subst hb
   ·exact .own 0 _ rfl
   ·exact .same _ rfl)
theorem ax8(l:List Int)(i:Nat)(hl:l.length<=1048576)(hi:i<=1000)(hb:∀x∈l,0<=x/\x<256):a7 Try.prog F.mO [.sl (jx l),aA i] (aA (atN l i)):=by
 have hr:=uq l hb i;refine T.adB rfl (by simp[AV.ad,AV.ag,bl]) ?_;simp only[T.mO,length_map,WA,reduceEqDiff,reduceAdd,reduceLT,reduceLeDiff,reduceMul,reduceIte,reduceCtorEq,Int.reduceEq,Int.reduceLT,Int.reduceLE,Int.reduceNe];refine aE (λ h=> ?_) (λ h=> ?_)
 ·have aF:i<l.length:=by omega
  simp only[WA,reduceEqDiff,reduceAdd,reduceLT,reduceLeDiff,reduceMul,reduceIte,reduceCtorEq,Int.reduceEq,Int.reduceLT,Int.reduceLE,Int.reduceNe];refine nP by1 aF rfl ?_;have hx:=hb _ (getElem_mem aF);have e1:atN l i=l[i]:=by rw[atN,dif_pos aF]
  have e2:IntKind.i64.wrap l[i]=l[i]:=bm (by omega) (by omega);simp only[e1,e2,WA,reduceEqDiff,reduceAdd,reduceLT,reduceLeDiff,reduceMul,reduceIte,reduceCtorEq,Int.reduceEq,Int.reduceLT,Int.reduceLE,Int.reduceNe]
 ·have e1:atN l i=(((i*31+l.length*7:Nat):Int)).tmod 256:=by rw[atN,dif_neg (by omega)]
  have e2:IntKind.i64.wrap ((i:Int)*31)=((i*31:Nat):Int):=by rw[bm (by omega) (by omega)];omega
  have e3:IntKind.i64.wrap ((l.length:Int)*7)=((l.length*7:Nat):Int):=by rw[bm (by omega) (by omega)];omega
  have e4:IntKind.i64.wrap (((i*31:Nat):Int)+((l.length*7:Nat):Int))=((i*31+l.length*7:Nat):Int):=by rw[bm (by omega) (by omega)];omega
  have e5:IntKind.i64.wrap ((((i*31+l.length*7:Nat):Int)).tmod 256)=(((i*31+l.length*7:Nat):Int)).tmod 256:=by have:=agY (i*31+l.length*7);exact bm (by omega) (by omega)
  simp only[e2,e3,e4,e5,e1,length_map,WA,reduceEqDiff,reduceAdd,reduceLT,reduceLeDiff,reduceMul,reduceIte,reduceCtorEq,Int.reduceEq,Int.reduceLT,Int.reduceLE,Int.reduceNe]
theorem vu(x0:List Int)(hb:x0.length<=1048576)(ho0:∀y∈x0,0<=y/\y<256):a7 Try.prog F.eL [.sl (x0.map λ y=> .v (.int .u8 y))] (.v (.bool true)):=by
 have acf:a7 Try.prog F.lW [.sl (jx x0)] (.v (.bool false)):=by
  refine T.abM rfl (by simp[AV.ad,AV.ag,bl]) ?_;have d0:decide ((1048576:Int)<(x0.length:Int))=false:=decide_eq_false (by omega);simp only[T.lW,length_map,d0,WA,reduceEqDiff,reduceAdd,reduceLT,reduceLeDiff,reduceMul,reduceIte,reduceCtorEq,Int.reduceEq,Int.reduceLT,Int.reduceLE,Int.reduceNe]
 obtain⟨m,a,b,hm,wa,wb,la,lb,hd⟩:=tA x0 hb ho0;have na:AV.ad (a.map aa.av)=true:=bH aa.ag;have nb:AV.ad (b.map aa.av)=true:=bH aa.ag;refine T.pD rfl (by simp[AV.ad,AV.ag,bH (f:=λ y=>AV.v (.int .u8 y)) (l:=x0) λ _=>rfl]) ?_;simp only[T.eL,WA,reduceEqDiff,reduceAdd,reduceLT,reduceLeDiff,reduceMul,reduceIte,reduceCtorEq,Int.reduceEq,Int.reduceLT,Int.reduceLE,Int.reduceNe];refine bn acf ?_;simp only[WA,reduceEqDiff,reduceAdd,reduceLT,reduceLeDiff,reduceMul,reduceIte,reduceCtorEq,Int.reduceEq,Int.reduceLT,Int.reduceLE,Int.reduceNe];refine mi hd (by simp[AV.ag,AV.ad,na,nb]) ?_;simp only[WA,reduceEqDiff,reduceAdd,reduceLT,reduceLeDiff,reduceMul,reduceIte,reduceCtorEq,Int.reduceEq,Int.reduceLT,Int.reduceLE,Int.reduceNe];cases a with
 |nil=>
  refine aB ?_;simp only[WA,reduceEqDiff,reduceAdd,reduceLT,reduceLeDiff,reduceMul,reduceIte,reduceCtorEq,Int.reduceEq,Int.reduceLT,Int.reduceLE,Int.reduceNe];refine cC [.v (.bool true)] rfl ?_ ?_
  ·simp only[map_nil,length_nil,WA,reduceEqDiff,reduceAdd,reduceLT,reduceLeDiff,reduceMul,reduceIte,reduceCtorEq,Int.reduceEq,Int.reduceLT,Int.reduceLE,Int.reduceNe];refine aE (λ h=> ?_) (λ h=> ?_)
   ·simp only[WA,reduceEqDiff,reduceAdd,reduceLT,reduceLeDiff,reduceMul,reduceIte,reduceCtorEq,Int.reduceEq,Int.reduceLT,Int.reduceLE,Int.reduceNe]
   ·exact(h rfl).elim
  ·simp only[WA,reduceEqDiff,reduceAdd,reduceLT,reduceLeDiff,reduceMul,reduceIte,reduceCtorEq,Int.reduceEq,Int.reduceLT,Int.reduceLE,Int.reduceNe]
 |cons a0 ar=>
 have hw0:a0.wt<=100000:=by simp only[map_cons,sum_cons]at wa;omega
 have hg0:∀{K:AV->Prop},e7 K a0.av->kK 4 (.sl ((a0::ar).map aa.av)) (.v (.int .i64 0)) K:=λ hk=>oF (n:=0) a0.av rfl (aa.width a0) hk
 have dl:decide (((ar.length+1:Nat):Int)=0)=false:=decide_eq_false (by omega);by_cases aww:1<=m/\m<=300/\a0.iU=true/\a0.eW<=12;rotate_left
 ·refine aB ?_;simp only[WA,reduceEqDiff,reduceAdd,reduceLT,reduceLeDiff,reduceMul,reduceIte,reduceCtorEq,Int.reduceEq,Int.reduceLT,Int.reduceLE,Int.reduceNe];refine cC [.v (.bool true)] rfl ?_ ?_
  ·simp only[map_cons,length_cons,length_map,dl,WA,reduceEqDiff,reduceAdd,reduceLT,reduceLeDiff,reduceMul,reduceIte,reduceCtorEq,Int.reduceEq,Int.reduceLT,Int.reduceLE,Int.reduceNe];refine aE (λ h=> ?_) (λ h=> ?_)
   ·simp only[decide_eq_true h,WA,reduceEqDiff,reduceAdd,reduceLT,reduceLeDiff,reduceMul,reduceIte,reduceCtorEq,Int.reduceEq,Int.reduceLT,Int.reduceLE,Int.reduceNe]
   simp only[WA,reduceEqDiff,reduceAdd,reduceLT,reduceLeDiff,reduceMul,reduceIte,reduceCtorEq,Int.reduceEq,Int.reduceLT,Int.reduceLE,Int.reduceNe];refine aE (λ h2=> ?_) (λ h2=> ?_)
   ·simp only[decide_eq_true h2,WA,reduceEqDiff,reduceAdd,reduceLT,reduceLeDiff,reduceMul,reduceIte,reduceCtorEq,Int.reduceEq,Int.reduceLT,Int.reduceLE,Int.reduceNe]
   simp only[WA,reduceEqDiff,reduceAdd,reduceLT,reduceLeDiff,reduceMul,reduceIte,reduceCtorEq,Int.reduceEq,Int.reduceLT,Int.reduceLE,Int.reduceNe];refine hg0 ?_;simp only[aa.cells,aa.isAgg,aa.storable,aa.width,WA,reduceEqDiff,reduceAdd,reduceLT,reduceLeDiff,reduceMul,reduceIte,reduceCtorEq,Int.reduceEq,Int.reduceLT,Int.reduceLE,Int.reduceNe];refine bn (mF a0 (by omega)) ?_;by_cases h3:a0.iU=true
   ·rw[h3];simp only[Bool.not_true,WA,reduceEqDiff,reduceAdd,reduceLT,reduceLeDiff,reduceMul,reduceIte,reduceCtorEq,Int.reduceEq,Int.reduceLT,Int.reduceLE,Int.reduceNe];refine hg0 ?_;simp only[aa.cells,aa.isAgg,aa.storable,aa.width,WA,reduceEqDiff,reduceAdd,reduceLT,reduceLeDiff,reduceMul,reduceIte,reduceCtorEq,Int.reduceEq,Int.reduceLT,Int.reduceLE,Int.reduceNe];refine bn (mU a0 (by omega)) ?_;have h4:¬a0.eW<=12:=λ q=>aww ⟨by omega,by omega,h3,q⟩
    have d4:decide ((12:Int)<(a0.eW:Int))=true:=decide_eq_true (by omega);simp only[aA,d4,WA,reduceEqDiff,reduceAdd,reduceLT,reduceLeDiff,reduceMul,reduceIte,reduceCtorEq,Int.reduceEq,Int.reduceLT,Int.reduceLE,Int.reduceNe]
   ·have h3:a0.iU=false:=by simpa using h3
    rw[h3];simp only[Bool.not_false,WA,reduceEqDiff,reduceAdd,reduceLT,reduceLeDiff,reduceMul,reduceIte,reduceCtorEq,Int.reduceEq,Int.reduceLT,Int.reduceLE,Int.reduceNe]
  ·simp only[WA,reduceEqDiff,reduceAdd,reduceLT,reduceLeDiff,reduceMul,reduceIte,reduceCtorEq,Int.reduceEq,Int.reduceLT,Int.reduceLE,Int.reduceNe]
 obtain⟨y1,y2,y3,y4⟩:=aww;have d1:decide (m<1)=false:=decide_eq_false (by omega);have d2:decide (300<m)=false:=decide_eq_false (by omega);have d4:decide ((12:Int)<(a0.eW:Int))=false:=decide_eq_false (by omega);refine cC [] rfl ?_ ?_
 ·simp only[WA,reduceEqDiff,reduceAdd,reduceLT,reduceLeDiff,reduceMul,reduceIte,reduceCtorEq,Int.reduceEq,Int.reduceLT,Int.reduceLE,Int.reduceNe];refine cC [.v (.bool false)] rfl ?_ ?_
  ·simp only[map_cons,length_cons,length_map,dl,d1,d2,WA,reduceEqDiff,reduceAdd,reduceLT,reduceLeDiff,reduceMul,reduceIte,reduceCtorEq,Int.reduceEq,Int.reduceLT,Int.reduceLE,Int.reduceNe];refine hg0 ?_;simp only[aa.cells,aa.isAgg,aa.storable,aa.width,WA,reduceEqDiff,reduceAdd,reduceLT,reduceLeDiff,reduceMul,reduceIte,reduceCtorEq,Int.reduceEq,Int.reduceLT,Int.reduceLE,Int.reduceNe];refine bn (mF a0 (by omega)) ?_;rw[y3];simp only[Bool.not_true,WA,reduceEqDiff,reduceAdd,reduceLT,reduceLeDiff,reduceMul,reduceIte,reduceCtorEq,Int.reduceEq,Int.reduceLT,Int.reduceLE,Int.reduceNe];refine hg0 ?_;simp only[aa.cells,aa.isAgg,aa.storable,aa.width,WA,reduceEqDiff,reduceAdd,reduceLT,reduceLeDiff,reduceMul,reduceIte,reduceCtorEq,Int.reduceEq,Int.reduceLT,Int.reduceLE,Int.reduceNe];refine bn (mU a0 (by omega)) ?_;simp only[aA,d4,WA,reduceEqDiff,reduceAdd,reduceLT,reduceLeDiff,reduceMul,reduceIte,reduceCtorEq,Int.reduceEq,Int.reduceLT,Int.reduceLE,Int.reduceNe]
  ·simp only[WA,reduceEqDiff,reduceAdd,reduceLT,reduceLeDiff,reduceMul,reduceIte,reduceCtorEq,Int.reduceEq,Int.reduceLT,Int.reduceLE,Int.reduceNe]
 simp only[WA,reduceEqDiff,reduceAdd,reduceLT,reduceLeDiff,reduceMul,reduceIte,reduceCtorEq,Int.reduceEq,Int.reduceLT,Int.reduceLE,Int.reduceNe];refine jq (λ vs=>∃us ps,LD us ps/\(ps.length:Int)=m/\(∀p∈ps,anQ p)/\AV.ad us=true/\vs= [.sl us]) ?_ ?_
 ·simp only[WA,reduceEqDiff,reduceAdd,reduceLT,reduceLeDiff,reduceMul,reduceIte,reduceCtorEq,Int.reduceEq,Int.reduceLT,Int.reduceLE,Int.reduceNe];refine dk (ι:=Nat×List AV×List aa) (λ q=>(q.1:Int)<=m/\LD q.2.1 q.2.2/\q.2.2.length=q.1/\(∀p∈q.2.2,anQ p)/\AV.ad q.2.1=true) (λ q=>[.sl q.2.1,aA (q.1:Nat)]) (λ q=>m.toNat- q.1) (0,[],[]) ⟨by simp only;omega,.of [],rfl,by simp,rfl⟩ rfl ?_;rintro⟨k,us,ps⟩ ⟨q1,q2,q3,q4,q5⟩;simp only at q1 q2 q3 q4 q5;have ul:=q2.len;simp only[WA,reduceEqDiff,reduceAdd,reduceLT,reduceLeDiff,reduceMul,reduceIte,reduceCtorEq,Int.reduceEq,Int.reduceLT,Int.reduceLE,Int.reduceNe];refine aE (λ hq=> ?_) (λ hq=> ?_)
  ·simp only[WA,reduceEqDiff,reduceAdd,reduceLT,reduceLeDiff,reduceMul,reduceIte,reduceCtorEq,Int.reduceEq,Int.reduceLT,Int.reduceLE,Int.reduceNe];have hr:=uq x0 ho0 k;have hr2:=uq x0 ho0 (k+1);have ek:IntKind.i64.wrap ((k:Int)+1)=((k+1:Nat):Int):=au (by omega);have em1:IntKind.i64.wrap (atN x0 k+(k:Int))=atN x0 k+(k:Int):=bm (by omega) (by omega);have em2:(atN x0 k+(k:Int)).tmod 4=(atN x0 k+(k:Int))%4:=Int.tmod_eq_emod_of_nonneg (by omega);have em3:IntKind.i64.wrap ((atN x0 k+(k:Int))%4)=(atN x0 k+(k:Int))%4:=bm (by omega) (by omega);have em4:IntKind.i64.wrap (1+(atN x0 k+(k:Int))%4)=1+(atN x0 k+(k:Int))%4:=bm (by omega) (by omega);refine jq (λ vs=>∃(u:AV) (p:aa) (z1 z2:AV),AV.uO u p.av/\u.cells.length=4/\anQ p/\u.ag=true/\vs= [.sl (us++ [u]),z1,z2]) ?_ ?_
   ·simp only[WA,reduceEqDiff,reduceAdd,reduceLT,reduceLeDiff,reduceMul,reduceIte,reduceCtorEq,Int.reduceEq,Int.reduceLT,Int.reduceLE,Int.reduceNe];refine bn (ax8 x0 k hb (by omega) ho0) ?_;simp only[aA,em1,em2,em3,em4,ek,WA,reduceEqDiff,reduceAdd,reduceLT,reduceLeDiff,reduceMul,reduceIte,reduceCtorEq,Int.reduceEq,Int.reduceLT,Int.reduceLE,Int.reduceNe];refine bn (ax8 x0 (k+1) hb (by omega) ho0) ?_;simp only[WA,reduceEqDiff,reduceAdd,reduceLT,reduceLeDiff,reduceMul,reduceIte,reduceCtorEq,Int.reduceEq,Int.reduceLT,Int.reduceLE,Int.reduceNe];refine aE (λ hq3=> ?_) (λ hq3=> ?_)
    ·simp(disch:=omega) only[length_cons,length_nil,aK,WA,reduceEqDiff,reduceAdd,reduceLT,reduceLeDiff,reduceMul,reduceIte,reduceCtorEq,Int.reduceEq,Int.reduceLT,Int.reduceLE,Int.reduceNe];exact⟨λ y hy=>by rw[hy];rfl,by omega,by omega,_,_,_,_,asI,rfl,avz (K:=1+(atN x0 k+(k:Int))%4) (k:=(k:Int)) ⟨by omega,by omega⟩ (by omega),rfl,rfl⟩
    ·simp(disch:=omega) only[length_cons,length_nil,aK,WA,reduceEqDiff,reduceAdd,reduceLT,reduceLeDiff,reduceMul,reduceIte,reduceCtorEq,Int.reduceEq,Int.reduceLT,Int.reduceLE,Int.reduceNe];exact⟨λ y hy=>by rw[hy];rfl,by omega,by omega,_,_,_,_,by rw[←vS];exact .refl _,rfl,aqB (K:=1+(atN x0 k+(k:Int))%4) ⟨by omega,by omega⟩,rfl,rfl⟩
   ·rintro vs ⟨u,p,z1,z2,r1,r2,r3,r4,rfl⟩ _;simp only[ek,WA,reduceEqDiff,reduceAdd,reduceLT,reduceLeDiff,reduceMul,reduceIte,reduceCtorEq,Int.reduceEq,Int.reduceLT,Int.reduceLE,Int.reduceNe];refine⟨(k+1,us++ [u],ps++ [p]),⟨by show((k+1:Nat):Int)<=m;omega,q2.app r1 r2,by simp[q3],λ x hx=> ?_,?_⟩,by show m.toNat- (k+1)<m.toNat- k;omega,rfl⟩
    ·rcases List.mem_append.1 hx with h|h
     ·exact q4 x h
     ·rw[List.mem_singleton.1 h];exact r3
    ·rw[aG,q5];simp[AV.ad,r4]
  ·simp only[WA,reduceEqDiff,reduceAdd,reduceLT,reduceLeDiff,reduceMul,reduceIte,reduceCtorEq,Int.reduceEq,Int.reduceLT,Int.reduceLE,Int.reduceNe];exact⟨us,ps,q2,by omega,q4,q5,rfl⟩
 rintro vs ⟨us,ps,p1,p2,p3,p4,rfl⟩ _;simp only[WA,reduceEqDiff,reduceAdd,reduceLT,reduceLeDiff,reduceMul,reduceIte,reduceCtorEq,Int.reduceEq,Int.reduceLT,Int.reduceLE,Int.reduceNe];have nps:AV.ad (ps.map aa.av)=true:=bH aa.ag;have pw:∀p∈ps,p.wt<=2:=λ p hp=>(p3 p hp).wt
 have aCa:=sh aa.wt 2 ps pw
 have bw:(a0.put 11 ps).wt<=3000:=by
  have h3:=aa.afv 11 ps 2 pw a0;have h5:=aa.afI a0 y3;have h4:(a0.wt+1)*(2+1)<=200*3:=Nat.mul_le_mul_right _ (by omega);omega
 obtain⟨ts,code,hU,hO,him⟩:=ab7 m [a0] [a0.put 11 ps] hm (by simp only[map_cons,map_nil,sum_cons,sum_nil,length_cons,length_nil];omega) (by simp only[map_cons,map_nil,sum_cons,sum_nil,length_cons,length_nil];omega);have him:=avn him;have nt:AV.ad (ts.map aa.av)=true:=bH aa.ag
 have azD:a7 Try.prog F.kG [a0.av,aA 11,.sl us] (a0.put 11 ps).av:=(age a0 ps y3 (by omega) (by omega)).anA rfl λ i x y hx hy=>by
  rcases i with _|_|_|i<;>simp at hx hy<;>subst hx<;>subst hy
  ·exact .refl _
  ·exact .refl _
  ·exact p1.sl
 have hfl:=a0.lJ 11;have aw9:=je (a0.bC 11) [];simp only[length_nil]at aw9;refine hg0 ?_;simp only[aa.cells,aa.isAgg,aa.storable,aa.width,WA,reduceEqDiff,reduceAdd,reduceLT,reduceLeDiff,reduceMul,reduceIte,reduceCtorEq,Int.reduceEq,Int.reduceLT,Int.reduceLE,Int.reduceNe];refine acm (abo a0 y3 (by omega)) (afQ _) ?_;simp only[WA,reduceEqDiff,reduceAdd,reduceLT,reduceLeDiff,reduceMul,reduceIte,reduceCtorEq,Int.reduceEq,Int.reduceLT,Int.reduceLE,Int.reduceNe];by_cases jP:∀n∈a0.bC 11,n<m;rotate_left
 ·
  refine aB ?_;simp only[WA,reduceEqDiff,reduceAdd,reduceLT,reduceLeDiff,reduceMul,reduceIte,reduceCtorEq,Int.reduceEq,Int.reduceLT,Int.reduceLE,Int.reduceNe];refine dk (ι:=Nat) (λ i=>i<=(aQ [] (a0.bC 11)).length/\∀(j:Nat) n,j<i->(aQ [] (a0.bC 11))[j]? =some n->n<m) (λ i=>[aA (i:Nat)]) (λ i=>(aQ [] (a0.bC 11)).length- i) 0 ⟨zero_le _,λ j n hj=>absurd hj (Nat.not_lt_zero _)⟩ rfl ?_;rintro i ⟨h1,h2⟩;simp only[length_map,WA,reduceEqDiff,reduceAdd,reduceLT,reduceLeDiff,reduceMul,reduceIte,reduceCtorEq,Int.reduceEq,Int.reduceLT,Int.reduceLE,Int.reduceNe];refine aE (λ hq=> ?_) (λ hq=> ?_)
  ·have aF:i<(aQ [] (a0.bC 11)).length:=by omega
   have hx:(aQ [] (a0.bC 11))[i]? =some ((aQ [] (a0.bC 11))[i]):=getElem?_eq_getElem aF;have d0:decide ((i:Int)<((aQ [] (a0.bC 11)).length:Int))=true:=decide_eq_true (by omega);simp only[length_map,toNat_natCast,ajj hx,aA,WA,reduceEqDiff,reduceAdd,reduceLT,reduceLeDiff,reduceMul,reduceIte,reduceCtorEq,Int.reduceEq,Int.reduceLT,Int.reduceLE,Int.reduceNe];refine⟨by omega,aF,?_⟩;try simp only[WA,reduceEqDiff,reduceAdd,reduceLT,reduceLeDiff,reduceMul,reduceIte,reduceCtorEq,Int.reduceEq,Int.reduceLT,Int.reduceLE,Int.reduceNe]
   refine aE (λ hq2=> ?_) (λ hq2=> ?_)
   ·simp only[WA,reduceEqDiff,reduceAdd,reduceLT,reduceLeDiff,reduceMul,reduceIte,reduceCtorEq,Int.reduceEq,Int.reduceLT,Int.reduceLE,Int.reduceNe]
   ·simp(disch:=omega) only[au,WA,reduceEqDiff,reduceAdd,reduceLT,reduceLeDiff,reduceMul,reduceIte,reduceCtorEq,Int.reduceEq,Int.reduceLT,Int.reduceLE,Int.reduceNe];refine⟨i+1,⟨aF,λ j n hj hn=> ?_⟩,by omega,rfl⟩;by_cases e:j=i
    ·subst e;rw[hx]at hn;cases hn;omega
    ·exact h2 j n (by omega) hn
  ·exfalso;apply jP;intro n hn;have uX:n∈aQ [] (a0.bC 11):=by rw[mq];exact .inr hn
   obtain⟨j,hj⟩:=List.getElem?_of_mem uX;exact h2 j n (by have:=(List.getElem?_eq_some_iff.1 hj).1;omega) hj
 obtain⟨c0,azx⟩:=recovered y1 y2 y3 y4 jP p2 (λ p hp=>⟨(p3 p hp).ok,(p3 p hp).eW,(p3 p hp).no⟩) hU;subst c0
 have hfr:∀(i:Nat) n,(aQ [] (a0.bC 11))[i]? =some n->n∈a0.bC 11:=λ i n hn=>by
  have:=List.mem_of_getElem? hn;rw[mq]at this;rcases this with h|h
  ·simp at h
  ·exact h
 refine cC [] rfl ?_ ?_
 ·simp only[WA,reduceEqDiff,reduceAdd,reduceLT,reduceLeDiff,reduceMul,reduceIte,reduceCtorEq,Int.reduceEq,Int.reduceLT,Int.reduceLE,Int.reduceNe];refine dk (ι:=Nat) (λ i=>i<=(aQ [] (a0.bC 11)).length) (λ i=>[aA (i:Nat)]) (λ i=>(aQ [] (a0.bC 11)).length- i) 0 (zero_le _) rfl ?_;intro i h1;simp only[length_map,WA,reduceEqDiff,reduceAdd,reduceLT,reduceLeDiff,reduceMul,reduceIte,reduceCtorEq,Int.reduceEq,Int.reduceLT,Int.reduceLE,Int.reduceNe];refine aE (λ hq=> ?_) (λ hq=> ?_)
  ·have aF:i<(aQ [] (a0.bC 11)).length:=by omega
   have hx:(aQ [] (a0.bC 11))[i]? =some ((aQ [] (a0.bC 11))[i]):=getElem?_eq_getElem aF;have hn:=jP _ (hfr i _ hx);have dn:decide (m<=(aQ [] (a0.bC 11))[i])=false:=decide_eq_false (by omega);simp only[length_map,toNat_natCast,ajj hx,aA,dn,WA,reduceEqDiff,reduceAdd,reduceLT,reduceLeDiff,reduceMul,reduceIte,reduceCtorEq,Int.reduceEq,Int.reduceLT,Int.reduceLE,Int.reduceNe];refine⟨by omega,aF,?_⟩;try simp only[WA,reduceEqDiff,reduceAdd,reduceLT,reduceLeDiff,reduceMul,reduceIte,reduceCtorEq,Int.reduceEq,Int.reduceLT,Int.reduceLE,Int.reduceNe]
   exact⟨i+1,aF,by omega,by rw[au (by omega)]⟩
  ·simp only[WA,reduceEqDiff,reduceAdd,reduceLT,reduceLeDiff,reduceMul,reduceIte,reduceCtorEq,Int.reduceEq,Int.reduceLT,Int.reduceLE,Int.reduceNe]
 simp only[map_cons,map_nil]at him;simp only[WA,reduceEqDiff,reduceAdd,reduceLT,reduceLeDiff,reduceMul,reduceIte,reduceCtorEq,Int.reduceEq,Int.reduceLT,Int.reduceLE,Int.reduceNe];refine hg0 ?_;simp only[aa.cells,aa.isAgg,aa.storable,aa.width,WA,reduceEqDiff,reduceAdd,reduceLT,reduceLeDiff,reduceMul,reduceIte,reduceCtorEq,Int.reduceEq,Int.reduceLT,Int.reduceLE,Int.reduceNe];refine hg0 ?_;simp only[aa.cells,aa.isAgg,aa.storable,aa.width,WA,reduceEqDiff,reduceAdd,reduceLT,reduceLeDiff,reduceMul,reduceIte,reduceCtorEq,Int.reduceEq,Int.reduceLT,Int.reduceLE,Int.reduceNe];refine mi azD (aa.ag _) ?_;simp only[aa.cells,aa.isAgg,aa.storable,aa.width,WA,reduceEqDiff,reduceAdd,reduceLT,reduceLeDiff,reduceMul,reduceIte,reduceCtorEq,Int.reduceEq,Int.reduceLT,Int.reduceLE,Int.reduceNe];refine mi him (by simp[AV.ag,AV.ad,nt]) ?_;simp only[decide_true,Bool.not_true,WA,reduceEqDiff,reduceAdd,reduceLT,reduceLeDiff,reduceMul,reduceIte,reduceCtorEq,Int.reduceEq,Int.reduceLT,Int.reduceLE,Int.reduceNe];refine cC [] rfl ?_ ?_
 ·simp only[WA,reduceEqDiff,reduceAdd,reduceLT,reduceLeDiff,reduceMul,reduceIte,reduceCtorEq,Int.reduceEq,Int.reduceLT,Int.reduceLE,Int.reduceNe];refine dk (ι:=Nat) (λ i=>i<=(aQ [] (a0.bC 11)).length) (λ i=>[aA (i:Nat)]) (λ i=>(aQ [] (a0.bC 11)).length- i) 0 (zero_le _) rfl ?_;intro i h1;simp only[length_map,WA,reduceEqDiff,reduceAdd,reduceLT,reduceLeDiff,reduceMul,reduceIte,reduceCtorEq,Int.reduceEq,Int.reduceLT,Int.reduceLE,Int.reduceNe];refine aE (λ hq=> ?_) (λ hq=> ?_)
  ·have aF:i<(aQ [] (a0.bC 11)).length:=by omega
   have hx:(aQ [] (a0.bC 11))[i]? =some ((aQ [] (a0.bC 11))[i]):=getElem?_eq_getElem aF;obtain⟨n0,n1,t,ht,hp⟩:=azx _ (hfr i _ hx);generalize (aQ [] (a0.bC 11))[i]=n at hx n0 n1 ht hp;obtain⟨j,rfl⟩:∃j:Nat,n=(j:Int):=⟨n.toNat,by omega⟩;rw[toNat_natCast]at ht hp;simp only[length_map,toNat_natCast,ajj hx,aA,WA,reduceEqDiff,reduceAdd,reduceLT,reduceLeDiff,reduceMul,reduceIte,reduceCtorEq,Int.reduceEq,Int.reduceLT,Int.reduceLE,Int.reduceNe];refine⟨by omega,aF,?_⟩;try simp only[WA,reduceEqDiff,reduceAdd,reduceLT,reduceLeDiff,reduceMul,reduceIte,reduceCtorEq,Int.reduceEq,Int.reduceLT,Int.reduceLE,Int.reduceNe]
   have hxt:(ts.map aa.av)[j]? =some t.av:=by rw[List.getElem?_map,ht];rfl
   refine oF t.av hxt (aa.width t) ?_;simp only[aa.cells,aa.isAgg,aa.storable,aa.width,WA,reduceEqDiff,reduceAdd,reduceLT,reduceLeDiff,reduceMul,reduceIte,reduceCtorEq,Int.reduceEq,Int.reduceLT,Int.reduceLE,Int.reduceNe];simp only[length_map,toNat_natCast,ajj hx,aA,WA,reduceEqDiff,reduceAdd,reduceLT,reduceLeDiff,reduceMul,reduceIte,reduceCtorEq,Int.reduceEq,Int.reduceLT,Int.reduceLE,Int.reduceNe];refine⟨by omega,aF,?_⟩;try simp only[WA,reduceEqDiff,reduceAdd,reduceLT,reduceLeDiff,reduceMul,reduceIte,reduceCtorEq,Int.reduceEq,Int.reduceLT,Int.reduceLE,Int.reduceNe]
   obtain⟨u,hu⟩:∃u,us[j]? =some u:=⟨_,getElem?_eq_getElem (by rw[p1.len];exact(List.getElem?_eq_some_iff.1 hp).1)⟩;obtain⟨hle,huc⟩:=p1.cel j u t hu hp;refine oF u hu huc ?_
   have awE:a7 Try.prog F.fk [t.av,u] (.v (.bool true)):=by
    have:=qQ t t (by have:=pw t (List.mem_of_getElem? hp);omega);rw[aa.zY]at this
    exact this.anA rfl λ i x y hx hy=>by
     rcases i with _|_|i<;>simp at hx hy<;>subst hx<;>subst hy
     ·exact .refl _
     ·exact hle
   simp only[huc,(adA hle).1,(adA hle).2,WA,reduceEqDiff,reduceAdd,reduceLT,reduceLeDiff,reduceMul,reduceIte,reduceCtorEq,Int.reduceEq,Int.reduceLT,Int.reduceLE,Int.reduceNe];refine bn awE ?_;simp(disch:=omega) only[Bool.not_true,au,WA,reduceEqDiff,reduceAdd,reduceLT,reduceLeDiff,reduceMul,reduceIte,reduceCtorEq,Int.reduceEq,Int.reduceLT,Int.reduceLE,Int.reduceNe];exact⟨i+1,aF,by omega,rfl⟩
  ·simp only[WA,reduceEqDiff,reduceAdd,reduceLT,reduceLeDiff,reduceMul,reduceIte,reduceCtorEq,Int.reduceEq,Int.reduceLT,Int.reduceLE,Int.reduceNe]
 simp only[WA,reduceEqDiff,reduceAdd,reduceLT,reduceLeDiff,reduceMul,reduceIte,reduceCtorEq,Int.reduceEq,Int.reduceLT,Int.reduceLE,Int.reduceNe]
end Go.Proofs.Ab
