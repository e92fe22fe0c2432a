/-
  Unify of the program: nodes of types.
-/
import Derived.Test.YtfebhekplhjigaaWUni2
open Nat(le_refl lt_of_lt_of_le)
open Bool(and_eq_true)
open List(all_cons map_cons length_map map_congr_left length_append getElem?_set_ne)
open Nat(reduceEqDiff reduceLeDiff reduceAdd reduceLT reduceMul)
set_option linter.unusedVariables false
set_option linter.unusedSimpArgs false
namespace Go.Ab
set_option maxRecDepth 100000
def EK.bU(s:Nat->Nat):EK->EK
 | .fP=> .fP
 | .set n=> .set (s n)
 | .push n=> .push (s n)
 | .any=> .any
 | .yT kp=> .yT (kp.map s)
def g9.bU(s:Nat->Nat)(l:g9):g9:=⟨l.rd.map s,l.k.bU s⟩
def EK.under(k:Nat):EK->Bool
 | .set n=>decide (n<k)
 | .push n=>decide (n<k)
 | .yT kp=>kp.all λ n=>decide (n<k)
 |_=>true
def g9.under(k:Nat)(l:g9):Bool:=l.rd.all (λ n=>decide (n<k))&&l.k.under k
theorem lC{s:Nat->Nat}{k:Nat}(hs:∀a b,a<k->b<k->s a=s b->a=b){n:Nat}(hn:n<k):∀{l:List Nat},(l.all λ m=>decide (m<k))=true->(l.map s).contains (s n)=l.contains n
 | [],_=>rfl
 |m::l,h=>by
  simp only[all_cons,and_eq_true,decide_eq_true_eq]at h;rw[map_cons,List.contains_cons,List.contains_cons,lC hs hn (by simpa using h.2)];congr 1;by_cases e:n=m
  ·subst e;simp
  ·have:s n≠s m:=λ e'=>e (hs n m hn h.1 e')
   rw[beq_eq_false_iff_ne.2 this,beq_eq_false_iff_ne.2 e]
theorem adg{s:Nat->Nat}{k:Nat}(hs:∀a b,a<k->b<k->s a=s b->a=b){kp:List Nat}(hk:(kp.all λ n=>decide (n<k))=true){l:g9}(hl:l.under k=true):(l.bU s).pure (kp.map s)=l.pure kp:=by
 unfold g9.under at hl;rw[and_eq_true]at hl;unfold g9.pure g9.bU;congr 1
 ·have:∀l:List Nat,(l.all λ n=>decide (n<k))=true->(l.map s).all (λ n=>(kp.map s).contains n)=l.all λ n=>kp.contains n:=by
    intro l
    induction l with
    |nil=>intro _;rfl
    |cons n l ih=>
     intro h;simp only[all_cons,and_eq_true,decide_eq_true_eq]at h;rw[map_cons,all_cons,all_cons,ih h.2,lC hs h.1 hk]
  exact this _ hl.1
 ·cases l.k<;>rfl
theorem adW{s:Nat->Nat}{k:Nat}(hs:∀a b,a<k->b<k->s a=s b->a=b){rd:List Nat}(hr:(rd.all λ n=>decide (n<k))=true){e:EK}(he:e.under k=true):(e.bU s).pH (rd.map s)=e.pH rd:=by
 cases e<;>simp only[EK.bU,EK.pH,EK.under,decide_eq_true_eq]at he⊢
 ·exact lC hs he hr
 ·exact lC hs he hr
theorem afF{s:Nat->Nat}{k:Nat}(hs:∀a b,a<k->b<k->s a=s b->a=b){p i:g9}(hp:p.under k=true)(hi:i.under k=true):tF (p.bU s) (i.bU s)=tF p i:=by
 have e1:∀l:g9,(l.bU s).k.isAny=l.k.isAny:=λ l=>by obtain⟨_,e⟩:=l;cases e<;>rfl
 have e2:∀l:g9,(l.bU s).k.gd=l.k.gd:=λ l=>by obtain⟨_,e⟩:=l;cases e<;>rfl
 have e3:∀l:g9,(l.bU s).k.keeps=l.k.keeps.map s:=λ l=>by obtain⟨_,e⟩:=l;cases e<;>rfl
 have e4:∀l:g9,l.under k=true->(l.k.keeps.all λ n=>decide (n<k))=true:=λ l h=>by
  unfold g9.under at h;rw[and_eq_true]at h;obtain⟨_,e⟩:=l;cases e<;>first|rfl|exact h.2
 have u1:∀l:g9,l.under k=true->(l.rd.all λ n=>decide (n<k))=true/\l.k.under k=true:=λ l h=>by unfold g9.under at h;rwa [and_eq_true]at h
 unfold tF;rw[e1,e1,e2,e2,e3,e3,adg hs (e4 _ hp) hi,adg hs (e4 _ hi) hp];have h1:(p.bU s).k.pH (i.bU s).rd=p.k.pH i.rd:=adW hs (u1 _ hi).1 (u1 _ hp).2;have h2:(i.bU s).k.pH (p.bU s).rd=i.k.pH p.rd:=adW hs (u1 _ hp).1 (u1 _ hi).2;rw[h1,h2]
theorem mh{rows:List (List Nat)}{ops:List aP}{ic:List g9}(s:Nat->Nat)(k:Nat)(xQ:List g9)(hl:ic=xQ.map (g9.bU s))(hu:(xQ.all λ l=>l.under k)=true)(hs:∀a b,a<k->b<k->s a=s b->a=b)(h:ij rows (ops.zip xQ)=true):ij rows (ops.zip ic)=true:=by
 subst hl;rw[←h];have hz:ops.zip (xQ.map (g9.bU s))=(ops.zip xQ).map λ x=>(x.1,x.2.bU s):=by rw[List.zip_map_right];rfl
 have rT:∀x∈ops.zip xQ,x.2.under k=true:=λ x hx=>List.all_eq_true.1 hu _ (List.of_mem_zip hx).2
 rw[hz];generalize ops.zip xQ=al at rT;unfold ij;rw[length_map]
 have adR:∀p i:Nat,(match(al.map λ x=>(x.1,x.2.bU s))[p]?,(al.map λ x=>(x.1,x.2.bU s))[i]? with|some x,some y=>l8 x y|_,_=>false)=(match al[p]?,al[i]? with|some x,some y=>l8 x y|_,_=>false):=by
  intro p i;rw[List.getElem?_map,List.getElem?_map];cases hp:al[p]? with
  |none=>rfl
  |some x=>
   cases hi:al[i]? with
   |none=>rfl
   |some y=>
    show l8 (x.1,x.2.bU s) (y.1,y.2.bU s)=l8 x y;unfold l8;simp only;rw[afF hs (rT x (List.mem_of_getElem? hp)) (rT y (List.mem_of_getElem? hi))]
 exact congrArg (λ f=>(List.range al.length).all f) (funext λ i=>congrArg (λ b=>((rows.getD i []).all λ x=>decide (x<i))&&b) (congrArg (λ f=>(List.range i).all f) (funext λ p=>congrArg (λ b=>((vT rows al.length).getD i 0).testBit p||b) (adR p i))))
structure pZ(b:Nat)(S:Net)(up bx kr:Nat->Nat)(S':Net)(cj ni qj:Nat->Nat):Prop where
 N:S.N<=S'.N
 M:S'.M=S.M
 gB:∀x,x<S.N->S'.ty x=S.ty x/\S'.kids x=S.kids x/\cj x=up x/\ni x=bx x/\qj x=kr x
 new:∀x,S.N<=x->x<S'.N->cj x=x/\¬S'.mX x/\(S'.ty x).iU=true/\b<=ni x/\(S'.kids x≠[]->b<=qj x)
theorem pZ.refl{b:Nat}{S:Net}{up bx kr:Nat->Nat}:pZ b S up bx kr S up bx kr:=⟨le_refl _,rfl,λ _ _=>⟨rfl,rfl,rfl,rfl,rfl⟩,λ x h k=>by omega⟩
theorem pZ.trans{b c:Nat}{S S' S'':Net}{up bx kr cj ni qj akq axN awn:Nat->Nat}(h:pZ b S up bx kr S' cj ni qj)(k:pZ c S' cj ni qj S'' akq axN awn)(hbc:b<=c):pZ b S up bx kr S'' akq axN awn:=by
 refine⟨Nat.le_trans h.N k.N,k.M.trans h.M,λ x hx=> ?_,λ x h1 h2=> ?_⟩
 ·obtain⟨a1,a2,a3,a4,a5⟩:=h.gB x hx;obtain⟨b1,b2,b3,b4,b5⟩:=k.gB x (lt_of_lt_of_le hx h.N);exact⟨b1.trans a1,b2.trans a2,b3.trans a3,b4.trans a4,b5.trans a5⟩
 ·by_cases hx:x<S'.N
  ·obtain⟨a1,a2,a3,a4,a5⟩:=h.new x h1 hx;obtain⟨b1,b2,b3,b4,b5⟩:=k.gB x hx;exact⟨b3.trans a1,by unfold Net.mX at a2⊢;rwa [b1],by rwa [b1],by rwa [b4],λ hk=>by rw[b5];exact a5 (by rwa [b2]at hk)⟩
  ·obtain⟨a1,a2,a3,a4,a5⟩:=k.new x (by omega) h2;exact⟨a1,a2,a3,by omega,λ hk=>by have:=a5 hk;omega⟩
theorem pZ.lt{b:Nat}{S S':Net}{up bx kr cj ni qj:Nat->Nat}(h:pZ b S up bx kr S' cj ni qj)(aF:∀x,x<S.N->up x<S.N):∀x,x<S'.N->cj x<S'.N:=λ x hx=>by
 by_cases th:x<S.N
 ·rw[(h.gB x th).2.2.1];exact lt_of_lt_of_le (aF x th) h.N
 ·rw[(h.new x (by omega) hx).1];exact hx
theorem tj{α:Type}{A B:List α}{a:α}:(A++a::B)[A.length]? =some a:=by rw[List.getElem?_append_right (le_refl _),Nat.sub_self];rfl
theorem ag1{α:Type}{A B:List α}{a b:α}:(A++a::b::B)[A.length+1]? =some b:=by rw[List.getElem?_append_right (by omega),Nat.add_sub_cancel_left];rfl
theorem as0{α:Type}{A B:List α}{a z:α}:(A++a::B).set A.length z=A++z::B:=by simp
theorem al{α:Type}{A B:List α}{n:Nat}(h:n<A.length):(A++B)[n]? =A[n]? :=List.getElem?_append_left h
def Net.add(S:Net)(t:aa)(ks:List Nat):Net:=⟨S.N+1,S.M,λ x=>if x=S.N then t else S.ty x,λ x=>if x=S.N then ks else S.kids x⟩
theorem Net.aur{S:Net}(h:S.ok){t:aa}{ks:List Nat}(hk:∀k∈ks,k<S.N)(ht:t.Kids=ks.map S.ty)(hm:t.Kind≠11):(S.add t ks).ok:=by
 refine⟨Nat.le_succ_of_le h.le,λ x hx k hkx=> ?_,λ x hx=> ?_,λ k ot=> ?_,λ x hx hxm=> ?_⟩
 ·by_cases e:x=S.N
  ·simp only[Net.add,e,if_true]at hkx⊢;have:=hk k hkx;omega
  ·simp only[Net.add,if_neg e]at hkx hx⊢;have:=h.lt x (by omega) k hkx;omega
 ·have bB:∀k,k<S.N->(S.add t ks).ty k=S.ty k:=λ k hk=>by simp only[Net.add];rw[if_neg (by omega)]
  by_cases e:x=S.N
  ·have e1:(S.add t ks).ty x=t:=by simp only[Net.add,e,if_true]
   have e2:(S.add t ks).kids x=ks:=by simp only[Net.add,e,if_true]
   rw[e1,e2,ht];exact map_congr_left λ k ot=>(bB k (hk k ot)).symm
  ·have hx':x<S.N:=by simp only[Net.add]at hx;omega
   have e2:(S.add t ks).kids x=S.kids x:=by simp only[Net.add];rw[if_neg e]
   rw[bB x hx',e2,h.xT x hx'];exact map_congr_left λ k ot=>(bB k (h.lt x hx' k ot)).symm
 ·have:k≠S.N:=by have:=h.le;simp only[Net.add]at ot;omega
  simp only[Net.add,if_neg this];exact h.qJ k ot
 ·by_cases e:x=S.N
  ·unfold Net.mX at hxm;simp only[Net.add,e,if_true]at hxm;exact(hm hxm).elim
  ·unfold Net.mX at hxm;simp only[Net.add,if_neg e]at hxm hx⊢;exact h.isMeta x (by omega) hxm
end Go.Ab
namespace Go.Proofs.Ab
open Go.Ab
set_option maxRecDepth 100000
set_option maxHeartbeats 4000000
structure jQ(S:Net)(bx:Nat->Nat)(lb lr:Nat)(O:List ae):Prop where
 box:O[lb]? =some (.live 63 1 [.row lr S.M])
 row:O[lr]? =some (.live 64 1 (jX bx (List.range S.M)))
 sep:∀x,x<S.N->lb≠bx x/\lr≠bx x
theorem jQ.same{S:Net}{bx:Nat->Nat}{lb lr:Nat}{O O':List ae}(h:jQ S bx lb lr O)(k:jL S bx O O'):jQ S bx lb lr O':=by
 have h1:=(List.getElem?_eq_some_iff.1 h.box).1;have h2:=(List.getElem?_eq_some_iff.1 h.row).1;exact⟨by rw[k.2 _ h1 λ x hx=>(h.sep x hx).1];exact h.box,by rw[k.2 _ h2 λ x hx=>(h.sep x hx).2];exact h.row,h.sep⟩
theorem oa{bx ni:Nat->Nat}:∀{l:List Nat},(∀k∈l,ni k=bx k)->jX ni l=jX bx l:=λ h=>map_congr_left λ k hk=>by rw[h k hk]
theorem cD.move{S:Net}{up bx kr:Nat->Nat}{O O':List ae}(h:cD S up bx kr O)(k:∀x,x<S.N->O'[bx x]? =O[bx x]? /\(S.kids x≠[]->O'[kr x]? =O[kr x]?)):cD S up bx kr O':=
 ⟨λ x hx=>by rw[(k x hx).1];exact h.box x hx,λ x hx hk=>by rw[(k x hx).2 hk];exact h.row x hx hk,h.inj,h.sep,h.few⟩
theorem cD.rlt{S:Net}{up bx kr:Nat->Nat}{O:List ae}(h:cD S up bx kr O){x:Nat}(hx:x<S.N)(hk:S.kids x≠[]):kr x<O.length:=(List.getElem?_eq_some_iff.1 (h.row x hx hk)).1
theorem cD.app{S:Net}{up bx kr:Nat->Nat}{O:List ae}(h:cD S up bx kr O)(E:List ae):cD S up bx kr (O++E):=
 h.move λ x hx=>⟨al (h.lt hx),λ hk=>al (h.rlt hx hk)⟩
theorem jL.app{S:Net}{bx:Nat->Nat}(O E:List ae):jL S bx O (O++E):=⟨by simp,λ n hn _=>al hn⟩
theorem jQ.ext{S S':Net}{up bx kr cj ni qj:Nat->Nat}{lb lr:Nat}{O O':List ae}(hs:S.ok)(h:jQ S bx lb lr O)(k:pZ O.length S up bx kr S' cj ni qj)(ho:∀n,n<O.length->O'[n]? =O[n]?):jQ S' ni lb lr O':=by
 have h1:=(List.getElem?_eq_some_iff.1 h.box).1;have h2:=(List.getElem?_eq_some_iff.1 h.row).1
 refine⟨by rw[ho _ h1,k.M];exact h.box,by
  rw[ho _ h2,k.M,oa (ni:=ni) (bx:=bx) λ z hz=>(k.gB z (lt_of_lt_of_le (List.mem_range.1 hz) hs.le)).2.2.2.1];exact h.row,λ x hx=> ?_⟩
 by_cases th:x<S.N
 ·rw[(k.gB x th).2.2.2.1];exact h.sep x th
 ·have:=(k.new x (by omega) hx).2.2.2.1;omega
theorem ye{S:Net}{up bx kr:Nat->Nat}{lb lr:Nat}{O:List ae}(h:jQ S bx lb lr O){j:Nat}(hj:j<S.M):hD Try.prog F.dK [.v (.int .i64 j),.ptr lb 1 0 0] O (.ptr (bx j) 1 0 0) O:=by
 have h1:=h.box;have h2:=h.row;have hg:(List.range S.M)[j]? =some j:=by rw[List.getElem?_eq_getElem (by simpa using hj)];simp
 refine ik A.vJ rfl ?_;simp only[A.dK,h1,h2,↓OD,OA,reduceEqDiff,reduceCtorEq,reduceAdd,reduceLT,reduceLeDiff,reduceIte];have hi:((0:Int)<=(j:Int)/\(j:Int)<(S.M:Int)):=⟨by omega,by omega⟩;simp only[h2,hi,cZ,ib hg,List.length_range,Int.toNat_natCast,AV.cells,↓OD,OA,reduceEqDiff,reduceCtorEq,reduceAdd,reduceLT,reduceLeDiff,reduceIte];exact⟨hj,nD (.inl rfl) (by simp only[↓OD,OA,reduceEqDiff,reduceCtorEq,reduceAdd,reduceLT,reduceLeDiff,reduceIte])⟩
def uR(ks:List Nat)(k:Nat):AV:=if ks= []then .aw else .row k ks.length
theorem wg{x y:aa}(h:x.iU=true)(hy:y∈x.Kids):y.iU=true:=by
 rw[aa.iw,and_eq_true,List.all_eq_true]at h;exact h.2 y hy
theorem ai3(k:Nat):uR [] k= .aw:=if_pos rfl
theorem aar{ks:List Nat}(h:ks≠[])(k:Nat):uR ks k= .row k ks.length:=if_neg h
structure aaZ(x:aa)(S0:Net)(up0 bx0 kr0:Nat->Nat)(O:List ae)(done rest:List aa)(S:Net)(up bx kr:Nat->Nat)(ks:List Nat)(k:Nat)(Q:List ae):Prop where
 all:done++rest=x.Kids
 ok:S.ok
 lay:cD S up bx kr Q
 ext:pZ O.length S0 up0 bx0 kr0 S up bx kr
 len:O.length+2<=Q.length
 frame:∀n,n<O.length->Q[n]? =O[n]?
 box:Q[O.length+1]? =some (.live 66 5 [.agg [aA x.Kind,aA x.N,ch x.Name,uR ks k,.v (.pointer none)]])
 row:ks≠[]->O.length+1<k/\Q[k]? =some (.live 64 1 (jX bx ks))
 nok:ks= []->k=O.length+1
 sep:∀y,y<S.N->bx y≠O.length+1/\bx y≠k/\(S.kids y≠[]->kr y≠O.length+1/\kr y≠k)
 asS:∀j∈ks,j<S.N
 kids:ks.map S.ty=done
section
variable {x:aa} {S0:Net} {up0 bx0 kr0:Nat->Nat} {O:List ae} {done rest:List aa} {S1:Net} {tl bx1 kr1:Nat->Nat} {ks:List Nat} {k:Nat} {Q:List ae}
theorem aaZ.step{t:aa}(hi:aaZ x S0 up0 bx0 kr0 O done (t::rest) S1 tl bx1 kr1 ks k Q){S2:Net}{y5 bx2 kr2:Nat->Nat}{O2 O3:List ae}{rr k' q:Nat}(c2:S2.ok)(c3:cD S2 y5 bx2 kr2 O2)(hq:Q.length<=q)(c4:pZ q S1 tl bx1 kr1 S2 y5 bx2 kr2)(c5:q<=O2.length)(c6:∀n,n<Q.length->O2[n]? =Q[n]?)(c7:rr<S2.N)(c8:S2.ty rr=t)
  (k1:ks= []->O2.length<=k') (k2:ks≠[]->k'=k) (h3:∀n,n<O2.length->n≠O.length+1->n≠k'->O3[n]? =O2[n]?) (hl:O2.length<=O3.length)
  (hb:O3[O.length+1]? =some (.live 66 5 [.agg [aA x.Kind,aA x.N,ch x.Name,.row k' (ks.length+1),.v (.pointer none)]])) (hr:O3[k']? =some (.live 64 1 (jX bx1 ks++ [.ptr (bx2 rr) 1 0 0]))):
  aaZ x S0 up0 bx0 kr0 O (done++ [t]) rest S2 y5 bx2 kr2 (ks++ [rr]) k' O3:=by
 have hQl:=hi.len
 have ot:O.length+1<k':=by
  by_cases h:ks= []
  ·have:=k1 h;omega
  ·rw[k2 h];exact(hi.row h).1
 have awD:∀y,y<S2.N->bx2 y≠O.length+1/\bx2 y≠k'/\(S2.kids y≠[]->kr2 y≠O.length+1/\kr2 y≠k'):=λ y hy=>by
  by_cases hyn:y<S1.N
  ·obtain⟨d1,d2,d3⟩:=hi.sep y hyn;obtain⟨e1,e2,e3,e4,e5⟩:=c4.gB y hyn;rw[e4,e5,e2];have g1:=hi.lay.lt hyn;by_cases h:ks= []
   ·have:=k1 h;exact⟨d1,by omega,λ hk=>⟨(d3 hk).1,by have:=hi.lay.rlt hyn hk;omega⟩⟩
   ·rw[k2 h];exact⟨d1,d2,d3⟩
  ·obtain⟨e1,e2,e3,e4,e5⟩:=c4.new y (by omega) hy;have g1:=c3.lt hy;by_cases h:ks= []
   ·have:=k1 h;exact⟨by omega,by omega,λ hk=>⟨by have:=e5 hk;omega,by have:=c3.rlt hy hk;omega⟩⟩
   ·have:=(List.getElem?_eq_some_iff.1 (hi.row h).2).1;rw[k2 h];exact⟨by omega,by omega,λ hk=>⟨by have:=e5 hk;omega,by have:=e5 hk;omega⟩⟩
 have hold:∀j∈ks,j<S1.N:=hi.asS;refine⟨by rw[List.append_assoc];exact hi.all,c2,c3.move λ y hy=> ?_,hi.ext.trans c4 (by omega),by omega,λ n hn=> ?_,?_,λ _=>⟨ot,?_⟩,λ h=>by simp at h,awD,λ j hj=> ?_,?_⟩
 ·obtain⟨d1,d2,d3⟩:=awD y hy;exact⟨h3 _ (c3.lt hy) d1 d2,λ hk=>h3 _ (c3.rlt hy hk) (d3 hk).1 (d3 hk).2⟩
 ·rw[h3 n (by omega) (by omega) (by omega),c6 n (by omega)];exact hi.frame n hn
 ·rw[aar (by simp),length_append];exact hb
 ·rw[hr];have:jX bx2 ks=jX bx1 ks:=oa λ j hj=>(c4.gB j (hold j hj)).2.2.2.1
  rw[←this];simp[jX]
 ·rcases List.mem_append.1 hj with h|h
  ·exact lt_of_lt_of_le (hold j h) c4.N
  ·rw[List.mem_singleton.1 h];exact c7
 ·rw[List.map_append,←hi.kids];congr 1
  ·exact map_congr_left λ j hj=>(c4.gB j (hold j hj)).1
  ·simp[c8]
theorem aaZ.fin(hi:aaZ x S0 up0 bx0 kr0 O done [] S1 tl bx1 kr1 ks k Q)(aF:∀x,x<S1.N->tl x<S1.N)(mr:x.iU=true)(hm:x.Kind≠11)(hb:x.Kids.length<=1048576):
  ∃S' cj ni qj r,AV.ptr (O.length+1) 1 0 0= .ptr (ni r) 1 0 0/\S'.ok/\cD S' cj ni qj Q/\pZ O.length S0 up0 bx0 kr0 S' cj ni qj/\O.length<=Q.length/\(∀n,n<O.length->Q[n]? =O[n]?)/\r<S'.N/\S'.ty r=x:=by
 have jP:=hi.all;rw[List.append_nil]at jP;have hQl:=hi.len;have hkk:x.Kids=ks.map S1.ty:=by rw[hi.kids,jP]
 have eH:ks.length=x.Kids.length:=by rw[hkk,length_map]
 let S':=S1.add x ks
 let cj:Nat->Nat:=λ y=>if y=S1.N then y else tl y
 let ni:Nat->Nat:=λ y=>if y=S1.N then O.length+1 else bx1 y
 let qj:Nat->Nat:=λ y=>if y=S1.N then k else kr1 y
 have n1:S'.ty S1.N=x:=by simp only[S',Net.add,if_true]
 have n2:S'.kids S1.N=ks:=by simp only[S',Net.add,if_true]
 have n3:cj S1.N=S1.N:=by simp only[cj,if_true]
 have n4:ni S1.N=O.length+1:=by simp only[ni,if_true]
 have n5:qj S1.N=k:=by simp only[qj,if_true]
 have o1:∀y,y<S1.N->S'.ty y=S1.ty y/\S'.kids y=S1.kids y/\cj y=tl y/\ni y=bx1 y/\qj y=kr1 y:=λ y hy=>by
  have:y≠S1.N:=by omega
  simp only[S',cj,ni,qj,Net.add,if_neg this,and_self]
 have hN:S'.N=S1.N+1:=rfl
 have hE:pZ O.length S1 tl bx1 kr1 S' cj ni qj:=⟨by omega,rfl,o1,λ y h1 h2=>by
  have:y=S1.N:=by omega
  subst this
  exact⟨n3,by unfold Net.mX;rw[n1];exact hm,by rw[n1];exact mr,by omega,λ h=>by
   rw[n2]at h;have:=(hi.row h).1;omega⟩⟩
 refine⟨S',cj,ni,qj,S1.N,by rw[n4],Net.aur hi.ok hi.asS hkk hm,⟨λ y hy=> ?_,λ y hy hk=> ?_,λ y z hy hz he=> ?_,λ y z hy hz hk=> ?_,λ y hy=> ?_⟩,hi.ext.trans hE (le_refl _),by omega,hi.frame,by omega,n1⟩
 ·by_cases e:y=S1.N
  ·subst e;rw[n4,hi.box];unfold fQ;rw[n1,po n3];have:kS S' qj S1.N=uR ks k:=by unfold kS uR;rw[n2,n5]
   rw[this]
  ·have lf:y<S1.N:=by omega
   obtain⟨e1,e2,e3,e4,e5⟩:=o1 y lf;rw[e4,hi.lay.box y lf];unfold fQ kS upC;rw[e1,e2,e3,e5,(o1 _ (aF y lf)).2.2.2.1]
 ·by_cases e:y=S1.N
  ·subst e;rw[n5,n2];rw[n2]at hk;rw[(hi.row hk).2,oa λ j hj=>(o1 j (hi.asS j hj)).2.2.2.1]
  ·have lf:y<S1.N:=by omega
   obtain⟨e1,e2,e3,e4,e5⟩:=o1 y lf;rw[e5,e2];rw[e2]at hk;rw[hi.lay.row y lf hk,oa λ j hj=>(o1 j (hi.ok.lt y lf j hj)).2.2.2.1]
 ·by_cases e:y=S1.N<;>by_cases e':z=S1.N
  ·omega
  ·subst e;rw[n4,(o1 z (by omega)).2.2.2.1]at he;exact((hi.sep z (by omega)).1 he.symm).elim
  ·subst e';rw[n4,(o1 y (by omega)).2.2.2.1]at he;exact((hi.sep y (by omega)).1 he).elim
  ·rw[(o1 y (by omega)).2.2.2.1,(o1 z (by omega)).2.2.2.1]at he;exact hi.lay.inj y z (by omega) (by omega) he
 ·by_cases e:y=S1.N<;>by_cases e':z=S1.N
  ·subst e;subst e';rw[n2]at hk;rw[n4,n5];have:=(hi.row hk).1;omega
  ·subst e;have hz':z<S1.N:=by omega
   rw[n4,(o1 z hz').2.2.2.2];rw[(o1 z hz').2.1]at hk;exact((hi.sep z hz').2.2 hk).1
  ·subst e';rw[n2]at hk;have lf:y<S1.N:=by omega
   rw[n5,(o1 y lf).2.2.2.1];exact λ h=>(hi.sep y lf).2.1 h.symm
  ·have hz':z<S1.N:=by omega
   have lf:y<S1.N:=by omega
   rw[(o1 y lf).2.2.2.1,(o1 z hz').2.2.2.2];rw[(o1 z hz').2.1]at hk;exact hi.lay.sep y z lf hz' hk
 ·by_cases e:y=S1.N
  ·subst e;rw[n2,eH];exact hb
  ·rw[(o1 y (by omega)).2.1];exact hi.lay.few y (by omega)
end
theorem mY(x:aa){S:Net}{up bx kr:Nat->Nat}{O:List ae}{lb lr:Nat}(hs:S.ok)(hL:cD S up bx kr O)(aF:∀x,x<S.N->up x<S.N)(hI:jQ S bx lb lr O)(mr:x.iU=true)(hm:x.allM λ n=>∃j:Nat,j<S.M/\n=j)(hb:x.wt<=1048576):
  ∃S' cj ni qj O' r,hD Try.prog F.dR [x.av,.v (.int .i64 11),.fn F.dK [.ptr lb 1 0 0]] O (.ptr (ni r) 1 0 0) O'/\S'.ok/\cD S' cj ni qj O'/\pZ O.length S up bx kr S' cj ni qj/\O.length<=O'.length/\(∀n,n<O.length->O'[n]? =O[n]?)/\r<S'.N/\S'.ty r=x:=by
 have hw:=x.bg
 have key:∃res O',(∃S' cj ni qj r,res= .ptr (ni r) 1 0 0/\S'.ok/\cD S' cj ni qj O'/\pZ O.length S up bx kr S' cj ni qj/\O.length<=O'.length/\(∀n,n<O.length->O'[n]? =O[n]?)/\r<S'.N/\S'.ty r=x)/\hD Try.prog F.dR [x.av,.v (.int .i64 11),.fn F.dK [.ptr lb 1 0 0]] O res O':=by
  refine pQ A.x5 rfl ?_;rw[←aa.eta x];by_cases hk:x.Kind=11
  ·obtain⟨h1,h2,j,hj,h3⟩:=aa.mS hm hk;have d:decide (x.Kind=11)=true:=decide_eq_true hk;simp only[A.dR,↓OD,OA,reduceEqDiff,reduceCtorEq,reduceAdd,reduceLT,reduceLeDiff,reduceIte];simp only[tj,d,h3,↓OD,OA,reduceEqDiff,reduceCtorEq,reduceAdd,reduceLT,reduceLeDiff,reduceIte];refine bj _ _ (ye (up:=up) (kr:=kr) (hI.same (.app _ _)) hj) ?_;simp only[↓OD,OA,reduceEqDiff,reduceCtorEq,reduceAdd,reduceLT,reduceLeDiff,reduceIte];refine ck (.inl rfl) ⟨S,up,bx,kr,j,by simp only[↓OD,OA,reduceEqDiff,reduceCtorEq,reduceAdd,reduceLT,reduceLeDiff,reduceIte],hs,hL.app _,.refl,by simp,λ n hn=>al hn,lt_of_lt_of_le hj hs.le,?_⟩;rw[(hs.qJ j hj).1,x.ug,hk,h1,h2,h3];rfl
  ·have d:decide (x.Kind=11)=false:=decide_eq_false hk;simp only[A.dR,↓OD,OA,reduceEqDiff,reduceCtorEq,reduceAdd,reduceLT,reduceLeDiff,reduceIte];simp only[tj,d,↓OD,OA,reduceEqDiff,reduceCtorEq,reduceAdd,reduceLT,reduceLeDiff,reduceIte];simp only[tj,ag1,d,List.append_assoc,List.cons_append,List.nil_append,↓OD,OA,reduceEqDiff,reduceCtorEq,reduceAdd,reduceLT,reduceLeDiff,reduceIte]
   refine cR (ι:=List aa×List aa×Net×(Nat->Nat)×(Nat->Nat)×(Nat->Nat)×List Nat×Nat×List ae)
    (λ q=>aaZ x S up bx kr O q.1 q.2.1 q.2.2.1 q.2.2.2.1 q.2.2.2.2.1 q.2.2.2.2.2.1 q.2.2.2.2.2.2.1 q.2.2.2.2.2.2.2.1 q.2.2.2.2.2.2.2.2)
    (λ q=>pc [(1,.v (.int .i64 11)),(2,.fn F.dK [.ptr lb 1 0 0]),(7,.ptr (O.length+1) 1 0 0),(27,.sl (x.Kids.map aa.av)),(28,.v (.int .i64 (x.Kids.length:Int))),(29,.v (.int .i64 (q.1.length:Int)))])
    (λ q=>q.2.2.2.2.2.2.2.2) (λ q=>q.2.1.length) ([],x.Kids,S,up,bx,kr,[],O.length+1,_) ?_ (.of_eq (by simp) rfl) ?_
   ·exact⟨rfl,hs,hL.app _,.refl,by simp,λ n hn=>al hn,ag1,λ h=>(h rfl).elim,λ _=>rfl,λ y hy=>⟨by have:=hL.lt hy;dsimp only;omega,by have:=hL.lt hy;dsimp only;omega,λ hk=>⟨by have:=hL.rlt hy hk;dsimp only;omega,by have:=hL.rlt hy hk;dsimp only;omega⟩⟩,λ j hj=>by simp at hj,rfl⟩
   rintro⟨done,rest,S1,tl,bx1,kr1,ks,k,Q⟩ hi;simp only at hi;have hlen:done.length+rest.length=x.Kids.length:=by rw[←hi.all,length_append]
   have hkl:ks.length=done.length:=by rw[←hi.kids,length_map]
   simp only[↓OD,OA,reduceEqDiff,reduceCtorEq,reduceAdd,reduceLT,reduceLeDiff,reduceIte];refine aed (λ hc=> ?_) (λ hc=> ?_)
   ·cases rest with
    |nil=>simp at hc hlen;omega
    |cons t r=>
    have nK:t∈x.Kids:=by rw[←hi.all];simp
    have hkw:=ca aa.wt nK;have oq:done.length<x.Kids.length:=by simp at hlen;omega
    have hg:(x.Kids.map aa.av).getD done.length .top=t.av:=by rw[←hi.all,List.map_append,map_cons];exact wh (by simp)
    have hI1:jQ S1 bx1 lb lr Q:=hI.ext hs hi.ext hi.frame;have azG:t.iU=true:=wg mr nK;have hmt:t.allM λ n=>∃j:Nat,j<S1.M/\n=j:=by rw[hi.ext.M];exact aa.j8 hm t nK
    have hQl:=hi.len;obtain⟨S2,y5,bx2,kr2,O2,rr,c1,c2,c3,c4,c5,c6,c7,c8⟩:=mY t (O:=Q++ [.live 29 4 [t.av]]) hi.ok (hi.lay.app _) (hi.ext.lt aF) (hI1.same (.app _ _)) azG hmt (by omega);have c6':∀n,n<Q.length->O2[n]? =Q[n]? :=λ n hn=>by rw[c6 n (by simp;omega),al hn]
    have ou:=hi.box;have yu:O2[O.length+1]? =some (.live 66 5 [.agg [aA x.Kind,aA x.N,ch x.Name,uR ks k,.v (.pointer none)]]):=by rw[c6' _ (by omega)];exact ou
    simp only[Int.toNat_natCast,length_map,hg,aa.width,aa.isAgg,aa.storable,↓OD,OA,reduceEqDiff,reduceCtorEq,reduceAdd,reduceLT,reduceLeDiff,reduceIte];refine⟨by omega,by omega,?_⟩;simp only[tj,as0,aa.width,aa.isAgg,aa.storable,↓OD,OA,reduceEqDiff,reduceCtorEq,reduceAdd,reduceLT,reduceLeDiff,reduceIte];refine aea (al:=[⟨none,(some 33),.bc (.t 7)⟩,⟨none,(some 34),.bc (.t 7)⟩,⟨none,(some 35),.ef (.t 34)⟩,⟨none,(some 36),.bX 3 (.t 35)⟩,⟨none,(some 37),.load none (.t 36)⟩,⟨none,(some 38),.load (some 4) (.t 9)⟩,⟨none,(some 39),.bc (.t 1)⟩,⟨none,(some 40),.bc (.t 2)⟩,⟨none,(some 41),.nn [O.length+1] F.dR [(.t 38),(.t 39),(.t 40)]⟩,⟨none,(some 42),.buildSlice 64 1 1 (.v (.pointer none)) [(0,(.t 41))]⟩,⟨none,(some 43),.app 64 1 8 (.t 37) (.t 42)⟩,⟨none,(some 44),.ef (.t 33)⟩,⟨none,(some 45),.bX 3 (.t 44)⟩,⟨none,none,.store 1 (.t 45) (.t 43)⟩]) rfl ?_;have amA:(Q++ [.live 29 4 [t.av]])[O.length+1]? =some (.live 66 5 [.agg [aA x.Kind,aA x.N,ch x.Name,uR ks k,.v (.pointer none)]]):=by rw[al (by omega)];exact ou
    simp only[aA,ch]at amA yu;simp only[amA,tj,aa.width,aa.isAgg,aa.storable,↓OD,OA,reduceEqDiff,reduceCtorEq,reduceAdd,reduceLT,reduceLeDiff,reduceIte];refine nX c1 (λ n hn=>by rw[List.mem_singleton.1 hn,yu,amA]) ?_;simp only[tj,↓OD,OA,reduceEqDiff,reduceCtorEq,reduceAdd,reduceLT,reduceLeDiff,reduceIte];refine⟨λ y hy=>by rw[List.mem_singleton.1 hy];rfl,?_⟩
    have hb3:∀E:List ae,(O2++E)[O.length+1]? =some (.live 66 5 [.agg [aA x.Kind,aA x.N,ch x.Name,uR ks k,.v (.pointer none)]]):=λ E=>by
     have:Q.length<O2.length:=by have:=c5;simp at this;omega
     rw[al (by omega)];exact yu
    simp only[aA,ch]at hb3;by_cases hks:ks= []
    ·subst hks;simp only[ai3]at hb3⊢;simp only[uI,hb3,↓OD,OA,reduceEqDiff,reduceCtorEq,reduceAdd,reduceLT,reduceLeDiff,reduceIte];refine⟨by decide,by decide,?_⟩;refine⟨λ h=>h.elim,λ _=> ?_⟩;simp only[hb3,List.append_assoc,List.cons_append,List.nil_append,↓OD,OA,reduceEqDiff,reduceCtorEq,reduceAdd,reduceLT,reduceLeDiff,reduceIte];have hQ2:Q.length<O2.length:=by have:=c5;simp at this;omega
     refine⟨mh (λ n=>[O.length+1,O2.length,Q.length].getD n 0) 3 [⟨[],.fP⟩,⟨[],.fP⟩,⟨[0],.fP⟩,⟨[0],.fP⟩,⟨[0],.fP⟩,⟨[2],.fP⟩,⟨[],.fP⟩,⟨[],.fP⟩,⟨[],.yT [0]⟩,⟨[],.push 1⟩,⟨[],.any⟩,⟨[0],.fP⟩,⟨[0],.fP⟩,⟨[0],.set 0⟩] (by kernel_rfl) (by kernel_rfl) (λ a b ha hb h=> ?_) (by kernel_rfl),?_⟩
     ·match a,b,ha,hb with
      |0,0,_,_|1,1,_,_|2,2,_,_=>rfl
      |0,1,_,_|0,2,_,_|1,0,_,_|1,2,_,_|2,0,_,_|2,1,_,_=>simp at h;omega
     have hO3:∀(v:ae) (E:List ae) (n:Nat),n<O2.length->n≠O.length+1->((O2++E).set (O.length+1) v)[n]? =O2[n]? :=λ v E n hn bB=>by rw[getElem?_set_ne (λ e=>bB e.symm),al hn]
     refine b6 (done++ [t],r,S2,y5,bx2,kr2,[rr],O2.length+1,_) (hi.step (q:=Q.length+1) (k':=O2.length+1) c2 c3 (by omega) (by simpa using c4) (by omega) c6' c7 c8 (λ _=>by omega) (λ h=>(h rfl).elim) (λ n hn bB _=>hO3 _ _ n hn bB) ?_ ?_ ?_) ?_ (.of_eq ?_ rfl)
     ·simp
     ·exact List.getElem?_set_self (by simp;omega)
     ·rw[getElem?_set_ne (by omega)];exact ag1
     ·show r.length<(t::r).length;simp
     ·rw[bm (by omega) (by omega),length_append];rfl
    ·rw[aar hks]at hb3⊢;obtain⟨g1,g2⟩:=hi.row hks;have hkQ:=(List.getElem?_eq_some_iff.1 g2).1
     have hr3:∀E:List ae,(O2++E)[k]? =some (.live 64 1 (jX bx1 ks)):=λ E=>by
      have:Q.length<O2.length:=by have:=c5;simp at this;omega
      rw[al (by omega),c6' k hkQ];exact g2
     have hb4:∀(E:List ae) (v:ae),((O2++E).set k v)[O.length+1]? =(O2++E)[O.length+1]? :=λ E v=>getElem?_set_ne (by omega)
     simp only[hr3,cZ,↓OD,OA,reduceEqDiff,reduceCtorEq,reduceAdd,reduceLT,reduceLeDiff,reduceIte]
     refine⟨by omega,by have:maxLen=9223372036854775807:=rfl
                        omega,?_⟩
     simp only[hb4,hb3,↓OD,OA,reduceEqDiff,reduceCtorEq,reduceAdd,reduceLT,reduceLeDiff,reduceIte];have hQ2:Q.length<O2.length:=by have:=c5;simp at this;omega
     refine⟨mh (λ n=>[O.length+1,O2.length,Q.length,k].getD n 0) 4 [⟨[],.fP⟩,⟨[],.fP⟩,⟨[0],.fP⟩,⟨[0],.fP⟩,⟨[0],.fP⟩,⟨[2],.fP⟩,⟨[],.fP⟩,⟨[],.fP⟩,⟨[],.yT [0]⟩,⟨[],.push 1⟩,⟨[3,1],.set 3⟩,⟨[0],.fP⟩,⟨[0],.fP⟩,⟨[0],.set 0⟩] (by kernel_rfl) (by kernel_rfl) (λ a b ha hb h=> ?_) (by kernel_rfl),?_⟩
     ·match a,b,ha,hb with
      |0,0,_,_|1,1,_,_|2,2,_,_|3,3,_,_=>rfl
      |0,1,_,_|0,2,_,_|0,3,_,_|1,0,_,_|1,2,_,_|1,3,_,_|2,0,_,_|2,1,_,_|2,3,_,_|3,0,_,_|3,1,_,_|3,2,_,_=>simp at h;omega
     have hO3:∀(v w:ae) (E:List ae) (n:Nat),n<O2.length->n≠O.length+1->n≠k->(((O2++E).set k w).set (O.length+1) v)[n]? =O2[n]? :=λ v w E n hn bB oS=>by rw[getElem?_set_ne (λ e=>bB e.symm),getElem?_set_ne (λ e=>oS e.symm),al hn]
     refine b6 (done++ [t],r,S2,y5,bx2,kr2,ks++ [rr],k,_) (hi.step (q:=Q.length+1) (k':=k) c2 c3 (by omega) (by simpa using c4) (by omega) c6' c7 c8 (λ h=>(hks h).elim) (λ _=>rfl) (λ n hn bB oS=>hO3 _ _ _ n hn bB oS) ?_ ?_ ?_) ?_ (.of_eq ?_ rfl)
     ·simp
     ·exact List.getElem?_set_self (by simp;omega)
     ·rw[getElem?_set_ne (by omega)];exact List.getElem?_set_self (by simp;omega)
     ·show r.length<(t::r).length;simp
     ·rw[bm (by omega) (by omega),length_append];rfl
   ·have pd:rest= []:=by
      cases rest with
      |nil=>rfl
      |cons k r=>simp at hc hlen;omega
    subst pd;simp only[↓OD,OA,reduceEqDiff,reduceCtorEq,reduceAdd,reduceLT,reduceLeDiff,reduceIte];exact ck (.inl rfl) (by simp only[↓OD,OA,reduceEqDiff,reduceCtorEq,reduceAdd,reduceLT,reduceLeDiff,reduceIte];exact hi.fin (hi.ext.lt aF) mr hk (by omega))
 obtain⟨res,O',⟨S',cj,ni,qj,r,rfl,h⟩,hc⟩:=key;exact⟨S',cj,ni,qj,O',r,hc,h⟩
termination_by SizeOf.sizeOf x
decreasing_by exact aa.cP nK
end Go.Proofs.Ab
