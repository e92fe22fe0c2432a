/-
  Unify of the program: nodes of types.
-/
import Derived.Test.YtfebhekplhjigaaWUni2
open Nat(le_refl lt_of_lt_of_le)
open Bool(and_eq_true)
open List(all_cons map_cons length_map map_congr_left length_append getElem?_set_ne)
open Nat(reduceEqDiff reduceLeDiff reduceAdd reduceLT reduceMul)
set_option linter.unusedVariables false
set_option linter.unusedSimpArgs false
namespace Go.Ab
set_option maxRecDepth 100000
def EK.bj(s:Nat->Nat):EK->EK
 | .cu=> .cu
 | .set n=> .set (s n)
 | .push n=> .push (s n)
 | .any=> .any
 | .zC kp=> .zC (kp.map s)
def iD.bj(s:Nat->Nat)(l:iD):iD:=⟨l.rd.map s,l.k.bj s⟩
def EK.under(k:Nat):EK->Bool
 | .set n=>decide (n<k)
 | .push n=>decide (n<k)
 | .zC kp=>kp.all λ n=>decide (n<k)
 |_=>true
def iD.under(k:Nat)(l:iD):Bool:=l.rd.all (λ n=>decide (n<k))&&l.k.under k
theorem nd{s:Nat->Nat}{k:Nat}(hs:∀a b,a<k->b<k->s a=s b->a=b){n:Nat}(hn:n<k):∀{l:List Nat},(l.all λ m=>decide (m<k))=true->(l.map s).contains (s n)=l.contains n
 | [],_=>rfl
 |m::l,h=>by
  simp only[all_cons,and_eq_true,decide_eq_true_eq]at h;rw[map_cons,List.contains_cons,List.contains_cons,nd hs hn (by simpa using h.2)];congr 1;by_cases e:n=m
  ·subst e;simp
  ·have:s n≠s m:=λ e'=>e (hs n m hn h.1 e')
   rw[beq_eq_false_iff_ne.2 this,beq_eq_false_iff_ne.2 e]
theorem agy{s:Nat->Nat}{k:Nat}(hs:∀a b,a<k->b<k->s a=s b->a=b){kp:List Nat}(hk:(kp.all λ n=>decide (n<k))=true){l:iD}(hl:l.under k=true):(l.bj s).pure (kp.map s)=l.pure kp:=by
 unfold iD.under at hl;rw[and_eq_true]at hl;unfold iD.pure iD.bj;congr 1
 ·have:∀l:List Nat,(l.all λ n=>decide (n<k))=true->(l.map s).all (λ n=>(kp.map s).contains n)=l.all λ n=>kp.contains n:=by
    intro l
    induction l with
    |nil=>intro _;rfl
    |cons n l ih=>
     intro h;simp only[all_cons,and_eq_true,decide_eq_true_eq]at h;rw[map_cons,all_cons,all_cons,ih h.2,nd hs h.1 hk]
  exact this _ hl.1
 ·cases l.k<;>rfl
theorem ahn{s:Nat->Nat}{k:Nat}(hs:∀a b,a<k->b<k->s a=s b->a=b){rd:List Nat}(hr:(rd.all λ n=>decide (n<k))=true){e:EK}(he:e.under k=true):(e.bj s).tb (rd.map s)=e.tb rd:=by
 cases e<;>simp only[EK.bj,EK.tb,EK.under,decide_eq_true_eq]at he⊢
 ·exact nd hs he hr
 ·exact nd hs he hr
theorem aiH{s:Nat->Nat}{k:Nat}(hs:∀a b,a<k->b<k->s a=s b->a=b){p i:iD}(hp:p.under k=true)(hi:i.under k=true):xF (p.bj s) (i.bj s)=xF p i:=by
 have e1:∀l:iD,(l.bj s).k.isAny=l.k.isAny:=λ l=>by obtain⟨_,e⟩:=l;cases e<;>rfl
 have e2:∀l:iD,(l.bj s).k.gf=l.k.gf:=λ l=>by obtain⟨_,e⟩:=l;cases e<;>rfl
 have e3:∀l:iD,(l.bj s).k.keeps=l.k.keeps.map s:=λ l=>by obtain⟨_,e⟩:=l;cases e<;>rfl
 have e4:∀l:iD,l.under k=true->(l.k.keeps.all λ n=>decide (n<k))=true:=λ l h=>by
  unfold iD.under at h;rw[and_eq_true]at h;obtain⟨_,e⟩:=l;cases e<;>first|rfl|exact h.2
 have u1:∀l:iD,l.under k=true->(l.rd.all λ n=>decide (n<k))=true/\l.k.under k=true:=λ l h=>by unfold iD.under at h;rwa [and_eq_true]at h
 unfold xF;rw[e1,e1,e2,e2,e3,e3,agy hs (e4 _ hp) hi,agy hs (e4 _ hi) hp];have h1:(p.bj s).k.tb (i.bj s).rd=p.k.tb i.rd:=ahn hs (u1 _ hi).1 (u1 _ hp).2;have h2:(i.bj s).k.tb (p.bj s).rd=i.k.tb p.rd:=ahn hs (u1 _ hp).1 (u1 _ hi).2;rw[h1,h2]
theorem fp{rows:List (List Nat)}{ops:List aH}{iM:List iD}(s:Nat->Nat)(k:Nat)(abg:List iD)(hl:iM=abg.map (iD.bj s))(hu:(abg.all λ l=>l.under k)=true)(hs:∀a b,a<k->b<k->s a=s b->a=b)(h:iR rows (ops.zip abg)=true):iR rows (ops.zip iM)=true:=by
 subst hl;rw[←h];have hz:ops.zip (abg.map (iD.bj s))=(ops.zip abg).map λ x=>(x.1,x.2.bj s):=by rw[List.zip_map_right];rfl
 have hin:∀x∈ops.zip abg,x.2.under k=true:=λ x hx=>List.all_eq_true.1 hu _ (List.of_mem_zip hx).2
 rw[hz];generalize ops.zip abg=al at hin;unfold iR;rw[length_map]
 have ahg:∀p i:Nat,(match(al.map λ x=>(x.1,x.2.bj s))[p]?,(al.map λ x=>(x.1,x.2.bj s))[i]? with|some x,some y=>n9 x y|_,_=>false)=(match al[p]?,al[i]? with|some x,some y=>n9 x y|_,_=>false):=by
  intro p i;rw[List.getElem?_map,List.getElem?_map];cases hp:al[p]? with
  |none=>rfl
  |some x=>
   cases hi:al[i]? with
   |none=>rfl
   |some y=>
    show n9 (x.1,x.2.bj s) (y.1,y.2.bj s)=n9 x y;unfold n9;simp only;rw[aiH hs (hin x (List.mem_of_getElem? hp)) (hin y (List.mem_of_getElem? hi))]
 exact congrArg (λ f=>(List.range al.length).all f) (funext λ i=>congrArg (λ b=>((rows.getD i []).all λ x=>decide (x<i))&&b) (congrArg (λ f=>(List.range i).all f) (funext λ p=>congrArg (λ b=>((zz rows al.length).getD i 0).testBit p||b) (ahg p i))))
structure tq(b:Nat)(S:Net)(up bx kr:Nat->Nat)(S':Net)(bh pM tP:Nat->Nat):Prop where
 N:S.N<=S'.N
 M:S'.M=S.M
 fk:∀x,x<S.N->S'.ty x=S.ty x/\S'.kids x=S.kids x/\bh x=up x/\pM x=bx x/\tP x=kr x
 new:∀x,S.N<=x->x<S'.N->bh x=x/\¬S'.mq x/\(S'.ty x).mO=true/\b<=pM x/\(S'.kids x≠[]->b<=tP x)
theorem tq.refl{b:Nat}{S:Net}{up bx kr:Nat->Nat}:tq b S up bx kr S up bx kr:=⟨le_refl _,rfl,λ _ _=>⟨rfl,rfl,rfl,rfl,rfl⟩,λ x h k=>by omega⟩
theorem tq.trans{b c:Nat}{S S' S'':Net}{up bx kr bh pM tP aga azq axW:Nat->Nat}(h:tq b S up bx kr S' bh pM tP)(k:tq c S' bh pM tP S'' aga azq axW)(hbc:b<=c):tq b S up bx kr S'' aga azq axW:=by
 refine⟨Nat.le_trans h.N k.N,k.M.trans h.M,λ x hx=> ?_,λ x h1 h2=> ?_⟩
 ·obtain⟨a1,a2,a3,a4,a5⟩:=h.fk x hx;obtain⟨b1,b2,b3,b4,b5⟩:=k.fk x (lt_of_lt_of_le hx h.N);exact⟨b1.trans a1,b2.trans a2,b3.trans a3,b4.trans a4,b5.trans a5⟩
 ·by_cases hx:x<S'.N
  ·obtain⟨a1,a2,a3,a4,a5⟩:=h.new x h1 hx;obtain⟨b1,b2,b3,b4,b5⟩:=k.fk x hx;exact⟨b3.trans a1,by unfold Net.mq at a2⊢;rwa [b1],by rwa [b1],by rwa [b4],λ hk=>by rw[b5];exact a5 (by rwa [b2]at hk)⟩
  ·obtain⟨a1,a2,a3,a4,a5⟩:=k.new x (by omega) h2;exact⟨a1,a2,a3,by omega,λ hk=>by have:=a5 hk;omega⟩
theorem tq.lt{b:Nat}{S S':Net}{up bx kr bh pM tP:Nat->Nat}(h:tq b S up bx kr S' bh pM tP)(aw:∀x,x<S.N->up x<S.N):∀x,x<S'.N->bh x<S'.N:=λ x hx=>by
 by_cases sZ:x<S.N
 ·rw[(h.fk x sZ).2.2.1];exact lt_of_lt_of_le (aw x sZ) h.N
 ·rw[(h.new x (by omega) hx).1];exact hx
theorem kh{α:Type}{A B:List α}{a:α}:(A++a::B)[A.length]? =some a:=by rw[List.getElem?_append_right (le_refl _),Nat.sub_self];rfl
theorem uu{α:Type}{A B:List α}{a b:α}:(A++a::b::B)[A.length+1]? =some b:=by rw[List.getElem?_append_right (by omega),Nat.add_sub_cancel_left];rfl
theorem as0{α:Type}{A B:List α}{a z:α}:(A++a::B).set A.length z=A++z::B:=by simp
theorem al{α:Type}{A B:List α}{n:Nat}(h:n<A.length):(A++B)[n]? =A[n]? :=List.getElem?_append_left h
theorem ad.akK{Q:Int->Prop}{x:ad}(h:x.allM Q)(hk:x.Kind=11):x.Name=⟨#[]⟩/\x.Kids= []/\Q x.N:=by
 rw[x.vI]at h;exact h.1 hk
theorem ad.ael{Q:Int->Prop}{x:ad}(h:x.allM Q):∀y∈x.Kids,y.allM Q:=by
 rw[x.vI]at h;exact(ad.uq Q _).1 h.2
def Net.add(S:Net)(t:ad)(ks:List Nat):Net:=⟨S.N+1,S.M,λ x=>if x=S.N then t else S.ty x,λ x=>if x=S.N then ks else S.kids x⟩
theorem Net.aqc{S:Net}(h:S.ok){t:ad}{ks:List Nat}(hk:∀k∈ks,k<S.N)(ht:t.Kids=ks.map S.ty)(hm:t.Kind≠11):(S.add t ks).ok:=by
 refine⟨Nat.le_succ_of_le h.le,λ x hx k hkx=> ?_,λ x hx=> ?_,λ k pr=> ?_,λ x hx hxm=> ?_⟩
 ·by_cases e:x=S.N
  ·simp only[Net.add,e,if_true]at hkx⊢;have:=hk k hkx;omega
  ·simp only[Net.add,if_neg e]at hkx hx⊢;have:=h.lt x (by omega) k hkx;omega
 ·have bk:∀k,k<S.N->(S.add t ks).ty k=S.ty k:=λ k hk=>by simp only[Net.add];rw[if_neg (by omega)]
  by_cases e:x=S.N
  ·have e1:(S.add t ks).ty x=t:=by simp only[Net.add,e,if_true]
   have e2:(S.add t ks).kids x=ks:=by simp only[Net.add,e,if_true]
   rw[e1,e2,ht];exact map_congr_left λ k pr=>(bk k (hk k pr)).symm
  ·have iy:x<S.N:=by simp only[Net.add]at hx;omega
   have e2:(S.add t ks).kids x=S.kids x:=by simp only[Net.add];rw[if_neg e]
   rw[bk x iy,e2,h.abl x iy];exact map_congr_left λ k pr=>(bk k (h.lt x iy k pr)).symm
 ·have:k≠S.N:=by have:=h.le;simp only[Net.add]at pr;omega
  simp only[Net.add,if_neg this];exact h.pj k pr
 ·by_cases e:x=S.N
  ·unfold Net.mq at hxm;simp only[Net.add,e,if_true]at hxm;exact(hm hxm).elim
  ·unfold Net.mq at hxm;simp only[Net.add,if_neg e]at hxm hx⊢;exact h.isMeta x (by omega) hxm
end Go.Ab
namespace Go.Proofs.Ab
open Go.Ab
set_option maxRecDepth 100000
set_option maxHeartbeats 4000000
structure kW(S:Net)(bx:Nat->Nat)(lb lr:Nat)(O:List aa):Prop where
 box:O[lb]? =some (.live 63 1 [.row lr S.M])
 row:O[lr]? =some (.live 64 1 (lg bx (List.range S.M)))
 sep:∀x,x<S.N->lb≠bx x/\lr≠bx x
theorem kW.same{S:Net}{bx:Nat->Nat}{lb lr:Nat}{O O':List aa}(h:kW S bx lb lr O)(k:kM S bx O O'):kW S bx lb lr O':=by
 have h1:=(List.getElem?_eq_some_iff.1 h.box).1;have h2:=(List.getElem?_eq_some_iff.1 h.row).1;exact⟨by rw[k.2 _ h1 λ x hx=>(h.sep x hx).1];exact h.box,by rw[k.2 _ h2 λ x hx=>(h.sep x hx).2];exact h.row,h.sep⟩
theorem qS{bx pM:Nat->Nat}:∀{l:List Nat},(∀k∈l,pM k=bx k)->lg pM l=lg bx l:=λ h=>map_congr_left λ k hk=>by rw[h k hk]
theorem ca.move{S:Net}{up bx kr:Nat->Nat}{O O':List aa}(h:ca S up bx kr O)(k:∀x,x<S.N->O'[bx x]? =O[bx x]? /\(S.kids x≠[]->O'[kr x]? =O[kr x]?)):ca S up bx kr O':=
 ⟨λ x hx=>by rw[(k x hx).1];exact h.box x hx,λ x hx hk=>by rw[(k x hx).2 hk];exact h.row x hx hk,h.inj,h.sep,h.few⟩
theorem ca.rlt{S:Net}{up bx kr:Nat->Nat}{O:List aa}(h:ca S up bx kr O){x:Nat}(hx:x<S.N)(hk:S.kids x≠[]):kr x<O.length:=(List.getElem?_eq_some_iff.1 (h.row x hx hk)).1
theorem ca.app{S:Net}{up bx kr:Nat->Nat}{O:List aa}(h:ca S up bx kr O)(E:List aa):ca S up bx kr (O++E):=
 h.move λ x hx=>⟨al (h.lt hx),λ hk=>al (h.rlt hx hk)⟩
theorem kM.app{S:Net}{bx:Nat->Nat}(O E:List aa):kM S bx O (O++E):=⟨by simp,λ n hn _=>al hn⟩
theorem kW.ext{S S':Net}{up bx kr bh pM tP:Nat->Nat}{lb lr:Nat}{O O':List aa}(hs:S.ok)(h:kW S bx lb lr O)(k:tq O.length S up bx kr S' bh pM tP)(ho:∀n,n<O.length->O'[n]? =O[n]?):kW S' pM lb lr O':=by
 have h1:=(List.getElem?_eq_some_iff.1 h.box).1;have h2:=(List.getElem?_eq_some_iff.1 h.row).1
 refine⟨by rw[ho _ h1,k.M];exact h.box,by
  rw[ho _ h2,k.M,qS (pM:=pM) (bx:=bx) λ z hz=>(k.fk z (lt_of_lt_of_le (List.mem_range.1 hz) hs.le)).2.2.2.1];exact h.row,λ x hx=> ?_⟩
 by_cases sZ:x<S.N
 ·rw[(k.fk x sZ).2.2.2.1];exact h.sep x sZ
 ·have:=(k.new x (by omega) hx).2.2.2.1;omega
theorem abA{S:Net}{up bx kr:Nat->Nat}{lb lr:Nat}{O:List aa}(h:kW S bx lb lr O){j:Nat}(hj:j<S.M):cF Try.prog F.dw [.v (.int .i64 j),.ptr lb 1 0 0] O (.ptr (bx j) 1 0 0) O:=by
 have h1:=h.box;have h2:=h.row;have hg:(List.range S.M)[j]? =some j:=by rw[List.getElem?_eq_getElem (by simpa using hj)];simp
 refine cY A.zm rfl ?_;simp only[A.dw,h1,h2,↓OD,OA,reduceEqDiff,reduceCtorEq,reduceAdd,reduceLT,reduceLeDiff,reduceIte];have hi:((0:Int)<=(j:Int)/\(j:Int)<(S.M:Int)):=⟨by omega,by omega⟩;simp only[h2,hi,cG,iK hg,List.length_range,Int.toNat_natCast,AV.cells,↓OD,OA,reduceEqDiff,reduceCtorEq,reduceAdd,reduceLT,reduceLeDiff,reduceIte];exact⟨hj,mf (.inl rfl) (by simp only[↓OD,OA,reduceEqDiff,reduceCtorEq,reduceAdd,reduceLT,reduceLeDiff,reduceIte])⟩
def yF(ks:List Nat)(k:Nat):AV:=if ks= []then .aA else .row k ks.length
theorem akd{x y:ad}(h:x.mO=true)(hy:y∈x.Kids):y.mO=true:=by
 rw[ad.qU,and_eq_true,List.all_eq_true]at h;exact h.2 y hy
theorem alP(k:Nat):yF [] k= .aA:=if_pos rfl
theorem adS{ks:List Nat}(h:ks≠[])(k:Nat):yF ks k= .row k ks.length:=if_neg h
structure aen(x:ad)(S0:Net)(up0 bx0 kr0:Nat->Nat)(O:List aa)(done rest:List ad)(S:Net)(up bx kr:Nat->Nat)(ks:List Nat)(k:Nat)(Q:List aa):Prop where
 all:done++rest=x.Kids
 ok:S.ok
 lay:ca S up bx kr Q
 ext:tq O.length S0 up0 bx0 kr0 S up bx kr
 len:O.length+2<=Q.length
 frame:∀n,n<O.length->Q[n]? =O[n]?
 box:Q[O.length+1]? =some (.live 66 5 [.agg [aO x.Kind,aO x.N,cv x.Name,yF ks k,.v (.pointer none)]])
 row:ks≠[]->O.length+1<k/\Q[k]? =some (.live 64 1 (lg bx ks))
 nok:ks= []->k=O.length+1
 sep:∀y,y<S.N->bx y≠O.length+1/\bx y≠k/\(S.kids y≠[]->kr y≠O.length+1/\kr y≠k)
 aiU:∀j∈ks,j<S.N
 kids:ks.map S.ty=done
section
variable {x:ad} {S0:Net} {up0 bx0 kr0:Nat->Nat} {O:List aa} {done rest:List ad} {S1:Net} {u7 bx1 kr1:Nat->Nat} {ks:List Nat} {k:Nat} {Q:List aa}
theorem aen.step{t:ad}(hi:aen x S0 up0 bx0 kr0 O done (t::rest) S1 u7 bx1 kr1 ks k Q){S2:Net}{xi bx2 kr2:Nat->Nat}{O2 O3:List aa}{rr k' q:Nat}(c2:S2.ok)(c3:ca S2 xi bx2 kr2 O2)(hq:Q.length<=q)(c4:tq q S1 u7 bx1 kr1 S2 xi bx2 kr2)(c5:q<=O2.length)(c6:∀n,n<Q.length->O2[n]? =Q[n]?)(c7:rr<S2.N)(c8:S2.ty rr=t)
  (k1:ks= []->O2.length<=k') (k2:ks≠[]->k'=k) (h3:∀n,n<O2.length->n≠O.length+1->n≠k'->O3[n]? =O2[n]?) (hl:O2.length<=O3.length)
  (hb:O3[O.length+1]? =some (.live 66 5 [.agg [aO x.Kind,aO x.N,cv x.Name,.row k' (ks.length+1),.v (.pointer none)]])) (hr:O3[k']? =some (.live 64 1 (lg bx1 ks++ [.ptr (bx2 rr) 1 0 0]))):
  aen x S0 up0 bx0 kr0 O (done++ [t]) rest S2 xi bx2 kr2 (ks++ [rr]) k' O3:=by
 have hQl:=hi.len
 have pr:O.length+1<k':=by
  by_cases h:ks= []
  ·have:=k1 h;omega
  ·rw[k2 h];exact(hi.row h).1
 have afr:∀y,y<S2.N->bx2 y≠O.length+1/\bx2 y≠k'/\(S2.kids y≠[]->kr2 y≠O.length+1/\kr2 y≠k'):=λ y hy=>by
  by_cases hyn:y<S1.N
  ·obtain⟨d1,d2,d3⟩:=hi.sep y hyn;obtain⟨e1,e2,e3,e4,e5⟩:=c4.fk y hyn;rw[e4,e5,e2];have g1:=hi.lay.lt hyn;by_cases h:ks= []
   ·have:=k1 h;exact⟨d1,by omega,λ hk=>⟨(d3 hk).1,by have:=hi.lay.rlt hyn hk;omega⟩⟩
   ·rw[k2 h];exact⟨d1,d2,d3⟩
  ·obtain⟨e1,e2,e3,e4,e5⟩:=c4.new y (by omega) hy;have g1:=c3.lt hy;by_cases h:ks= []
   ·have:=k1 h;exact⟨by omega,by omega,λ hk=>⟨by have:=e5 hk;omega,by have:=c3.rlt hy hk;omega⟩⟩
   ·have:=(List.getElem?_eq_some_iff.1 (hi.row h).2).1;rw[k2 h];exact⟨by omega,by omega,λ hk=>⟨by have:=e5 hk;omega,by have:=e5 hk;omega⟩⟩
 have hold:∀j∈ks,j<S1.N:=hi.aiU;refine⟨by rw[List.append_assoc];exact hi.all,c2,c3.move λ y hy=> ?_,hi.ext.trans c4 (by omega),by omega,λ n hn=> ?_,?_,λ _=>⟨pr,?_⟩,λ h=>by simp at h,afr,λ j hj=> ?_,?_⟩
 ·obtain⟨d1,d2,d3⟩:=afr y hy;exact⟨h3 _ (c3.lt hy) d1 d2,λ hk=>h3 _ (c3.rlt hy hk) (d3 hk).1 (d3 hk).2⟩
 ·rw[h3 n (by omega) (by omega) (by omega),c6 n (by omega)];exact hi.frame n hn
 ·rw[adS (by simp),length_append];exact hb
 ·rw[hr];have:lg bx2 ks=lg bx1 ks:=qS λ j hj=>(c4.fk j (hold j hj)).2.2.2.1
  rw[←this];simp[lg]
 ·rcases List.mem_append.1 hj with h|h
  ·exact lt_of_lt_of_le (hold j h) c4.N
  ·rw[List.mem_singleton.1 h];exact c7
 ·rw[List.map_append,←hi.kids];congr 1
  ·exact map_congr_left λ j hj=>(c4.fk j (hold j hj)).1
  ·simp[c8]
theorem aen.fin(hi:aen x S0 up0 bx0 kr0 O done [] S1 u7 bx1 kr1 ks k Q)(aw:∀x,x<S1.N->u7 x<S1.N)(oS:x.mO=true)(hm:x.Kind≠11)(hb:x.Kids.length<=1048576):
  ∃S' bh pM tP r,AV.ptr (O.length+1) 1 0 0= .ptr (pM r) 1 0 0/\S'.ok/\ca S' bh pM tP Q/\tq O.length S0 up0 bx0 kr0 S' bh pM tP/\O.length<=Q.length/\(∀n,n<O.length->Q[n]? =O[n]?)/\r<S'.N/\S'.ty r=x:=by
 have m9:=hi.all;rw[List.append_nil]at m9;have hQl:=hi.len;have zv:x.Kids=ks.map S1.ty:=by rw[hi.kids,m9]
 have eu:ks.length=x.Kids.length:=by rw[zv,length_map]
 let S':=S1.add x ks
 let bh:Nat->Nat:=λ y=>if y=S1.N then y else u7 y
 let pM:Nat->Nat:=λ y=>if y=S1.N then O.length+1 else bx1 y
 let tP:Nat->Nat:=λ y=>if y=S1.N then k else kr1 y
 have n1:S'.ty S1.N=x:=by simp only[S',Net.add,if_true]
 have n2:S'.kids S1.N=ks:=by simp only[S',Net.add,if_true]
 have n3:bh S1.N=S1.N:=by simp only[bh,if_true]
 have n4:pM S1.N=O.length+1:=by simp only[pM,if_true]
 have n5:tP S1.N=k:=by simp only[tP,if_true]
 have o1:∀y,y<S1.N->S'.ty y=S1.ty y/\S'.kids y=S1.kids y/\bh y=u7 y/\pM y=bx1 y/\tP y=kr1 y:=λ y hy=>by
  have:y≠S1.N:=by omega
  simp only[S',bh,pM,tP,Net.add,if_neg this,and_self]
 have hN:S'.N=S1.N+1:=rfl
 have hE:tq O.length S1 u7 bx1 kr1 S' bh pM tP:=⟨by omega,rfl,o1,λ y h1 h2=>by
  have:y=S1.N:=by omega
  subst this
  exact⟨n3,by unfold Net.mq;rw[n1];exact hm,by rw[n1];exact oS,by omega,λ h=>by
   rw[n2]at h;have:=(hi.row h).1;omega⟩⟩
 refine⟨S',bh,pM,tP,S1.N,by rw[n4],Net.aqc hi.ok hi.aiU zv hm,⟨λ y hy=> ?_,λ y hy hk=> ?_,λ y z hy hz he=> ?_,λ y z hy hz hk=> ?_,λ y hy=> ?_⟩,hi.ext.trans hE (le_refl _),by omega,hi.frame,by omega,n1⟩
 ·by_cases e:y=S1.N
  ·subst e;rw[n4,hi.box];unfold fM;rw[n1,sA n3];have:mF S' tP S1.N=yF ks k:=by unfold mF yF;rw[n2,n5]
   rw[this]
  ·have mR:y<S1.N:=by omega
   obtain⟨e1,e2,e3,e4,e5⟩:=o1 y mR;rw[e4,hi.lay.box y mR];unfold fM mF upC;rw[e1,e2,e3,e5,(o1 _ (aw y mR)).2.2.2.1]
 ·by_cases e:y=S1.N
  ·subst e;rw[n5,n2];rw[n2]at hk;rw[(hi.row hk).2,qS λ j hj=>(o1 j (hi.aiU j hj)).2.2.2.1]
  ·have mR:y<S1.N:=by omega
   obtain⟨e1,e2,e3,e4,e5⟩:=o1 y mR;rw[e5,e2];rw[e2]at hk;rw[hi.lay.row y mR hk,qS λ j hj=>(o1 j (hi.ok.lt y mR j hj)).2.2.2.1]
 ·by_cases e:y=S1.N<;>by_cases e':z=S1.N
  ·omega
  ·subst e;rw[n4,(o1 z (by omega)).2.2.2.1]at he;exact((hi.sep z (by omega)).1 he.symm).elim
  ·subst e';rw[n4,(o1 y (by omega)).2.2.2.1]at he;exact((hi.sep y (by omega)).1 he).elim
  ·rw[(o1 y (by omega)).2.2.2.1,(o1 z (by omega)).2.2.2.1]at he;exact hi.lay.inj y z (by omega) (by omega) he
 ·by_cases e:y=S1.N<;>by_cases e':z=S1.N
  ·subst e;subst e';rw[n2]at hk;rw[n4,n5];have:=(hi.row hk).1;omega
  ·subst e;have hz':z<S1.N:=by omega
   rw[n4,(o1 z hz').2.2.2.2];rw[(o1 z hz').2.1]at hk;exact((hi.sep z hz').2.2 hk).1
  ·subst e';rw[n2]at hk;have mR:y<S1.N:=by omega
   rw[n5,(o1 y mR).2.2.2.1];exact λ h=>(hi.sep y mR).2.1 h.symm
  ·have hz':z<S1.N:=by omega
   have mR:y<S1.N:=by omega
   rw[(o1 y mR).2.2.2.1,(o1 z hz').2.2.2.2];rw[(o1 z hz').2.1]at hk;exact hi.lay.sep y z mR hz' hk
 ·by_cases e:y=S1.N
  ·subst e;rw[n2,eu];exact hb
  ·rw[(o1 y (by omega)).2.1];exact hi.lay.few y (by omega)
end
theorem pE(x:ad){S:Net}{up bx kr:Nat->Nat}{O:List aa}{lb lr:Nat}(hs:S.ok)(hL:ca S up bx kr O)(aw:∀x,x<S.N->up x<S.N)(hI:kW S bx lb lr O)(oS:x.mO=true)(hm:x.allM λ n=>∃j:Nat,j<S.M/\n=j)(hb:x.wt<=1048576):
  ∃S' bh pM tP O' r,cF Try.prog F.dC [x.av,.v (.int .i64 11),.fn F.dw [.ptr lb 1 0 0]] O (.ptr (pM r) 1 0 0) O'/\S'.ok/\ca S' bh pM tP O'/\tq O.length S up bx kr S' bh pM tP/\O.length<=O'.length/\(∀n,n<O.length->O'[n]? =O[n]?)/\r<S'.N/\S'.ty r=x:=by
 have hw:=x.gR
 have key:∃res O',(∃S' bh pM tP r,res= .ptr (pM r) 1 0 0/\S'.ok/\ca S' bh pM tP O'/\tq O.length S up bx kr S' bh pM tP/\O.length<=O'.length/\(∀n,n<O.length->O'[n]? =O[n]?)/\r<S'.N/\S'.ty r=x)/\cF Try.prog F.dC [x.av,.v (.int .i64 11),.fn F.dw [.ptr lb 1 0 0]] O res O':=by
  refine jM A.abr rfl ?_;rw[←ad.eta x];by_cases hk:x.Kind=11
  ·obtain⟨h1,h2,j,hj,h3⟩:=ad.akK hm hk;have d:decide (x.Kind=11)=true:=decide_eq_true hk;simp only[A.dC,↓OD,OA,reduceEqDiff,reduceCtorEq,reduceAdd,reduceLT,reduceLeDiff,reduceIte];simp only[kh,d,h3,↓OD,OA,reduceEqDiff,reduceCtorEq,reduceAdd,reduceLT,reduceLeDiff,reduceIte];refine aj _ _ (abA (up:=up) (kr:=kr) (hI.same (.app _ _)) hj) ?_;simp only[↓OD,OA,reduceEqDiff,reduceCtorEq,reduceAdd,reduceLT,reduceLeDiff,reduceIte];refine aU (.inl rfl) ⟨S,up,bx,kr,j,by simp only[↓OD,OA,reduceEqDiff,reduceCtorEq,reduceAdd,reduceLT,reduceLeDiff,reduceIte],hs,hL.app _,.refl,by simp,λ n hn=>al hn,lt_of_lt_of_le hj hs.le,?_⟩;rw[(hs.pj j hj).1,x.vI,hk,h1,h2,h3];rfl
  ·have d:decide (x.Kind=11)=false:=decide_eq_false hk;simp only[A.dC,↓OD,OA,reduceEqDiff,reduceCtorEq,reduceAdd,reduceLT,reduceLeDiff,reduceIte];simp only[kh,d,↓OD,OA,reduceEqDiff,reduceCtorEq,reduceAdd,reduceLT,reduceLeDiff,reduceIte];simp only[kh,uu,d,List.append_assoc,List.cons_append,List.nil_append,↓OD,OA,reduceEqDiff,reduceCtorEq,reduceAdd,reduceLT,reduceLeDiff,reduceIte]
   refine aQ (ι:=List ad×List ad×Net×(Nat->Nat)×(Nat->Nat)×(Nat->Nat)×List Nat×Nat×List aa)
    (λ q=>aen x S up bx kr O q.1 q.2.1 q.2.2.1 q.2.2.2.1 q.2.2.2.2.1 q.2.2.2.2.2.1 q.2.2.2.2.2.2.1 q.2.2.2.2.2.2.2.1 q.2.2.2.2.2.2.2.2)
    (λ q=>iA [(1,.v (.int .i64 11)),(2,.fn F.dw [.ptr lb 1 0 0]),(7,.ptr (O.length+1) 1 0 0),(27,.sl (x.Kids.map ad.av)),(28,.v (.int .i64 (x.Kids.length:Int))),(29,.v (.int .i64 (q.1.length:Int)))])
    (λ q=>q.2.2.2.2.2.2.2.2) (λ q=>q.2.1.length) ([],x.Kids,S,up,bx,kr,[],O.length+1,_) ?_ (.of_eq (by simp) rfl) ?_
   ·exact⟨rfl,hs,hL.app _,.refl,by simp,λ n hn=>al hn,uu,λ h=>(h rfl).elim,λ _=>rfl,λ y hy=>⟨by have:=hL.lt hy;dsimp only;omega,by have:=hL.lt hy;dsimp only;omega,λ hk=>⟨by have:=hL.rlt hy hk;dsimp only;omega,by have:=hL.rlt hy hk;dsimp only;omega⟩⟩,λ j hj=>by simp at hj,rfl⟩
   rintro⟨done,rest,S1,u7,bx1,kr1,ks,k,Q⟩ hi;simp only at hi;have hlen:done.length+rest.length=x.Kids.length:=by rw[←hi.all,length_append]
   have hkl:ks.length=done.length:=by rw[←hi.kids,length_map]
   simp only[↓OD,OA,reduceEqDiff,reduceCtorEq,reduceAdd,reduceLT,reduceLeDiff,reduceIte];refine my (λ hc=> ?_) (λ hc=> ?_)
   ·cases rest with
    |nil=>simp at hc hlen;omega
    |cons t r=>
    have iP:t∈x.Kids:=by rw[←hi.all];simp
    have hkw:=de ad.wt iP;have iQ:done.length<x.Kids.length:=by simp at hlen;omega
    have hg:(x.Kids.map ad.av).getD done.length .top=t.av:=by rw[←hi.all,List.map_append,map_cons];exact mY (by simp)
    have hI1:kW S1 bx1 lb lr Q:=hI.ext hs hi.ext hi.frame;have au1:t.mO=true:=akd oS iP;have hmt:t.allM λ n=>∃j:Nat,j<S1.M/\n=j:=by rw[hi.ext.M];exact ad.ael hm t iP
    have hQl:=hi.len;obtain⟨S2,xi,bx2,kr2,O2,rr,c1,c2,c3,c4,c5,c6,c7,c8⟩:=pE t (O:=Q++ [.live 29 4 [t.av]]) hi.ok (hi.lay.app _) (hi.ext.lt aw) (hI1.same (.app _ _)) au1 hmt (by omega);have c6':∀n,n<Q.length->O2[n]? =Q[n]? :=λ n hn=>by rw[c6 n (by simp;omega),al hn]
    have lI:=hi.box;have uV:O2[O.length+1]? =some (.live 66 5 [.agg [aO x.Kind,aO x.N,cv x.Name,yF ks k,.v (.pointer none)]]):=by rw[c6' _ (by omega)];exact lI
    simp only[Int.toNat_natCast,length_map,hg,ad.width,ad.isAgg,ad.storable,↓OD,OA,reduceEqDiff,reduceCtorEq,reduceAdd,reduceLT,reduceLeDiff,reduceIte];refine⟨by omega,by omega,?_⟩;simp only[kh,as0,ad.width,ad.isAgg,ad.storable,↓OD,OA,reduceEqDiff,reduceCtorEq,reduceAdd,reduceLT,reduceLeDiff,reduceIte];refine ab8 (al:=[⟨none,(some 33),.aq (.t 7)⟩,⟨none,(some 34),.aq (.t 7)⟩,⟨none,(some 35),.bQ (.t 34)⟩,⟨none,(some 36),.aB 3 (.t 35)⟩,⟨none,(some 37),.load none (.t 36)⟩,⟨none,(some 38),.load (some 4) (.t 9)⟩,⟨none,(some 39),.aq (.t 1)⟩,⟨none,(some 40),.aq (.t 2)⟩,⟨none,(some 41),.o7 [O.length+1] F.dC [(.t 38),(.t 39),(.t 40)]⟩,⟨none,(some 42),.buildSlice 64 1 1 (.v (.pointer none)) [(0,(.t 41))]⟩,⟨none,(some 43),.app 64 1 8 (.t 37) (.t 42)⟩,⟨none,(some 44),.bQ (.t 33)⟩,⟨none,(some 45),.aB 3 (.t 44)⟩,⟨none,none,.store 1 (.t 45) (.t 43)⟩]) rfl ?_;have apa:(Q++ [.live 29 4 [t.av]])[O.length+1]? =some (.live 66 5 [.agg [aO x.Kind,aO x.N,cv x.Name,yF ks k,.v (.pointer none)]]):=by rw[al (by omega)];exact lI
    simp only[aO,cv]at apa uV;simp only[apa,kh,ad.width,ad.isAgg,ad.storable,↓OD,OA,reduceEqDiff,reduceCtorEq,reduceAdd,reduceLT,reduceLeDiff,reduceIte];refine mU c1 (λ n hn=>by rw[List.mem_singleton.1 hn,uV,apa]) ?_;simp only[kh,↓OD,OA,reduceEqDiff,reduceCtorEq,reduceAdd,reduceLT,reduceLeDiff,reduceIte];refine⟨λ y hy=>by rw[List.mem_singleton.1 hy];rfl,?_⟩
    have hb3:∀E:List aa,(O2++E)[O.length+1]? =some (.live 66 5 [.agg [aO x.Kind,aO x.N,cv x.Name,yF ks k,.v (.pointer none)]]):=λ E=>by
     have:Q.length<O2.length:=by have:=c5;simp at this;omega
     rw[al (by omega)];exact uV
    simp only[aO,cv]at hb3;by_cases hks:ks= []
    ·subst hks;simp only[alP]at hb3⊢;simp only[hZ,hb3,↓OD,OA,reduceEqDiff,reduceCtorEq,reduceAdd,reduceLT,reduceLeDiff,reduceIte];refine⟨by decide,by decide,?_⟩;refine⟨λ h=>h.elim,λ _=> ?_⟩;simp only[hb3,List.append_assoc,List.cons_append,List.nil_append,↓OD,OA,reduceEqDiff,reduceCtorEq,reduceAdd,reduceLT,reduceLeDiff,reduceIte];have hQ2:Q.length<O2.length:=by have:=c5;simp at this;omega
     refine⟨fp (λ n=>[O.length+1,O2.length,Q.length].getD n 0) 3 [⟨[],.cu⟩,⟨[],.cu⟩,⟨[0],.cu⟩,⟨[0],.cu⟩,⟨[0],.cu⟩,⟨[2],.cu⟩,⟨[],.cu⟩,⟨[],.cu⟩,⟨[],.zC [0]⟩,⟨[],.push 1⟩,⟨[],.any⟩,⟨[0],.cu⟩,⟨[0],.cu⟩,⟨[0],.set 0⟩] (by kernel_rfl) (by kernel_rfl) (λ a b ha hb h=> ?_) (by kernel_rfl),?_⟩
     ·match a,b,ha,hb with
      |0,0,_,_|1,1,_,_|2,2,_,_=>rfl
      |0,1,_,_|0,2,_,_|1,0,_,_|1,2,_,_|2,0,_,_|2,1,_,_=>simp at h;omega
     have hO3:∀(v:aa) (E:List aa) (n:Nat),n<O2.length->n≠O.length+1->((O2++E).set (O.length+1) v)[n]? =O2[n]? :=λ v E n hn bk=>by rw[getElem?_set_ne (λ e=>bk e.symm),al hn]
     refine aL (done++ [t],r,S2,xi,bx2,kr2,[rr],O2.length+1,_) (hi.step (q:=Q.length+1) (k':=O2.length+1) c2 c3 (by omega) (by simpa using c4) (by omega) c6' c7 c8 (λ _=>by omega) (λ h=>(h rfl).elim) (λ n hn bk _=>hO3 _ _ n hn bk) ?_ ?_ ?_) ?_ (.of_eq ?_ rfl)
     ·simp
     ·exact List.getElem?_set_self (by simp;omega)
     ·rw[getElem?_set_ne (by omega)];exact uu
     ·show r.length<(t::r).length;simp
     ·rw[da (by omega) (by omega),length_append];rfl
    ·rw[adS hks]at hb3⊢;obtain⟨g1,g2⟩:=hi.row hks;have hkQ:=(List.getElem?_eq_some_iff.1 g2).1
     have hr3:∀E:List aa,(O2++E)[k]? =some (.live 64 1 (lg bx1 ks)):=λ E=>by
      have:Q.length<O2.length:=by have:=c5;simp at this;omega
      rw[al (by omega),c6' k hkQ];exact g2
     have hb4:∀(E:List aa) (v:aa),((O2++E).set k v)[O.length+1]? =(O2++E)[O.length+1]? :=λ E v=>getElem?_set_ne (by omega)
     simp only[hr3,cG,↓OD,OA,reduceEqDiff,reduceCtorEq,reduceAdd,reduceLT,reduceLeDiff,reduceIte]
     refine⟨by omega,by have:maxLen=9223372036854775807:=rfl
                        omega,?_⟩
     simp only[hb4,hb3,↓OD,OA,reduceEqDiff,reduceCtorEq,reduceAdd,reduceLT,reduceLeDiff,reduceIte];have hQ2:Q.length<O2.length:=by have:=c5;simp at this;omega
     refine⟨fp (λ n=>[O.length+1,O2.length,Q.length,k].getD n 0) 4 [⟨[],.cu⟩,⟨[],.cu⟩,⟨[0],.cu⟩,⟨[0],.cu⟩,⟨[0],.cu⟩,⟨[2],.cu⟩,⟨[],.cu⟩,⟨[],.cu⟩,⟨[],.zC [0]⟩,⟨[],.push 1⟩,⟨[3,1],.set 3⟩,⟨[0],.cu⟩,⟨[0],.cu⟩,⟨[0],.set 0⟩] (by kernel_rfl) (by kernel_rfl) (λ a b ha hb h=> ?_) (by kernel_rfl),?_⟩
     ·match a,b,ha,hb with
      |0,0,_,_|1,1,_,_|2,2,_,_|3,3,_,_=>rfl
      |0,1,_,_|0,2,_,_|0,3,_,_|1,0,_,_|1,2,_,_|1,3,_,_|2,0,_,_|2,1,_,_|2,3,_,_|3,0,_,_|3,1,_,_|3,2,_,_=>simp at h;omega
     have hO3:∀(v w:aa) (E:List aa) (n:Nat),n<O2.length->n≠O.length+1->n≠k->(((O2++E).set k w).set (O.length+1) v)[n]? =O2[n]? :=λ v w E n hn bk rU=>by rw[getElem?_set_ne (λ e=>bk e.symm),getElem?_set_ne (λ e=>rU e.symm),al hn]
     refine aL (done++ [t],r,S2,xi,bx2,kr2,ks++ [rr],k,_) (hi.step (q:=Q.length+1) (k':=k) c2 c3 (by omega) (by simpa using c4) (by omega) c6' c7 c8 (λ h=>(hks h).elim) (λ _=>rfl) (λ n hn bk rU=>hO3 _ _ _ n hn bk rU) ?_ ?_ ?_) ?_ (.of_eq ?_ rfl)
     ·simp
     ·exact List.getElem?_set_self (by simp;omega)
     ·rw[getElem?_set_ne (by omega)];exact List.getElem?_set_self (by simp;omega)
     ·show r.length<(t::r).length;simp
     ·rw[da (by omega) (by omega),length_append];rfl
   ·have mG:rest= []:=by
      cases rest with
      |nil=>rfl
      |cons k r=>simp at hc hlen;omega
    subst mG;simp only[↓OD,OA,reduceEqDiff,reduceCtorEq,reduceAdd,reduceLT,reduceLeDiff,reduceIte];exact aU (.inl rfl) (by simp only[↓OD,OA,reduceEqDiff,reduceCtorEq,reduceAdd,reduceLT,reduceLeDiff,reduceIte];exact hi.fin (hi.ext.lt aw) oS hk (by omega))
 obtain⟨res,O',⟨S',bh,pM,tP,r,rfl,h⟩,hc⟩:=key;exact⟨S',bh,pM,tP,O',r,hc,h⟩
termination_by SizeOf.sizeOf x
decreasing_by exact ad.fg iP
end Go.Proofs.Ab
