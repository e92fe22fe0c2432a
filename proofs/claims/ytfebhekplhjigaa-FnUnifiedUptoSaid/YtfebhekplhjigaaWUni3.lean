/-
  Unify of the program: nodes of types.
-/
import Derived.Test.YtfebhekplhjigaaWUni2
open Nat(le_refl lt_of_lt_of_le)
open Bool(and_eq_true)
open List(all_cons map_cons length_map map_congr_left length_append getElem?_set_ne)
open Nat(reduceEqDiff reduceLeDiff reduceAdd reduceLT reduceMul)
set_option linter.unusedSimpArgs false
set_option linter.unusedVariables false
namespace Go.Ab
set_option maxRecDepth 100000
def EK.bP(s:Nat->Nat):EK->EK
 | .cL=> .cL
 | .set n=> .set (s n)
 | .push n=> .push (s n)
 | .any=> .any
 | .xn kp=> .xn (kp.map s)
def iw.bP(s:Nat->Nat)(l:iw):iw:=⟨l.rd.map s,l.k.bP s⟩
def EK.under(k:Nat):EK->Bool
 | .set n=>decide (n<k)
 | .push n=>decide (n<k)
 | .xn kp=>kp.all λ n=>decide (n<k)
 |_=>true
def iw.under(k:Nat)(l:iw):Bool:=l.rd.all (λ n=>decide (n<k))&&l.k.under k
theorem mh{s:Nat->Nat}{k:Nat}(hs:∀a b,a<k->b<k->s a=s b->a=b){n:Nat}(hn:n<k):∀{l:List Nat},(l.all λ m=>decide (m<k))=true->(l.map s).contains (s n)=l.contains n
 | [],_=>rfl
 |m::l,h=>by
  simp only[all_cons,and_eq_true,decide_eq_true_eq]at h;rw[map_cons,List.contains_cons,List.contains_cons,mh hs hn (by simpa using h.2)];congr 1;by_cases e:n=m
  ·subst e;simp
  ·have:s n≠s m:=λ e'=>e (hs n m hn h.1 e')
   rw[beq_eq_false_iff_ne.2 this,beq_eq_false_iff_ne.2 e]
theorem aeW{s:Nat->Nat}{k:Nat}(hs:∀a b,a<k->b<k->s a=s b->a=b){kp:List Nat}(hk:(kp.all λ n=>decide (n<k))=true){l:iw}(hl:l.under k=true):(l.bP s).pure (kp.map s)=l.pure kp:=by
 unfold iw.under at hl;rw[and_eq_true]at hl;unfold iw.pure iw.bP;congr 1
 ·have:∀l:List Nat,(l.all λ n=>decide (n<k))=true->(l.map s).all (λ n=>(kp.map s).contains n)=l.all λ n=>kp.contains n:=by
    intro l
    induction l with
    |nil=>intro _;rfl
    |cons n l ih=>
     intro h;simp only[all_cons,and_eq_true,decide_eq_true_eq]at h;rw[map_cons,all_cons,all_cons,ih h.2,mh hs h.1 hk]
  exact this _ hl.1
 ·cases l.k<;>rfl
theorem afK{s:Nat->Nat}{k:Nat}(hs:∀a b,a<k->b<k->s a=s b->a=b){rd:List Nat}(hr:(rd.all λ n=>decide (n<k))=true){e:EK}(he:e.under k=true):(e.bP s).qq (rd.map s)=e.qq rd:=by
 cases e<;>simp only[EK.bP,EK.qq,EK.under,decide_eq_true_eq]at he⊢
 ·exact mh hs he hr
 ·exact mh hs he hr
theorem ahr{s:Nat->Nat}{k:Nat}(hs:∀a b,a<k->b<k->s a=s b->a=b){p i:iw}(hp:p.under k=true)(hi:i.under k=true):uP (p.bP s) (i.bP s)=uP p i:=by
 have e1:∀l:iw,(l.bP s).k.isAny=l.k.isAny:=λ l=>by obtain⟨_,e⟩:=l;cases e<;>rfl
 have e2:∀l:iw,(l.bP s).k.gy=l.k.gy:=λ l=>by obtain⟨_,e⟩:=l;cases e<;>rfl
 have e3:∀l:iw,(l.bP s).k.keeps=l.k.keeps.map s:=λ l=>by obtain⟨_,e⟩:=l;cases e<;>rfl
 have e4:∀l:iw,l.under k=true->(l.k.keeps.all λ n=>decide (n<k))=true:=λ l h=>by
  unfold iw.under at h;rw[and_eq_true]at h;obtain⟨_,e⟩:=l;cases e<;>first|rfl|exact h.2
 have u1:∀l:iw,l.under k=true->(l.rd.all λ n=>decide (n<k))=true/\l.k.under k=true:=λ l h=>by unfold iw.under at h;rwa [and_eq_true]at h
 unfold uP;rw[e1,e1,e2,e2,e3,e3,aeW hs (e4 _ hp) hi,aeW hs (e4 _ hi) hp];have h1:(p.bP s).k.qq (i.bP s).rd=p.k.qq i.rd:=afK hs (u1 _ hi).1 (u1 _ hp).2;have h2:(i.bP s).k.qq (p.bP s).rd=i.k.qq p.rd:=afK hs (u1 _ hp).1 (u1 _ hi).2;rw[h1,h2]
theorem fA{rows:List (List Nat)}{ops:List aO}{iD:List iw}(s:Nat->Nat)(k:Nat)(ze:List iw)(hl:iD=ze.map (iw.bP s))(hu:(ze.all λ l=>l.under k)=true)(hs:∀a b,a<k->b<k->s a=s b->a=b)(h:iF rows (ops.zip ze)=true):iF rows (ops.zip iD)=true:=by
 subst hl;rw[←h];have hz:ops.zip (ze.map (iw.bP s))=(ops.zip ze).map λ x=>(x.1,x.2.bP s):=by rw[List.zip_map_right];rfl
 have tV:∀x∈ops.zip ze,x.2.under k=true:=λ x hx=>List.all_eq_true.1 hu _ (List.of_mem_zip hx).2
 rw[hz];generalize ops.zip ze=al at tV;unfold iF;rw[length_map]
 have afC:∀p i:Nat,(match(al.map λ x=>(x.1,x.2.bP s))[p]?,(al.map λ x=>(x.1,x.2.bP s))[i]? with|some x,some y=>mS x y|_,_=>false)=(match al[p]?,al[i]? with|some x,some y=>mS x y|_,_=>false):=by
  intro p i;rw[List.getElem?_map,List.getElem?_map];cases hp:al[p]? with
  |none=>rfl
  |some x=>
   cases hi:al[i]? with
   |none=>rfl
   |some y=>
    show mS (x.1,x.2.bP s) (y.1,y.2.bP s)=mS x y;unfold mS;simp only;rw[ahr hs (tV x (List.mem_of_getElem? hp)) (tV y (List.mem_of_getElem? hi))]
 exact congrArg (λ f=>(List.range al.length).all f) (funext λ i=>congrArg (λ b=>((rows.getD i []).all λ x=>decide (x<i))&&b) (congrArg (λ f=>(List.range i).all f) (funext λ p=>congrArg (λ b=>((xk rows al.length).getD i 0).testBit p||b) (afC p i))))
structure qM(b:Nat)(S:Net)(up bx kr:Nat->Nat)(S':Net)(bw nW qW:Nat->Nat):Prop where
 N:S.N<=S'.N
 M:S'.M=S.M
 fx:∀x,x<S.N->S'.ty x=S.ty x/\S'.kids x=S.kids x/\bw x=up x/\nW x=bx x/\qW x=kr x
 new:∀x,S.N<=x->x<S'.N->bw x=x/\¬S'.lh x/\(S'.ty x).jn=true/\b<=nW x/\(S'.kids x≠[]->b<=qW x)
theorem qM.refl{b:Nat}{S:Net}{up bx kr:Nat->Nat}:qM b S up bx kr S up bx kr:=⟨le_refl _,rfl,λ _ _=>⟨rfl,rfl,rfl,rfl,rfl⟩,λ x h k=>by omega⟩
theorem qM.trans{b c:Nat}{S S' S'':Net}{up bx kr bw nW qW aex azH ayd:Nat->Nat}(h:qM b S up bx kr S' bw nW qW)(k:qM c S' bw nW qW S'' aex azH ayd)(hbc:b<=c):qM b S up bx kr S'' aex azH ayd:=by
 refine⟨Nat.le_trans h.N k.N,k.M.trans h.M,λ x hx=> ?_,λ x h1 h2=> ?_⟩
 ·obtain⟨a1,a2,a3,a4,a5⟩:=h.fx x hx;obtain⟨b1,b2,b3,b4,b5⟩:=k.fx x (lt_of_lt_of_le hx h.N);exact⟨b1.trans a1,b2.trans a2,b3.trans a3,b4.trans a4,b5.trans a5⟩
 ·by_cases hx:x<S'.N
  ·obtain⟨a1,a2,a3,a4,a5⟩:=h.new x h1 hx;obtain⟨b1,b2,b3,b4,b5⟩:=k.fx x hx;exact⟨b3.trans a1,by unfold Net.lh at a2⊢;rwa [b1],by rwa [b1],by rwa [b4],λ hk=>by rw[b5];exact a5 (by rwa [b2]at hk)⟩
  ·obtain⟨a1,a2,a3,a4,a5⟩:=k.new x (by omega) h2;exact⟨a1,a2,a3,by omega,λ hk=>by have:=a5 hk;omega⟩
theorem qM.lt{b:Nat}{S S':Net}{up bx kr bw nW qW:Nat->Nat}(h:qM b S up bx kr S' bw nW qW)(aF:∀x,x<S.N->up x<S.N):∀x,x<S'.N->bw x<S'.N:=λ x hx=>by
 by_cases qo:x<S.N
 ·rw[(h.fx x qo).2.2.1];exact lt_of_lt_of_le (aF x qo) h.N
 ·rw[(h.new x (by omega) hx).1];exact hx
theorem ku{α:Type}{A B:List α}{a:α}:(A++a::B)[A.length]? =some a:=by rw[List.getElem?_append_right (le_refl _),Nat.sub_self];rfl
theorem ux{α:Type}{A B:List α}{a b:α}:(A++a::b::B)[A.length+1]? =some b:=by rw[List.getElem?_append_right (by omega),Nat.add_sub_cancel_left];rfl
theorem as0{α:Type}{A B:List α}{a z:α}:(A++a::B).set A.length z=A++z::B:=by simp
theorem al{α:Type}{A B:List α}{n:Nat}(h:n<A.length):(A++B)[n]? =A[n]? :=List.getElem?_append_left h
def Net.add(S:Net)(t:aa)(ks:List Nat):Net:=⟨S.N+1,S.M,λ x=>if x=S.N then t else S.ty x,λ x=>if x=S.N then ks else S.kids x⟩
theorem Net.apF{S:Net}(h:S.ok){t:aa}{ks:List Nat}(hk:∀k∈ks,k<S.N)(ht:t.Kids=ks.map S.ty)(hm:t.Kind≠11):(S.add t ks).ok:=by
 refine⟨Nat.le_succ_of_le h.le,λ x hx k hkx=> ?_,λ x hx=> ?_,λ k nH=> ?_,λ x hx hxm=> ?_⟩
 ·by_cases e:x=S.N
  ·simp only[Net.add,e,if_true]at hkx⊢;have:=hk k hkx;omega
  ·simp only[Net.add,if_neg e]at hkx hx⊢;have:=h.lt x (by omega) k hkx;omega
 ·have bn:∀k,k<S.N->(S.add t ks).ty k=S.ty k:=λ k hk=>by simp only[Net.add];rw[if_neg (by omega)]
  by_cases e:x=S.N
  ·have e1:(S.add t ks).ty x=t:=by simp only[Net.add,e,if_true]
   have e2:(S.add t ks).kids x=ks:=by simp only[Net.add,e,if_true]
   rw[e1,e2,ht];exact map_congr_left λ k nH=>(bn k (hk k nH)).symm
  ·have oH:x<S.N:=by simp only[Net.add]at hx;omega
   have e2:(S.add t ks).kids x=S.kids x:=by simp only[Net.add];rw[if_neg e]
   rw[bn x oH,e2,h.zj x oH];exact map_congr_left λ k nH=>(bn k (h.lt x oH k nH)).symm
 ·have:k≠S.N:=by have:=h.le;simp only[Net.add]at nH;omega
  simp only[Net.add,if_neg this];exact h.nC k nH
 ·by_cases e:x=S.N
  ·unfold Net.lh at hxm;simp only[Net.add,e,if_true]at hxm;exact(hm hxm).elim
  ·unfold Net.lh at hxm;simp only[Net.add,if_neg e]at hxm hx⊢;exact h.isMeta x (by omega) hxm
end Go.Ab
namespace Go.Proofs.Ab
open Go.Ab
set_option maxRecDepth 100000
set_option maxHeartbeats 4000000
structure kx(S:Net)(bx:Nat->Nat)(lb lr:Nat)(O:List ad):Prop where
 box:O[lb]? =some (.live 63 1 [.row lr S.M])
 row:O[lr]? =some (.live 64 1 (kD bx (List.range S.M)))
 sep:∀x,x<S.N->lb≠bx x/\lr≠bx x
theorem kx.same{S:Net}{bx:Nat->Nat}{lb lr:Nat}{O O':List ad}(h:kx S bx lb lr O)(k:ke S bx O O'):kx S bx lb lr O':=by
 have h1:=(List.getElem?_eq_some_iff.1 h.box).1;have h2:=(List.getElem?_eq_some_iff.1 h.row).1;exact⟨by rw[k.2 _ h1 λ x hx=>(h.sep x hx).1];exact h.box,by rw[k.2 _ h2 λ x hx=>(h.sep x hx).2];exact h.row,h.sep⟩
theorem oT{bx nW:Nat->Nat}:∀{l:List Nat},(∀k∈l,nW k=bx k)->kD nW l=kD bx l:=λ h=>map_congr_left λ k hk=>by rw[h k hk]
theorem cv.move{S:Net}{up bx kr:Nat->Nat}{O O':List ad}(h:cv S up bx kr O)(k:∀x,x<S.N->O'[bx x]? =O[bx x]? /\(S.kids x≠[]->O'[kr x]? =O[kr x]?)):cv S up bx kr O':=
 ⟨λ x hx=>by rw[(k x hx).1];exact h.box x hx,λ x hx hk=>by rw[(k x hx).2 hk];exact h.row x hx hk,h.inj,h.sep,h.few⟩
theorem cv.rlt{S:Net}{up bx kr:Nat->Nat}{O:List ad}(h:cv S up bx kr O){x:Nat}(hx:x<S.N)(hk:S.kids x≠[]):kr x<O.length:=(List.getElem?_eq_some_iff.1 (h.row x hx hk)).1
theorem cv.app{S:Net}{up bx kr:Nat->Nat}{O:List ad}(h:cv S up bx kr O)(E:List ad):cv S up bx kr (O++E):=
 h.move λ x hx=>⟨al (h.lt hx),λ hk=>al (h.rlt hx hk)⟩
theorem ke.app{S:Net}{bx:Nat->Nat}(O E:List ad):ke S bx O (O++E):=⟨by simp,λ n hn _=>al hn⟩
theorem kx.ext{S S':Net}{up bx kr bw nW qW:Nat->Nat}{lb lr:Nat}{O O':List ad}(hs:S.ok)(h:kx S bx lb lr O)(k:qM O.length S up bx kr S' bw nW qW)(ho:∀n,n<O.length->O'[n]? =O[n]?):kx S' nW lb lr O':=by
 have h1:=(List.getElem?_eq_some_iff.1 h.box).1;have h2:=(List.getElem?_eq_some_iff.1 h.row).1
 refine⟨by rw[ho _ h1,k.M];exact h.box,by
  rw[ho _ h2,k.M,oT (nW:=nW) (bx:=bx) λ z hz=>(k.fx z (lt_of_lt_of_le (List.mem_range.1 hz) hs.le)).2.2.2.1];exact h.row,λ x hx=> ?_⟩
 by_cases qo:x<S.N
 ·rw[(k.fx x qo).2.2.2.1];exact h.sep x qo
 ·have:=(k.new x (by omega) hx).2.2.2.1;omega
theorem zA{S:Net}{up bx kr:Nat->Nat}{lb lr:Nat}{O:List ad}(h:kx S bx lb lr O){j:Nat}(hj:j<S.M):fE Try.prog F.dL [.v (.int .i64 j),.ptr lb 1 0 0] O (.ptr (bx j) 1 0 0) O:=by
 have h1:=h.box;have h2:=h.row;have hg:(List.range S.M)[j]? =some j:=by rw[List.getElem?_eq_getElem (by simpa using hj)];simp
 refine gT A.wX rfl ?_;simp only[A.dL,h1,h2,↓OD,OA,reduceEqDiff,reduceCtorEq];have hi:((0:Int)<=(j:Int)/\(j:Int)<(S.M:Int)):=⟨by omega,by omega⟩;simp only[hi,cU,iC hg,List.length_range,Int.toNat_natCast,AV.cells,OA];exact⟨hj,mI (.inl rfl) (by simp only[OA])⟩
def vY(ks:List Nat)(k:Nat):AV:=if ks= []then .aw else .row k ks.length
theorem tx{x y:aa}(h:x.jn=true)(hy:y∈x.Kids):y.jn=true:=by
 rw[aa.jW,and_eq_true,List.all_eq_true]at h;exact h.2 y hy
theorem akU(k:Nat):vY [] k= .aw:=if_pos rfl
theorem abY{ks:List Nat}(h:ks≠[])(k:Nat):vY ks k= .row k ks.length:=if_neg h
structure acx(x:aa)(S0:Net)(up0 bx0 kr0:Nat->Nat)(O:List ad)(done rest:List aa)(S:Net)(up bx kr:Nat->Nat)(ks:List Nat)(k:Nat)(Q:List ad):Prop where
 all:done++rest=x.Kids
 ok:S.ok
 lay:cv S up bx kr Q
 ext:qM O.length S0 up0 bx0 kr0 S up bx kr
 len:O.length+2<=Q.length
 frame:∀n,n<O.length->Q[n]? =O[n]?
 box:Q[O.length+1]? =some (.live 66 5 [.agg [au x.Kind,au x.N,bZ x.Name,vY ks k,.v (.pointer none)]])
 row:ks≠[]->O.length+1<k/\Q[k]? =some (.live 64 1 (kD bx ks))
 nok:ks= []->k=O.length+1
 sep:∀y,y<S.N->bx y≠O.length+1/\bx y≠k/\(S.kids y≠[]->kr y≠O.length+1/\kr y≠k)
 ahM:∀j∈ks,j<S.N
 kids:ks.map S.ty=done
section
variable {x:aa} {S0:Net} {up0 bx0 kr0:Nat->Nat} {O:List ad} {done rest:List aa} {S1:Net} {sj bx1 kr1:Nat->Nat} {ks:List Nat} {k:Nat} {Q:List ad}
theorem acx.step{t:aa}(hi:acx x S0 up0 bx0 kr0 O done (t::rest) S1 sj bx1 kr1 ks k Q){S2:Net}{uu bx2 kr2:Nat->Nat}{O2 O3:List ad}{rr k' q:Nat}(c2:S2.ok)(c3:cv S2 uu bx2 kr2 O2)(hq:Q.length<=q)(c4:qM q S1 sj bx1 kr1 S2 uu bx2 kr2)(c5:q<=O2.length)(c6:∀n,n<Q.length->O2[n]? =Q[n]?)(c7:rr<S2.N)(c8:S2.ty rr=t)
  (k1:ks= []->O2.length<=k') (k2:ks≠[]->k'=k) (h3:∀n,n<O2.length->n≠O.length+1->n≠k'->O3[n]? =O2[n]?) (hl:O2.length<=O3.length)
  (hb:O3[O.length+1]? =some (.live 66 5 [.agg [au x.Kind,au x.N,bZ x.Name,.row k' (ks.length+1),.v (.pointer none)]])) (hr:O3[k']? =some (.live 64 1 (kD bx1 ks++ [.ptr (bx2 rr) 1 0 0]))):
  acx x S0 up0 bx0 kr0 O (done++ [t]) rest S2 uu bx2 kr2 (ks++ [rr]) k' O3:=by
 have hQl:=hi.len
 have nH:O.length+1<k':=by
  by_cases h:ks= []
  ·have:=k1 h;omega
  ·rw[k2 h];exact(hi.row h).1
 have adN:∀y,y<S2.N->bx2 y≠O.length+1/\bx2 y≠k'/\(S2.kids y≠[]->kr2 y≠O.length+1/\kr2 y≠k'):=λ y hy=>by
  by_cases hyn:y<S1.N
  ·obtain⟨d1,d2,d3⟩:=hi.sep y hyn;obtain⟨e1,e2,e3,e4,e5⟩:=c4.fx y hyn;rw[e4,e5,e2];have g1:=hi.lay.lt hyn;by_cases h:ks= []
   ·have:=k1 h;exact⟨d1,by omega,λ hk=>⟨(d3 hk).1,by have:=hi.lay.rlt hyn hk;omega⟩⟩
   ·rw[k2 h];exact⟨d1,d2,d3⟩
  ·obtain⟨e1,e2,e3,e4,e5⟩:=c4.new y (by omega) hy;have g1:=c3.lt hy;by_cases h:ks= []
   ·have:=k1 h;exact⟨by omega,by omega,λ hk=>⟨by have:=e5 hk;omega,by have:=c3.rlt hy hk;omega⟩⟩
   ·have:=(List.getElem?_eq_some_iff.1 (hi.row h).2).1;rw[k2 h];exact⟨by omega,by omega,λ hk=>⟨by have:=e5 hk;omega,by have:=e5 hk;omega⟩⟩
 have hold:∀j∈ks,j<S1.N:=hi.ahM;refine⟨by rw[List.append_assoc];exact hi.all,c2,c3.move λ y hy=> ?_,hi.ext.trans c4 (by omega),by omega,λ n hn=> ?_,?_,λ _=>⟨nH,?_⟩,λ h=>by simp at h,adN,λ j hj=> ?_,?_⟩
 ·obtain⟨d1,d2,d3⟩:=adN y hy;exact⟨h3 _ (c3.lt hy) d1 d2,λ hk=>h3 _ (c3.rlt hy hk) (d3 hk).1 (d3 hk).2⟩
 ·rw[h3 n (by omega) (by omega) (by omega),c6 n (by omega)];exact hi.frame n hn
 ·rw[abY (by simp),length_append];exact hb
 ·rw[hr];have:kD bx2 ks=kD bx1 ks:=oT λ j hj=>(c4.fx j (hold j hj)).2.2.2.1
  rw[←this];simp[kD]
 ·rcases List.mem_append.1 hj with h|h
  ·exact lt_of_lt_of_le (hold j h) c4.N
  ·rw[List.mem_singleton.1 h];exact c7
 ·rw[List.map_append,←hi.kids];congr 1
  ·exact map_congr_left λ j hj=>(c4.fx j (hold j hj)).1
  ·simp[c8]
theorem acx.fin(hi:acx x S0 up0 bx0 kr0 O done [] S1 sj bx1 kr1 ks k Q)(aF:∀x,x<S1.N->sj x<S1.N)(kV:x.jn=true)(hm:x.Kind≠11)(hb:x.Kids.length<=1048576):
  ∃S' bw nW qW r,AV.ptr (O.length+1) 1 0 0= .ptr (nW r) 1 0 0/\S'.ok/\cv S' bw nW qW Q/\qM O.length S0 up0 bx0 kr0 S' bw nW qW/\O.length<=Q.length/\(∀n,n<O.length->Q[n]? =O[n]?)/\r<S'.N/\S'.ty r=x:=by
 have mf:=hi.all;rw[List.append_nil]at mf;have hQl:=hi.len;have xg:x.Kids=ks.map S1.ty:=by rw[hi.kids,mf]
 have eK:ks.length=x.Kids.length:=by rw[xg,length_map]
 let S':=S1.add x ks
 let bw:Nat->Nat:=λ y=>if y=S1.N then y else sj y
 let nW:Nat->Nat:=λ y=>if y=S1.N then O.length+1 else bx1 y
 let qW:Nat->Nat:=λ y=>if y=S1.N then k else kr1 y
 have n1:S'.ty S1.N=x:=by simp only[S',Net.add,if_true]
 have n2:S'.kids S1.N=ks:=by simp only[S',Net.add,if_true]
 have n3:bw S1.N=S1.N:=by simp only[bw,if_true]
 have n4:nW S1.N=O.length+1:=by simp only[nW,if_true]
 have n5:qW S1.N=k:=by simp only[qW,if_true]
 have o1:∀y,y<S1.N->S'.ty y=S1.ty y/\S'.kids y=S1.kids y/\bw y=sj y/\nW y=bx1 y/\qW y=kr1 y:=λ y hy=>by
  have:y≠S1.N:=by omega
  simp only[S',bw,nW,qW,Net.add,if_neg this,and_self]
 have hN:S'.N=S1.N+1:=rfl
 have hE:qM O.length S1 sj bx1 kr1 S' bw nW qW:=⟨by omega,rfl,o1,λ y h1 h2=>by
  have:y=S1.N:=by omega
  subst this
  exact⟨n3,by unfold Net.lh;rw[n1];exact hm,by rw[n1];exact kV,by omega,λ h=>by
   rw[n2]at h;have:=(hi.row h).1;omega⟩⟩
 refine⟨S',bw,nW,qW,S1.N,by rw[n4],Net.apF hi.ok hi.ahM xg hm,⟨λ y hy=> ?_,λ y hy hk=> ?_,λ y z hy hz he=> ?_,λ y z hy hz hk=> ?_,λ y hy=> ?_⟩,hi.ext.trans hE (le_refl _),by omega,hi.frame,by omega,n1⟩
 ·by_cases e:y=S1.N
  ·subst e;rw[n4,hi.box];unfold fY;rw[n1,pZ n3];have:lE S' qW S1.N=vY ks k:=by unfold lE vY;rw[n2,n5]
   rw[this]
  ·have lN:y<S1.N:=by omega
   obtain⟨e1,e2,e3,e4,e5⟩:=o1 y lN;rw[e4,hi.lay.box y lN];unfold fY lE upC;rw[e1,e2,e3,e5,(o1 _ (aF y lN)).2.2.2.1]
 ·by_cases e:y=S1.N
  ·subst e;rw[n5,n2];rw[n2]at hk;rw[(hi.row hk).2,oT λ j hj=>(o1 j (hi.ahM j hj)).2.2.2.1]
  ·have lN:y<S1.N:=by omega
   obtain⟨e1,e2,e3,e4,e5⟩:=o1 y lN;rw[e5,e2];rw[e2]at hk;rw[hi.lay.row y lN hk,oT λ j hj=>(o1 j (hi.ok.lt y lN j hj)).2.2.2.1]
 ·by_cases e:y=S1.N<;>by_cases e':z=S1.N
  ·omega
  ·subst e;rw[n4,(o1 z (by omega)).2.2.2.1]at he;exact((hi.sep z (by omega)).1 he.symm).elim
  ·subst e';rw[n4,(o1 y (by omega)).2.2.2.1]at he;exact((hi.sep y (by omega)).1 he).elim
  ·rw[(o1 y (by omega)).2.2.2.1,(o1 z (by omega)).2.2.2.1]at he;exact hi.lay.inj y z (by omega) (by omega) he
 ·by_cases e:y=S1.N<;>by_cases e':z=S1.N
  ·subst e;subst e';rw[n2]at hk;rw[n4,n5];have:=(hi.row hk).1;omega
  ·subst e;have hz':z<S1.N:=by omega
   rw[n4,(o1 z hz').2.2.2.2];rw[(o1 z hz').2.1]at hk;exact((hi.sep z hz').2.2 hk).1
  ·subst e';rw[n2]at hk;have lN:y<S1.N:=by omega
   rw[n5,(o1 y lN).2.2.2.1];exact λ h=>(hi.sep y lN).2.1 h.symm
  ·have hz':z<S1.N:=by omega
   have lN:y<S1.N:=by omega
   rw[(o1 y lN).2.2.2.1,(o1 z hz').2.2.2.2];rw[(o1 z hz').2.1]at hk;exact hi.lay.sep y z lN hz' hk
 ·by_cases e:y=S1.N
  ·subst e;rw[n2,eK];exact hb
  ·rw[(o1 y (by omega)).2.1];exact hi.lay.few y (by omega)
end
theorem nO(x:aa){S:Net}{up bx kr:Nat->Nat}{O:List ad}{lb lr:Nat}(hs:S.ok)(hL:cv S up bx kr O)(aF:∀x,x<S.N->up x<S.N)(hI:kx S bx lb lr O)(kV:x.jn=true)(hm:x.allM λ n=>∃j:Nat,j<S.M/\n=j)(hb:x.wt<=1048576):
  ∃S' bw nW qW O' r,fE Try.prog F.dR [x.av,.v (.int .i64 11),.fn F.dL [.ptr lb 1 0 0]] O (.ptr (nW r) 1 0 0) O'/\S'.ok/\cv S' bw nW qW O'/\qM O.length S up bx kr S' bw nW qW/\O.length<=O'.length/\(∀n,n<O.length->O'[n]? =O[n]?)/\r<S'.N/\S'.ty r=x:=by
 have hw:=x.dH
 have key:∃res O',(∃S' bw nW qW r,res= .ptr (nW r) 1 0 0/\S'.ok/\cv S' bw nW qW O'/\qM O.length S up bx kr S' bw nW qW/\O.length<=O'.length/\(∀n,n<O.length->O'[n]? =O[n]?)/\r<S'.N/\S'.ty r=x)/\fE Try.prog F.dR [x.av,.v (.int .i64 11),.fn F.dL [.ptr lb 1 0 0]] O res O':=by
  refine jx A.zr rfl ?_;rw[←aa.eta x];by_cases hk:x.Kind=11
  ·obtain⟨h1,h2,j,hj,h3⟩:=aa.rq hm hk;have d:decide (x.Kind=11)=true:=decide_eq_true hk;simp only[A.dR,↓OD,OA,reduceEqDiff,reduceAdd];simp only[ku,d,h3,↓OD,OA,reduceEqDiff,reduceAdd,reduceLeDiff];refine aD _ _ (zA (up:=up) (kr:=kr) (hI.same (.app _ _)) hj) ?_;simp only[↓OD,OA,reduceEqDiff];refine aY (.inl rfl) ⟨S,up,bx,kr,j,by simp only[OA],hs,hL.app _,.refl,by simp,λ n hn=>al hn,lt_of_lt_of_le hj hs.le,?_⟩;rw[(hs.nC j hj).1,x.qC,hk,h1,h2,h3];rfl
  ·have d:decide (x.Kind=11)=false:=decide_eq_false hk;simp only[A.dR,↓OD,OA,reduceEqDiff,reduceAdd];simp only[ku,d,↓OD,OA,reduceEqDiff,reduceAdd,reduceLeDiff];simp only[ku,List.append_assoc,List.cons_append,List.nil_append,↓OD,OA,reduceEqDiff,reduceAdd]
   refine bd (ι:=List aa×List aa×Net×(Nat->Nat)×(Nat->Nat)×(Nat->Nat)×List Nat×Nat×List ad)
    (λ q=>acx x S up bx kr O q.1 q.2.1 q.2.2.1 q.2.2.2.1 q.2.2.2.2.1 q.2.2.2.2.2.1 q.2.2.2.2.2.2.1 q.2.2.2.2.2.2.2.1 q.2.2.2.2.2.2.2.2)
    (λ q=>jw [(1,.v (.int .i64 11)),(2,.fn F.dL [.ptr lb 1 0 0]),(7,.ptr (O.length+1) 1 0 0),(27,.sl (x.Kids.map aa.av)),(28,.v (.int .i64 (x.Kids.length:Int))),(29,.v (.int .i64 (q.1.length:Int)))])
    (λ q=>q.2.2.2.2.2.2.2.2) (λ q=>q.2.1.length) ([],x.Kids,S,up,bx,kr,[],O.length+1,_) ?_ (.of_eq (by simp) rfl) ?_
   ·exact⟨rfl,hs,hL.app _,.refl,by simp,λ n hn=>al hn,ux,λ h=>(h rfl).elim,λ _=>rfl,λ y hy=>⟨by have:=hL.lt hy;dsimp only;omega,by have:=hL.lt hy;dsimp only;omega,λ hk=>⟨by have:=hL.rlt hy hk;dsimp only;omega,by have:=hL.rlt hy hk;dsimp only;omega⟩⟩,λ j hj=>by simp at hj,rfl⟩
   rintro⟨done,rest,S1,sj,bx1,kr1,ks,k,Q⟩ hi;simp only at hi;have hlen:done.length+rest.length=x.Kids.length:=by rw[←hi.all,length_append]
   have hkl:ks.length=done.length:=by rw[←hi.kids,length_map]
   simp only[↓OD,OA,reduceEqDiff];refine af1 (λ hc=> ?_) (λ hc=> ?_)
   ·cases rest with
    |nil=>simp at hc hlen;omega
    |cons t r=>
    have j2:t∈x.Kids:=by rw[←hi.all];simp
    have hkw:=cY aa.wt j2;have nh:done.length<x.Kids.length:=by simp at hlen;omega
    have hg:(x.Kids.map aa.av).getD done.length .top=t.av:=by rw[←hi.all,List.map_append,map_cons];exact tB (by simp)
    have hI1:kx S1 bx1 lb lr Q:=hI.ext hs hi.ext hi.frame;have au8:t.jn=true:=tx kV j2;have hmt:t.allM λ n=>∃j:Nat,j<S1.M/\n=j:=by rw[hi.ext.M];exact aa.mB hm t j2
    have hQl:=hi.len;obtain⟨S2,uu,bx2,kr2,O2,rr,c1,c2,c3,c4,c5,c6,c7,c8⟩:=nO t (O:=Q++ [.live 29 4 [t.av]]) hi.ok (hi.lay.app _) (hi.ext.lt aF) (hI1.same (.app _ _)) au8 hmt (by omega);have c6':∀n,n<Q.length->O2[n]? =Q[n]? :=λ n hn=>by rw[c6 n (by simp;omega),al hn]
    have kK:=hi.box;have rZ:O2[O.length+1]? =some (.live 66 5 [.agg [au x.Kind,au x.N,bZ x.Name,vY ks k,.v (.pointer none)]]):=by rw[c6' _ (by omega)];exact kK
    simp only[Int.toNat_natCast,length_map,hg,aa.width,aa.isAgg,aa.storable,↓OD,OA,reduceEqDiff];refine⟨by omega,by omega,?_⟩;simp only[ku,as0,aa.width,OA,reduceAdd];refine aaf (al:=[⟨none,(some 33),.aA (.t 7)⟩,⟨none,(some 34),.aA (.t 7)⟩,⟨none,(some 35),.ca (.t 34)⟩,⟨none,(some 36),.aK 3 (.t 35)⟩,⟨none,(some 37),.load none (.t 36)⟩,⟨none,(some 38),.load (some 4) (.t 9)⟩,⟨none,(some 39),.aA (.t 1)⟩,⟨none,(some 40),.aA (.t 2)⟩,⟨none,(some 41),.nq [O.length+1] F.dR [(.t 38),(.t 39),(.t 40)]⟩,⟨none,(some 42),.buildSlice 64 1 1 (.v (.pointer none)) [(0,(.t 41))]⟩,⟨none,(some 43),.app 64 1 8 (.t 37) (.t 42)⟩,⟨none,(some 44),.ca (.t 33)⟩,⟨none,(some 45),.aK 3 (.t 44)⟩,⟨none,none,.store 1 (.t 45) (.t 43)⟩]) rfl ?_;have aou:(Q++ [.live 29 4 [t.av]])[O.length+1]? =some (.live 66 5 [.agg [au x.Kind,au x.N,bZ x.Name,vY ks k,.v (.pointer none)]]):=by rw[al (by omega)];exact kK
    simp only[au,bZ]at aou rZ;simp only[aou,ku,aa.width,aa.isAgg,↓OD,OA,reduceEqDiff,reduceAdd,reduceLeDiff];refine lU c1 (λ n hn=>by rw[List.mem_singleton.1 hn,rZ,aou]) ?_;simp only[ku,↓OD,OA,reduceEqDiff];refine⟨λ y hy=>by rw[List.mem_singleton.1 hy];rfl,?_⟩
    have hb3:∀E:List ad,(O2++E)[O.length+1]? =some (.live 66 5 [.agg [au x.Kind,au x.N,bZ x.Name,vY ks k,.v (.pointer none)]]):=λ E=>by
     have:Q.length<O2.length:=by have:=c5;simp at this;omega
     rw[al (by omega)];exact rZ
    simp only[au,bZ]at hb3;by_cases hks:ks= []
    ·subst hks;simp only[akU]at hb3⊢;simp only[hb3,↓OD,OA,reduceEqDiff,reduceCtorEq,reduceAdd,reduceLT,reduceLeDiff];refine⟨by decide,by decide,?_⟩;refine⟨λ h=>h.elim,λ _=> ?_⟩;simp only[hb3,List.append_assoc,List.cons_append,List.nil_append,OA,reduceAdd,reduceLT,reduceLeDiff];have hQ2:Q.length<O2.length:=by have:=c5;simp at this;omega
     refine⟨fA (λ n=>[O.length+1,O2.length,Q.length].getD n 0) 3 [⟨[],.cL⟩,⟨[],.cL⟩,⟨[0],.cL⟩,⟨[0],.cL⟩,⟨[0],.cL⟩,⟨[2],.cL⟩,⟨[],.cL⟩,⟨[],.cL⟩,⟨[],.xn [0]⟩,⟨[],.push 1⟩,⟨[],.any⟩,⟨[0],.cL⟩,⟨[0],.cL⟩,⟨[0],.set 0⟩] (by kernel_rfl) (by kernel_rfl) (λ a b ha hb h=> ?_) (by kernel_rfl),?_⟩
     ·match a,b,ha,hb with
      |0,0,_,_|1,1,_,_|2,2,_,_=>rfl
      |0,1,_,_|0,2,_,_|1,0,_,_|1,2,_,_|2,0,_,_|2,1,_,_=>simp at h;omega
     have hO3:∀(v:ad) (E:List ad) (n:Nat),n<O2.length->n≠O.length+1->((O2++E).set (O.length+1) v)[n]? =O2[n]? :=λ v E n hn bn=>by rw[getElem?_set_ne (λ e=>bn e.symm),al hn]
     refine a6 (done++ [t],r,S2,uu,bx2,kr2,[rr],O2.length+1,_) (hi.step (q:=Q.length+1) (k':=O2.length+1) c2 c3 (by omega) (by simpa using c4) (by omega) c6' c7 c8 (λ _=>by omega) (λ h=>(h rfl).elim) (λ n hn bn _=>hO3 _ _ n hn bn) ?_ ?_ ?_) ?_ (.of_eq ?_ rfl)
     ·simp
     ·exact List.getElem?_set_self (by simp;omega)
     ·rw[getElem?_set_ne (by omega)];exact ux
     ·show r.length<(t::r).length;simp
     ·rw[bh (by omega) (by omega),length_append];rfl
    ·rw[abY hks]at hb3⊢;obtain⟨g1,g2⟩:=hi.row hks;have hkQ:=(List.getElem?_eq_some_iff.1 g2).1
     have hr3:∀E:List ad,(O2++E)[k]? =some (.live 64 1 (kD bx1 ks)):=λ E=>by
      have:Q.length<O2.length:=by have:=c5;simp at this;omega
      rw[al (by omega),c6' k hkQ];exact g2
     have hb4:∀(E:List ad) (v:ad),((O2++E).set k v)[O.length+1]? =(O2++E)[O.length+1]? :=λ E v=>getElem?_set_ne (by omega)
     simp only[hr3,cU,↓OD,OA,reduceEqDiff,reduceCtorEq,reduceAdd]
     refine⟨by omega,by have:maxLen=9223372036854775807:=rfl
                        omega,?_⟩
     simp only[hb4,hb3,OA,reduceAdd,reduceLT,reduceLeDiff];have hQ2:Q.length<O2.length:=by have:=c5;simp at this;omega
     refine⟨fA (λ n=>[O.length+1,O2.length,Q.length,k].getD n 0) 4 [⟨[],.cL⟩,⟨[],.cL⟩,⟨[0],.cL⟩,⟨[0],.cL⟩,⟨[0],.cL⟩,⟨[2],.cL⟩,⟨[],.cL⟩,⟨[],.cL⟩,⟨[],.xn [0]⟩,⟨[],.push 1⟩,⟨[3,1],.set 3⟩,⟨[0],.cL⟩,⟨[0],.cL⟩,⟨[0],.set 0⟩] (by kernel_rfl) (by kernel_rfl) (λ a b ha hb h=> ?_) (by kernel_rfl),?_⟩
     ·match a,b,ha,hb with
      |0,0,_,_|1,1,_,_|2,2,_,_|3,3,_,_=>rfl
      |0,1,_,_|0,2,_,_|0,3,_,_|1,0,_,_|1,2,_,_|1,3,_,_|2,0,_,_|2,1,_,_|2,3,_,_|3,0,_,_|3,1,_,_|3,2,_,_=>simp at h;omega
     have hO3:∀(v w:ad) (E:List ad) (n:Nat),n<O2.length->n≠O.length+1->n≠k->(((O2++E).set k w).set (O.length+1) v)[n]? =O2[n]? :=λ v w E n hn bn pz=>by rw[getElem?_set_ne (λ e=>bn e.symm),getElem?_set_ne (λ e=>pz e.symm),al hn]
     refine a6 (done++ [t],r,S2,uu,bx2,kr2,ks++ [rr],k,_) (hi.step (q:=Q.length+1) (k':=k) c2 c3 (by omega) (by simpa using c4) (by omega) c6' c7 c8 (λ h=>(hks h).elim) (λ _=>rfl) (λ n hn bn pz=>hO3 _ _ _ n hn bn pz) ?_ ?_ ?_) ?_ (.of_eq ?_ rfl)
     ·simp
     ·exact List.getElem?_set_self (by simp;omega)
     ·rw[getElem?_set_ne (by omega)];exact List.getElem?_set_self (by simp;omega)
     ·show r.length<(t::r).length;simp
     ·rw[bh (by omega) (by omega),length_append];rfl
   ·have ma:rest= []:=by
      cases rest with
      |nil=>rfl
      |cons k r=>simp at hc hlen;omega
    subst ma;simp only[↓OD,OA,reduceEqDiff];exact aY (.inl rfl) (by simp only[OA];exact hi.fin (hi.ext.lt aF) kV hk (by omega))
 obtain⟨res,O',⟨S',bw,nW,qW,r,rfl,h⟩,hc⟩:=key;exact⟨S',bw,nW,qW,O',r,hc,h⟩
termination_by SizeOf.sizeOf x
decreasing_by exact aa.cW j2
end Go.Proofs.Ab
