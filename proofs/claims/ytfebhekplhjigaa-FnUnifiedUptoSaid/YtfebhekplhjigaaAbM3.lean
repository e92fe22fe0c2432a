/- Part of a proof: the functions that the law reaches, walked by the abstract logic of the texts Ab. -/
import Derived.Test.YtfebhekplhjigaaAbM2
import Derived.Deep.LoopGhost
import Derived.Laws.Strings
import Derived.WideKeyArgs
import Derived.ChangeSame
import Derived.OpenShut
import Derived.JoinedCond
import Derived.ChangeArms
open Nat(zero_mul le_refl zero_add)
open Option(bind_eq_bind pure_def bind_eq_some_iff bind_some map_eq_some_iff)
open List(mapM_cons map_cons getElem?_map length_zip getElem?_take mem_of_getElem? mem_append_left)
set_option linter.unusedSimpArgs false
set_option linter.unusedVariables false
namespace Go.Ab
structure Sat(I0:du)(L0:Nat->Loc)(O0:List ad)(w0:World)(nt:Nat)(e:Env)(O:List ad)(a:Act)(w:World)(I:du)(L:Nat->Loc):Prop where
 dA:Good I0 L0 O0 w0 I L O w
 env:∀t,R I L O (e t) (a.tmps.getD t undef)
 size:nt<=a.tmps.size
 defers:a.defers= []
section
variable {P:Program} {I0:du} {L0:Nat->Loc} {O0:List ad} {w0:World} {nt:Nat}
theorem aoH(tmps:Array Value)(d:Nat)(v:Value)(hd:d<tmps.size)(t:Nat):(tmps.setIfInBounds d v).getD t undef=if t=d then v else tmps.getD t undef:=by
 simp only[Array.getD_eq_getD_getElem?,Array.getElem?_setIfInBounds];by_cases h:d=t
 ·subst h;simp[hd]
 ·rw[if_neg h,if_neg (λ k=>h k.symm)]
theorem Sat.put{e:Env}{O O':List ad}{a:Act}{w w':World}{I I':du}{L L':Nat->Loc}(h:Sat I0 L0 O0 w0 nt e O a w I L){d:Option Nat}(hd:d.all (·<nt)=true){x:AV}{y:Value}
  (hg:Good I L O w I' L' O' w') (hr:R I' L' O' x y):Sat I0 L0 O0 w0 nt (bO e d x) O' (a.put d y) w' I' L':=by
 refine⟨h.dA.trans hg,λ t=> ?_,?_,?_⟩
 ·cases d with
  |none=>exact(h.env t).mono hg.ext
  |some d=>
   have aF:d<a.tmps.size:=by have:=h.size;simp at hd;omega
   simp only[bO,Env.set,Act.put];rw[aoH _ _ _ aF]
   split
   ·exact hr
   ·exact(h.env t).mono hg.ext
 ·cases d<;>simp[Act.put];exact h.size;exact h.size
 ·cases d<;>simp[Act.put];exact h.defers;exact h.defers
theorem Sat.ain{e e':Env}{O:List ad}{a:Act}{w:World}{I:du}{L:Nat->Loc}(h:Sat I0 L0 O0 w0 nt e O a w I L)(he:∀t,R I L O (e' t) (a.tmps.getD t undef)):Sat I0 L0 O0 w0 nt e' O a w I L:=
 ⟨h.dA,he,h.size,h.defers⟩
theorem abO{ops:Array Oper}{K:Env->List ad->Prop}{Q:Exit->Act->World->Prop}(hq:∀e O a w I L,K e O->Sat I0 L0 O0 w0 nt e O a w I L->Q .normal a w):
  ∀(l:List Oper) (al:List aO),l.mapM (pC P nt ops)=some (al.map aO.strip)->∀e O a w I L,wpOps P al e O K->Sat I0 L0 O0 w0 nt e O a w I L->wpList P ops Q l a w
 | [],al,h,e,O,a,w,I,L,hk,hs=>by
   simp at h;subst h;exact hq _ _ _ _ _ _ hk hs
 |o::l,al,h,e,O,a,w,I,L,hk,hs=>by
  simp only[mapM_cons,bind_eq_bind,pure_def,bind_eq_some_iff,Option.some.injEq]at h;obtain⟨b,hb,bs,hbs,h⟩:=h;cases al with
  |nil=>simp at h
  |cons ao al=>
   simp only[map_cons,List.cons.injEq]at h;obtain⟨rfl,rfl⟩:=h;have ih:=abO hq l al hbs;unfold pC at hb
   split at hb
   case h_2=>cases hb
   case h_1 op g hop hg=>
    split at hb
    case isFalse=>cases hb
    case isTrue hd=>
     simp only[Option.some.injEq,aO.strip,aO.mk.injEq]at hb;obtain⟨hgu,zP,aoa⟩:=hb;subst aoa;rw[zP]at hd
     have step:∀e1 I1 L1,Sat I0 L0 O0 w0 nt e1 O a w I1 L1->(wpOp P ao.op e1 O λ x O'=>wpOps P al (bO e1 ao.dst x) O' K)->o.wp P a w (wpList P ops Q l) Q:=by
      intro e1 I1 L1 xe vj;refine yR hop xe.dA.inv xe.env vj λ x O' y I' L' w' nH oz ou=> ?_
      rw[zP];exact ih _ _ _ _ _ _ nH (xe.put hd oz ou)
     have skip:∀e1 I1 L1,Sat I0 L0 O0 w0 nt e1 O a w I1 L1->wpOps P al (bO e1 ao.dst (.a9 [])) O K->wpList P ops Q l (a.put o.dst undef) w:=by
      intro e1 I1 L1 xe vj;rw[zP];exact ih _ _ _ _ _ _ vj (xe.put hd (.refl xe.dA.inv) (.a9 [] #[] rfl (by simp)))
     simp only[wpOps]at hk;unfold wpList;cases hog:o.guard with
     |none=>
      rw[hog]at hg;simp only[qI,Option.some.injEq]at hg;subst hg;rw[←hgu]at hk;rw[if_pos (by simp[Region.wanted,hog])];exact .inl (step _ _ _ hs hk)
     |some jb=>
      obtain⟨j,want⟩:=jb;rw[hog]at hg;simp only[qI]at hg
      split at hg
      case h_2=>cases hg
      case h_1 t ht=>
       split at hg
       case isFalse=>cases hg
       case isTrue htn=>
        simp only[Option.some.injEq]at hg;subst hg;rw[←hgu]at hk;simp only at hk;have aF:t<a.tmps.size:=Nat.lt_of_lt_of_le htn hs.size;have ck:a.tmps[t]? =some (a.tmps.getD t undef):=by simp[Array.getD,aF]
        have hr:=hs.env t;have hw:Region.wanted o (yielded ops a.tmps)=(yielded ops a.tmps j==some want):=by simp[Region.wanted,hog]
        have hy:yielded ops a.tmps j=match some (a.tmps.getD t undef)with|some (.bool b)=>some b|_=>none:=by
         unfold yielded;rw[ht];simp only[bind_some];rw[ck];cases a.tmps.getD t undef<;>rfl
        split at hk
        ·rename_i b hb;rw[hb]at hr;have hv:=hr.bool;rw[hv]at hy;simp only at hy;rw[hw,hy]
         have o5:∀c,b=c->Sat I0 L0 O0 w0 nt (e.set t (.v (.bool c))) O a w I L:=by
          intro c hc;refine hs.ain λ t'=> ?_
          unfold Env.set
          split
          ·rename_i htt;subst htt;rw[hv,hc];exact .v _ rfl
          ·exact hs.env t'
         by_cases me:b=want
         ·rw[if_pos (by simp[me])];exact .inl (step _ _ _ (o5 want me) (hk.1 me))
         ·rw[if_neg (by simpa using me)];have lG:b= !want:=by cases b<;>cases want<;>simp_all
          exact skip _ _ _ (o5 (!want) lG) (hk.2 lG)
        ·rename_i hb;rw[hb]at hr
         have hv:a.tmps.getD t undef= .tuple #[]:=by
          generalize a.tmps.getD t undef=X at hr;cases hr with
          |a9 _ vs h1 _=>congr 1;exact Array.eq_empty_of_size_eq_zero h1.symm
         rw[hv]at hy;simp only at hy;rw[hw,hy,if_neg (by simp)];exact skip _ _ _ hs hk
        ·exact hk.elim
def AX.to:AX->Exit
 | .normal=> .normal
 | .exit id=> .exit id
 | .ret=> .ret
theorem arn{I:du}{L:Nat->Loc}{O:List ad}{e:Env}{f:Nat->Value}(h:∀t,R I L O (e t) (f t))(live:List Nat):∀t,R I L O (tK live e t) (f t):=by
 intro t;unfold tK
 split
 ·exact h t
 ·exact .top _
theorem Sat.wk{e e':Env}{O O':List ad}{a:Act}{w:World}{I:du}{L:Nat->Loc}(h:Sat I0 L0 O0 w0 nt e O a w I L)(hw:WK O0.length e O e' O'):∃I' L',Sat I0 L0 O0 w0 nt e' O' a w I' L':=by
 obtain⟨I',L',hg,hr⟩:=hw I0 L0 O0 w0 I L w _ rfl h.dA h.env;exact⟨I',L',hg,hr,h.size,h.defers⟩
theorem yQ{ops:Array Oper}{K:Env->List ad->Prop}{Q:Exit->Act->World->Prop}(hq:∀e O a w I L,K e O->Sat I0 L0 O0 w0 nt e O a w I L->Q .normal a w):
  ∀(l:List Oper) (al:List aO),l.mapM (pC P nt ops)=some (al.map aO.strip)->∀e O a w I L,gU P O0.length al e O K->Sat I0 L0 O0 w0 nt e O a w I L->wpList P ops Q l a w
 | [],al,h,e,O,a,w,I,L,hk,hs=>by
   simp at h;subst h;obtain⟨e',O',hw,hk⟩:=hk;obtain⟨I',L',hs'⟩:=hs.wk hw;exact hq _ _ _ _ _ _ hk hs'
 |o::l,al,h,e00,O00,a,w,I00,L00,hk,aBF=>by
  simp only[mapM_cons,bind_eq_bind,pure_def,bind_eq_some_iff,Option.some.injEq]at h;obtain⟨b,hb,bs,hbs,h⟩:=h;cases al with
  |nil=>simp at h
  |cons ao al=>
   simp only[map_cons,List.cons.injEq]at h;obtain⟨rfl,rfl⟩:=h;simp only[gU]at hk;obtain⟨e,O,xc,hk⟩:=hk;obtain⟨I,L,hs⟩:=aBF.wk xc;have ih:=yQ hq l al hbs;unfold pC at hb
   split at hb
   case h_2=>cases hb
   case h_1 op g hop hg=>
    split at hb
    case isFalse=>cases hb
    case isTrue hd=>
     simp only[Option.some.injEq,aO.strip,aO.mk.injEq]at hb;obtain⟨hgu,zP,aoa⟩:=hb;subst aoa;rw[zP]at hd
     have step:∀e1 I1 L1,Sat I0 L0 O0 w0 nt e1 O a w I1 L1->(wpOp P ao.op e1 O λ x O'=>gU P O0.length al (bO e1 ao.dst x) O' K)->o.wp P a w (wpList P ops Q l) Q:=by
      intro e1 I1 L1 xe vj;refine yR hop xe.dA.inv xe.env vj λ x O' y I' L' w' nH oz ou=> ?_
      rw[zP];exact ih _ _ _ _ _ _ nH (xe.put hd oz ou)
     have skip:∀e1 I1 L1,Sat I0 L0 O0 w0 nt e1 O a w I1 L1->gU P O0.length al (bO e1 ao.dst (.a9 [])) O K->wpList P ops Q l (a.put o.dst undef) w:=by
      intro e1 I1 L1 xe vj;rw[zP];exact ih _ _ _ _ _ _ vj (xe.put hd (.refl xe.dA.inv) (.a9 [] #[] rfl (by simp)))
     unfold wpList;cases hog:o.guard with
     |none=>
      rw[hog]at hg;simp only[qI,Option.some.injEq]at hg;subst hg;rw[←hgu]at hk;rw[if_pos (by simp[Region.wanted,hog])];exact .inl (step _ _ _ hs hk)
     |some jb=>
      obtain⟨j,want⟩:=jb;rw[hog]at hg;simp only[qI]at hg
      split at hg
      case h_2=>cases hg
      case h_1 t ht=>
       split at hg
       case isFalse=>cases hg
       case isTrue htn=>
        simp only[Option.some.injEq]at hg;subst hg;rw[←hgu]at hk;simp only at hk;have aF:t<a.tmps.size:=Nat.lt_of_lt_of_le htn hs.size;have ck:a.tmps[t]? =some (a.tmps.getD t undef):=by simp[Array.getD,aF]
        have hr:=hs.env t;have hw:Region.wanted o (yielded ops a.tmps)=(yielded ops a.tmps j==some want):=by simp[Region.wanted,hog]
        have hy:yielded ops a.tmps j=match some (a.tmps.getD t undef)with|some (.bool b)=>some b|_=>none:=by
         unfold yielded;rw[ht];simp only[bind_some];rw[ck];cases a.tmps.getD t undef<;>rfl
        split at hk
        ·rename_i b hb;rw[hb]at hr;have hv:=hr.bool;rw[hv]at hy;simp only at hy;rw[hw,hy]
         have o5:∀c,b=c->Sat I0 L0 O0 w0 nt (e.set t (.v (.bool c))) O a w I L:=by
          intro c hc;refine hs.ain λ t'=> ?_
          unfold Env.set
          split
          ·rename_i htt;subst htt;rw[hv,hc];exact .v _ rfl
          ·exact hs.env t'
         by_cases me:b=want
         ·rw[if_pos (by simp[me])];exact .inl (step _ _ _ (o5 want me) (hk.1 me))
         ·rw[if_neg (by simpa using me)];have lG:b= !want:=by cases b<;>cases want<;>simp_all
          exact skip _ _ _ (o5 (!want) lG) (hk.2 lG)
        ·rename_i hb;rw[hb]at hr
         have hv:a.tmps.getD t undef= .tuple #[]:=by
          generalize a.tmps.getD t undef=X at hr;cases hr with
          |a9 _ vs h1 _=>congr 1;exact Array.eq_empty_of_size_eq_zero h1.symm
         rw[hv]at hy;simp only at hy;rw[hw,hy,if_neg (by simp)];exact skip _ _ _ hs hk
        ·exact hk.elim
theorem Sat.drawn{e:Env}{O:List ad}{a:Act}{w:World}{I:du}{L:Nat->Loc}(h:Sat I0 L0 O0 w0 nt e O a w I L)(k:Nat):Sat I0 L0 O0 w0 nt e O a {w with drawn:=k} I L:=
 ⟨h.dA.trans (Good.drawn h.dA.inv k),h.env,h.size,h.defers⟩
theorem ag8{ops:Array Oper}{o:Oper}{ao:aO}(hb:pC P nt ops o=some ao.strip){e e':Env}{O O':List ad}(oJ:Step P ao e O e' O'){a:Act}{w:World}{I:du}{L:Nat->Loc}(hs:Sat I0 L0 O0 w0 nt e O a w I L)
  {next:Act->World->Prop} {Q:Exit->Act->World->Prop} (hn:∀a w I L,Sat I0 L0 O0 w0 nt e' O' a w I L->next a w):
  if Region.wanted o (yielded ops a.tmps)=true then o.wp P a w next Q else next (a.put o.dst undef) w:=by
 unfold pC at hb
 split at hb
 case h_2=>cases hb
 case h_1 op g hop hg=>
  split at hb
  case isFalse=>cases hb
  case isTrue hd=>
   simp only[Option.some.injEq,aO.strip,aO.mk.injEq]at hb;obtain⟨hgu,zP,aoa⟩:=hb;subst aoa;rw[zP]at hd
   have aop:∀t want,ao.guard=some (t,want)->∃j,o.guard=some (j,want)/\((ops[j]?).bind (·.dst))=some t/\t<nt:=by
    intro t want h;rw[h]at hgu;subst hgu;cases hog:o.guard with
    |none=>rw[hog]at hg;simp[qI]at hg
    |some jb=>
     obtain⟨j,b⟩:=jb;rw[hog]at hg;simp only[qI]at hg
     split at hg
     case h_2=>cases hg
     case h_1 t' ht'=>
      split at hg
      case isFalse=>cases hg
      case isTrue htn=>
       simp only[Option.some.injEq,Prod.mk.injEq]at hg;obtain⟨rfl,rfl⟩:=hg;exact⟨j,rfl,ht',htn⟩
   have an1:∀{j t},((ops[j]?).bind (·.dst))=some t->t<nt->yielded ops a.tmps j=match some (a.tmps.getD t undef)with|some (.bool b)=>some b|_=>none:=by
    intro j t ht htn;have aF:t<a.tmps.size:=Nat.lt_of_lt_of_le htn hs.size;have ck:a.tmps[t]? =some (a.tmps.getD t undef):=by simp[Array.getD,aF]
    unfold yielded;rw[ht];simp only[bind_some];rw[ck];cases a.tmps.getD t undef<;>rfl
   cases oJ with
   |run x _ hq hx=>
    have hw:Region.wanted o (yielded ops a.tmps)=true:=by
     cases hag:ao.guard with
     |none=>
      have:o.guard=none:=by
       rw[hag]at hgu;subst hgu;cases hog:o.guard with
       |none=>rfl
       |some jb=>
        obtain⟨j,b⟩:=jb;rw[hog]at hg;simp only[qI]at hg
        split at hg
        ·split at hg<;>simp at hg
        ·cases hg
      simp[Region.wanted,this]
     |some tw=>
      obtain⟨t,want⟩:=tw;obtain⟨j,h1,h2,h3⟩:=aop t want hag;have hr:=hs.env t;rw[hq t want hag]at hr;have hy:=an1 h2 h3;rw[hr.bool]at hy;simp only at hy;simp[Region.wanted,h1,hy]
    rw[if_pos hw];refine yR hop hs.dA.inv hs.env (hx (λ x' nc=>x'=x/\nc=O') ⟨rfl,rfl⟩) λ x' nc y I' L' w' nH oz ou=> ?_
    obtain⟨rfl,rfl⟩:=nH;rw[zP];exact hn _ _ _ _ (hs.put hd oz ou)
   |skip t want hgt hb=>
    obtain⟨j,h1,h2,h3⟩:=aop t want hgt;have hr:=hs.env t;have hy:=an1 h2 h3
    have hw:Region.wanted o (yielded ops a.tmps)=false:=by
     rcases hb with hb|hb
     ·rw[hb]at hr;rw[hr.bool]at hy;simp only at hy;simp[Region.wanted,h1,hy]
     ·rw[hb]at hr
      have hv:a.tmps.getD t undef= .tuple #[]:=by
       generalize a.tmps.getD t undef=X at hr;cases hr with
       |a9 _ vs h1 _=>congr 1;exact Array.eq_empty_of_size_eq_zero h1.symm
      rw[hv]at hy;simp only at hy;simp[Region.wanted,h1,hy]
    rw[if_neg (by simp[hw])];rw[zP];exact hn _ _ _ _ (hs.put hd (.refl hs.dA.inv) (.a9 [] #[] rfl (by simp)))
theorem abE{ops:Array Oper}{al:List aO}(hm:ops.toList.mapM (pC P nt ops)=some (al.map aO.strip))(hlen:al.length=ops.size){e2:Env}{O2:List ad}{Q:Exit->Act->World->Prop}
  (hq:∀a w I L,Sat I0 L0 O0 w0 nt e2 O2 a w I L->Q .normal a w):
  ∀(l:List Nat),(∀i∈l,i<ops.size)->∀e O a w I L,Run P (l.map λ i=>al.getD i ⟨none,none,.aA (.c .top)⟩) e O e2 O2->Sat I0 L0 O0 w0 nt e O a w I L->Go.wpOps P ops Q l a w
 | [],_,e,O,a,w,I,L,hr,hs=>by
   cases hr;exact hq _ _ _ _ hs
 |i::l,hl,e,O,a,w,I,L,hr,hs=>by
  cases hr with
  |cons oJ hr=>
   have hi:=hl i (by simp);have ho:ops[i]? =some ops[i]:=by simp[hi]
   have ha:al[i]? =some (al.getD i ⟨none,none,.aA (.c .top)⟩):=by simp[List.getD,show i<al.length by omega]
   have hc:=(mapM_some hm).2 i ops[i] ((al.getD i ⟨none,none,.aA (.c .top)⟩).strip) (by simp) (by rw[getElem?_map,ha];rfl);have:=ag8 (Q:=Q) hc oJ hs (next:=Go.wpOps P ops Q l) λ a w I L hs'=>abE hm hlen hq l (λ j hj=>hl j (by simp[hj])) _ _ a w I L hr hs'
   simp only[Go.wpOps,ho]
   split
   ·rename_i hw;rw[if_pos hw]at this;exact .inl this
   ·rename_i hw;rw[if_neg hw]at this;exact this
theorem cc{code:Code}{c:aR}(h:fQ P nt code=some c):
  (code= .skip/\c= .skip)∨(∃id ops draw rows aea,code= .region id ops draw/\c= .region rows aea/\ops.toList.mapM (pC P nt ops)=some aea/\((draw=false/\rows=none)∨(draw=true/\rows=some (rowsOf ops)/\(Region.departs ops=false∨P.follows .mixedOrders=true))))∨
  (∃x y ax ay,code= .seq x y/\c= .seq ax ay/\fQ P nt x=some ax/\fQ P nt y=some ay)∨
  (∃o x y ao ax ay,code= .cond o x y/\c= .cond ao ax ay/\bH o=some ao/\fQ P nt x=some ax/\fQ P nt y=some ay)∨
  (∃id b ab,code= .block id b/\c= .block id ab/\fQ P nt b=some ab)∨(∃b ab,code= .loop b/\c= .loop ab/\fQ P nt b=some ab)∨
  (∃id,code= .exit id/\c= .exit id)∨(code= .ret/\c= .ret):=by
 cases code with
 |skip=>simp only[fQ,Option.some.injEq]at h;exact .inl ⟨rfl,h.symm⟩
 |region id ops draw=>
  cases draw
  ·simp only[fQ,map_eq_some_iff]at h;obtain⟨aea,h1,h2⟩:=h;exact .inr (.inl ⟨id,ops,false,_,aea,rfl,h2.symm,h1,.inl ⟨rfl,rfl⟩⟩)
  ·simp only[fQ]at h
   split at h
   ·cases h
   ·rename_i hd;simp only[map_eq_some_iff]at h;obtain⟨aea,h1,h2⟩:=h
    exact .inr (.inl ⟨id,ops,true,_,aea,rfl,h2.symm,h1,.inr ⟨rfl,rfl,by
     by_cases h:Region.departs ops=true
     ·exact .inr (by simpa [h]using hd)
     ·exact .inl (by simpa using h)⟩⟩)
 |seq x y=>
  simp only[fQ]at h
  split at h
  ·rename_i ax ay h1 h2;simp only[Option.some.injEq]at h;exact .inr (.inr (.inl ⟨x,y,ax,ay,rfl,h.symm,h1,h2⟩))
  ·cases h
 |cond o x y=>
  simp only[fQ]at h
  split at h
  ·rename_i ao ax ay h0 h1 h2;simp only[Option.some.injEq]at h;exact .inr (.inr (.inr (.inl ⟨o,x,y,ao,ax,ay,rfl,h.symm,h0,h1,h2⟩)))
  ·cases h
 |block id b=>
  simp only[fQ,map_eq_some_iff]at h;obtain⟨ab,h1,h2⟩:=h;exact .inr (.inr (.inr (.inr (.inl ⟨id,b,ab,rfl,h2.symm,h1⟩))))
 |loop b=>
  simp only[fQ,map_eq_some_iff]at h;obtain⟨ab,h1,h2⟩:=h;exact .inr (.inr (.inr (.inr (.inr (.inl ⟨b,ab,rfl,h2.symm,h1⟩)))))
 |exit id=>simp only[fQ,Option.some.injEq]at h;exact .inr (.inr (.inr (.inr (.inr (.inr (.inl ⟨id,rfl,h.symm⟩))))))
 |ret=>simp only[fQ,Option.some.injEq]at h;exact .inr (.inr (.inr (.inr (.inr (.inr (.inr ⟨rfl,h.symm⟩))))))
 |_=>simp[fQ]at h
theorem aiv(c:aR):∀(code:Code),fQ P nt code=some c.strip->∀(Q:AX->Env->List ad->Prop) (QM:Exit->Act->World->Prop),
  (∀x e O a w I L,Q x e O->Sat I0 L0 O0 w0 nt e O a w I L->QM x.to a w)->∀e O a w I L,ky P O0.length c Q e O->Sat I0 L0 O0 w0 nt e O a w I L->code.wp P QM a w:=by
 induction c with
 |skip=>
  intro code hc Q QM hq e O a w I L hk hs;rcases cc hc with⟨rfl,h⟩|⟨_,_,_,_,_,_,h,_⟩|⟨_,_,_,_,_,h,_⟩|⟨_,_,_,_,_,_,_,h,_⟩|⟨_,_,_,_,h,_⟩|⟨_,_,_,h,_⟩|⟨_,_,h⟩|⟨_,h⟩<;>simp only[aR.strip]at h<;>first|(cases h;done)|skip
  exact wp_skip (hq .normal _ _ _ _ _ _ hk hs)
 |region d ops=>
  intro code hc Q QM hq e O a w I L hk hs;rcases cc hc with⟨_,h⟩|⟨id,ani,draw,rows,aea,rfl,h,hm,hdr⟩|⟨_,_,_,_,_,h,_⟩|⟨_,_,_,_,_,_,_,h,_⟩|⟨_,_,_,_,h,_⟩|⟨_,_,_,h,_⟩|⟨_,_,h⟩|⟨_,h⟩<;>simp only[aR.strip]at h<;>first|(cases h;done)|skip
  simp only[aR.region.injEq]at h;obtain⟨rfl,rfl⟩:=h;rcases hdr with⟨rfl,rfl⟩|⟨rfl,rfl,ay9⟩
  case inr=>
   obtain⟨al,qv,hk⟩:=hk;rw[←qv]at hm;obtain⟨iD,e2,O2,hll,bo,kV,hK⟩:=mH al hk;rw[List.nil_append]at kV;refine wp_region_draw λ t=> ?_
   have hlen:al.length=ani.size:=by have:=(mapM_some hm).1;simpa using this
   obtain⟨h1,h2⟩:=ac2 ay9 (by rw[length_zip,hll];omega) kV bo t;have h3:=h1.run;rw[List.map_map]at h3
   have ck:((λ x:aO×iw=>x.1)∘λ i=>(al.zip iD).getD i (⟨none,none,.aA (.c .top)⟩,⟨[],.any⟩))=λ i=>al.getD i ⟨none,none,.aA (.c .top)⟩:=by
    funext i
    simp only[Function.comp,List.getD];by_cases hi:i<al.length
    ·have eH:i<iD.length:=by omega
     have hz:i<(al.zip iD).length:=by rw[length_zip];omega
     rw[List.getElem?_eq_getElem hz,List.getElem?_eq_getElem hi];simp
    ·rw[List.getElem?_eq_none (by rw[length_zip];omega),List.getElem?_eq_none (by omega)]
     rfl
   rw[ck]at h3;exact abE hm hlen (λ a w I L hs=>hq .normal _ _ _ _ _ _ hK hs) _ h2 e O a _ I L h3 (hs.drawn _)
  exact wp_region_list (abO (λ e O a w I L h hs=>hq .normal e O a w I L h hs) ani.toList ops hm e O a w I L hk hs)
 |seq x y ihx ihy=>
  intro code hc Q QM hq e O a w I L hk hs;rcases cc hc with⟨_,h⟩|⟨_,_,_,_,_,_,h,_⟩|⟨cx,cy,ax,ay,rfl,h,hx,hy⟩|⟨_,_,_,_,_,_,_,h,_⟩|⟨_,_,_,_,h,_⟩|⟨_,_,_,h,_⟩|⟨_,_,h⟩|⟨_,h⟩<;>simp only[aR.strip]at h<;>first|(cases h;done)|skip
  simp only[aR.seq.injEq]at h;obtain⟨rfl,rfl⟩:=h;refine wp_seq (ihx cx hx _ _ ?_ e O a w I L hk hs);intro z e O a w I L hz hs;cases z
  case normal=>exact ihy cy hy Q QM hq e O a w I L hz hs
  case exit id=>exact hq (.exit id) _ _ _ _ _ _ hz hs
  case ret=>exact hq .ret _ _ _ _ _ _ hz hs
 |cond c t f iht ihf=>
  intro code hc Q QM hq e O a w I L hk hs;rcases cc hc with⟨_,h⟩|⟨_,_,_,_,_,_,h,_⟩|⟨_,_,_,_,_,h,_⟩|⟨o,x,y,ao,ax,ay,rfl,h,h0,h1,h2⟩|⟨_,_,_,_,h,_⟩|⟨_,_,_,h,_⟩|⟨_,_,h⟩|⟨_,h⟩<;>simp only[aR.strip]at h<;>first|(cases h;done)|skip
  simp only[aR.cond.injEq]at h;obtain⟨rfl,rfl,rfl⟩:=h;have rc:=aq h0 hs.env;simp only[ky]at hk
  split at hk
  ·rename_i b hb;rw[hb]at rc;refine wp_cond (t:=b) rc.bool ?_;cases b
   ·exact ihf y h2 Q QM hq e O a w I L (hk.2 rfl) hs
   ·exact iht x h1 Q QM hq e O a w I L (hk.1 rfl) hs
  ·exact hk.elim
 |block id b ih=>
  intro code hc Q QM hq e O a w I L hk hs;rcases cc hc with⟨_,h⟩|⟨_,_,_,_,_,_,h,_⟩|⟨_,_,_,_,_,h,_⟩|⟨_,_,_,_,_,_,_,h,_⟩|⟨id',cb,ab,rfl,h,hb⟩|⟨_,_,_,h,_⟩|⟨_,_,h⟩|⟨_,h⟩<;>simp only[aR.strip]at h<;>first|(cases h;done)|skip
  simp only[aR.block.injEq]at h;obtain⟨rfl,rfl⟩:=h;refine wp_block (ih cb hb _ _ ?_ e O a w I L hk hs);intro z e O a w I L hz hs;cases z
  case normal=>exact hq .normal _ _ _ _ _ _ hz hs
  case exit i=>
   simp only[AX.to,Exit.inBlock];simp only at hz;by_cases hi:i=id
   ·rw[if_pos hi]at hz⊢;exact hq .normal _ _ _ _ _ _ hz hs
   ·rw[if_neg hi]at hz⊢;exact hq (.exit i) _ _ _ _ _ _ hz hs
  case ret=>exact hq .ret _ _ _ _ _ _ hz hs
 |loop b ih=>
  intro code hc Q QM hq e O a w I L hk hs;rcases cc hc with⟨_,h⟩|⟨_,_,_,_,_,_,h,_⟩|⟨_,_,_,_,_,h,_⟩|⟨_,_,_,_,_,_,_,h,_⟩|⟨_,_,_,_,h,_⟩|⟨cb,ab,rfl,h,hb⟩|⟨_,_,h⟩|⟨_,h⟩<;>simp only[aR.strip]at h<;>first|(cases h;done)|skip
  simp only[aR.loop.injEq]at h;subst h;obtain⟨J,n,⟨e',O',hw,hJ⟩,ah8⟩:=hk;obtain⟨I',L',hs'⟩:=hs.wk hw;refine wp_loop_ghost (λ m a w=>∃e O I L,J m e O/\Sat I0 L0 O0 w0 nt e O a w I L) n ⟨e',O',I',L',hJ,hs'⟩ ?_;rintro m a w ⟨e1,O1,I1,L1,hJ1,xe⟩;refine ih cb hb _ _ ?_ e1 O1 a w I1 L1 (ah8 m e1 O1 hJ1) xe;intro z e2 O2 a2 w2 I2 L2 hz hs2;cases z
  case normal=>
   obtain⟨m',e3,O3,aF,hw3,hJ3⟩:=hz;obtain⟨I3,L3,hs3⟩:=hs2.wk hw3;exact⟨m',aF,e3,O3,I3,L3,hJ3,hs3⟩
  case exit id=>exact hq (.exit id) _ _ _ _ _ _ hz hs2
  case ret=>exact hq .ret _ _ _ _ _ _ hz hs2
 |exit id=>
  intro code hc Q QM hq e O a w I L hk hs;rcases cc hc with⟨_,h⟩|⟨_,_,_,_,_,_,h,_⟩|⟨_,_,_,_,_,h,_⟩|⟨_,_,_,_,_,_,_,h,_⟩|⟨_,_,_,_,h,_⟩|⟨_,_,_,h,_⟩|⟨i,rfl,h⟩|⟨_,h⟩<;>simp only[aR.strip]at h<;>first|(cases h;done)|skip
  simp only[aR.exit.injEq]at h;subst h;exact wp_exit (hq (.exit id) _ _ _ _ _ _ hk hs)
 |ret=>
  intro code hc Q QM hq e O a w I L hk hs;rcases cc hc with⟨_,h⟩|⟨_,_,_,_,_,_,h,_⟩|⟨_,_,_,_,_,h,_⟩|⟨_,_,_,_,_,_,_,h,_⟩|⟨_,_,_,_,h,_⟩|⟨_,_,_,h,_⟩|⟨_,_,h⟩|⟨rfl,h⟩<;>simp only[aR.strip]at h<;>first|(cases h;done)|skip
  exact wp_ret (hq .ret _ _ _ _ _ _ hk hs)
 |ar live c ih=>
  intro code hc Q QM hq e O a w I L hk hs;refine ih code hc _ QM ?_ e O a w I L hk hs;intro x e O a w I L hx hs;cases x
  case normal=>exact hq .normal _ _ _ _ _ _ hx (hs.ain (arn hs.env live))
  all_goals exact hq _ _ _ _ _ _ _ hx hs
 |gZ ops=>
  intro code hc Q QM hq e O a w I L hk hs;rcases cc hc with⟨_,h⟩|⟨id,ani,draw,rows,aea,rfl,h,hm,hdr⟩|⟨_,_,_,_,_,h,_⟩|⟨_,_,_,_,_,_,_,h,_⟩|⟨_,_,_,_,h,_⟩|⟨_,_,_,h,_⟩|⟨_,_,h⟩|⟨_,h⟩<;>simp only[aR.strip]at h<;>first|(cases h;done)|skip
  simp only[aR.region.injEq]at h;obtain⟨rfl,rfl⟩:=h;rcases hdr with⟨rfl,h0⟩|⟨rfl,h0,ay9⟩
  case inr=>cases h0
  exact wp_region_list (yQ (λ e O a w I L h hs=>hq .normal e O a w I L h hs) ani.toList ops hm e O a w I L hk hs)
 |k8 c ih=>
  intro code hc Q QM hq e O a w I L hk hs;obtain⟨e',O',hw,hk⟩:=hk;obtain⟨I',L',hs'⟩:=hs.wk hw;exact ih code hc Q QM hq e' O' a w I' L' hk hs'
def aoG(a:Act)(r:ResultVar):Sem Value:=
 match r with
 | .tmp t=>pure (a.tmps.getD t undef)
 | .cell b t=>do loadVar t (←asAddr (a.tmps.getD b undef))
theorem aeR{e:Env}{O:List ad}{a:Act}{w:World}{I:du}{L:Nat->Loc}(hi:Inv I L O w)(he:∀t,R I L O (e t) (a.tmps.getD t undef)):
  ∀(l:List ResultVar) (al:List dG) (acc:List AV) (M:List AV->Prop),l.mapM (alx P)=some al->dK e O al acc M->
   ∃xs vs,M (acc.reverse++xs)/\xs.length=vs.length/\(∀(i:Nat) x v,xs[i]? =some x->vs[i]? =some v->R I L O x v)/\
    (l.mapM (aoG a)).run P w= .ok vs w
 | [],al,acc,M,h,hk=>by
   simp at h;subst h;exact⟨[],[],by simpa [dK]using hk,rfl,by simp,by simp⟩
 |r::l,al,acc,M,h,hk=>by
  simp only[mapM_cons,bind_eq_bind,pure_def,bind_eq_some_iff,Option.some.injEq]at h;obtain⟨b,hb,bs,hbs,rfl⟩:=h
  have key:∃x v,dK e O bs (x::acc) M/\R I L O x v/\(aoG a r).run P w= .ok v w:=by
   cases r with
   |tmp t=>
    simp only[alx,Option.some.injEq]at hb;subst hb;exact⟨_,_,hk,he t,rfl⟩
   |cell t ty=>
    simp only[alx,map_eq_some_iff]at hb;obtain⟨n,hn,rfl⟩:=hb;simp only[dK,dG.get]at hk
    split at hk
    ·rename_i k hk0;have hr:=he t;rw[hk0]at hr
     split at hk
     ·rename_i t' s x hO;obtain⟨hl,hk⟩:=hk;have hv:=hr.ib hO rfl;obtain⟨c,⟨lD,g1,dE⟩,g2,g3,g4,g5,g6⟩:=hi.obj k _ _ _ hO;obtain⟨g7,g8⟩:=g6 0 x rfl
      have hex:∀j,∃u,j<n.getD 1->c[0*s+j]? =some u/\∀c',x.cells[j]? =some c'->R I L O c' u:=by
       intro j;by_cases hj:j<n.getD 1
       ·have gf:x.cells[j]? =some (x.cells[j]'(by omega)):=by simp
        obtain⟨u,hu,_,hr⟩:=g8 j _ gf;exact⟨u,λ _=>⟨hu,λ c'' h''=>by rw[gf]at h'';cases h'';exact hr⟩⟩
       ·exact⟨undef,λ h=>(hj h).elim⟩
      let bz:Nat->Value:=λ j=>(hex j).choose
      have afx:∀j,j<n.getD 1->c[0*s+j]? =some (bz j)/\∀c',x.cells[j]? =some c'->R I L O c' (bz j):=λ j hj=>(hex j).choose_spec hj
      have bo:=sw (P:=P) (t:=ty) hn (L k).bf 0 bz w (λ j hj=>by
       rw[eN g1];have:=(afx j hj).1;rwa [zero_mul]at this)
      refine⟨_,_,hk,nD (bz:=bz) (by omega) λ j c' hj nh=>(afx j nh).2 c' (by simpa using hj),?_⟩;simp only[aoG,hv];simp[Instr.loadAt,Instr.sureAddr]at bo;simpa [asAddr]using bo
     ·exact hk.elim
    ·exact hk.elim
  obtain⟨x,v,nH,hr,bo⟩:=key;obtain⟨xs,vs,h1,h2,h3,h4⟩:=aeR hi he l bs (x::acc) M hbs nH;refine⟨x::xs,v::vs,by simpa using h1,by simp[h2],λ i y u hy hu=> ?_,?_⟩
  ·cases i with
   |zero=>simp at hy hu;subst hy;subst hu;exact hr
   |succ i=>simp at hy hu;exact h3 i y u hy hu
  ·rw[mapM_cons,Sem.run_bind,bo,Result.andThen_ok,Sem.run_bind,h4]
   rfl
theorem aeO{fn:Func}{e:Env}{O O':List ad}{a:Act}{w:World}{I:du}{L:Nat->Loc}{rs:List dG}{res:AV}{x:AX}(hm:fn.results.toList.mapM (alx P)=some rs)(hs:Sat I0 L0 O0 w0 nt e O a w I L)
  (hk:oQ O0.length rs res O' x e O):∃y I' L',(results fn a.tmps).run P w= .ok y w/\R I' L' O' res y/\Good I0 L0 O0 w0 I' L' O' w:=by
 have nH:dK e O rs [] λ xs=>∃e',WK O0.length (λ t=>if t=0 then br xs else .top) O e' O'/\e' 0=res:=by
  cases x<;>first|exact hk|exact hk.elim
 obtain⟨xs,vs,⟨e',hw,he0⟩,h2,h3,h4⟩:=aeR hs.dA.inv hs.env _ _ _ _ hm nH;simp only[List.reverse_nil,List.nil_append]at hw
 let y:Value:=if h:vs.toArray.size=1 then vs.toArray[0]else .tuple vs.toArray
 have hy:R I L O (br xs) y:=by
  unfold br
  split
  ·rename_i x;have hv:vs.length=1:=by rw[←h2];rfl
   have:y=vs[0]'(by omega):=by simp[y,hv]
   rw[this];exact h3 0 x _ rfl (by simp[hv])
  ·rename_i bn
   have hv:vs.length≠1:=by
    rw[←h2];intro h1;obtain⟨x,hx⟩:=List.length_eq_one_iff.1 h1;exact bn x hx
   have:y= .tuple vs.toArray:=by simp[y,hv]
   rw[this];exact .a9 _ _ (by simpa using h2) λ i c v hc hv=>h3 i c v hc (by simpa using hv)
 obtain⟨I',L',hg,hr⟩:=hw I0 L0 O0 w0 I L w (λ t=>if t=0 then y else undef) rfl hs.dA (λ t=>by
  by_cases ht:t=0
  ·subst ht;simpa using hy
  ·simp only[if_neg ht];exact .top _)
 refine⟨y,I',L',?_,?_,hg⟩
 ·have bo:(fn.results.mapM (aoG a)).run P w= .ok vs.toArray w:=by
    simp[Array.mapM_eq_mapM_toList,h4]
  have tT:results fn a.tmps=(do let vs ←fn.results.mapM (aoG a);pure (if h:vs.size=1 then vs[0]else .tuple vs)):=rfl;rw[tT,Sem.run_bind,bo]
  rfl
 ·have:=hr 0;rw[he0]at this;simpa using this
def rj(P:Program)(f:FuncId)(a:mo):Prop:=
 ∃fn code,P.funcs[f]? =some fn/\fn.body=some code/\(fn.name== "runtime.NumGoroutine")=false/\fn.ntmps=a.nt/\a.cT<=a.nt/\
  fQ P a.nt code=some a.code.strip/\fn.results.toList.mapM (alx P)=some a.res
theorem gT{f:FuncId}{A:mo}(hf:rj P f A){args:List AV}{O O':List ad}{res:AV}(hl:args.length=A.cT)
  (h:ky P O.length A.code (oQ O.length A.res res O') (mZ args) O):fE P f args O res O':=by
 obtain⟨fn,code,h1,h2,h3,h4,h5,h6,h7⟩:=hf;refine⟨⟨fn,h1,by rw[h2];rfl,h3⟩,?_⟩;intro I L w vs hi hr;refine calls_of_wp h1 h2 ?_;have qp:vs.size=A.cT:=by rw[←hr.1,hl]
 have aBE:Sat I L O w A.nt (mZ args) O {tmps:=vs++Array.replicate (fn.ntmps- vs.size) undef,defers:=[]} w I L:=by
  refine⟨.refl hi,λ t=> ?_,?_,rfl⟩
  ·unfold mZ;by_cases ht:t<vs.size
   ·have ha:args[t]? =some (args.getD t (.a9 [])):=by simp[List.getD,show t<args.length by rw[hr.1];exact ht]
    have hv:vs[t]? =some ((vs++Array.replicate (fn.ntmps- vs.size) undef).getD t undef):=by
     rw[Array.getD_eq_getD_getElem?,Array.getElem?_append_left ht];simp[ht]
    exact hr.2 t _ _ ha hv
   ·have ha:args.getD t (.a9 [])= .a9 []:=by simp[List.getD,List.getElem?_eq_none (show args.length<=t by rw[hr.1];omega)]
    have hv:(vs++Array.replicate (fn.ntmps- vs.size) undef).getD t undef= .tuple #[]:=by
     rw[Array.getD_eq_getD_getElem?,Array.getElem?_append_right (by omega)];by_cases h8:t- vs.size<fn.ntmps- vs.size
     ·simp[h8];rfl
     ·simp[h8];rfl
    rw[ha,hv];exact .a9 [] #[] rfl (by simp)
  ·simp;omega
 refine aiv A.code code h6 _ _ ?_ (mZ args) O _ w I L h aBE;intro x e O1 a w' I' L' hq hs;obtain⟨y,I2,L2,r1,r2,r3⟩:=aeO h7 hs hq;cases x with
 |normal=>exact⟨hs.defers,y,r1,y,I2,L2,rfl,r2,r3⟩
 |ret=>exact⟨hs.defers,y,r1,y,I2,L2,rfl,r2,r3⟩
 |exit id=>exact hq.elim
end
end Go.Ab
namespace Go.Ab
universe u
theorem nr{α:Sort u}{a b:α}(h:a=b):a=b:=h
def jw:List (Nat×AV)->Env
 | [],_=> .top
 |(k,a)::l,t=>if t=k then a else jw l t
theorem atU(e:Env)(t:Nat)(a:AV)(k:Nat):(e.set t a) k=if k=t then a else e k:=nr rfl
theorem aci(k:Nat)(a:AV)(l:List (Nat×AV))(t:Nat):jw ((k,a)::l) t=if t=k then a else jw l t:=nr rfl
theorem aoX(args:List AV)(t:Nat):mZ args t=args.getD t (.a9 []):=nr rfl
theorem anN(live:List Nat)(e:Env):tK live e=jw (live.map λ t=>(t,e t)):=by
 funext t
 induction live with
 |nil=>rfl
 |cons k l ih=>
  simp only[map_cons,aci];unfold tK at ih⊢;by_cases h:t=k
  ·subst h;simp
  ·rw[if_neg h,←ih];simp[h]
theorem R.take{I:du}{L:Nat->Loc}{O:List ad}{k:Nat}(hk:k<=O.length){a:AV}{x:Value}(hr:R I L O a x)(h:a.inScope k=true):R I L (O.take k) a x:=by
 have ck:∀{n:Nat},n<k->(O.take k)[n]? =O[n]? :=λ {n} hn=>by rw[getElem?_take,if_pos hn]
 have hlen:(O.take k).length=k:=by simp;omega
 induction hr with
 |top x=>exact .top x
 |v x hx=>exact .v x hx
 |aw=>exact .aw
 |v7 t x=>exact .v7 t x
 |mq a cap=>exact .mq a cap
 |sl xs bf off cap s bz h1 h2 h3 h4 _ ih=>
  refine .sl xs bf off cap s bz h1 h2 h3 h4 λ i x j c hi hj=>ih i x j c hi hj ?_
  exact cd (bU (by simpa [AV.inScope]using h) x (mem_of_getElem? hi)) c (mem_of_getElem? hj)
 |cj x f bf base bz h1 _ ih=>
  refine .cj x f bf base bz h1 λ j c hj=>ih j c hj ?_
  exact cd (by simpa [AV.inScope]using h) c (mem_of_getElem? hj)
 |cf n len e s xs hn hl=>
  have mb:n<k:=by simpa [AV.inScope]using h
  exact .cf n len e s xs (by rw[ck mb];exact hn) hl
 |gu n e s hn=>
  have mb:n<k:=by simpa [AV.inScope]using h
  exact .gu n e s (by rw[ck mb];exact hn)
 |eQ n len x hn xA hs hx=>
  have mb:n<k:=by simpa [AV.inScope]using h
  exact .eQ n len x (by omega) (λ e s he=>xA e s (by rwa [ck mb]at he)) (λ e s xs oG=>hs e s xs (by rwa [ck mb]at oG)) hx
 |dV n len i f e s xs hn hl=>
  have mb:n<k:=by simpa [AV.inScope]using h
  exact .dV n len i f e s xs (by rw[ck mb];exact hn) hl
 |gv n len i f x hn xA hs hx=>
  have mb:n<k:=by simpa [AV.inScope]using h
  exact .gv n len i f x (by omega) (λ e s he=>xA e s (by rwa [ck mb]at he)) (λ e s xs oG=>hs e s xs (by rwa [ck mb]at oG)) hx
 |fn f aX vs h1 _ ih=>exact .fn f aX vs h1 λ i c x hi hx=>ih i c x hi hx (bU (by simpa [AV.inScope]using h) c (mem_of_getElem? hi))
 |agg cs vs h1 _ ih=>exact .agg cs vs h1 λ i c x hi hx=>ih i c x hi hx (bU (by simpa [AV.inScope]using h) c (mem_of_getElem? hi))
 |a9 cs vs h1 _ ih=>exact .a9 cs vs h1 λ i c x hi hx=>ih i c x hi hx (bU (by simpa [AV.inScope]using h) c (mem_of_getElem? hi))
 |dW n a hn h1=>
  have mb:n<k:=by simpa [AV.inScope]using h
  exact .dW n a (by rw[ck mb];exact hn) h1
 |gW n g hn=>
  have mb:n<k:=by simpa [AV.inScope]using h
  exact .gW n g (by rw[ck mb];exact hn)
 |eR n x hn cA hng h1=>
  have mb:n<k:=by simpa [AV.inScope]using h
  exact .eR n x (by omega) (λ a ha=>cA a (by rwa [ck mb]at ha)) (λ a ha=>hng a (by rwa [ck mb]at ha)) h1
theorem Good.take{I0 I:du}{L0 L:Nat->Loc}{O0 O:List ad}{w0 w:World}(h:Good I0 L0 O0 w0 I L O w){k:Nat}(h0:O0.length<=k)(hk:k<=O.length)(hb:∀ob∈O.take k,ob.inScope k=true):
  Good I0 L0 O0 w0 I L (O.take k) w:=by
 have ck:∀{n e s xs},(O.take k)[n]? =some (.live e s xs)->O[n]? =some (.live e s xs)/\n<k:=by
  intro n e s xs hn;rw[getElem?_take]at hn
  split at hn
  ·exact⟨hn,by assumption⟩
  ·cases hn
 have ay3:∀{n e s:Nat},(O.take k)[n]? =some (ad.nil e s)->O[n]? =some (ad.nil e s):=by
  intro n e s hn;rw[getElem?_take]at hn
  split at hn
  ·exact hn
  ·cases hn
 have zO:∀{n:Nat} {a:AV},(O.take k)[n]? =some (ad.own a)->O[n]? =some (ad.own a):=by
  intro n a hn;rw[getElem?_take]at hn
  split at hn
  ·exact hn
  ·cases hn
 have rW:∀{n:Nat} {a:gJ},(O.take k)[n]? =some (ad.cZ a)->O[n]? =some (ad.cZ a):=by
  intro n a hn;rw[getElem?_take]at hn
  split at hn
  ·exact hn
  ·cases hn
 refine⟨⟨h.inv.kJ,λ n e s xs hn=> ?_,λ n m _ _ _ _ _ _ hn hm=>h.inv.sep n m _ _ _ _ _ _ (ck hn).1 (ck hm).1,λ n e s xs o hn=>h.inv.dS n e s xs o (ck hn).1,h.inv.fix,h.inv.bf,h.inv.ow.same (λ n a hn=>⟨zO hn,rfl⟩) (λ b o v hv=> .inl ⟨o,v,hv⟩) (λ m e s xs hm=> .inl ⟨m,_,_,_,(ck hm).1,rfl⟩) rfl,⟨λ n g hn=> ?_,λ n m g g' hn hm hb=>h.inv.gh.sep n m g g' (rW hn) (rW hm) hb⟩⟩,⟨h.ext.kJ,by simp;omega,λ n hn e s xs hx=>h.ext.obj n hn e s xs (ck hx).1,λ n hn e s hx=>h.ext.nil n hn e s (ay3 hx),λ n hn a hx=>h.ext.own n hn a (zO hx),λ n hn a hx=>h.ext.cZ n hn a (rW hx)⟩,h.pO,?_,h.iP⟩
 ·obtain⟨c,⟨lD,h1,dE⟩,h2,h3,h4,h5,h6⟩:=h.inv.obj n e s xs (ck hn).1;refine⟨c,⟨lD,h1,dE⟩,h2,h3,h4,h5,λ i x hx=>⟨(h6 i x hx).1,λ j a ha=> ?_⟩⟩;obtain⟨y,hy,ho,hr⟩:=(h6 i x hx).2 j a ha;have hbo:=hb _ (mem_of_getElem? hn);exact⟨y,hy,ho,hr.take hk (cd (bU hbo x (mem_of_getElem? hx)) a (mem_of_getElem? ha))⟩
 ·have h1:=h.inv.gh.ok n g (rW hn);have hbo:=hb _ (mem_of_getElem? hn);cases g with
  |it s p=>exact h1
  |mp es=>
   obtain⟨en,c,h2,h3,h4⟩:=h1;refine⟨en,c,h2,h3,λ i a v hi=> ?_⟩;obtain⟨e,h5,h6,h7⟩:=h4 i a v hi;have hs:=List.all_eq_true.1 (show es.all (λ p=>p.1.inScope k&&p.2.inScope k)=true from hbo) (a,v) (mem_of_getElem? hi);simp only[Bool.and_eq_true]at hs;exact⟨e,h5,h6.take hk hs.1,h7.take hk hs.2⟩
 ·rintro b (⟨n,e,s,xs,hn,hb⟩|⟨n,a,o,v,hn,hb⟩|⟨n,g,hn,hb⟩)
  ·exact h.lb b (.inl ⟨n,e,s,xs,(ck hn).1,hb⟩)
  ·exact h.lb b (.inr (.inl ⟨n,a,o,v,zO hn,hb⟩))
  ·exact h.lb b (.inr (.inr ⟨n,g,rW hn,hb⟩))
theorem WK.forget{n0:Nat}{e e':Env}{O O':List ad}{k:Nat}(hO:O.take k=O')(h0:n0<=k)(hk:k<=O.length)(hb:∀ob∈O',ob.inScope k=true)(he:∀t,e' t= .top∨(e' t=e t/\(e' t).inScope k=true)):WK n0 e O e' O':=by
 subst hO;intro I0 L0 O0 w0 I L w f hl hg hr;subst hl;refine⟨I,L,hg.take h0 hk hb,λ t=> ?_⟩;rcases he t with h|⟨h,h'⟩
 ·rw[h];exact .top _
 ·rw[h]at h'⊢;exact(hr t).take hk h'
theorem wpOp_mono{P:Program}{o:ez}{e:Env}{O:List ad}{K K':AV->List ad->Prop}(hk:∀x O,K x O->K' x O)(h:wpOp P o e O K):wpOp P o e O K':=by
 obtain⟨x,O',h1,h2⟩:=wh h;exact h2 K' (hk x O' h1)
theorem mD{P:Program}:∀(l:List aO) {e:Env} {O:List ad} {K K':Env->List ad->Prop},(∀e O,K e O->K' e O)->wpOps P l e O K->wpOps P l e O K'
 | [],_,_,_,_,hk,h=>hk _ _ h
 |o::l,e,O,K,K',hk,h=>by
  simp only[wpOps]at h⊢
  split at h
  ·exact wpOp_mono (λ x O' h=>mD l hk h) h
  ·split at h
   ·exact⟨λ hb=>wpOp_mono (λ x O' h=>mD l hk h) (h.1 hb),λ hb=>mD l hk (h.2 hb)⟩
   ·exact mD l hk h
   ·exact h.elim
theorem kZ{P:Program}:∀(l:List aO) {acc:List iw} {e:Env} {O:List ad} {K K':List iw->Env->List ad->Prop},(∀a e O,K a e O->K' a e O)->cC P l acc e O K->cC P l acc e O K'
 | [],_,_,_,_,_,hk,h=>hk _ _ _ h
 |o::l,acc,e,O,K,K',hk,h=>by
  simp only[cC]at h⊢
  split at h
  ·exact wpOp_mono (λ x O' h=>kZ l hk h) h
  ·split at h
   ·exact⟨λ hb=>wpOp_mono (λ x O' h=>kZ l hk h) (h.1 hb),λ hb=>kZ l hk (h.2 hb)⟩
   ·exact kZ l hk h
   ·exact h.elim
theorem kY{P:Program}{n0:Nat}:∀(l:List aO) {e:Env} {O:List ad} {K K':Env->List ad->Prop},(∀e O,K e O->K' e O)->gU P n0 l e O K->gU P n0 l e O K'
 | [],_,_,_,_,hk,⟨e',O',hw,h⟩=>⟨e',O',hw,hk _ _ h⟩
 |o::l,e,O,K,K',hk,h=>by
  simp only[gU]at h⊢;obtain⟨e',O',hw,h⟩:=h;refine⟨e',O',hw,?_⟩
  split at h
  ·exact wpOp_mono (λ x O' h=>kY l hk h) h
  ·split at h
   ·exact⟨λ hb=>wpOp_mono (λ x O' h=>kY l hk h) (h.1 hb),λ hb=>kY l hk (h.2 hb)⟩
   ·exact kY l hk h
   ·exact h.elim
theorem aet{P:Program}{n0:Nat}(c:aR):∀{Q Q':AX->Env->List ad->Prop} {e:Env} {O:List ad},(∀x e O,Q x e O->Q' x e O)->ky P n0 c Q e O->ky P n0 c Q' e O:=by
 induction c with
 |skip=>intro Q Q' e O hq h;exact hq _ _ _ h
 |region r ops=>
  intro Q Q' e O hq h;cases r with
  |none=>exact mD ops (λ e O h=>hq _ _ _ h) h
  |some rows=>obtain⟨al,h1,h2⟩:=h;exact⟨al,h1,kZ al (λ iD e O h=>⟨h.1,hq _ _ _ h.2⟩) h2⟩
 |gZ ops=>intro Q Q' e O hq h;exact kY ops (λ e O h=>hq _ _ _ h) h
 |seq a b iha ihb=>
  intro Q Q' e O hq h;refine iha (λ x e O h=> ?_) h;cases x
  ·exact ihb hq h
  ·exact hq _ _ _ h
  ·exact hq _ _ _ h
 |cond c t f iht ihf=>
  intro Q Q' e O hq h;simp only[ky]at h⊢
  split at h
  ·exact⟨λ hb=>iht hq (h.1 hb),λ hb=>ihf hq (h.2 hb)⟩
  ·exact h.elim
 |block id b ih=>
  intro Q Q' e O hq h;refine ih (λ x e O h=> ?_) h;cases x
  ·exact hq _ _ _ h
  ·simp only at h⊢
   split
   ·rename_i hi;rw[if_pos hi]at h;exact hq _ _ _ h
   ·rename_i hi;rw[if_neg hi]at h;exact hq _ _ _ h
  ·exact hq _ _ _ h
 |loop b ih=>
  intro Q Q' e O hq h;obtain⟨J,n,h0,hr⟩:=h;refine⟨J,n,h0,λ n e O hJ=>ih (λ x e O h=> ?_) (hr n e O hJ)⟩;cases x
  ·exact h
  ·exact hq _ _ _ h
  ·exact hq _ _ _ h
 |exit id=>intro Q Q' e O hq h;exact hq _ _ _ h
 |ret=>intro Q Q' e O hq h;exact hq _ _ _ h
 |ar l c ih=>
  intro Q Q' e O hq h;refine ih (λ x e O h=> ?_) h;cases x<;>exact hq _ _ _ h
 |k8 c ih=>
  intro Q Q' e O hq h;obtain⟨e',O',hw,h⟩:=h;exact⟨e',O',hw,ih hq h⟩
def yw(n0:Nat){ι:Type}(D:ι->Prop)(σ:ι->Env)(τ:ι->List ad)(μ:ι->Nat)(i:ι)(Q:AX->Env->List ad->Prop):AX->Env->List ad->Prop:=
 λ x e O=>match x with| .normal=>∃j,D j/\μ j<μ i/\WK n0 e O (σ j) (τ j)|x=>Q x e O
theorem amc{P:Program}{n0:Nat}{b:aR}{Q:AX->Env->List ad->Prop}{e:Env}{O:List ad}{ι:Type}(D:ι->Prop)(σ:ι->Env)(τ:ι->List ad)(μ:ι->Nat)(i0:ι)
  (hd:D i0) (h0:WK n0 e O (σ i0) (τ i0)) (hr:∀i,D i->ky P n0 b (yw n0 D σ τ μ i Q) (σ i) (τ i)):ky P n0 (.loop b) Q e O:=by
 refine⟨λ n e O=>∃i,D i/\μ i=n/\e=σ i/\O=τ i,μ i0,⟨_,_,h0,i0,hd,rfl,rfl,rfl⟩,?_⟩;rintro n e O ⟨i,hi,rfl,rfl,rfl⟩;refine aet b (λ x e O h=> ?_) (hr i hi);cases x
 ·obtain⟨j,hj,h1,h2⟩:=h;exact⟨μ j,_,_,h1,h2,j,hj,rfl,rfl,rfl⟩
 ·exact h
 ·exact h
theorem WK.of_eq{n0:Nat}{e e':Env}{O O':List ad}(he:e=e')(hO:O=O'):WK n0 e O e' O':=by subst he;subst hO;exact .refl _ _ _
section
variable (P:Program) (n0:Nat) (Q:AX->Env->List ad->Prop) (e:Env) (O:List ad)
theorem amb:ky P n0 .skip Q e O=Q .normal e O:=nr rfl
theorem ag3(ops:List aO):ky P n0 (.region none ops) Q e O=Go.Ab.wpOps P ops e O (Q .normal):=nr rfl
theorem awY(c:aI)(t f:aR):ky P n0 (.cond c t f) Q e O=match c.ev e with
 | .v (.bool b)=>(b=true->ky P n0 t Q e O)/\(b=false->ky P n0 f Q e O)
 |_=>False:=nr rfl
theorem amd(id:Nat):ky P n0 (.exit id) Q e O=Q (.exit id) e O:=nr rfl
theorem ap0:ky P n0 .ret Q e O=Q .ret e O:=nr rfl
theorem ajQ(K:Env->List ad->Prop):Go.Ab.wpOps P [] e O K=K e O:=nr rfl
theorem aer(K:Env->List ad->Prop)(t:Nat)(want:Bool)(d:Option Nat)(op:ez)(r:List aO):
 Go.Ab.wpOps P (⟨some (t,want),d,op⟩::r) e O K=match e t with
   | .v (.bool b)=>
     (b=want->wpOp P op (e.set t (.v (.bool want))) O λ x O'=>Go.Ab.wpOps P r (bO (e.set t (.v (.bool want))) d x) O' K)/\
     (b= !want->Go.Ab.wpOps P r (bO (e.set t (.v (.bool (!want)))) d (.a9 [])) O K)
   | .a9 []=>Go.Ab.wpOps P r (bO e d (.a9 [])) O K
   |_=>False:=nr rfl
theorem aj4(t:Nat)(a:AV):bO e (some t) a=e.set t a:=nr rfl
theorem aj5(a:AV):bO e none a=e:=nr rfl
theorem aCT(n:Nat):(aI.t n).ev e=e n:=nr rfl
theorem aCU(a:AV):(aI.c a).ev e=a:=nr rfl
end
end Go.Ab
namespace Go.Ab
theorem wi(a:ByteArray):a.toList=a.data.toList:=ByteArray.toList_eq a
abbrev KT:=AV->List ad->Prop
def k1(a:AV)(O:List ad)(K:KT):Prop:=K a O
theorem asS(a:AV)(O:List ad)(K:KT):k1 a O K=K a O:=nr rfl
def pw(c a b:AV)(O:List ad)(K:KT):Prop:=match c with
 | .v (.bool t)=>K (if t then a else b) O
 |_=>False
theorem yI(a b:AV)(O:List ad)(K:KT):pw (.v (.bool true)) a b O K=k1 a O K:=nr rfl
theorem vN(a b:AV)(O:List ad)(K:KT):pw (.v (.bool false)) a b O K=k1 b O K:=nr rfl
theorem yJ(t x y:Bool)(O:List ad)(K:KT):pw (.v (.bool t)) (.v (.bool x)) (.v (.bool y)) O K=k1 (.v (.bool (if t=true then x else y))) O K:=by cases t<;>rfl
def azI(t s:Nat)(a:AV)(O:List ad)(K:KT):Prop:=a.cells.length=s/\a.storable=true/\K (.ptr O.length 1 0 0) (O++ [.live t s [a]])
theorem asf(t s:Nat)(a:AV)(O:List ad)(K:KT):azI t s a O K=(a.cells.length=s/\a.storable=true/\k1 (.ptr O.length 1 0 0) (O++ [.live t s [a]]) K):=nr rfl
def abp(z:List AV)(ps:List (Nat×Nat×AV))(O:List ad)(K:KT):Prop:=match ps with
 | []=>K (.agg z) O
 |(off,size,x)::r=>x.cells.length=size/\(x.cg||x.isAgg)=true/\off+size<=z.length/\abp (z.take off++x.cells++z.drop (off+size)) r O K
theorem apr(z:List AV)(O:List ad)(K:KT):abp z [] O K=k1 (.agg z) O K:=by simp[abp,k1]
theorem alM(z:List AV)(off size:Nat)(x:AV)(r:List (Nat×Nat×AV))(O:List ad)(K:KT):
 abp z ((off,size,x)::r) O K=(x.cells.length=size/\(x.cg||x.isAgg)=true/\off+size<=z.length/\abp (z.take off++x.cells++z.drop (off+size)) r O K):=by rw[abp]
theorem aal{e:Env}{O:List ad}{K:KT}:∀(ps:List (Nat×Nat×aI)) (z:List AV),jy e z ps (λ a=>K a O)=abp z (ps.map λ p=>(p.1,p.2.1,p.2.2.ev e)) O K
 | [],z=>by simp[jy,abp]
 |(off,size,x)::r,z=>by simp only[jy,map_cons,abp,aal r]
def abo(t s:Nat)(len:Nat)(xs:List AV)(ps:List (Nat×AV))(O:List ad)(K:KT):Prop:=match ps with
 | []=>K (.row O.length len) (O++ [.live t s xs])
 |(i,x)::r=>x.cells.length=s/\x.storable=true/\i<xs.length/\abo t s len (xs.set i x) r O K
theorem apj(t s len:Nat)(z:List AV)(O:List ad)(K:KT):abo t s len z [] O K=k1 (.row O.length len) (O++ [.live t s z]) K:=by simp[abo,k1]
theorem alL(t s len:Nat)(z:List AV)(i:Nat)(x:AV)(r:List (Nat×AV))(O:List ad)(K:KT):
 abo t s len z ((i,x)::r) O K=(x.cells.length=s/\x.storable=true/\i<z.length/\abo t s len (z.set i x) r O K):=by rw[abo]
theorem aeM{e:Env}{O:List ad}{K:KT}(t s len:Nat):∀(ps:List (Nat×aI)) (z:List AV),nM e s z ps (λ xs=>K (.row O.length len) (O++ [.live t s xs]))=abo t s len z (ps.map λ p=>(p.1,p.2.ev e)) O K
 | [],z=>by simp[nM,abo]
 |(i,x)::r,z=>by simp only[nM,map_cons,abo,aeM t s len r]
def pJ(o:Option ad)(M:Nat->Nat->List AV->Prop):Prop:=match o with
 |some (.live t s xs)=>M t s xs
 |_=>False
def uR(o:Option ad)(N:Nat->Nat->Prop)(M:Nat->Nat->List AV->Prop):Prop:=match o with
 |some (.live t s xs)=>M t s xs
 |some (.nil t s)=>N t s
 |_=>False
theorem kG(t s:Nat)(xs:List AV)(N:Nat->Nat->Prop)(M:Nat->Nat->List AV->Prop):uR (some (.live t s xs)) N M=M t s xs:=nr rfl
theorem om(t s:Nat)(N:Nat->Nat->Prop)(M:Nat->Nat->List AV->Prop):uR (some (.nil t s)) N M=N t s:=nr rfl
theorem fK(t s:Nat)(xs:List AV)(M:Nat->Nat->List AV->Prop):pJ (some (.live t s xs)) M=M t s xs:=nr rfl
def ajh(n:Option Nat)(a:AV)(O:List ad)(K:KT):Prop:=match a with
    | .cj y f=>f+n.getD 1<=y.cells.length/\K (dI n y f) O
    | .ptr k len i f=>pJ O[k]? λ _ _ xs=>xs.length=len/\i<len/\f+n.getD 1<=(xs.getD i .top).cells.length/\K (dI n (xs.getD i .top) f) O
    |_=>False
theorem sJ(n:Option Nat)(y:AV)(f:Nat)(O:List ad)(K:KT):ajh n (.cj y f) O K=(f+n.getD 1<=y.cells.length/\k1 (dI n y f) O K):=nr rfl
theorem uV(n:Option Nat)(k len i f:Nat)(O:List ad)(K:KT):ajh n (.ptr k len i f) O K=pJ O[k]? λ _ _ xs=>xs.length=len/\i<len/\f+n.getD 1<=(xs.getD i .top).cells.length/\k1 (dI n (xs.getD i .top) f) O K:=nr rfl
def ag7(m:Nat)(a b:AV)(O:List ad)(K:KT):Prop:=match a with
    | .ptr k len i f=>pJ O[k]? λ t s xs=>xs.length=len/\i<len/\b.cells.length=m/\b.storable=true/\f+m<=(xs.getD i .top).cells.length/\K .top (O.set k (.live t s (xs.set i (rH (xs.getD i .top) f b))))
    |_=>False
theorem sm(m k len i f:Nat)(b:AV)(O:List ad)(K:KT):ag7 m (.ptr k len i f) b O K=pJ O[k]? λ t s xs=>xs.length=len/\i<len/\b.cells.length=m/\b.storable=true/\f+m<=(xs.getD i .top).cells.length/\k1 .top (O.set k (.live t s (xs.set i (rH (xs.getD i .top) f b)))) K:=nr rfl
def eT(op:BinOp)(a b:AV)(O:List ad)(K:KT):Prop:=match a,b with
    | .v x,.v y=>match lC op x y with
      |some z=>K (.v z) O
      |none=>False
    |_,_=>False
section
variable (k:IntKind) (a b:Int) (O:List ad) (K:KT)
theorem agx:eT .add (.v (.int k a)) (.v (.int k b)) O K=k1 (.v (.int k (k.wrap (a+b)))) O K:=by simp[eT,lC,rE,BinOp.eF,k1]
theorem agk:eT .sub (.v (.int k a)) (.v (.int k b)) O K=k1 (.v (.int k (k.wrap (a- b)))) O K:=by simp[eT,lC,rE,BinOp.eF,k1]
theorem agq:eT .mul (.v (.int k a)) (.v (.int k b)) O K=k1 (.v (.int k (k.wrap (a*b)))) O K:=by simp[eT,lC,rE,BinOp.eF,k1]
theorem agw:eT .and (.v (.int k a)) (.v (.int k b)) O K=k1 (.v (.int k (k.wrap (BitVec.ofInt k.bits a&&&BitVec.ofInt k.bits b).toNat))) O K:=by simp[eT,lC,rE,BinOp.eF,k1]
theorem ajK:eT .or (.v (.int k a)) (.v (.int k b)) O K=k1 (.v (.int k (k.wrap (BitVec.ofInt k.bits a|||BitVec.ofInt k.bits b).toNat))) O K:=by simp[eT,lC,rE,BinOp.eF,k1]
theorem agj:eT .xor (.v (.int k a)) (.v (.int k b)) O K=k1 (.v (.int k (k.wrap (BitVec.ofInt k.bits a^^^BitVec.ofInt k.bits b).toNat))) O K:=by simp[eT,lC,rE,BinOp.eF,k1]
theorem ago:eT .quo (.v (.int k a)) (.v (.int k b)) O K=(b≠0/\k1 (.v (.int k (k.wrap (a.tdiv b)))) O K):=by
 by_cases h:b=0<;>simp[eT,lC,rE,BinOp.eF,k1,h]
theorem agn:eT .rem (.v (.int k a)) (.v (.int k b)) O K=(b≠0/\k1 (.v (.int k (a.tmod b))) O K):=by
 by_cases h:b=0<;>simp[eT,lC,rE,BinOp.eF,k1,h]
theorem agv:eT .eql (.v (.int k a)) (.v (.int k b)) O K=k1 (.v (.bool (decide (a=b)))) O K:=by
 have:(a==b)=decide (a=b):=by by_cases h:a=b<;>simp[h]
 simp[eT,lC,rE,BinOp.eF,k1,this]
theorem agp:eT .neq (.v (.int k a)) (.v (.int k b)) O K=k1 (.v (.bool (!decide (a=b)))) O K:=by
 have:(a !=b)= !decide (a=b):=by by_cases h:a=b<;>simp[h]
 simp[eT,lC,rE,BinOp.eF,k1,this]
theorem agr:eT .lss (.v (.int k a)) (.v (.int k b)) O K=k1 (.v (.bool (decide (a<b)))) O K:=by simp[eT,lC,rE,BinOp.eF,k1]
theorem ags:eT .leq (.v (.int k a)) (.v (.int k b)) O K=k1 (.v (.bool (decide (a<=b)))) O K:=by simp[eT,lC,rE,BinOp.eF,k1]
theorem agt:eT .gtr (.v (.int k a)) (.v (.int k b)) O K=k1 (.v (.bool (decide (b<a)))) O K:=by simp[eT,lC,rE,BinOp.eF,k1]
theorem agu:eT .geq (.v (.int k a)) (.v (.int k b)) O K=k1 (.v (.bool (decide (b<=a)))) O K:=by simp[eT,lC,rE,BinOp.eF,k1]
theorem agm(k':IntKind):eT .shl (.v (.int k a)) (.v (.int k' b)) O K=(0<=b/\k1 (.v (.int k (k.wrap (a*2^(min b.toNat k.bits))))) O K):=by
 by_cases h:0<=b<;>simp[eT,lC,aiY,BinOp.eF,k1,h]
theorem agl(k':IntKind):eT .shr (.v (.int k a)) (.v (.int k' b)) O K=(0<=b/\k1 (.v (.int k (a.fdiv (2^(min b.toNat k.bits))))) O K):=by
 by_cases h:0<=b<;>simp[eT,lC,aiY,BinOp.eF,k1,h]
end
theorem xW(a b:ByteArray):(a.toList==b.toList)=decide (a=b):=by
 rw[wi,wi];by_cases h:a=b
 ·simp[h]
 ·have:¬a.data=b.data:=λ h'=>h (by cases a;cases b;simpa using h')
  simp[h,this]
section
variable (a b:ByteArray) (O:List ad) (K:KT)
theorem acu:eT .add (.v (.string a)) (.v (.string b)) O K=(((a.size+b.size:Nat):Int)<=9223372036854775807/\k1 (.v (.string (a++b))) O K):=by
 have h3:IntKind.i64.max=9223372036854775807:=by decide
 by_cases h:((a.size+b.size:Nat):Int)<=9223372036854775807
 ·simp only[eT,lC,abz,k1,h3,h,if_true,true_and]
 ·simp only[eT,lC,abz,k1,h3,h,if_false,false_and]
theorem acs:eT .eql (.v (.string a)) (.v (.string b)) O K=k1 (.v (.bool (decide (a=b)))) O K:=by simp[eT,lC,abz,k1,xW]
theorem acr:eT .neq (.v (.string a)) (.v (.string b)) O K=k1 (.v (.bool (!decide (a=b)))) O K:=by simp[eT,lC,abz,k1,xW]
end
def unK(op:UnOp)(a:AV)(O:List ad)(K:KT):Prop:=match a with
    | .v x=>match sun op x with
      |some z=>K (.v z) O
      |none=>False
    |_=>False
theorem aiP(b:Bool)(O:List ad)(K:KT):unK .not (.v (.bool b)) O K=k1 (.v (.bool (!b))) O K:=nr rfl
theorem aiQ(k:IntKind)(n:Int)(O:List ad)(K:KT):unK .neg (.v (.int k n)) O K=k1 (.v (.int k (k.wrap (-n)))) O K:=by simp[unK,sun,k1]
def wj(k:IntKind)(a:AV)(O:List ad)(K:KT):Prop:=match a with
    | .v (.int _ n)=>K (.v (.int k (k.wrap n))) O
    |_=>False
theorem af0(k k':IntKind)(n:Int)(O:List ad)(K:KT):wj k (.v (.int k' n)) O K=k1 (.v (.int k (k.wrap n))) O K:=nr rfl
def adZ(off:Nat)(a:AV)(O:List ad)(K:KT):Prop:=match a with
    | .cj y f=>K (.cj y (f+off)) O
    | .ptr n len i f=>pJ O[n]? λ _ _ xs=>xs.length=len/\K (.ptr n len i (f+off)) O
    |_=>False
theorem qA(off:Nat)(y:AV)(f:Nat)(O:List ad)(K:KT):adZ off (.cj y f) O K=k1 (.cj y (f+off)) O K:=nr rfl
theorem pc(off n len i f:Nat)(O:List ad)(K:KT):adZ off (.ptr n len i f) O K=pJ O[n]? λ _ _ xs=>xs.length=len/\k1 (.ptr n len i (f+off)) O K:=nr rfl
def alj(off:Nat)(n:Option Nat)(a:AV)(O:List ad)(K:KT):Prop:=a.isAgg=true/\off+n.getD 1<=a.cells.length/\K (dI n a off) O
theorem ajA(off:Nat)(n:Option Nat)(a:AV)(O:List ad)(K:KT):alj off n a O K=(a.isAgg=true/\off+n.getD 1<=a.cells.length/\k1 (dI n a off) O K):=nr rfl
def zD(s:Nat)(a i:AV)(O:List ad)(K:KT):Prop:=match a,i with
    | .sl xs,.v (.int _ i)=>0<=i/\i<xs.length/\(xs.getD i.toNat .top).cells.length=s/\K (.cj (xs.getD i.toNat .top) 0) O
    | .row n len,.v (.int _ i)=>pJ O[n]? λ _ s' xs=>s'=s/\xs.length=len/\0<=i/\i<len/\K (.ptr n len i.toNat 0) O
    |_,_=>False
theorem ab5(s:Nat)(xs:List AV)(k:IntKind)(i:Int)(O:List ad)(K:KT):zD s (.sl xs) (.v (.int k i)) O K=(0<=i/\i<xs.length/\(xs.getD i.toNat .top).cells.length=s/\k1 (.cj (xs.getD i.toNat .top) 0) O K):=nr rfl
theorem sP(s n len:Nat)(k:IntKind)(i:Int)(O:List ad)(K:KT):zD s (.row n len) (.v (.int k i)) O K=pJ O[n]? λ _ s' xs=>s'=s/\xs.length=len/\0<=i/\i<len/\k1 (.ptr n len i.toNat 0) O K:=nr rfl
def v8(a i:AV)(O:List ad)(K:KT):Prop:=match a,i with
    | .v (.string s),.v (.int _ i)=>0<=i/\i<s.size/\K (.v (.int .u8 (s.data.toList.getD i.toNat 0).toNat)) O
    |_,_=>False
theorem afv(s:ByteArray)(k:IntKind)(i:Int)(O:List ad)(K:KT):v8 (.v (.string s)) (.v (.int k i)) O K=(0<=i/\i<s.size/\k1 (.v (.int .u8 (s.data.toList.getD i.toNat 0).toNat)) O K):=nr rfl
def bnd(d:Int)(x:Option AV)(M:Int->Prop):Prop:=match x with
 |none=>M d
 |some (.v (.int _ i))=>M i
 |_=>False
theorem agh(d:Int)(M:Int->Prop):bnd d none M=M d:=nr rfl
theorem agf(d:Int)(k:IntKind)(i:Int)(M:Int->Prop):bnd d (some (.v (.int k i))) M=M i:=nr rfl
theorem aam(d:Int)(e:Env)(x:Option aI)(M:Int->Prop):fB d e x M=bnd d (x.map (aI.ev e)) M:=by
 cases x with
 |none=>rfl
 |some o=>
  simp only[fB,bnd,Option.map_some];cases o.ev e<;>try rfl
  rename_i v;cases v<;>rfl
def lV(a:AV)(lo hi:Option AV)(O:List ad)(K:KT):Prop:=match a with
    | .v (.string s)=>bnd 0 lo λ l=>bnd s.size hi λ h=>0<=l/\l<=h/\h<=s.size/\K (.v (.string (s.extract l.toNat h.toNat))) O
    |_=>False
theorem yo(s:ByteArray)(lo hi:Option AV)(O:List ad)(K:KT):lV (.v (.string s)) lo hi O K=bnd 0 lo λ l=>bnd s.size hi λ h=>0<=l/\l<=h/\h<=s.size/\k1 (.v (.string (s.extract l.toNat h.toNat))) O K:=nr rfl
def lW(s:Nat)(a:AV)(lo hi:Option AV)(O:List ad)(K:KT):Prop:=match a with
    | .sl xs=>bnd 0 lo λ l=>bnd xs.length hi λ h=>0<=l/\l<=h/\h<=xs.length/\(∀y∈xs,y.cells.length=s)/\K (.sl ((xs.take h.toNat).drop l.toNat)) O
    |_=>False
theorem yp(s:Nat)(xs:List AV)(lo hi:Option AV)(O:List ad)(K:KT):lW s (.sl xs) lo hi O K=bnd 0 lo λ l=>bnd xs.length hi λ h=>0<=l/\l<=h/\h<=xs.length/\(∀y∈xs,y.cells.length=s)/\k1 (.sl ((xs.take h.toNat).drop l.toNat)) O K:=nr rfl
def mkK(t s bytes:Nat)(z a b:AV)(O:List ad)(K:KT):Prop:=match a,b with
    | .v (.int .i64 n),.v (.int .i64 c)=>0<=n/\n<=c/\bytes*c<=2^48/\c<=maxLen/\K (.row O.length n.toNat) (O++ [.live t s (List.replicate n.toNat z)])
    |_,_=>False
theorem anj(t s bytes:Nat)(z:AV)(n c:Int)(O:List ad)(K:KT):mkK t s bytes z (.v (.int .i64 n)) (.v (.int .i64 c)) O K=(0<=n/\n<=c/\bytes*c<=281474976710656/\c<=9223372036854775807/\k1 (.row O.length n.toNat) (O++ [.live t s (List.replicate n.toNat z)]) K):=by
 have h1:((2:Int)^48)=281474976710656:=by decide
 have h2:((maxLen:Nat):Int)=9223372036854775807:=by decide
 simp only[mkK,h1,h2,k1]
def vV(a:AV)(O:List ad)(K:KT):Prop:=match a with
    | .v (.string s)=>K (.v (.int .i64 s.size)) O
    |_=>False
theorem afh(s:ByteArray)(O:List ad)(K:KT):vV (.v (.string s)) O K=k1 (.v (.int .i64 s.size)) O K:=nr rfl
def mM(a:AV)(O:List ad)(K:KT):Prop:=match a with
    | .aw=>K (.v (.int .i64 0)) O
    | .sl xs=>K (.v (.int .i64 xs.length)) O
    | .row n len=>uR O[n]? (λ _ _=>len=0/\K (.v (.int .i64 0)) O) λ _ _ xs=>xs.length=len/\K (.v (.int .i64 len)) O
    |_=>False
theorem sK(O:List ad)(K:KT):mM .aw O K=k1 (.v (.int .i64 0)) O K:=nr rfl
theorem zb(xs:List AV)(O:List ad)(K:KT):mM (.sl xs) O K=k1 (.v (.int .i64 xs.length)) O K:=nr rfl
theorem abU(n len:Nat)(O:List ad)(K:KT):mM (.row n len) O K=uR O[n]? (λ _ _=>len=0/\k1 (.v (.int .i64 0)) O K) λ _ _ xs=>xs.length=len/\k1 (.v (.int .i64 len)) O K:=nr rfl
def k9(O:List ad)(y:AV)(M:List AV->Prop):Prop:=match y with
 | .aw=>M []
 | .sl ys=>M ys
 | .row n len=>uR O[n]? (λ _ _=>len=0/\M []) λ _ _ xs=>xs.length=len/\M xs
 |_=>False
theorem aha(O:List ad)(M:List AV->Prop):k9 O .aw M=M []:=nr rfl
theorem x5(O:List ad)(ys:List AV)(M:List AV->Prop):k9 O (.sl ys) M=M ys:=nr rfl
theorem uz(O:List ad)(n len:Nat)(M:List AV->Prop):k9 O (.row n len) M=uR O[n]? (λ _ _=>len=0/\M []) λ _ _ xs=>xs.length=len/\M xs:=nr rfl
def ny(O:List ad)(x:AV)(t s bytes:Nat)(ys:List AV)(K:KT):Prop:=match x with
 | .aw=>ys.length*bytes<=140737488355328/\ys.length<=maxLen/\(ys= []->K .aw O)/\(ys≠[]->K (.row O.length ys.length) (O++ [.live t s ys]))
 | .row n len=>uR O[n]? (λ t' s'=>t'=t/\s'=s/\len=0/\ys.length*bytes<=140737488355328/\ys.length<=maxLen/\(ys= []->K (.row n 0) O)/\(ys≠[]->K (.row n ys.length) (O.set n (.live t s ys)))) λ t' s' xs=>t'=t/\s'=s/\xs.length=len/\(len+ys.length)*bytes<=140737488355328/\len+ys.length<=maxLen/\
  K (.row n (len+ys.length)) (O.set n (.live t s (xs++ys)))
 |_=>False
theorem ae2(O:List ad)(t s bytes:Nat)(y:AV)(ys:List AV)(K:KT):ny O .aw t s bytes (y::ys) K=((y::ys).length*bytes<=140737488355328/\(y::ys).length<=maxLen/\k1 (.row O.length (y::ys).length) (O++ [.live t s (y::ys)]) K):=by
 simp[ny,k1]
theorem sE(O:List ad)(t s bytes:Nat)(ys:List AV)(K:KT):ny O .aw t s bytes ys K=(ys.length*bytes<=140737488355328/\ys.length<=maxLen/\(ys= []->k1 .aw O K)/\(ys≠[]->k1 (.row O.length ys.length) (O++ [.live t s ys]) K)):=nr rfl
theorem uQ(O:List ad)(n len t s bytes:Nat)(ys:List AV)(K:KT):ny O (.row n len) t s bytes ys K=uR O[n]? (λ t' s'=>t'=t/\s'=s/\len=0/\ys.length*bytes<=140737488355328/\ys.length<=maxLen/\(ys= []->k1 (.row n 0) O K)/\(ys≠[]->k1 (.row n ys.length) (O.set n (.live t s ys)) K)) λ t' s' xs=>t'=t/\s'=s/\xs.length=len/\(len+ys.length)*bytes<=140737488355328/\len+ys.length<=maxLen/\
        k1 (.row n (len+ys.length)) (O.set n (.live t s (xs++ys))) K:=nr rfl
def azx(a:AV)(i:Nat)(O:List ad)(K:KT):Prop:=match a with
    | .a9 vs=>i<vs.length/\K (vs.getD i .top) O
    |_=>False
theorem ajC(vs:List AV)(i:Nat)(O:List ad)(K:KT):azx (.a9 vs) i O K=(i<vs.length/\k1 (vs.getD i .top) O K):=nr rfl
def ae8(a:AV)(O:List ad)(K:KT):Prop:=match a with
    | .cj y f=>K (.cj y f) O
    | .fn f aX=>K (.fn f aX) O
    | .ptr n len i f=>pJ O[n]? λ _ _ xs=>xs.length=len/\K (.ptr n len i f) O
    |_=>False
theorem sH(y:AV)(f:Nat)(O:List ad)(K:KT):ae8 (.cj y f) O K=k1 (.cj y f) O K:=nr rfl
theorem yX(f:FuncId)(cs:List AV)(O:List ad)(K:KT):ae8 (.fn f cs) O K=k1 (.fn f cs) O K:=nr rfl
theorem abP(n len i f:Nat)(O:List ad)(K:KT):ae8 (.ptr n len i f) O K=pJ O[n]? λ _ _ xs=>xs.length=len/\k1 (.ptr n len i f) O K:=nr rfl
def ajJ(P:Program)(f:FuncId)(args:List AV)(O:List ad)(K:KT):Prop:=∃res O',fE P f args O res O'/\K res O'
theorem aD{P:Program}{f:FuncId}{args:List AV}{O:List ad}{K:KT}(res:AV)(O':List ad)(h:fE P f args O res O')(k:k1 res O' K):ajJ P f args O K:=⟨res,O',h,k⟩
def ac7(P:Program)(f:FuncId)(args:List AV)(O:List ad)(K:KT):Prop:=∃res,AV.ae args=true/\a7 P f args res/\K res O
theorem oR{P:Program}{f:FuncId}{args:List AV}{O:List ad}{K:KT}(res:AV)(h:a7 P f args res)(hn:AV.ae args=true)(k:k1 res O K):ac7 P f args O K:=⟨res,hn,h,k⟩
def yN(P:Program)(f:FuncId)(qz args:List AV)(O:List ad)(K:KT):Prop:=∃res,AV.ae qz=true/\a7 P f qz res/\K res (xo O args res)
theorem oU{P:Program}{f:FuncId}{qz args:List AV}{O:List ad}{K:KT}(res:AV)(h:a7 P f qz res)(hn:AV.ae qz=true)(k:k1 res (xo O args res) K):yN P f qz args O K:=⟨res,hn,h,k⟩
def apb(P:Program)(x:AV)(args:List AV)(O:List ad)(K:KT):Prop:=match x with
 | .fn f aX=>ajJ P f (args++aX) O K
 |_=>False
theorem alw(P:Program)(f:FuncId)(aX args:List AV)(O:List ad)(K:KT):apb P (.fn f aX) args O K=ajJ P f (args++aX) O K:=nr rfl
def ai4(P:Program)(x:AV)(args:List AV)(O:List ad)(K:KT):Prop:=match x with
 | .fn f aX=>ac7 P f (args++aX) O K
 |_=>False
theorem sA(P:Program)(f:FuncId)(aX args:List AV)(O:List ad)(K:KT):ai4 P (.fn f aX) args O K=ac7 P f (args++aX) O K:=nr rfl
def ai7(P:Program)(x:AV)(qz args:List AV)(O:List ad)(K:KT):Prop:=match x with
 | .fn f aX=>yN P f (qz++aX) args O K
 |_=>False
theorem sD(P:Program)(f:FuncId)(aX qz args:List AV)(O:List ad)(K:KT):ai7 P (.fn f aX) qz args O K=yN P f (qz++aX) args O K:=nr rfl
section
variable (P:Program) (e:Env) (O:List ad) (K:KT)
theorem axL(x:aI):wpOp P (.aA x) e O K=k1 (x.ev e) O K:=nr rfl
theorem ahv(c a b:aI):wpOp P (.pick c a b) e O K=pw (c.ev e) (a.ev e) (b.ev e) O K:=nr rfl
theorem aqY(t s:Nat)(z:AV):wpOp P (.alloc t s z) e O K=k1 (.ptr O.length 1 0 0) (O++ [.live t s [z]]) K:=nr rfl
theorem axO(t s:Nat)(x:aI):wpOp P (.box t s x) e O K=azI t s (x.ev e) O K:=nr rfl
theorem aqX(z:List AV)(ps:List (Nat×Nat×aI)):wpOp P (.build z ps) e O K=abp z (ps.map λ p=>(p.1,p.2.1,p.2.2.ev e)) O K:=aal ps z
theorem adi(t s len:Nat)(z:AV)(ps:List (Nat×aI)):wpOp P (.buildSlice t s len z ps) e O K=abo t s len (List.replicate len z) (ps.map λ p=>(p.1,p.2.ev e)) O K:=aeM t s len ps _
theorem yU(n:Option Nat)(x:aI):wpOp P (.load n x) e O K=ajh n (x.ev e) O K:=by
 simp only[wpOp,ajh];cases x.ev e<;>first|rfl|(rename_i k l i f;cases O[k]? with|none=>rfl|some o=>cases o<;>rfl)
theorem adg(m:Nat)(x y:aI):wpOp P (.store m x y) e O K=ag7 m (x.ev e) (y.ev e) O K:=by
 simp only[wpOp,ag7];cases x.ev e<;>first|rfl|(rename_i k l i f;cases O[k]? with|none=>rfl|some o=>cases o<;>rfl)
theorem asJ(op:BinOp)(x y:aI):wpOp P (.bin op x y) e O K=eT op (x.ev e) (y.ev e) O K:=nr rfl
theorem axI(op:UnOp)(x:aI):wpOp P (.un op x) e O K=unK op (x.ev e) O K:=nr rfl
theorem anb(k:IntKind)(x:aI):wpOp P (.j6 k x) e O K=wj k (x.ev e) O K:=nr rfl
theorem qT(off:Nat)(x:aI):wpOp P (.aK off x) e O K=adZ off (x.ev e) O K:=by
 simp only[wpOp,adZ];cases x.ev e<;>first|rfl|(rename_i k l i f;cases O[k]? with|none=>rfl|some o=>cases o<;>rfl)
theorem asH(off:Nat)(n:Option Nat)(x:aI):wpOp P (.zZ off n x) e O K=alj off n (x.ev e) O K:=nr rfl
def aed(m s:Nat)(a i:AV)(O:List ad)(K:KT):Prop:=match a,i with
 | .cj y f,.v (.int _ i)=>0<=i/\i<m/\K (.cj y (f+i.toNat*s)) O
 | .ptr n len j f,.v (.int _ i)=>pJ O[n]? λ _ _ xs=>xs.length=len/\0<=i/\i<m/\K (.ptr n len j (f+i.toNat*s)) O
 |_,_=>False
theorem agG(m s:Nat)(y:AV)(f:Nat)(k:IntKind)(i:Int)(O:List ad)(K:KT):aed m s (.cj y f) (.v (.int k i)) O K=(0<=i/\i<m/\k1 (.cj y (f+i.toNat*s)) O K):=nr rfl
theorem aiK(m s n len j f:Nat)(k:IntKind)(i:Int)(O:List ad)(K:KT):aed m s (.ptr n len j f) (.v (.int k i)) O K=pJ O[n]? λ _ _ xs=>xs.length=len/\0<=i/\i<m/\k1 (.ptr n len j (f+i.toNat*s)) O K:=nr rfl
theorem aqZ(m s:Nat)(x y:aI):wpOp P (.wx m s x y) e O K=aed m s (x.ev e) (y.ev e) O K:=by
 simp only[wpOp,aed];cases x.ev e<;>cases y.ev e<;>first|rfl|(rename_i v;cases v<;>first|rfl|(rename_i n len _ _ _ _;cases O[n]? with|none=>rfl|some o=>cases o<;>rfl))
theorem adh(s:Nat)(x y:aI):wpOp P (.bJ s x y) e O K=zD s (x.ev e) (y.ev e) O K:=by
 simp only[wpOp,zD];cases x.ev e<;>cases y.ev e<;>first|rfl|(rename_i v;cases v<;>first|rfl|(rename_i n len _ _;cases O[n]? with|none=>rfl|some o=>cases o<;>rfl))
theorem ana(x y:aI):wpOp P (.lF x y) e O K=v8 (x.ev e) (y.ev e) O K:=nr rfl
theorem ae5(x:aI)(lo hi:Option aI):wpOp P (.fI x lo hi) e O K=lV (x.ev e) (lo.map (aI.ev e)) (hi.map (aI.ev e)) O K:=by simp only[wpOp,lV,aam];cases x.ev e<;>first|rfl|(rename_i v;cases v<;>rfl)
theorem ae6(s:Nat)(x:aI)(lo hi:Option aI):wpOp P (.cX s x lo hi) e O K=lW s (x.ev e) (lo.map (aI.ev e)) (hi.map (aI.ev e)) O K:=by simp only[wpOp,lW,aam];cases x.ev e<;>rfl
theorem axN(t s b:Nat)(z:AV)(x y:aI):wpOp P (.mk t s b z x y) e O K=mkK t s b z (x.ev e) (y.ev e) O K:=nr rfl
theorem am9(x:aI):wpOp P (.lg x) e O K=vV (x.ev e) O K:=nr rfl
theorem ahw(x:aI):wpOp P (.bm x) e O K=mM (x.ev e) O K:=by
 simp only[wpOp,mM];cases x.ev e<;>first|rfl|(rename_i k l;cases O[k]? with|none=>rfl|some o=>cases o<;>rfl)
theorem anc(t s b:Nat)(x y:aI):wpOp P (.app t s b x y) e O K=k9 O (y.ev e) λ ys=>(∀y∈ys,y.cells.length=s)/\ny O (x.ev e) t s b ys K:=by
 have h:∀ys,iu O (x.ev e) t s b ys K=ny O (x.ev e) t s b ys K:=by
  intro ys;unfold iu ny;cases x.ev e<;>first|rfl|(rename_i k l;cases O[k]? with|none=>rfl|some o=>cases o<;>rfl)
 simp only[wpOp,h];unfold sn k9;cases y.ev e<;>first|rfl|(rename_i k l;cases O[k]? with|none=>rfl|some o=>cases o<;>rfl)
theorem asI(x:aI)(i:Nat):wpOp P (.ext x i) e O K=azx (x.ev e) i O K:=nr rfl
theorem am7(x:aI):wpOp P (.ca x) e O K=ae8 (x.ev e) O K:=by
 simp only[wpOp,ae8];cases x.ev e<;>first|rfl|(rename_i k l i f;cases O[k]? with|none=>rfl|some o=>cases o<;>rfl)
theorem am8(f:FuncId)(cs:List aI):wpOp P (.sI f cs) e O K=k1 (.fn f (cs.map (aI.ev e))) O K:=nr rfl
theorem auq(f:FuncId)(as:List aI):wpOp P (.call f as) e O K=ajJ P f (as.map (aI.ev e)) O K:=nr rfl
theorem aqW(x:aI)(as:List aI):wpOp P (.ew x as) e O K=apb P (x.ev e) (as.map (aI.ev e)) O K:=nr rfl
theorem aje(f:FuncId)(as:List aI):wpOp P (.nw f as) e O K=yN P f (as.map λ x=>iW O (x.ev e)) (as.map (aI.ev e)) O K:=nr rfl
theorem yT(x:aI)(as:List aI):wpOp P (.jV x as) e O K=ai7 P (x.ev e) (as.map λ x=>iW O (x.ev e)) (as.map (aI.ev e)) O K:=nr rfl
theorem ajd(f:FuncId)(as:List aI):wpOp P (.lK f as) e O K=ac7 P f (as.map (aI.ev e)) O K:=nr rfl
theorem yS(x:aI)(as:List aI):wpOp P (.iN x as) e O K=ai4 P (x.ev e) (as.map (aI.ev e)) O K:=nr rfl
end
def anH(P:Program)(d:Option Nat)(e:Env)(r:List aO)(Q:Env->List ad->Prop):KT:=λ x O'=>Go.Ab.wpOps P r (bO e d x) O' Q
theorem aro(P:Program)(d:Option Nat)(e:Env)(r:List aO)(Q:Env->List ad->Prop)(a:AV)(O:List ad):k1 a O (anH P d e r Q)=Go.Ab.wpOps P r (bO e d a) O Q:=nr rfl
theorem agX(P:Program)(d:Option Nat)(op:ez)(e:Env)(O:List ad)(r:List aO)(Q:Env->List ad->Prop):Go.Ab.wpOps P (⟨none,d,op⟩::r) e O Q=wpOp P op e O (anH P d e r Q):=nr rfl
def xj(P:Program)(a:AV)(want:Bool)(t:Nat)(d:Option Nat)(op:ez)(r:List aO)(e:Env)(O:List ad)(Q:Env->List ad->Prop):Prop:=match a with
 | .v (.bool b)=>
   (b=want->wpOp P op (e.set t (.v (.bool want))) O (anH P d (e.set t (.v (.bool want))) r Q))/\
   (b= !want->Go.Ab.wpOps P r (bO (e.set t (.v (.bool (!want)))) d (.a9 [])) O Q)
 | .a9 []=>Go.Ab.wpOps P r (bO e d (.a9 [])) O Q
 |_=>False
section
variable (P:Program) (t:Nat) (d:Option Nat) (op:ez) (r:List aO) (e:Env) (O:List ad) (Q:Env->List ad->Prop)
theorem asc(want:Bool):Go.Ab.wpOps P (⟨some (t,want),d,op⟩::r) e O Q=xj P (e t) want t d op r e O Q:=by
 rw[aer];unfold xj;cases e t<;>try rfl
theorem arO:xj P (.v (.bool true)) true t d op r e O Q=wpOp P op (e.set t (.v (.bool true))) O (anH P d (e.set t (.v (.bool true))) r Q):=by simp[xj]
theorem arR:xj P (.v (.bool false)) false t d op r e O Q=wpOp P op (e.set t (.v (.bool false))) O (anH P d (e.set t (.v (.bool false))) r Q):=by simp[xj]
theorem arP:xj P (.v (.bool true)) false t d op r e O Q=Go.Ab.wpOps P r (bO (e.set t (.v (.bool true))) d (.a9 [])) O Q:=by simp[xj]
theorem arQ:xj P (.v (.bool false)) true t d op r e O Q=Go.Ab.wpOps P r (bO (e.set t (.v (.bool false))) d (.a9 [])) O Q:=by simp[xj]
theorem ald(want:Bool):xj P (.a9 []) want t d op r e O Q=Go.Ab.wpOps P r (bO e d (.a9 [])) O Q:=by simp[xj]
variable {P t d op r e O Q}
end
def acn(P:Program)(n0:Nat)(a:AV)(t f:aR)(Q:AX->Env->List ad->Prop)(e:Env)(O:List ad):Prop:=match a with
 | .v (.bool b)=>(b=true->ky P n0 t Q e O)/\(b=false->ky P n0 f Q e O)
 |_=>False
def aql(P:Program)(n0:Nat)(b:aR)(Q:AX->Env->List ad->Prop):AX->Env->List ad->Prop:=λ x e O=>match x with| .normal=>ky P n0 b Q e O|x=>Q x e O
def ad8(id:Nat)(Q:AX->Env->List ad->Prop):AX->Env->List ad->Prop:=λ x e O=>match x with| .exit i=>if i=id then Q .normal e O else Q (.exit i) e O|x=>Q x e O
def ajk(l:List Nat)(Q:AX->Env->List ad->Prop):AX->Env->List ad->Prop:=λ x e O=>match x with| .normal=>Q .normal (tK l e) O|x=>Q x e O
section
variable (P:Program) (n0:Nat) (Q:AX->Env->List ad->Prop) (e:Env) (O:List ad)
theorem awe(c:aI)(t f:aR):ky P n0 (.cond c t f) Q e O=acn P n0 (c.ev e) t f Q e O:=nr rfl
theorem aiu(t f:aR):acn P n0 (.v (.bool true)) t f Q e O=ky P n0 t Q e O:=by simp[acn]
theorem af2(t f:aR):acn P n0 (.v (.bool false)) t f Q e O=ky P n0 f Q e O:=by simp[acn]
theorem azG(a b:aR):ky P n0 (.seq a b) Q e O=ky P n0 a (aql P n0 b Q) e O:=nr rfl
theorem asd(id:Nat)(b:aR):ky P n0 (.block id b) Q e O=ky P n0 b (ad8 id Q) e O:=nr rfl
theorem awc(l:List Nat)(c:aR):ky P n0 (.ar l c) Q e O=ky P n0 c (ajk l Q) e O:=nr rfl
theorem atX(b:aR):aql P n0 b Q .normal e O=ky P n0 b Q e O:=nr rfl
theorem atY(b:aR)(i:Nat):aql P n0 b Q (.exit i) e O=Q (.exit i) e O:=nr rfl
theorem atW(b:aR):aql P n0 b Q .ret e O=Q .ret e O:=nr rfl
theorem apo(id:Nat):ad8 id Q .normal e O=Q .normal e O:=nr rfl
theorem apq(id i:Nat):ad8 id Q (.exit i) e O=if i=id then Q .normal e O else Q (.exit i) e O:=nr rfl
theorem apn(id:Nat):ad8 id Q .ret e O=Q .ret e O:=nr rfl
theorem ark(l:List Nat):ajk l Q .normal e O=Q .normal (tK l e) O:=nr rfl
theorem arl(l:List Nat)(i:Nat):ajk l Q (.exit i) e O=Q (.exit i) e O:=nr rfl
theorem arj(l:List Nat):ajk l Q .ret e O=Q .ret e O:=nr rfl
variable {P n0 Q e O}
theorem af1{b:Bool}{t f:aR}(h:b=true->ky P n0 t Q e O)(h':b=false->ky P n0 f Q e O):acn P n0 (.v (.bool b)) t f Q e O:=⟨h,h'⟩
end
section
variable {ι:Type} (n0:Nat) (D:ι->Prop) (σ:ι->Env) (τ:ι->List ad) (μ:ι->Nat) (i:ι) (Q:AX->Env->List ad->Prop) (e:Env) (O:List ad)
theorem amz(k:Nat):yw n0 D σ τ μ i Q (.exit k) e O=Q (.exit k) e O:=nr rfl
theorem amy:yw n0 D σ τ μ i Q .ret e O=Q .ret e O:=nr rfl
variable {n0 D σ τ μ i Q e O}
theorem a6(j:ι)(h:D j)(h1:μ j<μ i)(h2:WK n0 e O (σ j) (τ j)):yw n0 D σ τ μ i Q .normal e O:=⟨j,h,h1,h2⟩
end
def asO(P:Program)(n0:Nat)(Q:AX->Env->List ad->Prop)(e:Env)(O:List ad)(b:aR):Prop:=ky P n0 (.loop b) Q e O
theorem awb(P:Program)(n0:Nat)(Q:AX->Env->List ad->Prop)(e:Env)(O:List ad)(b:aR):ky P n0 (.loop b) Q e O=asO P n0 Q e O b:=nr rfl
theorem bd{P:Program}{n0:Nat}{b:aR}{Q:AX->Env->List ad->Prop}{e:Env}{O:List ad}{ι:Type}(D:ι->Prop)(σ:ι->Env)(τ:ι->List ad)(μ:ι->Nat)(i0:ι)
 (hd:D i0) (h0:WK n0 e O (σ i0) (τ i0)) (hr:∀i,D i->ky P n0 b (yw n0 D σ τ μ i Q) (σ i) (τ i)):asO P n0 Q e O b:=amc D σ τ μ i0 hd h0 hr
theorem ql{m:Nat}{x:AV}(h:x.isAgg=true)(h':x.cells.length=m):dI (some m) x 0=x:=by simp[dI,h,h']
theorem gw(x:AV)(f:Nat):dI none x f=x.cells.getD f .top:=nr rfl
theorem ajS{x y:AV}(h:y.cells.length=x.cells.length):rH x 0 y=y:=by simp[rH,h]
theorem aco(cs:List AV):(AV.agg cs).cells=cs:=nr rfl
theorem an(x:Value):(AV.v x).cells= [.v x]:=nr rfl
theorem aak:AV.aw.cells= [.aw]:=nr rfl
theorem af6(xs:List AV):(AV.sl xs).cells= [.sl xs]:=nr rfl
theorem alp(n l:Nat):(AV.row n l).cells= [.row n l]:=nr rfl
theorem alq(n l i f:Nat):(AV.ptr n l i f).cells= [.ptr n l i f]:=nr rfl
theorem af7(f:FuncId)(cs:List AV):(AV.fn f cs).cells= [.fn f cs]:=nr rfl
theorem ab4(cs:List AV):(AV.agg cs).isAgg=true:=nr rfl
theorem oq(x:Value):(AV.v x).cg=true:=nr rfl
theorem vZ:AV.aw.cg=true:=nr rfl
theorem ab2(xs:List AV):(AV.sl xs).cg=true:=nr rfl
theorem ahT(n l:Nat):(AV.row n l).cg=true:=nr rfl
theorem ahU(n l i f:Nat):(AV.ptr n l i f).cg=true:=nr rfl
theorem ab3(f:FuncId)(cs:List AV):(AV.fn f cs).cg=true:=nr rfl
theorem te(cs:List AV):(AV.agg cs).storable=cs.all AV.cg:=nr rfl
theorem x4(x:Value):(AV.v x).storable=true:=nr rfl
theorem rJ:AV.aw.storable=true:=nr rfl
theorem vH(xs:List AV):(AV.sl xs).storable=true:=nr rfl
theorem acE(n l:Nat):(AV.row n l).storable=true:=nr rfl
theorem acF(n l i f:Nat):(AV.ptr n l i f).storable=true:=nr rfl
theorem vI(f:FuncId)(cs:List AV):(AV.fn f cs).storable=true:=nr rfl
theorem ab9{O:List ad}{a:AV}(h:a.ag=true):iW O a=a:=by
 cases a<;>first|rfl|(simp[AV.ag]at h;done)
theorem um{O:List ad}{args:List AV}{res:AV}(h:res.flat=true):xo O args res=O:=by simp[xo,h]
theorem sX{O:List ad}{args:List AV}{res:AV}(h:AV.ae args=true):xo O args res=O:=by
 unfold xo
 split
 ·rfl
 ·induction args with
  |nil=>rfl
  |cons a as ih=>
   simp only[AV.ae,Bool.and_eq_true]at h;have:eD O a=O:=by cases a<;>first|rfl|(simp[AV.ag]at h;done)
   simp only[List.foldl_cons,this];exact ih h.2
theorem avR(x:Value):(AV.v x).flat=true:=nr rfl
theorem ahz:AV.ae []=true:=nr rfl
theorem ae7(x:AV)(xs:List AV):AV.ae (x::xs)=(x.ag&&AV.ae xs):=nr rfl
theorem aq1(x:Value):(AV.v x).ag=true:=nr rfl
theorem anf(xs:List AV):(AV.sl xs).ag=AV.ae xs:=nr rfl
theorem akB(xs:List AV):(AV.agg xs).ag=AV.ae xs:=nr rfl
theorem akz(xs:List AV):(AV.a9 xs).ag=AV.ae xs:=nr rfl
theorem ahB:AV.aw.ag=true:=nr rfl
theorem ang(f:FuncId)(cs:List AV):(AV.fn f cs).ag=AV.ae cs:=nr rfl
theorem apZ{n:Int}(h: -9223372036854775808<=n)(h':n<=9223372036854775807):IntKind.i64.wrap n=n:=by
 rw[IntKind.wrap_i64];omega
section
variable (n0:Nat) (rs:List dG) (res:AV) (O':List ad) (e:Env) (O:List ad)
end
end Go.Ab
namespace Go.Ab
def fz(O:List ad):Nat->AV->AV
 |0,a=>a
 |k+1,.row n len=>match O[n]? with
  |some (.live _ _ xs)=>if xs.length=len then .sl (xs.map (fz O k))else .row n len
  |some (.nil _ _)=>if len=0 then .sl []else .row n len
  |_=> .row n len
 |_+1,.aw=> .sl []
 |k+1,.agg cs=> .agg (cs.map (fz O k))
 |k+1,.a9 vs=> .a9 (vs.map (fz O k))
 |_+1,a=>a
open Classical in
noncomputable def allI (I:du) (L:Nat->Loc) (O:List ad) (w:World):du:=λ b o=>if LB L O b then w.cell? ⟨b,o,none⟩else I b o
theorem uk{I:du}{L:Nat->Loc}{O:List ad}{w:World}(hi:Inv I L O w):∀b o x,I b o=some x->allI I L O w b o=some x:=by
 intro b o x hx;unfold allI
 split
 ·exact hi.kJ b o x hx
 ·exact hx
theorem Good.all{I0 I:du}{L0 L:Nat->Loc}{O:List ad}{w0 w:World}(h:Good I0 L0 [] w0 I L O w):Good I0 L0 [] w0 (allI I L O w) L [] w:=by
 refine⟨⟨λ b o x hx=> ?_,by simp,by simp,by simp,λ p hp=>uk h.inv _ _ _ (h.inv.fix p hp),h.inv.xI (uk h.inv),.no (by simp),.no (by simp)⟩,⟨λ b o x hx=>uk h.inv _ _ _ (h.ext.kJ _ _ _ hx),by simp,by simp,by simp,by simp,by simp⟩,h.pO,?_,λ b o x hx=> ?_⟩
 ·unfold allI at hx
  split at hx
  ·exact hx
  ·exact h.inv.kJ b o x hx
 ·exact λ b hb=>(aav hb).elim
 ·unfold allI at hx
  split at hx
  ·rename_i hlb;rcases h.lb b hlb with h1|h1
   ·exact(aav h1).elim
   ·exact .inr (.inr h1)
  ·exact h.iP b o x hx
theorem aeS(e:Env)(O:List ad)(acc:List AV)(M:List AV->Prop):dK e O [] acc M=M acc.reverse:=nr rfl
theorem aeQ(e:Env)(O:List ad)(t:Nat)(rs:List dG)(acc:List AV)(M:List AV->Prop):dK e O (.tmp t::rs) acc M=dK e O rs (e t::acc) M:=nr rfl
def aix(o:Option ad)(n:Option Nat)(K:AV->Prop):Prop:=match o with
 |some (.live _ _ [x])=>n.getD 1<=x.cells.length/\K (dI n x 0)
 |_=>False
def atj(a:AV)(O:List ad)(n:Option Nat)(K:AV->Prop):Prop:=match a with
 | .ptr k 1 0 0=>aix O[k]? n K
 |_=>False
theorem akd(e:Env)(O:List ad)(t:Nat)(n:Option Nat)(rs:List dG)(acc:List AV)(M:List AV->Prop):dK e O (.cell t n::rs) acc M=atj (e t) O n λ x=>dK e O rs (x::acc) M:=nr rfl
theorem alv(k:Nat)(O:List ad)(n:Option Nat)(K:AV->Prop):atj (.ptr k 1 0 0) O n K=aix O[k]? n K:=nr rfl
theorem af8(t s:Nat)(x:AV)(n:Option Nat)(K:AV->Prop):aix (some (.live t s [x])) n K=(n.getD 1<=x.cells.length/\K (dI n x 0)):=nr rfl
theorem aks(x:AV):br [x]=x:=nr rfl
theorem ahs(x y:AV)(l:List AV):br (x::y::l)= .a9 (x::y::l):=nr rfl
theorem azu(O:List ad)(x:Value):iW O (.v x)= .v x:=nr rfl
theorem avL(O:List ad)(xs:List AV):iW O (.sl xs)= .sl xs:=nr rfl
theorem aoJ(O:List ad):iW O .aw= .aw:=nr rfl
theorem arU(O:List ad)(xs:List AV):iW O (.agg xs)= .agg xs:=nr rfl
theorem avM(O:List ad)(f:FuncId)(xs:List AV):iW O (.fn f xs)= .fn f xs:=nr rfl
theorem oL{a b y:AV}{cs:List AV}{i:Nat}(hy:y.cells= [y])(h:i<(a::b::cs).length):rH (.agg (a::b::cs)) i y= .agg ((a::b::cs).set i y):=by
 unfold rH;rw[hy,if_neg (by simp[AV.cells])];simp only[AV.cells,List.length_singleton,List.append_assoc,List.singleton_append];rw[List.set_eq_take_append_cons_drop,if_pos h]
theorem aw7{a b:AV}{cs:List AV}{i:Nat}(x:Value)(h:i<(a::b::cs).length):rH (.agg (a::b::cs)) i (.v x)= .agg ((a::b::cs).set i (.v x)):=oL rfl h
theorem atE{a b:AV}{cs:List AV}{i:Nat}(x:List AV)(h:i<(a::b::cs).length):rH (.agg (a::b::cs)) i (.sl x)= .agg ((a::b::cs).set i (.sl x)):=oL rfl h
theorem amf{a b:AV}{cs:List AV}{i:Nat}(h:i<(a::b::cs).length):rH (.agg (a::b::cs)) i .aw= .agg ((a::b::cs).set i .aw):=oL rfl h
theorem ap5{a b:AV}{cs:List AV}{i:Nat}(n l:Nat)(h:i<(a::b::cs).length):rH (.agg (a::b::cs)) i (.row n l)= .agg ((a::b::cs).set i (.row n l)):=oL rfl h
theorem ap6{a b:AV}{cs:List AV}{i:Nat}(n l j f:Nat)(h:i<(a::b::cs).length):rH (.agg (a::b::cs)) i (.ptr n l j f)= .agg ((a::b::cs).set i (.ptr n l j f)):=oL rfl h
theorem atF{a b:AV}{cs:List AV}{i:Nat}(f:FuncId)(l:List AV)(h:i<(a::b::cs).length):rH (.agg (a::b::cs)) i (.fn f l)= .agg ((a::b::cs).set i (.fn f l)):=oL rfl h
theorem ap8{cs ds:List AV}{i:Nat}(h:i≠0):rH (.agg cs) i (.agg ds)= .agg (cs.take i++(ds++cs.drop (i+ds.length))):=by
 unfold rH;rw[if_neg (by simp[h])];simp[AV.cells]
theorem amg{cs ds:List AV}(h:ds.length<cs.length):rH (.agg cs) 0 (.agg ds)= .agg (ds++cs.drop ds.length):=by
 unfold rH;rw[if_neg (by simp[AV.cells];omega)];simp[AV.cells]
theorem aC4(n:Nat):decide ((n:Int)<0)=false:=by simp
end Go.Ab
namespace Go.Ab
theorem WK.select{e e':Env}{O O1:List ad}(s:Nat->Nat)(hg:∀i,i<O1.length->O[s i]? =(O1[i]?).map (ad.bP s))(xh:∀i j,i<O1.length->j<O1.length->s i=s j->i=j)
  (hsO:∀ob∈O1,ob.inScope O1.length=true) (he:∀t,e' t= .top∨(e t=(e' t).bP s/\(e' t).inScope O1.length=true)):WK 0 e O e' O1:=by
 intro I0 L0 O0 w0 I L w f hl iQ hr;obtain rfl:O0= []:=List.eq_nil_of_length_eq_zero hl;have hi:=iQ.inv
 have gL:∀{n e k ys},O1[n]? =some (.live e k ys)->O[s n]? =some (.live e k (ys.map (AV.bP s))):=by
  intro n e k ys hn;rw[hg n (List.getElem?_eq_some_iff.1 hn).1,hn];rfl
 have jm:∀{n:Nat} {a:AV},O1[n]? =some (.own a)->O[s n]? =some (.own a):=by
  intro n a hn;rw[hg n (List.getElem?_eq_some_iff.1 hn).1,hn];rfl
 have o8:∀{n:Nat} {g:gJ},O1[n]? =some (.cZ g)->O[s n]? =some (.cZ (g.bP s)):=by
  intro n a hn;rw[hg n (List.getElem?_eq_some_iff.1 hn).1,hn];rfl
 have un:∀{a:AV} {x:Value},R I L O (a.bP s) x->a.inScope O1.length=true->R I (λ n=>L (s n)) O1 a x:=λ hr hsc=>R.ami hg (λ _ _=>rfl) hr _ rfl hsc
 refine⟨I,λ n=>L (s n),⟨⟨hi.kJ,λ n e k ys hn=> ?_,λ n n' e k ys e' k' vG hn mb hb=> ?_,λ n e k ys o hn=>hi.dS _ _ _ _ o (gL hn),hi.fix,hi.bf,
  ⟨λ n a hn=>hi.ow.tree _ a (jm hn),λ n a hn=>hi.ow.cell _ a (jm hn),λ n a hn=>hi.ow.kJ _ a (jm hn),λ n a hn b o v hv m e k xs hm=>hi.ow.live _ a (jm hn) b o v hv _ _ _ _ (gL hm),
   λ n m a c hn hm b o o' v v' hv km=>xh _ _ (List.getElem?_eq_some_iff.1 hn).1 (List.getElem?_eq_some_iff.1 hm).1 (hi.ow.sep _ _ a c (jm hn) (jm hm) b o o' v v' hv km),λ n a hn=>hi.ow.deep _ a (jm hn)⟩,
  ⟨λ n g hn=>(hi.gh.ok _ _ (o8 hn)).un (λ _ _ hr hsc=>un hr hsc) (hsO _ (mem_of_getElem? hn)),λ n m a c hn hm hb=>xh _ _ (List.getElem?_eq_some_iff.1 hn).1 (List.getElem?_eq_some_iff.1 hm).1 (hi.gh.sep _ _ _ _ (o8 hn) (o8 hm) hb)⟩⟩,⟨iQ.ext.kJ,by simp,by simp,by simp,by simp,by simp⟩,iQ.pO,?_,iQ.iP⟩,λ t=> ?_⟩
 ·obtain⟨c,⟨lD,q1,dE⟩,q2,q3,q4,q5,q6⟩:=hi.obj _ _ _ _ (gL hn);refine⟨c,⟨lD,q1,dE⟩,q2,by simpa using q3,q4,q5,λ i x hx=> ?_⟩;have j0:(ys.map (AV.bP s))[i]? =some (x.bP s):=by rw[getElem?_map,hx];rfl
  obtain⟨r1,r2⟩:=q6 i _ j0;rw[ea,List.length_map]at r1;refine⟨r1,λ j a ha=> ?_⟩;obtain⟨y,hy,ho,ou⟩:=r2 j (a.bP s) (by rw[ea,getElem?_map,ha];rfl);have hbo:=hsO _ (mem_of_getElem? hn);exact⟨y,hy,ho,un ou (cd (bU hbo x (mem_of_getElem? hx)) a (mem_of_getElem? ha))⟩
 ·exact xh _ _ (List.getElem?_eq_some_iff.1 hn).1 (List.getElem?_eq_some_iff.1 mb).1 (hi.sep _ _ _ _ _ _ _ _ (gL hn) (gL mb) hb)
 ·rintro b (⟨n,e,k,xs,hn,hb⟩|⟨n,a,o,v,hn,hb⟩|⟨n,a,hn,hb⟩)
  ·exact iQ.lb b (.inl ⟨s n,_,_,_,gL hn,hb⟩)
  ·exact iQ.lb b (.inr (.inl ⟨s n,a,o,v,jm hn,hb⟩))
  ·exact iQ.lb b (.inr (.inr ⟨s n,_,o8 hn,hb⟩))
 ·rcases he t with h|⟨h,h'⟩
  ·rw[h];exact .top _
  ·have:=hr t;rw[h]at this;exact un this h'
end Go.Ab
namespace Go.Ab
open Go.ChangeShapes Go.WideShapes
section
variable {H:Type} {enc:TypeId×Value->H} {P:Program}
theorem rI(hl:laidOutB P=true){W W':World}{sp':Nat->Bool}:∀{ts:List TypeId} {vs:List Value} {ds:List (DataW H)} {ps:List MemPlace},(∀t∈ts,P.readableRec t=true/\t<P.types.size)->
  DataW.TrodAll enc P W 0 (λ _=>true) true ts vs ds ps->(∀p∈ps,W.sameAt W' p)->(∀p∈ps,sp' p.block=true)->DataW.TrodAll enc P W' 0 sp' true ts vs ds ps
 | [],_,_,_,_,h,_,_=>by
   obtain⟨rfl,rfl,rfl⟩:=trodAll_nil h;exact trodAll_mk0
 |t::ts,_,_,_,ht,h,hs,hp=>by
  obtain⟨v,vs,d,ds,p,q,rfl,rfl,rfl,h0,h1⟩:=trodAll_cons h;obtain⟨a,b⟩:=ht t List.mem_cons_self
  exact⟨p,q,WideElems.Trod_stays hl a b h0 (λ x hx=>hs x (mem_append_left _ hx)) (λ x hx=>hp x (mem_append_left _ hx)),
   rI hl (λ t' h'=>ht t' (List.mem_cons_of_mem _ h')) h1 (λ x hx=>hs x (List.mem_append_right _ hx)) (λ x hx=>hp x (List.mem_append_right _ hx)),rfl⟩
theorem anD{f:Func}{s:ChangeSpec}{apart fresh handsOn again:Bool}{W W':World}{args:Array Value}{ds gs:List (DataW H)}{before:List MemPlace}(hl:laidOutB P=true)
  (oI:∀t∈f.params.toList,P.readableRec t=true/\t<P.types.size) (hv:s.vars= []) (hW:DataW.Whole enc P f.params.toList s.vars apart W args.toList ds gs before) (hb:RowKit.Below W.heap.size W W')
  {t:TypeId} (hr:f.resultTypes= #[t]) (ht:P.underlying t=some .bool) (hfn:s.fn H (ds++gs)={results:=[.lit (.bool true)],args:=ds}):
  s.post enc P f apart fresh handsOn again W args (.bool true) W':=by
 have aF:=hW.lt;have hold:∀p∈before,(λ b=>decide (b<W.heap.size)) p.block=true:=λ p hp=>by simpa using aF p hp
 have hW0:=hW;obtain⟨p,q,hA,hV,rfl,hz,hn⟩:=hW0;rw[hv]at hV;obtain⟨rfl,rfl⟩:=trodVars_none hV
 have oJ:∀sp:Nat->Bool,(∀x∈p,sp x.block=true)->DataW.TrodAll enc P W' 0 sp true f.params.toList args.toList ds p:=λ sp hsp=>
  rI hl oI hA (λ x hx=>hb.same (aF x (mem_append_left _ hx))) hsp
 have tT:∀(b:Nat) (sp:Nat->Bool) (hd:Bool),DataW.TrodAll enc P W' b sp hd f.resultTypes.toList ((Value.bool true).resultList f.resultTypes.size) [.lit (.bool true)] []:=by
  intro b sp hd;rw[hr];refine trodAll_mk1 ⟨1,?_⟩;simp[DataW.trod,ht,Value.cells]
 have asW:∀sp:Nat->Bool,DataW.TrodVars enc P W' sp s.vars [] []:=by
  intro sp;rw[hv];exact rfl
 refine⟨ds,[],p++ [],[],p,[],hW,by rw[hfn];exact tT _ _ _,by rw[hfn];exact oJ _ (λ x hx=>hold x (mem_append_left _ hx)),by rw[hfn];exact asW _,World.keptBut_mono (λ x hx=>hx) (hb.frame _),λ _=> ?_⟩;refine⟨?_,[.lit (.bool true)]++ds,[],([]++p)++ [],⟨[]++p,[],trodAll_append (oJ _ (λ _ _=>rfl)) (tT _ _ _),asW _,rfl,?_,?_⟩,?_⟩
 ·intro j t' r h1 h2;rw[hr]at h1 h2;cases j with
  |zero=>
   simp[Value.resultList]at h1 h2;subst h1;subst h2;exact RowKit.okWide_bool_mk ht true
  |succ j=>simp at h1
 ·intro b off hp;have hp':MemPlace.cell b off∈p++ []:=by simpa using hp
  rw[hb.frozen (aF _ hp')];exact hz b off hp'
 ·intro ha;have:=hn ha;simpa using this
 ·intro x hx _;simpa using hx
mutual
def sW:DataW H->Nat
 | .lit (.string bytes)=>bytes.length+1
 | .lit _=>1
 | .nil=>1
 | .ptr d=>sW d+1
 | .slice elems spare=>mi elems+mi spare+1
 | .agg parts=>mi parts+1
 | .iface _ d=>sW d+1
 | .map _=>1
 | .held _=>1
def mi:List (DataW H)->Nat
 | []=>0
 |d::r=>sW d+mi r
end
def afd(w:World):du:=λ b o=>w.cell? ⟨b,o,none⟩
theorem ann(L:Nat->Loc)(w:World)(hf:∀p∈pb,w.cell? ⟨p.1,p.2.1,none⟩=some p.2.2)(hq:∀q∈my,kX w q.1=some q.2/\∃v,afd w q.1 0=some v/\afQ q.1 v=true):Inv (afd w) L [] w:=⟨λ _ _ _ h=>h,by simp,by simp,by simp,hf,hq,.no (by simp),.no (by simp)⟩
theorem axS(h:my= [])(w:World):∀q∈my,kX w q.1=some q.2/\∃v,afd w q.1 0=some v/\afQ q.1 v=true:=by rw[h];simp
theorem axR(h:pb= [])(w:World):∀p∈pb,w.cell? ⟨p.1,p.2.1,none⟩=some p.2.2:=by rw[h];simp
def RdC(w:World)(as:List AV)(cs:List Value):Prop:=
 as.length=cs.length/\∀(j:Nat) c y,as[j]? =some c->cs[j]? =some y->y.oneCell'=true/\∀L,R (afd w) L [] c y
theorem RdC.one{w:World}{a:AV}{y:Value}(h:y.oneCell'=true)(hr:∀L,R (afd w) L [] a y):RdC w [a] [y]:=by
 refine⟨rfl,λ j c z hc hz=> ?_⟩;cases j with
 |zero=>simp at hc hz;subst hc;subst hz;exact⟨h,hr⟩
 |succ j=>simp at hc
theorem RdC.append{w:World}{as bs:List AV}{cs ds:List Value}(h:RdC w as cs)(k:RdC w bs ds):RdC w (as++bs) (cs++ds):=by
 refine⟨by simp[h.1,k.1],λ j c y hc hy=> ?_⟩;by_cases hj:j<as.length
 ·rw[List.getElem?_append_left hj]at hc;rw[List.getElem?_append_left (by rw[←h.1];exact hj)]at hy;exact h.2 j c y hc hy
 ·rw[List.getElem?_append_right (by omega)]at hc;rw[List.getElem?_append_right (by rw[←h.1];omega),←h.1]at hy;exact k.2 _ c y hc hy
theorem RdC.part{w:World}{as bs:List AV}{cs:List Value}(o n:Nat)(h:RdC w as ((cs.drop o).take n))(k:RdC w bs (cs.drop (o+n))):RdC w (as++bs) (cs.drop o):=by
 have:=h.append k;rwa [←List.drop_drop,List.take_append_drop]at this
def Rd(enc:TypeId×Value->H)(P:Program)(w:World)(f:Nat)(t:TypeId){α:Type}(cells:α->List AV)(wt:α->Nat)(ok:α->Prop):Prop:=
 ∀cs x,DataW.trod enc P w 0 (λ _=>true) true f t cs=some x->∃y:α,RdC w (cells y) cs/\wt y<=sW x.1/\ok y
theorem at2{w:World}{f:Nat}{t:TypeId}{k:IntKind}(ht:P.underlying t=some (.int k)):Rd enc P w f t (λ n:Int=>[.v (.int k n)]) (λ _=>1) (λ n=>k.min<=n/\n<=k.max):=by
 intro cs x h;obtain⟨n,rfl,rfl,hw⟩:=DataW.trod_int ht h;exact⟨n,.one rfl λ L=> .v _ rfl,le_refl _,by simpa [Lit.wf]using hw⟩
theorem age{α:Type}{wt:α->Nat}:∀{l:List α} {ds:List (DataW H)},l.length=ds.length->(∀(i:Nat) a d,l[i]? =some a->ds[i]? =some d->wt a<=sW d)->(l.map wt).sum<=mi ds
 | [],[],_,_=>le_refl _
 |a::l,d::ds,hl,h=>by
  have h0:=h 0 a d rfl rfl;have h1:=age (l:=l) (ds:=ds) (by simpa using hl) λ i a d ha hd=>h (i+1) a d ha hd
  simp only[map_cons,List.sum_cons,mi];omega
 | [],_::_,hl,_=>by simp at hl
 |_::_,[],hl,_=>by simp at hl
theorem af4{α:Type}{n:Nat}{p:Nat->α->Prop}(h:∀i,i<n->∃a,p i a):∃l:List α,l.length=n/\∀(i:Nat) a,l[i]? =some a->p i a:=by
 induction n with
 |zero=>exact⟨[],rfl,by simp⟩
 |succ n ih=>
  obtain⟨l,hl,hp⟩:=ih λ i hi=>h i (Nat.lt_succ_of_lt hi)
  obtain⟨a,ha⟩:=h n (Nat.lt_succ_self n);refine⟨l++ [a],by simp[hl],λ i b hb=> ?_⟩;by_cases hi:i<l.length
  ·rw[List.getElem?_append_left hi]at hb;exact hp i b hb
  ·rw[List.getElem?_append_right (by omega)]at hb
   have:i=n:=by
    have:=(List.getElem?_eq_some_iff.1 hb).1;simp at this;omega
   subst this;simp[hl]at hb;subst hb;exact ha
theorem amB{w:World}{f:Nat}{t e:TypeId}{α:Type}{av:α->AV}{wt:α->Nat}{ok:α->Prop}(ht:P.underlying t=some (.slice e))(hs:0<P.cellsOf e)(he:∀n,f=n+1->Rd enc P w n e (λ a=>(av a).cells) wt ok):
  Rd enc P w f t (λ l:List α=>[.sl (l.map av)]) (λ l=>(l.map wt).sum+1) (λ l=>∀a∈l,ok a):=by
 intro cs x h;rcases DataW.trod_slice ht h with⟨rfl,rfl⟩|⟨a,len,cap,elems,rest,n,rfl,rfl,rfl,hb,hl,hc,hn,fu,_,_⟩
 ·exact⟨[],.one rfl λ L=> .mq _ _,by simp[sW],by simp⟩
 ·replace he:=he n rfl
  have key:∀i,i<len->∃y:α,∃cs d,w.cells? 0 (a.add (i*P.cellsOf e)) (P.cellsOf e)=some cs/\elems[i]? =some d/\RdC w (av y).cells cs/\wt y<=sW d.1/\ok y:=by
   intro i hi;have h1:=fu i hi;have h2:elems[i]? =some elems[i]:=by simp[hn,hi]
   rw[h2,bind_eq_some_iff]at h1;obtain⟨cs,zQ,ht⟩:=h1;obtain⟨y,q1,q2,q3⟩:=he cs _ ht;exact⟨y,cs,_,zQ,h2,q1,q2,q3⟩
  obtain⟨l,hll,hp⟩:=af4 key;refine⟨l,.one rfl λ L=> ?_,?_,λ y hy=> ?_⟩
  ·by_cases h0:l= []
   ·subst h0;simp at hll;subst hll;exact .mq _ _
   ·obtain⟨b,off,spot⟩:=a
    have sQ:0<len:=by
     rw[←hll];exact List.length_pos_iff.2 h0
    have ayt:spot=none:=by
     obtain⟨y,cs,d,zQ,_,hr,_⟩:=key 0 sQ;obtain⟨_,hlen,lO⟩:=World.cells?_some zQ;have h1:=lO 0 hs;have h2:cs[0]? =some cs[0]:=by simp[hlen,hs]
     rw[h2]at h1;simpa [Addr.add]using World.cell?_spot h1
    subst ayt
    have ck:∀{i:Nat} {x:AV},(l.map av)[i]? =some x->∃y,l[i]? =some y/\x=av y:=by
     intro i x hx;simp only[getElem?_map,map_eq_some_iff]at hx;obtain⟨y,hy,rfl⟩:=hx;exact⟨y,hy,rfl⟩
    have kk:∀(i:Nat) (y:α),l[i]? =some y->(av y).cells.length=P.cellsOf e/\∀(j:Nat) (c:AV),(av y).cells[j]? =some c->∃z,w.cell? ⟨b,off+i*P.cellsOf e+j,none⟩=some z/\z.oneCell'=true/\∀L,R (afd w) L [] c z:=by
     intro i y hy;obtain⟨cs,d,zQ,_,hr,_⟩:=hp i y hy;obtain⟨_,hlen,lO⟩:=World.cells?_some zQ;refine⟨by rw[hr.1,hlen],λ j c hc=> ?_⟩;have hj:j<cs.length:=by rw[←hr.1];exact(List.getElem?_eq_some_iff.1 hc).1
     have h1:=lO j (by omega);have h2:cs[j]? =some cs[j]:=by simp[hj]
     rw[h2]at h1;obtain⟨q1,q2⟩:=hr.2 j c _ hc h2;refine⟨_,?_,q1,q2⟩;rw[add_plain,add_plain]at h1;exact h1
    rw[show len=(l.map av).length by simp[hll]];refine .sl (l.map av) b off cap (P.cellsOf e) (λ i j=>(w.cell? ⟨b,off+i*P.cellsOf e+j,none⟩).getD undef) (by simp[hll];exact hl) (by simpa using h0) (λ i x hx=> ?_) (λ i x j c hx hc=> ?_) (λ i x j c hx hc=> ?_)
    ·obtain⟨y,hy,rfl⟩:=ck hx;exact(kk i y hy).1
    ·obtain⟨y,hy,rfl⟩:=ck hx;obtain⟨z,hz,ho,_⟩:=(kk i y hy).2 j c hc;unfold afd;rw[hz];exact⟨rfl,ho⟩
    ·obtain⟨y,hy,rfl⟩:=ck hx;obtain⟨z,hz,ho,hr⟩:=(kk i y hy).2 j c hc;rw[hz];exact hr L
  ·have:(l.map wt).sum<=mi (elems.map (·.1)):=age (by simp[hll,hn]) λ i a d ha hd=>by
     obtain⟨cs,d',_,hd',_,hw,_⟩:=hp i a ha;simp[hd']at hd;subst hd;exact hw
   simp only[sW];omega
  ·obtain⟨i,hi⟩:=List.getElem?_of_mem hy;obtain⟨_,_,_,_,_,_,h⟩:=hp i y hi;exact h
theorem zZ{w:World}{n:Nat}{cs:List Value}{fs:Array Field}{xs:List (DataW H×List MemPlace)}
  (hf:∀(i:Nat) (f:Field),fs[i]? =some f->DataW.trod enc P w 0 (λ _=>true) true n f.type ((cs.drop f.offset).take (P.cellsOf f.type))=xs[i]?)
  (i:Nat) {f:Field} (h:fs[i]? =some f) {t:TypeId} {o s:Nat} (ht:f.type=t) (ho:f.offset=o) (hs:P.cellsOf t=s):DataW.trod enc P w 0 (λ _=>true) true n t ((cs.drop o).take s)=xs[i]? :=by
 have:=hf i f h;rwa [ht,ho,hs]at this
end
end Go.Ab
namespace Go.Ab
def sp(n:Nat):List AV->List AV×List ad
 | []=>([],[])
 | .v x::r=>(.v x::(sp n r).1,(sp n r).2)
 |a::r=>(.own n::(sp (n+1) r).1,.own a::(sp (n+1) r).2)
def aDd(O:List ad)(c d:AV):Prop:=(c=d/\∃v,d= .v v)∨∃k,c= .own k/\O[k]? =some (.own d)
structure Split(O:List ad)(ys xs:List AV):Prop where
 len:ys.length=xs.length
 cells:∀(i:Nat) y x,ys[i]? =some y->xs[i]? =some x->y.cells.length=x.cells.length
 half:∀(i:Nat) y x (j:Nat) c d,ys[i]? =some y->xs[i]? =some x->y.cells[j]? =some c->x.cells[j]? =some d->aDd O c d
 inj:∀(i:Nat) y (j:Nat) i' y' j' k,ys[i]? =some y->y.cells[j]? =some (.own k)->ys[i']? =some y'->y'.cells[j']? =some (.own k)->i=i'/\j=j'
section
variable {P:Program} {I:du} {L:Nat->Loc} {O:List ad} {w:World}
theorem yP(hi:Inv I L O w){k:Nat}{d:AV}(hk:O[k]? =some (.own d)){y:Value}(hr:R I L O (.own k) y):y=(L k).val:=by
 cases hr with
 |dW=>rfl
 |gW _ g h=>rw[hk]at h;cases h
 |eR _ _ _ h=>exact(h _ hk).elim
open Classical in
theorem Inv.av4(hi:Inv I L O w){k e s:Nat}{ys xs:List AV}(hk:O[k]? =some (.live e s ys))(hs:Split O ys xs):
  ∃S:Nat->Prop,OT w (.sl xs) (.slice (some ⟨(L k).bf,0,none⟩) xs.length (L k).cap) S/\∀b,S b->LB L O b:=by
 obtain⟨c,⟨lD,h1,dE⟩,h2,h3,h4,h5,h6⟩:=hi.obj k e s ys hk;by_cases hx:xs= []
 ·subst hx;exact⟨_,.mq _ _,λ b h=>h.elim⟩
 let bz:Nat->Nat->Value:=λ i j=>(c[i*s+j]?).getD undef
 let nm:Nat->Nat->Option Nat:=λ i j=>match ys[i]? with
  |some y=>match y.cells[j]? with
   |some (.own m)=>some m
   |_=>none
  |none=>none
 let S:Nat->Nat->Nat->Prop:=λ i j b=>∃m,nm i j=some m/\∃o v,(L m).mem b o=some v
 have nm1:∀{i j m:Nat},nm i j=some m->∃y,ys[i]? =some y/\y.cells[j]? =some (.own m):=by
  intro i j m h;simp only[nm]at h;cases hy:ys[i]? with
  |none=>simp[hy]at h
  |some y=>
   simp only[hy]at h;cases hc:y.cells[j]? with
   |none=>simp[hc]at h
   |some a=>
    simp only[hc]at h;cases a<;>simp at h
    subst h;exact⟨y,rfl,hc⟩
 have pair:∀{i:Nat} {x:AV},xs[i]? =some x->∃y,ys[i]? =some y:=by
  intro i x h;have:=(List.getElem?_eq_some_iff.1 h).1;exact⟨ys[i]'(by rw[hs.len];exact this),by simp[hs.len,this]⟩
 have amZ:∀{i:Nat} {x y:AV} {j:Nat} {a:AV},xs[i]? =some x->ys[i]? =some y->x.cells[j]? =some a->∃b,y.cells[j]? =some b:=by
  intro i x y j a h h' ha;have:=(List.getElem?_eq_some_iff.1 ha).1;have hl:=hs.cells i y x h' h;exact⟨y.cells[j]'(by rw[hl];exact this),by simp[hl,this]⟩
 have am0:∀{i:Nat} {y:AV},ys[i]? =some y->∃x,xs[i]? =some x:=by
  intro i x h;have:=(List.getElem?_eq_some_iff.1 h).1;exact⟨xs[i]'(by rw[←hs.len];exact this),by simp[←hs.len,this]⟩
 have ahq:∀{i:Nat} {x y:AV} {j:Nat} {a:AV},xs[i]? =some x->ys[i]? =some y->y.cells[j]? =some a->∃b,x.cells[j]? =some b:=by
  intro i x y j a h h' ha;have:=(List.getElem?_eq_some_iff.1 ha).1;have hl:=hs.cells i y x h' h;exact⟨x.cells[j]'(by rw[←hl];exact this),by simp[←hl,this]⟩
 have half:∀{i:Nat} {x:AV} {j:Nat} {a:AV},xs[i]? =some x->x.cells[j]? =some a->c[i*s+j]? =some (bz i j)/\(bz i j).oneCell'=true/\
   ((nm i j=none/\∃v,a= .v v/\v=bz i j)∨∃m,nm i j=some m/\O[m]? =some (.own a)/\bz i j=(L m).val):=by
  intro i x j a tS ha;obtain⟨y,hy⟩:=pair tS;obtain⟨b,hb⟩:=amZ tS hy ha;obtain⟨z,hz,ho,hr⟩:=(h6 i y hy).2 j b hb;have hv:bz i j=z:=by simp[bz,hz]
  rw[hv];refine⟨hz,ho,?_⟩;rcases hs.half i y x j b a hy tS hb ha with⟨rfl,v,rfl⟩|⟨m,rfl,hm⟩
  ·refine .inl ⟨by simp only[nm,hy,hb],v,rfl,?_⟩;cases hr;rfl
  ·exact .inr ⟨m,by simp only[nm,hy,hb],hm,yP hi hm hr⟩
 have sep:∀{i j m:Nat} {x a:AV},xs[i]? =some x->x.cells[j]? =some a->nm i j=some m->O[m]? =some (.own a):=by
  intro i j m x a tS ha hm;rcases(half tS ha).2.2 with⟨h,_⟩|⟨m',h,h',_⟩
  ·rw[hm]at h;cases h
  ·rw[hm]at h;cases h;exact h'
 have deep:∀{i j m:Nat},nm i j=some m->∃x a:AV,xs[i]? =some x/\x.cells[j]? =some a/\O[m]? =some (.own a):=by
  intro i j m hm;obtain⟨y,hy,hc⟩:=nm1 hm;obtain⟨x,hx⟩:=am0 hy;obtain⟨a,ha⟩:=ahq hx hy hc;exact⟨x,a,hx,ha,sep hx ha hm⟩
 refine⟨λ b=>b=(L k).bf∨∃i j,S i j b,.sl xs (L k).bf (L k).cap s e c bz S lD h1 dE h2 (by rw[←hs.len];exact h3) h4 h5 hx (λ i x tS=> ?_) (λ i x j a tS ha=>⟨(half tS ha).1,(half tS ha).2.1⟩) (λ i x j a tS ha=> ?_)
  (λ i j b hb=> ?_) (λ i j hb=> ?_) (λ i j i' j' b hb lP=> ?_),?_⟩
 ·obtain⟨y,hy⟩:=pair tS;rw[←hs.cells i y x hy tS];exact(h6 i y hy).1
 ·rcases(half tS ha).2.2 with⟨hn,v,rfl,hv⟩|⟨m,hm,hO,hv⟩
  ·have:S i j=λ _=>False:=by
     funext b;simp only[S,hn];simp
   rw[this,←hv];exact .v v (by have:=(half tS ha).2.1;rw[←hv]at this;exact this)
  ·obtain⟨T,t1,t2⟩:=hi.ow.deep m a hO
   have:S i j=T:=by
    funext b
    simp only[S,hm,Option.some.injEq,exists_eq_left'];exact propext (t2 b).symm
   rw[this,hv];exact t1
 ·obtain⟨m,hm,_⟩:=hb;obtain⟨x,a,h1,h2,_⟩:=deep hm;exact⟨x,a,h1,h2⟩
 ·obtain⟨m,hm,o,v,hv⟩:=hb;obtain⟨x,a,_,_,hO⟩:=deep hm;exact hi.ow.live m a hO _ o v hv k _ _ _ hk rfl
 ·obtain⟨m,hm,o,v,hv⟩:=hb;obtain⟨m',xB,o',v',km⟩:=lP;obtain⟨x,a,_,_,hO⟩:=deep hm;obtain⟨x',a',_,_,pN⟩:=deep xB;have:=hi.ow.sep m m' a a' hO pN b o o' v v' hv km;subst this;obtain⟨y,hy,hc⟩:=nm1 hm;obtain⟨y',lN,gf⟩:=nm1 xB;exact hs.inj i y j i' y' j' m hy hc lN gf
 ·rintro b (rfl|⟨i,j,m,hm,o,v,hv⟩)
  ·exact .inl ⟨k,e,s,ys,hk,rfl⟩
  ·obtain⟨x,a,_,_,hO⟩:=deep hm;exact .inr (.inl ⟨m,a,o,v,hO,hv⟩)
end
end Go.Ab
namespace Go.Ab
inductive Frz(O:List ad):AV->AV->Prop
 |same (a:AV):a.ag=true->Frz O a a
 |own (n:Nat) (b:AV):O[n]? =some (.own b)->Frz O (.own n) b
 |row (n len e s:Nat) (xs:List AV):O[n]? =some (.live e s xs)->xs.length=len->AV.ae xs=true->Frz O (.row n len) (.sl xs)
 |nil (n e s:Nat):O[n]? =some (.nil e s)->Frz O (.row n 0) (.sl [])
 |deep (n len e s:Nat) (ys xs:List AV):O[n]? =some (.live e s ys)->ys.length=len->Split O ys xs->Frz O (.row n len) (.sl xs)
 |agg (as bs:List AV):as.length=bs.length->(∀(i:Nat) a b,as[i]? =some a->bs[i]? =some b->Frz O a b)->Frz O (.agg as) (.agg bs)
section
variable {P:Program} {I J:du} {L:Nat->Loc} {O:List ad} {w:World}
theorem R.anU(h:∀b o x,I b o=some x->J b o=some x){a:AV}{x:Value}(hr:R I L O a x):R J L O a x:=
 R.mono ⟨h,le_refl _,λ _ _ _ _ xs h=> .inl ⟨xs,h,le_refl _,λ _=>rfl⟩,λ _ _ _ _ h=>h,λ _ _ a h=>⟨⟨a,h⟩,rfl⟩,λ _ _ a h=>⟨⟨a,h,rfl⟩,rfl⟩⟩ hr
open Classical in
noncomputable def za (I:du) (L:Nat->Loc) (O:List ad) (w:World):du:=λ b o=>if LB L O b then w.cell? ⟨b,o,none⟩else I b o
theorem anz(hi:Inv I L O w):∀b o x,I b o=some x->za I L O w b o=some x:=by
 intro b o x hx;unfold za
 split
 ·exact hi.kJ b o x hx
 ·exact hx
theorem y9{b o:Nat}{v:Value}(hb:LB L O b)(hv:w.cell? ⟨b,o,none⟩=some v):za I L O w b o=some v:=by
 unfold za;rw[if_pos hb];exact hv
theorem Frz.sound(hi:Inv I L O w){a b:AV}(hf:Frz O a b):∀{x:Value},R I L O a x->R (za I L O w) L [] b x:=by
 have hle:=anz hi
 induction hf with
 |same a hn=>intro x hr;exact hr.ag hle hn
 |own n b hO=>
  intro x hr;rw[yP hi hO hr];exact(hi.ow.tree n b hO L []).anU λ p o v hv=>y9 (.inr (.inl ⟨n,b,o,v,hO,hv⟩)) (hi.ow.cell n b hO p o v hv)
 |row n len e s xs hO hl hn=>
  intro x hr;have:=hr.eu hO hl;subst this;obtain⟨c,⟨lD,h1,dE⟩,h2,h3,h4,h5,h6⟩:=hi.obj n e s xs hO;by_cases hx:xs= []
  ·subst hx;simp at hl;subst hl;exact .mq _ _
  ·subst hl;refine(.sl xs (L n).bf 0 (L n).cap s (λ i j=>(c[i*s+j]?).getD undef) h3 hx (λ i x hx=>(h6 i x hx).1) (λ i x j d hx hj=> ?_) λ i x j d hx hj=> ?_)
   ·obtain⟨y,hy,ho,_⟩:=(h6 i x hx).2 j d hj;refine⟨?_,by rw[hy];exact ho⟩;rw[hy,zero_add];exact y9 (.inl ⟨n,e,s,xs,hO,rfl⟩) (by rw[eN h1,hy];rfl)
   ·obtain⟨y,hy,ho,ou⟩:=(h6 i x hx).2 j d hj;rw[hy];exact ou.ag hle (fj (ba hn x (mem_of_getElem? hx)) d (mem_of_getElem? hj))
 |nil n e s hO=>
  intro x hr;obtain⟨rfl,_⟩:=hr.kR hO;exact .mq _ _
 |deep n len e s ys xs hO hl hs=>
  intro x hr;have:=hr.eu hO hl;subst this;obtain⟨S,h1,h2⟩:=hi.av4 hO hs;rw[←hl,hs.len];exact h1.read _ _ _ λ b o v hb hv=>y9 (h2 b hb) hv
 |agg as bs hl h ih=>
  intro x hr;cases hr with
  |agg _ vs hv hr=>
   refine .agg bs vs (by omega) λ i c y hc hy=> ?_
   have aF:=(List.getElem?_eq_some_iff.1 hc).1;obtain⟨a,ha⟩:∃a,as[i]? =some a:=⟨as[i]'(by omega),by simp<;>omega⟩;exact ih i a c ha hc (hr i a y ha hy)
end
end Go.Ab
namespace Go.Ab
theorem Good.aml{I0 I I':du}{L0 L:Nat->Loc}{O0 O O':List ad}{w0 w:World}(h:Good I0 L0 O0 w0 I L O w)(hlen:O.length<=O'.length)
  (hI:∀b o x,I b o=some x->I' b o=some x) (hI2:∀b o x,I' b o=some x->I b o=some x∨(w.cell? ⟨b,o,none⟩=some x/\LV L O b))
  (hO:∀(m:Nat) e s iv,O'[m]? =some (.live e s iv)->∃xs,O[m]? =some (.live e s xs)/\xs.length=iv.length/\acw I' L O' w (L m) e s iv/\∀o,I' (L m).bf o=none)
  (xf:∀(m:Nat) e s,m<O.length->O'[m]? =some (.nil e s)->O[m]? =some (.nil e s))
  (pM:∀(m:Nat) a,O'[m]? =some (.own a)->O[m]? =some (.own a))
  (ak6:∀(m:Nat) g,O'[m]? =some (.cZ g)->O[m]? =some (.cZ g)/\∀a x,R I L O a x->R I' L O' a x):Good I0 L0 O0 w0 I' L O' w:=by
 refine⟨⟨λ b o x hx=> ?_,λ m e s xs hm=> ?_,λ n m e s xs e' s' ys hn hm hb=> ?_,λ m e s xs o hm=> ?_,λ p hp=>hI _ _ _ (h.inv.fix p hp),h.inv.xI hI,h.inv.ow.same (λ m a hm=>⟨pM m a hm,rfl⟩) (λ b o v hv=>by
  rcases hI2 b o v hv with h1|⟨_,h1⟩
  ·exact .inl ⟨o,v,h1⟩
  ·exact .inr (.inl h1)) (λ m e s xs hm=>by
  obtain⟨ys,h1,_⟩:=hO m e s xs hm;exact .inl ⟨m,_,_,_,h1,rfl⟩) rfl,⟨λ n g hn=>(h.inv.gh.ok n g (ak6 n g hn).1).mono rfl (ak6 n g hn).2 rfl,λ n m g k hn hm hb=>h.inv.gh.sep n m g k (ak6 n g hn).1 (ak6 m k hm).1 hb⟩⟩,?_,h.pO,?_,λ b o x hx=> ?_⟩
 ·rcases hI2 b o x hx with h1|⟨h1,_⟩
  ·exact h.inv.kJ b o x h1
  ·exact h1
 ·obtain⟨_,_,_,h3,_⟩:=hO m e s xs hm;exact h3
 ·obtain⟨_,h1,_⟩:=hO n e s xs hn;obtain⟨_,h2,_⟩:=hO m e' s' ys hm;exact h.inv.sep n m _ _ _ _ _ _ h1 h2 hb
 ·obtain⟨_,_,_,_,h4⟩:=hO m e s xs hm;exact h4 o
 ·refine⟨λ b o x hx=>hI _ _ _ (h.ext.kJ _ _ _ hx),Nat.le_trans h.ext.len hlen,λ n hn e s xs hx=> ?_,λ n hn e s hx=>h.ext.nil n hn e s (xf n e s (Nat.lt_of_lt_of_le hn h.ext.len) hx),λ n hn a hx=>h.ext.own n hn a (pM n a hx),λ n hn a hx=>h.ext.cZ n hn a (ak6 n a hx).1⟩;obtain⟨ys,h1,h2,_⟩:=hO n e s xs hx;rcases h.ext.obj n hn e s ys h1 with⟨zs,z1,z2,z3⟩|⟨z1,z2⟩
  ·exact .inl ⟨zs,z1,by omega,λ he=>z3 (by omega)⟩
  ·exact .inr ⟨z1,λ h0=>z2 (List.eq_nil_of_length_eq_zero (by simp[h2,h0]))⟩
 ·rintro b (⟨n,e,s,xs,hn,hb⟩|⟨n,a,o,v,hn,hb⟩|⟨n,a,hn,hb⟩)
  ·obtain⟨ys,h1,_⟩:=hO n e s xs hn;exact h.lb b (.inl ⟨n,e,s,ys,h1,hb⟩)
  ·exact h.lb b (.inr (.inl ⟨n,a,o,v,pM n a hn,hb⟩))
  ·exact h.lb b (.inr (.inr ⟨n,a,(ak6 n a hn).1,hb⟩))
 ·rcases hI2 b o x hx with h1|⟨_,h1⟩
  ·exact h.iP b o x h1
  ·rcases h.lb b (.inl h1)with h2|h2
   ·exact .inr (.inl h2)
   ·exact .inr (.inr h2)
theorem WK.yW{n0:Nat}{e e':Env}{O:List ad}(t s:Nat){O':List ad}(pN:O'.length=O.length+1)(dM:O'[O.length]? =some (.nil t s))
  (mY:∀m,m<O.length->O'[m]? =O[m]? ∨∃ee k ys vG,O[m]? =some (.live ee k ys)/\O'[m]? =some (.live ee k vG)/\vG.length=ys.length/\∀(i:Nat) y y',ys[i]? =some y->vG[i]? =some y'->y'.cells.length=y.cells.length/\
   ∀(j:Nat) c c',y.cells[j]? =some c->y'.cells[j]? =some c'->c'=c∨(c= .aw/\c'= .row O.length 0))
  (he:∀t,e' t=e t∨(e t= .aw/\e' t= .row O.length 0)):WK n0 e O e' O':=by
 intro I0 L0 O0 w0 I L w f h0 hg hr
 have dt:Ext I L O I L O':=by
  refine⟨λ _ _ _ h=>h,by omega,λ n hn ee k xs hx=> ?_,λ n hn ee k hx=> ?_,λ n hn a hx=> ?_,λ n hn a hx=> ?_⟩;rotate_left 2
  ·rcases mY n hn with h|⟨e1,k1,ys,vG,h1,h2,h3,_⟩
   ·rw[h]at hx;exact⟨⟨a,hx⟩,rfl⟩
   ·rw[h2]at hx;cases hx
  ·rcases mY n hn with h|⟨e1,k1,ys,vG,h1,h2,h3,_⟩
   ·rw[h]at hx;exact⟨⟨a,hx,rfl⟩,rfl⟩
   ·rw[h2]at hx;cases hx
  ·rcases mY n hn with h|⟨e1,k1,ys,vG,h1,h2,h3,_⟩
   ·exact .inl ⟨xs,by rw[←h];exact hx,le_refl _,λ _=>rfl⟩
   ·rw[h2]at hx;cases hx;exact .inl ⟨ys,h1,by omega,λ _=>rfl⟩
  ·rcases mY n hn with h|⟨e1,k1,ys,vG,h1,h2,h3,_⟩
   ·rwa [h]at hx
   ·rw[h2]at hx;cases hx
 have as3:∀{x:Value},R I L O .aw x->R I L O' (.row O.length 0) x:=by
  intro x hx;cases hx;exact .gu _ t s dM
 refine⟨I,L,hg.aml (by omega) (λ _ _ _ h=>h) (λ _ _ _ h=> .inl h) (λ m ee k xs hm=> ?_) (λ m ee k hm hx=>dt.nil m hm ee k hx) (λ m a hm=> ?_) (λ m a hm=> ?_),λ t=> ?_⟩;rotate_left;rotate_left
 ·refine⟨?_,λ _ _ h=>h.mono dt⟩;by_cases mc:m<O.length
  ·rcases mY m mc with h|⟨e1,k1,ys,vG,h1,h2,_⟩
   ·rwa [h]at hm
   ·rw[h2]at hm;cases hm
  ·have hl:=(List.getElem?_eq_some_iff.1 hm).1;rw[show m=O.length by omega,dM]at hm;cases hm
 rotate_right
 ·by_cases mc:m<O.length
  ·rcases mY m mc with h|⟨e1,k1,ys,vG,h1,h2,_⟩
   ·rwa [h]at hm
   ·rw[h2]at hm;cases hm
  ·have hl:=(List.getElem?_eq_some_iff.1 hm).1;rw[show m=O.length by omega,dM]at hm;cases hm
 rotate_left
 ·have aF:m<O.length:=by
    have:=(List.getElem?_eq_some_iff.1 hm).1;rcases Nat.lt_or_ge m O.length with h|h
    ·exact h
    ·have:m=O.length:=by omega
     subst this;rw[dM]at hm;cases hm
  rcases mY m aF with h|⟨e1,k1,ys,vG,h1,h2,h3,h4⟩
  ·rw[h]at hm;exact⟨xs,hm,rfl,(hg.inv.obj m _ _ _ hm).congr rfl λ _ _ h=>h.mono dt,λ o=>hg.inv.dS m _ _ _ o hm⟩
  ·rw[h2]at hm;cases hm;refine⟨ys,h1,h3.symm,?_,λ o=>hg.inv.dS m _ _ _ o h1⟩;obtain⟨c,⟨lD,q1,dE⟩,q2,q3,q4,q5,q6⟩:=hg.inv.obj m _ _ _ h1;refine⟨c,⟨lD,q1,dE⟩,q2,by omega,q4,q5,λ i y' lN=> ?_⟩;have hy:ys[i]? =some (ys[i]'(by have:=(List.getElem?_eq_some_iff.1 lN).1;omega)):=by simp
   obtain⟨p1,p2⟩:=h4 i _ _ hy lN;obtain⟨r1,r2⟩:=q6 i _ hy;refine⟨by rw[p1,r1],λ j a ha=> ?_⟩;have hc:=List.getElem?_eq_getElem (l:=(ys[i]'(by have:=(List.getElem?_eq_some_iff.1 lN).1;omega)).cells) (i:=j) (by have:=(List.getElem?_eq_some_iff.1 ha).1;omega);obtain⟨v,hv,ho,hrv⟩:=r2 j _ hc;refine⟨v,hv,ho,?_⟩;rcases p2 j _ _ hc ha with h|⟨h,h'⟩
   ·rw[h];exact hrv.mono dt
   ·rw[h'];rw[h]at hrv;exact as3 hrv
 ·rcases he t with h|⟨h,h'⟩
  ·rw[h];exact(hr t).mono dt
  ·rw[h'];have:=hr t;rw[h]at this;exact as3 this
inductive Fr(n:Nat)(xs:List AV):AV->AV->Prop
 |refl (a:AV):Fr n xs a a
 |row:Fr n xs (.row n xs.length) (.sl xs)
 |agg (cs ds:List AV):cs.length=ds.length->(∀(i:Nat) c d,cs[i]? =some c->ds[i]? =some d->Fr n xs c d)->Fr n xs (.agg cs) (.agg ds)
 |ptr (a:AV) (f:Nat):xs= [a]->Fr n xs (.ptr n 1 0 f) (.cj a f)
theorem Fr.width{n:Nat}{xs:List AV}{a b:AV}(h:Fr n xs a b):b.cells.length=a.cells.length:=by
 cases h with
 |refl=>rfl
 |row=>rfl
 |agg cs ds h _=>simp[AV.cells,h]
 |ptr=>rfl
open Classical in
noncomputable def frI (I:du) (L:Nat->Loc) (O:List ad) (w:World) (n:Nat):du:=λ b o=>
 if(∃e s xs,O[n]? =some (.live e s xs))/\(L n).bf=b then w.cell? ⟨b,o,none⟩else I b o
theorem Fr.sound{I:du}{L:Nat->Loc}{O O':List ad}{w:World}(hi:Inv I L O w){n t s:Nat}{xs:List AV}(hO:O[n]? =some (.live t s xs)∨(O[n]? =some (.nil t s)/\xs= []))(hn:AV.ae xs=true)
  (dt:Ext I L O (frI I L O w n) L O') {a b:AV} (h:Fr n xs a b):∀{x:Value},R I L O a x->R (frI I L O w n) L O' b x:=by
 induction h with
 |refl a=>intro x hr;exact hr.mono dt
 |row=>
  intro x hr;rcases hO with hO|⟨hO,rfl⟩
  ·have:=hr.eu hO rfl;subst this;obtain⟨c,⟨lD,h1,dE⟩,h2,h3,h4,h5,h6⟩:=hi.obj n t s xs hO;by_cases hx:xs= []
   ·subst hx;exact .mq _ _
   ·refine(.sl xs (L n).bf 0 (L n).cap s (λ i j=>(c[i*s+j]?).getD undef) h3 hx (λ i x hx=>(h6 i x hx).1) (λ i x j d hx hj=> ?_) λ i x j d hx hj=> ?_)
    ·obtain⟨y,hy,ho,_⟩:=(h6 i x hx).2 j d hj;unfold frI;rw[if_pos ⟨⟨t,s,xs,hO⟩,rfl⟩,zero_add,eN h1,hy];exact⟨rfl,ho⟩
    ·obtain⟨y,hy,ho,ou⟩:=(h6 i x hx).2 j d hj;rw[hy];exact ou.ag dt.kJ (fj (ba hn x (mem_of_getElem? hx)) d (mem_of_getElem? hj))
  ·obtain⟨rfl,_⟩:=hr.kR hO;exact .mq _ _
 |agg cs ds h _ ih=>
  intro x hr;cases hr with
  |agg _ vs hl hr=>
   refine .agg _ _ (by omega) λ i d v hd hv=> ?_
   have hc:cs[i]? =some (cs[i]'(by have:=(List.getElem?_eq_some_iff.1 hd).1;omega)):=by simp
   exact ih i _ _ hc hd (hr i _ v hc hv)
 |ptr a f ha=>
  subst ha;intro x hr;rcases hO with hO|⟨_,h⟩
  ·have:=hr.ib hO rfl;subst this;obtain⟨c,⟨lD,h1,dE⟩,h2,h3,h4,h5,h6⟩:=hi.obj n t s _ hO;obtain⟨q1,q2⟩:=h6 0 a rfl;simp only[zero_mul];refine .cj a f (L n).bf 0 (λ j=>(c[j]?).getD undef) (λ j d hj=> ?_) λ j d hj=> ?_
   ·obtain⟨y,hy,ho,_⟩:=q2 j d hj;rw[zero_mul,zero_add]at hy;unfold frI;rw[if_pos ⟨⟨t,s,_,hO⟩,rfl⟩,zero_add,eN h1,hy];exact⟨rfl,ho⟩
   ·obtain⟨y,hy,ho,ou⟩:=q2 j d hj;rw[zero_mul,zero_add]at hy;rw[hy];exact ou.ag dt.kJ (fj (ba hn a (by simp)) d (mem_of_getElem? hj))
  ·cases h
theorem avP{I:du}{L:Nat->Loc}{O:List ad}{w:World}(hi:Inv I L O w)(n:Nat):∀b o x,I b o=some x->frI I L O w n b o=some x:=by
 intro b o x hx;unfold frI
 split
 ·exact hi.kJ b o x hx
 ·exact hx
theorem WK.iW{n0:Nat}{e e':Env}{O O':List ad}{n t s:Nat}{xs:List AV}(hO:O[n]? =some (.live t s xs)∨(O[n]? =some (.nil t s)/\xs= []))(hn:AV.ae xs=true)(hlen:O'.length=O.length)(hd:O'[n]? =some .dead)
  (mY:∀m,m≠n->O'[m]? =O[m]? ∨∃ee k ys vG,O[m]? =some (.live ee k ys)/\O'[m]? =some (.live ee k vG)/\vG.length=ys.length/\∀(i:Nat) y y',ys[i]? =some y->vG[i]? =some y'->y'.cells.length=y.cells.length/\
   ∀(j:Nat) c c',y.cells[j]? =some c->y'.cells[j]? =some c'->Fr n xs c c')
  (he:∀t,Fr n xs (e t) (e' t)):WK n0 e O e' O':=by
 intro I0 L0 O0 w0 I L w f h0 hg hr;have hle:=avP hg.inv n
 have afJ:∀{m ee k vG},O'[m]? =some (.live ee k vG)->m≠n/\∃ys,O[m]? =some (.live ee k ys)/\ys.length=vG.length:=by
  intro m ee k vG hm;have o6:m≠n:=by rintro rfl;rw[hd]at hm;cases hm
  refine⟨o6,?_⟩;rcases mY m o6 with h|⟨e1,k1,ys,zs,h1,h2,h3,_⟩
  ·exact⟨vG,by rw[←h];exact hm,rfl⟩
  ·rw[h2]at hm;cases hm;exact⟨ys,h1,h3.symm⟩
 have xf:∀(m ee k:Nat),O'[m]? =some (ad.nil ee k)->O[m]? =some (ad.nil ee k):=by
  intro m ee k hm;have o6:m≠n:=by rintro rfl;rw[hd]at hm;cases hm
  rcases mY m o6 with h|⟨e1,k1,ys,zs,h1,h2,h3,_⟩
  ·rwa [h]at hm
  ·rw[h2]at hm;cases hm
 have ayF:∀(m:Nat) (a:AV),O'[m]? =some (ad.own a)->O[m]? =some (ad.own a):=by
  intro m a hm;have o6:m≠n:=by rintro rfl;rw[hd]at hm;cases hm
  rcases mY m o6 with h|⟨e1,k1,ys,zs,h1,h2,_⟩
  ·rwa [h]at hm
  ·rw[h2]at hm;cases hm
 have as6:∀(m:Nat) (a:gJ),O'[m]? =some (ad.cZ a)->O[m]? =some (ad.cZ a):=by
  intro m a hm;have o6:m≠n:=by rintro rfl;rw[hd]at hm;cases hm
  rcases mY m o6 with h|⟨e1,k1,ys,zs,h1,h2,_⟩
  ·rwa [h]at hm
  ·rw[h2]at hm;cases hm
 have dt:Ext I L O (frI I L O w n) L O':=by
  refine⟨hle,by omega,λ m hm ee k zs hz=> ?_,λ m _ ee k h=>xf m ee k h,λ m _ a h=>⟨⟨a,ayF m a h⟩,rfl⟩,λ m _ a h=>⟨⟨a,as6 m a h,rfl⟩,rfl⟩⟩;obtain⟨_,ys,h1,h2⟩:=afJ hz;exact .inl ⟨ys,h1,by omega,λ _=>rfl⟩
 have hs:∀{a b:AV} {x:Value},Fr n xs a b->R I L O a x->R (frI I L O w n) L O' b x:=λ h hr=>h.sound hg.inv hO hn dt hr
 refine⟨frI I L O w n,L,hg.aml (by omega) hle (λ b o x hx=> ?_) (λ m ee k zs hm=> ?_) (λ m ee k _ hm=>xf m ee k hm) (λ m a hm=>by
  have o6:m≠n:=by rintro rfl;rw[hd]at hm;cases hm
  rcases mY m o6 with h|⟨e1,k1,ys,zs,h1,h2,_⟩
  ·rwa [h]at hm
  ·rw[h2]at hm;cases hm) (λ m a hm=>⟨as6 m a hm,λ _ _ h=>h.mono dt⟩),λ t=>hs (he t) (hr t)⟩
 ·unfold frI at hx
  split at hx
  ·rename_i h;obtain⟨⟨e1,s1,x1,h1⟩,h2⟩:=h;exact .inr ⟨hx,⟨n,e1,s1,x1,h1,h2⟩⟩
  ·exact .inl hx
 ·obtain⟨o6,ys,h1,h2⟩:=afJ hm;refine⟨ys,h1,h2,?_,λ o=> ?_⟩
  ·obtain⟨c,⟨lD,q1,dE⟩,q2,q3,q4,q5,q6⟩:=hg.inv.obj m _ _ _ h1;refine⟨c,⟨lD,q1,dE⟩,q2,by omega,q4,q5,λ i y' lN=> ?_⟩;have hy:ys[i]? =some (ys[i]'(by have:=(List.getElem?_eq_some_iff.1 lN).1;omega)):=by simp
   obtain⟨r1,r2⟩:=q6 i _ hy;rcases mY m o6 with h|⟨e1,k1,us,us',g1,g2,g3,g4⟩
   ·rw[h,h1]at hm;cases hm;have hyy:=lN;rw[hy]at hyy;have hyy:=Option.some.inj hyy;rw[←hyy];refine⟨r1,λ j a ha=> ?_⟩;obtain⟨v,hv,ho,hrv⟩:=r2 j _ ha;exact⟨v,hv,ho,hrv.mono dt⟩
   ·rw[g2]at hm;cases hm;rw[h1]at g1;cases g1;obtain⟨p1,p2⟩:=g4 i _ _ hy lN;refine⟨by rw[p1,r1],λ j a ha=> ?_⟩;have hc:=List.getElem?_eq_getElem (l:=(ys[i]'(by have:=(List.getElem?_eq_some_iff.1 lN).1;omega)).cells) (i:=j) (by have:=(List.getElem?_eq_some_iff.1 ha).1;omega);obtain⟨v,hv,ho,hrv⟩:=r2 j _ hc;exact⟨v,hv,ho,hs (p2 j _ _ hc ha) hrv⟩
  ·cases hx:frI I L O w n (L m).bf o with
   |none=>rfl
   |some x=>
    unfold frI at hx
    split at hx
    ·rename_i h;obtain⟨⟨e1,s1,x1,g1⟩,g2⟩:=h;exact(o6 (hg.inv.sep n m _ _ _ _ _ _ g1 h1 g2).symm).elim
    ·rw[hg.inv.dS m _ _ _ o h1]at hx;cases hx
theorem WK.env{n0:Nat}{e e':Env}{O:List ad}(h:∀t,e' t= .top∨e' t=e t):WK n0 e O e' O:=by
 intro I0 L0 O0 w0 I L w f h0 hg hr;refine⟨I,L,hg,λ t=> ?_⟩;rcases h t with h|h
 ·rw[h];exact .top _
 ·rw[h];exact hr t
end Go.Ab
namespace Go.Ab
def aU:AV->List AV
 | .sl xs=>xs
 |_=>[]
def idxOf:AV->Nat
 | .v (.int _ k)=>k.toNat
 |_=>0
def amm(a:AV)(j:Nat):AV:=
 match a with
 | .a9 vs=>vs.getD j .top
 |_=> .top
mutual
def D.ev(r:List AV):D->AV
 | .x i=>r.getD i .top
 | .c a=>a
 | .cell i j=>(r.getD i .top).cells.getD j .top
 | .ext i j=>amm (r.getD i .top) j
 | .sl l=> .sl (aU (l.ev r))
 | .agg l=> .agg (D.a8 r l)
 | .fn f l=> .fn f (D.a8 r l)
 | .ip d f=> .cj (d.ev r) f
def D.a8(r:List AV):List D->List AV
 | []=>[]
 |d::l=>d.ev r::D.a8 r l
end
mutual
def D.cl(n:Nat):D->Bool
 | .x i=>decide (i<n)
 | .c a=>a.ag
 | .cell i _=>decide (i<n)
 | .ext i _=>decide (i<n)
 | .sl l=>l.cl n
 | .agg l=>D.cls n l
 | .fn _ l=>D.cls n l
 | .ip d _=>d.cl n
def D.cls(n:Nat):List D->Bool
 | []=>true
 |d::l=>d.cl n&&D.cls n l
end
def AV.ceq:AV->AV->Bool
 | .v (.int k a),.v (.int k' b)=>decide (k=k')&&decide (a=b)
 | .v (.bool a),.v (.bool b)=>decide (a=b)
 | .v (.string a),.v (.string b)=>decide (a=b)
 | .aw,.aw=>true
 | .sl [],.sl []=>true
 | .a9 [],.a9 []=>true
 | .fn f [],.fn g []=>decide (f=g)
 |_,_=>false
mutual
def D.beq:D->D->Bool
 | .x i,.x j=>decide (i=j)
 | .c a,.c b=>a.ceq b
 | .cell i j,.cell k l=>decide (i=k)&&decide (j=l)
 | .ext i j,.ext k l=>decide (i=k)&&decide (j=l)
 | .sl a,.sl b=>a.beq b
 | .agg a,.agg b=>D.lH a b
 | .fn f a,.fn g b=>decide (f=g)&&D.lH a b
 | .ip a f,.ip b g=>a.beq b&&decide (f=g)
 |_,_=>false
def D.lH:List D->List D->Bool
 | [],[]=>true
 |a::as,b::bs=>a.beq b&&D.lH as bs
 |_,_=>false
end
def mr:List AV->AV
 | [c]=>c
 |cs=> .agg cs
mutual
def SV.ev(r:List AV):SV->AV
 | .d x=>x.ev r
 | .row n l=> .row n (aU (l.ev r)).length
 | .ptr n f=> .ptr n 1 0 f
 | .rp n l i f=> .ptr n (aU (l.ev r)).length (idxOf (i.ev r)) f
 | .ip x f=> .cj (x.ev r) f
 | .agg cs=> .agg (SV.a8 r cs)
 | .a9 cs=> .a9 (SV.a8 r cs)
 | .top=> .top
def SV.a8(r:List AV):List SV->List AV
 | []=>[]
 |v::l=>v.ev r::SV.a8 r l
end
def SO.ev(r:List AV):SO->ad
 | .dead=> .dead
 | .box e cs=> .live e cs.length [mr (SV.a8 r cs)]
 | .row true e s l=>if aU (l.ev r)= []then .nil e s else .live e s (aU (l.ev r))
 | .row false e s l=> .live e s (aU (l.ev r))
mutual
def SV.cl(n:Nat):SV->Bool
 | .d x=>x.cl n
 | .row _ l=>l.cl n
 | .ptr _ _=>true
 | .rp _ l i _=>l.cl n&&i.cl n
 | .ip x _=>x.cl n
 | .agg cs=>SV.cls n cs
 | .a9 cs=>SV.cls n cs
 | .top=>true
def SV.cls(n:Nat):List SV->Bool
 | []=>true
 |v::l=>v.cl n&&SV.cls n l
end
def SO.cl(n:Nat):SO->Bool
 | .dead=>true
 | .box _ cs=>SV.cls n cs
 | .row _ _ _ l=>l.cl n
mutual
def SV.beq:SV->SV->Bool
 | .d x,.d y=>x.beq y
 | .row n l,.row m k=>decide (n=m)&&l.beq k
 | .ptr n f,.ptr m g=>decide (n=m)&&decide (f=g)
 | .rp n l i f,.rp m k j g=>decide (n=m)&&l.beq k&&i.beq j&&decide (f=g)
 | .ip x f,.ip y g=>x.beq y&&decide (f=g)
 | .agg a,.agg b=>SV.lH a b
 | .a9 a,.a9 b=>SV.lH a b
 | .top,.top=>true
 |_,_=>false
def SV.lH:List SV->List SV->Bool
 | [],[]=>true
 |a::as,b::bs=>a.beq b&&SV.lH as bs
 |_,_=>false
end
def SO.beq:SO->SO->Bool
 | .dead,.dead=>true
 | .box e cs,.box e' cs'=>decide (e=e')&&SV.lH cs cs'
 | .row n e s l,.row n' e' s' l'=>decide (n=n')&&decide (e=e')&&decide (s=s')&&l.beq l'
 |_,_=>false
mutual
def SV.sc(k:Nat):SV->Bool
 | .d _=>true
 | .row n _=>decide (n<k)
 | .ptr n _=>decide (n<k)
 | .rp n _ _ _=>decide (n<k)
 | .ip _ _=>true
 | .agg cs=>SV.scs k cs
 | .a9 cs=>SV.scs k cs
 | .top=>true
def SV.scs(k:Nat):List SV->Bool
 | []=>true
 |v::l=>v.sc k&&SV.scs k l
end
def SO.sc(k:Nat):SO->Bool
 | .dead=>true
 | .box _ cs=>SV.scs k cs
 | .row _ _ _ _=>true
def lk:List (Nat×SV)->Nat->SV
 | [],_=> .top
 |(k,v)::l,t=>if t=k then v else lk l t
structure SS where
 env:List (Nat×SV)
 ai:List SO
 nv:Nat
 kn:List (Nat×Nat)
instance:Inhabited SS:=⟨⟨[],[],0,[]⟩⟩
def SS.cl(s:SS):Bool:=s.env.all (λ p=>p.2.cl s.nv)&&s.ai.all (λ o=>o.cl s.nv)
def bX(s:SS)(r:List AV):Env:=λ t=>(lk s.env t).ev r
def bE(s:SS)(r:List AV):List ad:=s.ai.map (SO.ev r)
def SS.set(s:SS)(t:Nat)(v:SV):SS:={s with env:=(t,v)::s.env.filter (λ p=>p.1 !=t)}
def SS.bO(s:SS)(d:Option Nat)(v:SV):SS:=
 match d with
 |some t=>s.set t v
 |none=>s
def un:SV:= .d (.c (.a9 []))
inductive PO where
 |val (x:D)
 |pick (c a b:D)
 |bin (op:BinOp) (a b:D)
 |beq (neg:Bool) (a b:D)
 |un (op:UnOp) (a:D)
 |conv (k:IntKind) (a:D)
 |elem (s:Nat) (l i:D)
 |zZ (off:Nat) (n:Option Nat) (a:D)
 |vU (f m:Nat) (a:D)
 |lF (a i:D)
 |fI (a:D) (lo hi:Option D)
 |cX (s:Nat) (a:D) (lo hi:Option D)
 |lg (a:D)
 |bm (a:D)
 |mL (z:AV) (n:Nat) (parts:List (Nat×D))
 |rep (bytes:Nat) (z:AV) (n c:D)
 |app (s bytes:Nat) (l y:D)
 |get (l i:D) (f:Nat) (n:Option Nat)
 |set (l i:D) (f m:Nat) (y:D)
 |call (f:FuncId) (args:List D) (flat:Bool)
 |ew (g:D) (args:List D) (flat:Bool)
 |ldp (n:Option Nat) (a:D)
 |fap (off:Nat) (a:D)
 |pu (o:PU) (ds:List D)
 |kN (s bytes:Nat) (l y:D)
 |eW (nl:Bool) (e s:Nat) (f:FuncId) (args:List D)
 |bk (f:FuncId) (g:hD) (args:List D)
inductive nU where
 |cells (a:D) (m:Nat)
 |one (a:D)
 |lt (a:D) (j:Nat)
 |a9 (a:D) (j:Nat)
 |idx (l i:D)
 |anS (a:D)
 |ne (l:D)
 |no
 |eql (a b:D)
inductive Node where
 |op (o:PO)
 |aL (c:nU)
inductive T where
 |leaf (x:AX) (s:SS)
 |ret (ds:List D)
 |jump (vs:List D)
 |dq (t:T)
 |op (o:PO) (t:T)
 |aL (c:nU) (t:T)
 |ite (c:D) (t f:T)
 |bind (k:Nat) (a b:T)
 |loop (init:List D) (b:T)
instance:Inhabited T:=⟨.jump []⟩
def D.evo(r:List AV):Option D->Option AV
 |none=>none
 |some d=>some (d.ev r)
def acp(P:Program)(f:FuncId)(args:List AV)(flat:Bool)(K:AV->Prop):Prop:=
 ∃res,a7 P f args res/\res.ag=true/\(flat=true->res.flat=true)/\K res
def qH(P:Program)(g:AV)(args:List AV)(flat:Bool)(K:AV->Prop):Prop:=
 match g with
 | .fn f aX=>acp P f (args++aX) flat K
 |_=>False
def cq(nl:Bool)(e s:Nat)(xs:List AV):ad:=if nl=true/\xs= []then .nil e s else .live e s xs
def uq(P:Program)(f:FuncId)(args:List AV)(nl:Bool)(e s:Nat)(xs:List AV):Prop:=fE P f args [] (.row 0 xs.length) [cq nl e s xs]
def aim(P:Program)(nl:Bool)(e s:Nat)(f:FuncId)(args:List AV)(K:AV->Prop):Prop:=
 ∃xs,uq P f args nl e s xs/\AV.ae xs=true/\K (.sl xs)
def gQ(P:Program)(f:FuncId)(g:hD)(ins outs:List AV):Prop:=fE P f (SV.a8 ins g.args) (g.ai.map (SO.ev ins)) (g.res.ev outs) (g.cz.map (SO.ev outs))
def lB(P:Program)(f:FuncId)(g:hD)(args:List AV)(K:AV->Prop):Prop:=
 ∃outs,gQ P f g args outs/\outs.length=g.m/\AV.ae outs=true/\K (.a9 outs)
def aiF(s bytes:Nat)(xs:List AV)(y:AV)(K:AV->Prop):Prop:=
 k9 [] y λ ys=>(∀y∈ys,y.cells.length=s)/\(xs.length+ys.length)*bytes<=140737488355328/\xs.length+ys.length<=maxLen/\K (.sl (xs++ys))
def avJ(xs:List AV)(i:Nat)(f:Nat)(n:Option Nat)(K:AV->Prop):Prop:=i<xs.length/\f+n.getD 1<=(xs.getD i .top).cells.length/\K (dI n (xs.getD i .top) f)
def aqk(xs:List AV)(i:Nat)(f m:Nat)(y:AV)(K:AV->Prop):Prop:=
 i<xs.length/\y.cells.length=m/\y.storable=true/\f+m<=(xs.getD i .top).cells.length/\K (.sl (xs.set i (rH (xs.getD i .top) f y)))
def lQ(s:Nat)(a i:AV)(K:AV->Prop):Prop:=
 match a,i with
 | .sl xs,.v (.int _ i)=>0<=i/\i<xs.length/\(xs.getD i.toNat .top).cells.length=s/\K (xs.getD i.toNat .top)
 |_,_=>False
def aeT(bytes:Nat)(z a b:AV)(K:AV->Prop):Prop:=
 match a,b with
 | .v (.int .i64 n),.v (.int .i64 c)=>0<=n/\n<=c/\bytes*c<=281474976710656/\c<=9223372036854775807/\K (.sl (List.replicate n.toNat z))
 |_,_=>False
def eX(z:List AV):List (Nat×AV)->List AV
 | []=>z
 |(i,y)::r=>eX (z.set i y) r
def auF(f m:Nat)(a:AV)(K:AV->Prop):Prop:=f+m<=a.cells.length/\K (dI (some m) a f)
def akN(n:Option Nat)(a:AV)(K:AV->Prop):Prop:=
 match a with
 | .cj y f=>f+n.getD 1<=y.cells.length/\K (dI n y f)
 |_=>False
def alm(off:Nat)(a:AV)(K:AV->Prop):Prop:=
 match a with
 | .cj y f=>K (.cj y (f+off))
 |_=>False
def aap(s bytes:Nat)(xs:List AV)(y:AV)(K:AV->Prop):Prop:=
 match y with
 | .v (.string b)=>s=1/\(xs.length+b.size)*bytes<=140737488355328/\xs.length+b.size<=maxLen/\K (.sl (xs++dr b))
 |_=>False
def agz(neg:Bool)(a b:AV)(K:AV->Prop):Prop:=
 match a,b with
 | .v (.bool a),.v (.bool b)=>K (.v (.bool (neg !=(a==b))))
 |_,_=>False
def PO.wp(P:Program)(r:List AV)(o:PO)(K:AV->Prop):Prop:=
 match o with
 | .val x=>K (x.ev r)
 | .pick c a b=>pw (c.ev r) (a.ev r) (b.ev r) [] λ x _=>K x
 | .bin op a b=>eT op (a.ev r) (b.ev r) [] λ x _=>K x
 | .beq neg a b=>agz neg (a.ev r) (b.ev r) K
 | .un op a=>unK op (a.ev r) [] λ x _=>K x
 | .conv k a=>wj k (a.ev r) [] λ x _=>K x
 | .elem s l i=>lQ s (l.ev r) (i.ev r) K
 | .zZ off n a=>alj off n (a.ev r) [] λ x _=>K x
 | .vU f m a=>auF f m (a.ev r) K
 | .lF a i=>v8 (a.ev r) (i.ev r) [] λ x _=>K x
 | .fI a lo hi=>lV (a.ev r) (D.evo r lo) (D.evo r hi) [] λ x _=>K x
 | .cX s a lo hi=>lW s (a.ev r) (D.evo r lo) (D.evo r hi) [] λ x _=>K x
 | .lg a=>vV (a.ev r) [] λ x _=>K x
 | .bm a=>mM (a.ev r) [] λ x _=>K x
 | .mL z n parts=>K (.sl (eX (List.replicate n z) (parts.map λ p=>(p.1,p.2.ev r))))
 | .rep bytes z n c=>aeT bytes z (n.ev r) (c.ev r) K
 | .app s bytes l y=>aiF s bytes (aU (l.ev r)) (y.ev r) K
 | .get l i f n=>avJ (aU (l.ev r)) (idxOf (i.ev r)) f n K
 | .set l i f m y=>aqk (aU (l.ev r)) (idxOf (i.ev r)) f m (y.ev r) K
 | .call f args flat=>acp P f (D.a8 r args) flat K
 | .ew g args flat=>qH P (g.ev r) (D.a8 r args) flat K
 | .ldp n a=>akN n (a.ev r) K
 | .fap off a=>alm off (a.ev r) K
 | .pu o ds=>puK o (D.a8 r ds) K
 | .kN s bytes l y=>aap s bytes (aU (l.ev r)) (y.ev r) K
 | .eW nl e s f args=>aim P nl e s f (D.a8 r args) K
 | .bk f g args=>lB P f g (D.a8 r args) K
def ah2(xs:List AV)(i:AV)(K:Prop):Prop:=
 match i with
 | .v (.int _ i)=>0<=i/\i<xs.length/\K
 |_=>False
def ajV(a:AV)(j:Nat)(K:Prop):Prop:=
 match a with
 | .a9 vs=>j<vs.length/\K
 |_=>False
def zl(a:AV)(K:Prop):Prop:=
 match a with
 | .fn _ _=>K
 | .cj _ _=>K
 |_=>False
def nU.wp(r:List AV)(c:nU)(K:Prop):Prop:=
 match c with
 | .cells a m=>(a.ev r).isAgg=true/\(a.ev r).cells.length=m/\(a.ev r).storable=true/\K
 | .one a=>(a.ev r).cells.length=1/\(a.ev r).cg=true/\K
 | .lt a j=>j<(a.ev r).cells.length/\K
 | .a9 a j=>ajV (a.ev r) j K
 | .idx l i=>ah2 (aU (l.ev r)) (i.ev r) K
 | .anS a=>zl (a.ev r) K
 | .ne l=>aU (l.ev r)≠[]/\K
 | .no=>False
 | .eql a b=>(aU (a.ev r)).length=(aU (b.ev r)).length/\K
def bD(P:Program)(L:AX->SS->List AV->Prop)(R:AV->Prop):T->List AV->List (List AV->Prop)->Prop
 | .leaf x s,r,_=>L x s r
 | .ret ds,r,_=>R (br (D.a8 r ds))
 | .jump vs,r,S=>match S with
   |J::_=>J (D.a8 r vs)
   | []=>False
 | .dq t,r,S=>match S with
   |_::S=>bD P L R t r S
   | []=>False
 | .op o t,r,S=>o.wp P r λ v=>bD P L R t (r++ [v]) S
 | .aL c t,r,S=>c.wp r (bD P L R t r S)
 | .ite c t f,r,S=>match c.ev r with
   | .v (.bool b)=>(b=true->bD P L R t r S)/\(b=false->bD P L R f r S)
   |_=>False
 | .bind k a b,r,S=>bD P L R a r ((λ vs=>vs.length=k->bD P L R b (r++vs) S)::S)
 | .loop init b,r,S=>∃(J:Nat->List AV->Prop) (n:Nat),J n (D.a8 r init)/\∀n vs,J n vs->vs.length=init.length->bD P L R b (r++vs) ((λ nV=>∃m,m<n/\J m nV)::S)
def ar2:Nat->T->T
 |0,t=>t
 |n+1,t=> .dq (ar2 n t)
def T.fill(k:AX->SS->Option T):T->Nat->Option T
 | .leaf x s,d=>(k x s).map (ar2 d)
 | .ret d,_=>some (.ret d)
 | .jump vs,d=>if d=0 then none else some (.jump vs)
 | .dq t,d=>match d with
   |0=>none
   |d+1=>(t.fill k d).map .dq
 | .op o t,d=>(t.fill k d).map (.op o)
 | .aL c t,d=>(t.fill k d).map (.aL c)
 | .ite c t f,d=>match t.fill k d,f.fill k d with
   |some t,some f=>some (.ite c t f)
   |_,_=>none
 | .bind m a b,d=>match a.fill k (d+1),b.fill k d with
   |some a,some b=>some (.bind m a b)
   |_,_=>none
 | .loop init b,d=>(b.fill k (d+1)).map (.loop init)
def T.leaves:T->List (AX×SS)
 | .leaf x s=>[(x,s)]
 | .ret _=>[]
 | .jump _=>[]
 | .dq t=>t.leaves
 | .op _ t=>t.leaves
 | .aL _ t=>t.leaves
 | .ite _ t f=>t.leaves++f.leaves
 | .bind _ a b=>a.leaves++b.leaves
 | .loop _ b=>b.leaves
def T.abZ:T->Bool
 | .leaf _ _=>false
 | .ret _=>false
 | .jump _=>false
 | .dq t=>t.abZ
 | .op _ t=>t.abZ
 | .aL _ t=>t.abZ
 | .ite _ t f=>t.abZ||f.abZ
 | .bind _ _ _=>true
 | .loop _ _=>true
def wrap:List Node->T->T
 | [],t=>t
 | .op o::r,t=> .op o (wrap r t)
 | .aL c::r,t=> .aL c (wrap r t)
end Go.Ab
namespace Go.Ab
def cP(s:SS):aI->SV
 | .t n=>lk s.env n
 | .c a=> .d (.c a)
def ais:List SV->Option (List D)
 | []=>some []
 | .d x::l=>match ais l with
   |some ds=>some (x::ds)
   |none=>none
 |_::_=>none
def aoW(kn:List (Nat×Nat))(ds:List D):Option Nat:=
 match ds with
 | .cell i 0::_::_=>if kn.contains (i,ds.length)=true/\D.lH ds ((List.range ds.length).map λ j=> .cell i j)=true then some i else none
 |_=>none
def asD(kn:List (Nat×Nat)):SV->Option (List Node×D)
 | .d x=>some ([],x)
 | .agg cs=>match ais cs with
   |some ds=>match aoW kn ds with
    |some i=>some ([.aL (.cells (.x i) ds.length)],.x i)
    |none=>some ([],.agg ds)
   |none=>none
 | .ip x f=>some ([],.ip x f)
 |_=>none
def cur(s:SS)(n:Nat)(l:D):Option (Bool×Nat×Nat):=
 match s.ai[n]? with
 |some (.row nl e sz l')=>if l'.beq l=true then some (nl,e,sz)else none
 |_=>none
def m8(s:SS)(n:Nat):Option (Nat×List SV):=
 match s.ai[n]? with
 |some (.box e cs)=>some (e,cs)
 |_=>none
def iO:Nat->List Node->Nat
 |nv,[]=>nv
 |nv,.op _::r=>iO (nv+1) r
 |nv,.aL _::r=>iO nv r
def nx(s:SS)(ns:List Node)(o:PO):List Node×SV×SS:=(ns++ [.op o],.d (.x (iO s.nv ns)),{s with nv:=iO s.nv ns+1})
def done(s:SS)(ns:List Node)(v:SV):List Node×SV×SS:=(ns,v,{s with nv:=iO s.nv ns})
def oD(m:Nat)(x:D):Node:=if m=1 then .aL (.one x)else .aL (.cells x m)
def kW:List SV->List Node
 | []=>[]
 | .d x::l=> .aL (.one x)::kW l
 |_::l=>kW l
def nN:List SV->Bool
 | []=>true
 | .top::_=>false
 | .agg _::_=>false
 | .a9 _::_=>false
 |_::l=>nN l
def expand(nv m:Nat)(v:SV):Option (List Node×List SV):=
 if m=1 then
  match v with
  | .d x=>some ([.aL (.one x)],[.d x])
  | .agg _=>none
  | .a9 _=>none
  | .top=>none
  |v=>some ([],[v])
 else
  match v with
  | .agg cs=>if cs.length=m/\nN cs=true then some (kW cs,cs)else none
  | .d (.x i)=>some ([.aL (.cells (.x i) m)],(List.range m).map λ j=> .d (.cell i j))
  | .d (.agg l)=>if l.length=m then some ([.aL (.cells (.agg l) m)],l.map .d)else none
  | .d (.c (.agg l))=>if l.length=m then some ([.aL (.cells (.c (.agg l)) m)],l.map λ a=> .d (.c a))else none
  | .d x=>some ([.op (.val x),.aL (.cells (.x nv) m)],(List.range m).map λ j=> .d (.cell nv j))
  |_=>none
def agW(s:SS)(t n:Nat)(z:AV):Option (List Node×SV×SS):=
 if n=1/\z.isAgg=false then some ([],.ptr s.ai.length 0,{s with ai:=s.ai++ [.box t [.d (.c z)]]})
 else match z with
  | .agg cs=>if n≠1/\cs.length=n then some ([],.ptr s.ai.length 0,{s with ai:=s.ai++ [.box t (cs.map λ a=> .d (.c a))]})else none
  |_=>none
def atw(s:SS)(t n:Nat)(v:SV):Option (List Node×SV×SS):=
 match expand s.nv n v with
 |some (ns,cs)=>if cs.length=n then some (ns,.ptr s.ai.length 0,{s with ai:=s.ai++ [.box t cs],nv:=iO s.nv ns})else none
 |none=>none
def xM(s:SS):List Node->List SV->List (Nat×Nat×aI)->Option (List Node×List SV)
 |ns,cs,[]=>some (ns,cs)
 |ns,cs,(off,size,x)::r=>match expand (iO s.nv ns) size (cP s x)with
  |some (ms,vs)=>if vs.length=size/\off+size<=cs.length then xM s (ns++ms) (cs.take off++vs++cs.drop (off+size)) r else none
  |none=>none
def norm(s:SS)(ns:List Node)(cs:List SV):List Node×SV×SS:=
 match asD s.kn (.agg cs)with
 |some (ms,x)=>done s (ns++ms) (.d x)
 |none=>done s ns (.agg cs)
def agU(s:SS)(z:List AV)(ps:List (Nat×Nat×aI)):Option (List Node×SV×SS):=
 match xM s [] (z.map λ a=> .d (.c a)) ps with
 |some (ns,cs)=>some (norm s ns cs)
 |none=>none
def pU(s:SS)(m len:Nat):List (Nat×aI)->Option (List Node×List (Nat×D))
 | []=>some ([],[])
 |(i,x)::r=>match asD s.kn (cP s x),pU s m len r with
  |some (ns,d),some (ms,ps)=>if i<len then some (ns++oD m d::ms,(i,d)::ps)else none
  |_,_=>none
def newRow(s:SS)(t m:Nat)(q:List Node×SV×SS):Option (List Node×SV×SS):=
 match q with
 |(ns,.d l,s')=>some (ns,.row s.ai.length l,{s' with ai:=s'.ai++ [.row false t m l]})
 |_=>none
def tz(s:SS)(nl:Bool)(t m:Nat)(q:List Node×SV×SS):Option (List Node×SV×SS):=
 match q with
 |(ns,.d l,s')=>some (ns,.row s.ai.length l,{s' with ai:=s'.ai++ [.row nl t m l]})
 |_=>none
def pV(s:SS)(t m len:Nat)(z:AV)(ps:List (Nat×aI)):Option (List Node×SV×SS):=
 match pU s m len ps with
 |some (ns,ps)=>newRow s t m (nx s ns (.mL z len ps))
 |none=>none
def whole(kn:List (Nat×Nat))(y:D)(m:Nat):Bool:=
 match y with
 | .x i=>kn.contains (i,m)
 | .agg l=>decide (l.length=m)
 |_=>false
def al9(s:SS)(n:Option Nat)(v:SV):Option (List Node×SV×SS):=
 match v with
 | .ptr k f=>match m8 s k with
   |some (_,cs)=>match n with
    |none=>match cs[f]? with
     |some v=>if cs.length=1 then(if nN [v]=true then some (kW [v],v,s)else none)else some ([],v,s)
     |none=>none
    |some m=>if cs.length≠1/\f+m<=cs.length then some (norm s [] ((cs.drop f).take m))else none
   |none=>none
 | .ip y f=>match n with
   |none=>match y with
    | .x i=>some ([.aL (.lt y f)],.d (.cell i f),s)
    | .agg l=>match l[f]? with
      |some d=>some ([],.d d,s)
      |none=>none
    |_=>some (.op (.val y):: [.aL (.lt (.x s.nv) f)],.d (.cell s.nv f),{s with nv:=s.nv+1})
   |some m=>if f=0/\whole s.kn y m=true then some ([.aL (.cells y m)],.d y,s)else some (nx s [] (.vU f m y))
 | .rp k l i f=>match cur s k l with
   |some _=>some (nx s [] (.get l i f n))
   |none=>none
 | .d y=>some (nx s [] (.ldp n y))
 |_=>none
def SV.rew(n:Nat)(l l':D):SV->SV
 | .row m k=>if m=n/\k.beq l=true then .row m l' else .row m k
 | .rp m k i f=>if m=n/\k.beq l=true then .rp m l' i f else .rp m k i f
 |v=>v
def agR(s:SS)(m:Nat)(p y:SV):Option (List Node×SV×SS):=
 match p with
 | .ptr k f=>match m8 s k,expand s.nv m y with
   |some (e,cs),some (ns,vs)=>
    if vs.length=m/\f+m<=cs.length/\(m=1∨cs.length≠1)/\(cs.length=1->nN cs=true)then
     some ((if cs.length=1 then kW cs else [])++ns,.top,{s with ai:=s.ai.set k (.box e (cs.take f++vs++cs.drop (f+m))),nv:=iO s.nv ns})else none
   |_,_=>none
 | .rp k l i f=>match cur s k l,asD s.kn y with
   |some (nl,e,sz),some (ns,d)=>
    let l':D:= .x (iO s.nv (ns++ [oD m d]))
    some (ns++ [oD m d]++ [.op (.set l i f m d)],.top,{s with env:=s.env.map (λ p=>(p.1,p.2.rew k l l')),ai:=s.ai.set k (.row nl e sz l'),nv:=iO s.nv (ns++ [oD m d])+1})
   |_,_=>none
 |_=>none
def agT(s:SS)(off:Nat)(v:SV):Option (List Node×SV×SS):=
 match v with
 | .ptr k f=>match m8 s k with
   |some _=>some ([],.ptr k (f+off),s)
   |none=>none
 | .rp k l i f=>match cur s k l with
   |some (false,_)=>some ([],.rp k l i (f+off),s)
   |some (true,_)=>some ([.aL (.idx l i)],.rp k l i (f+off),s)
   |none=>none
 | .ip y f=>some ([],.ip y (f+off),s)
 | .d y=>some (nx s [] (.fap off y))
 |_=>none
def atu(s:SS)(off:Nat)(n:Option Nat)(v:SV):Option (List Node×SV×SS):=
 match v with
 | .agg cs=>match n with
   |none=>match cs[off]? with
    |some v=>some ([],v,s)
    |none=>none
   |some m=>if off+m<=cs.length then some (norm s [] ((cs.drop off).take m))else none
 | .d (.agg l)=>match n with
   |none=>match l[off]? with
    |some d=>some ([],.d d,s)
    |none=>none
   |some _=>some (nx s [] (.zZ off n (.agg l)))
 | .d x=>some (nx s [] (.zZ off n x))
 |_=>none
def agS(s:SS)(m:Nat)(v i:SV):Option (List Node×SV×SS):=
 match v,i with
 | .d l,.d i=>some (.op (.elem m l i):: [],.ip (.x s.nv) 0,{s with nv:=s.nv+1})
 | .row k l,.d i=>match cur s k l with
   |some (_,_,sz)=>if sz=m then some ([.aL (.idx l i)],.rp k l i 0,s)else none
   |none=>none
 |_,_=>none
def aaE(s:SS):Option aI->Option (Option D)
 |none=>some none
 |some x=>match cP s x with
  | .d d=>some (some d)
  |_=>none
def gY(s:SS):List aI->Option (List Node×List D×Bool)
 | []=>some ([],[],false)
 |x::r=>match gY s r with
  |some (ns,ds,b)=>match cP s x with
   | .row k l=>match cur s k l with
     |some _=>some (ns,.sl l::ds,true)
     |none=>none
   |v=>match asD s.kn v with
    |some (ms,d)=>some (ms++ns,d::ds,b)
    |none=>none
  |none=>none
def kept(s:SS)(k t m:Nat):Bool:=
 match s.ai[k]? with
 |some (.row true t' m' (.c (.sl [])))=>decide (t'=t)&&decide (m'=m)
 |_=>false
def xP(s:SS)(k t n:Nat)(z:AV):Option (List Node×SV×SS):=
 if kept s k t n=true then
  if n=1/\z.isAgg=false then some ([],.ptr k 0,{s with ai:=s.ai.set k (.box t [.d (.c z)])})
  else match z with
   | .agg cs=>if n≠1/\cs.length=n then some ([],.ptr k 0,{s with ai:=s.ai.set k (.box t (cs.map λ a=> .d (.c a)))})else none
   |_=>none
 else none
def agV(s:SS)(k t n:Nat)(v:SV):Option (List Node×SV×SS):=
 if kept s k t n=true then
  match expand s.nv n v with
  |some (ns,cs)=>if cs.length=n then some (ns,.ptr k 0,{s with ai:=s.ai.set k (.box t cs),nv:=iO s.nv ns})else none
  |none=>none
 else none
def xO(s:SS)(k t m len:Nat)(z:AV)(ps:List (Nat×aI)):Option (List Node×SV×SS):=
 if kept s k t m=true then
  match pU s m len ps with
  |some (ns,ps)=>some (ns++ [.op (.mL z len ps),.aL (.ne (.x s.nv))],.row k (.x s.nv),{s with ai:=s.ai.set k (.row false t m (.x s.nv)),nv:=s.nv+1})
  |none=>none
 else none
def SV.pat(n k:Nat):SV->Bool
 | .d (.x i)=>decide (i<n)
 | .d (.c a)=>a.ag
 | .row m (.x i)=>decide (i<n)&&decide (m<k)
 | .ptr m _=>decide (m<k)
 |_=>false
def SO.pat(n k:Nat):SO->Bool
 | .dead=>true
 | .box _ cs=>cs.all (SV.pat n k)
 | .row _ _ _ (.x i)=>decide (i<n)
 |_=>false
def SV.lj(τ:List D)(σ:Nat->Nat):SV->SV
 | .d (.x i)=> .d (τ.getD i (.c .top))
 | .row m (.x i)=> .row (σ m) (τ.getD i (.c .top))
 | .ptr m f=> .ptr (σ m) f
 |v=>v
def SO.lj(τ:List D)(σ:Nat->Nat):SO->SO
 | .dead=> .dead
 | .box e cs=> .box e (cs.map (SV.lj τ σ))
 | .row nl e s (.x i)=> .row nl e s (τ.getD i (.c .top))
 |o=>o
def SV.aa3(n k:Nat):SV->Bool
 | .a9 cs=>cs.all (SV.pat n k)
 | .agg cs=>cs.all (SV.pat n k)
 |v=>v.pat n k
def SV.ahW(τ:List D)(σ:Nat->Nat):SV->SV
 | .a9 cs=> .a9 (cs.map (SV.lj τ σ))
 | .agg cs=> .agg (cs.map (SV.lj τ σ))
 |v=>v.lj τ σ
def hD.ok(g:hD):Bool:=
 g.args.all (SV.pat g.n g.ai.length)&&g.ai.all (SO.pat g.n g.ai.length)&&g.cz.all (SO.pat g.m g.cz.length)&&g.res.aa3 g.m g.cz.length&&decide (g.ai.length<=g.cz.length)
abbrev Mt:=List (Nat×D)×List (Nat×Nat)
def ahn:SV->Option D
 | .d x=>some x
 | .agg cs=>(ais cs).map .agg
 | .ip x f=>some (.ip x f)
 |_=>none
def ano(kn:List (Nat×Nat))(p v:SV)(q:Mt):Mt:=
 match p,v with
 | .d (.x i),v=>match asD kn v with
   |some (_,d)=>((i,d)::q.1,q.2)
   |none=>q
 | .row m (.x i),.row k l=>((i,l)::q.1,(m,k)::q.2)
 | .ptr m _,.ptr k _=>(q.1,(m,k)::q.2)
 |_,_=>q
def tC(kn:List (Nat×Nat)):List SV->List SV->Mt->Mt
 |p::ps,v::vs,q=>tC kn ps vs (ano kn p v q)
 |_,_,q=>q
def awm(l:List (Nat×Nat))(n:Nat):Option Nat:=(l.find? λ p=>p.1==n).map (·.2)
def az3(l:List (Nat×D))(n:Nat):Option D:=(l.find? λ p=>p.1==n).map (·.2)
def auC(s:SS)(q:Mt)(n:Nat)(p:SO):Mt:=
 match awm q.2 n with
 |none=>q
 |some k=>match p,s.ai[k]? with
  | .box _ cs,some (.box _ ds)=>tC s.kn cs ds q
  | .row _ _ _ (.x i),some (.row _ _ _ l)=>((i,l)::q.1,q.2)
  |_,_=>q
def tD(s:SS):Nat->List SO->Mt->Mt
 |_,[],q=>q
 |n,p::ps,q=>tD s (n+1) ps (auC s q n p)
def fg(ai:List SO)(dp:List Nat):Nat->Nat:=λ n=>if n<dp.length then dp.getD n 0 else ai.length+(n- dp.length)
def azw(kn:List (Nat×Nat))(τ:List D)(σ:Nat->Nat)(p v:SV):Option (List Node):=
 match p with
 | .d (.x i)=>match asD kn v with
   |some (ns,d)=>if(τ.getD i (.c .top)).beq d=true then some ns else none
   |none=>none
 |p=>if(p.lj τ σ).beq v=true then some []else none
def ace(kn:List (Nat×Nat))(τ:List D)(σ:Nat->Nat):List SV->List SV->Option (List Node)
 | [],[]=>some []
 |p::ps,v::vs=>match azw kn τ σ p v,ace kn τ σ ps vs with
  |some a,some b=>some (a++b)
  |_,_=>none
 |_,_=>none
def afS(s:SS)(τ:List D)(σ:Nat->Nat):Nat->List SO->Bool
 |_,[]=>true
 |n,p::ps=>(match s.ai[σ n]? with
  |some o=>(p.lj τ σ).beq o
  |none=>false)&&afS s τ σ (n+1) ps
def posOf(j:Nat):List Nat->Nat->Option Nat
 | [],_=>none
 |x::l,i=>if x=j then some i else posOf j l (i+1)
def uS:List Nat->Bool
 | []=>true
 |x::l=> !l.contains x&&uS l
def pP(nv m:Nat):List D:=(List.range m).map λ j=> .ext nv j
def fG(ai:List SO)(dp:List Nat)(ps:List SO):List SO:=
 ((List.range ai.length).map λ j=>match posOf j dp 0 with
   |some n=>ps.getD n .dead
   |none=>ai.getD j .dead)++ps.drop dp.length
def tJ(g:hD)(τ:List D)(σ:Nat->Nat)(nv:Nat):List (Nat×D×D):=g.ar.filterMap λ (n:Nat)=>match g.ai[n]?,g.cz[n]? with
 |some (SO.row _ _ _ (D.x i)),some (SO.row _ _ _ (D.x j))=>some (σ n,τ.getD i (.c .top),.ext nv j)
 |_,_=>none
def ac6(l:List (Nat×D×D))(v:SV):SV:=l.foldl (λ v q=>v.rew q.1 q.2.1 q.2.2) v
def anp(s:SS)(g:hD)(as:List SV):Option (List D×List Nat):=
 let q:=tD s 0 g.ai (tD s 0 g.ai (tC s.kn g.args as ([],[])))
 match(List.range g.n).mapM (az3 q.1),(List.range g.ai.length).mapM (awm q.2)with
 |some τ,some dp=>some (τ,dp)
 |_,_=>none
def yt(s:SS)(f:FuncId)(as:List SV)(g:hD):Option (List Node×SV×SS):=
 match anp s g as with
 |some (τ,dp)=>
  let σ:=fg s.ai dp
  match ace s.kn τ σ g.args as with
  |some ns=>
   if g.ok=true/\dp.length=g.ai.length/\uS dp=true/\dp.all (·<s.ai.length)=true/\τ.length=g.n/\afS s τ σ 0 g.ai=true/\iO s.nv ns=s.nv then
    let e:=pP s.nv g.m
    let ks:=tJ g τ σ s.nv
    some (ns++ .op (.bk f g τ)::ks.map (λ q=> .aL (.eql q.2.1 q.2.2)),g.res.ahW e σ,
     {s with env:=s.env.map (λ p=>(p.1,ac6 ks p.2)),ai:=fG s.ai dp (g.cz.map (SO.lj e σ)),nv:=s.nv+1})
   else none
  |none=>none
 |none=>none
def SV.isR:SV->Bool
 | .row _ _=>true
 | .ptr _ _=>true
 |_=>false
def hD.one(g:hD):Bool:=decide (g.ai.length=1)&&decide (g.cz.length=1)&&g.ai.all (SO.pat g.n 0)&&g.cz.all (SO.pat g.m 0)&&g.res.aa3 g.m 0&&decide ((g.args.filter SV.isR).length=1)
def qi(s:SS)(f:FuncId)(as:List SV):List hD->Option (List Node×SV×SS)
 | []=>none
 |g::gs=>match yt s f as g with
  |some q=>some q
  |none=>qi s f as gs
def abt(s:SS):Option aI->Bool
 |none=>true
 |some x=>match cP s x with
  | .d (.c (.v (.int _ n)))=>decide (n=0)
  |_=>false
def atv(s:SS)(m:Nat)(v:SV)(lo hi:Option aI):Option (List Node×SV×SS):=
 match v with
 | .d (.c .aw)=>if abt s lo=true/\abt s hi=true then some ([],.d (.c .aw),s)else none
 | .row k l=>match cur s k l with
   |some (nl,e,sz)=>if sz=m/\abt s lo=true/\hi.isSome=true/\abt s hi=true then
    some (if nl=true then [.aL (.ne l)]else [],.row s.ai.length (.c (.sl [])),{s with ai:=s.ai.set k .dead++ [.row false e m (.c (.sl []))]})else none
   |none=>none
 |_=>none
def xOp(op:ez)(s:SS):Option (List Node×SV×SS):=
 match op with
 | .ad9 t m bytes z a b=>match cP s a,cP s b with
   | .d (.c .aw),.d y=>some ([.op (.rep bytes z y y),.aL (.ne (.x s.nv))],.row s.ai.length (.x s.nv),{s with ai:=s.ai++ [.row false t m (.x s.nv)],nv:=s.nv+1})
   |_,_=>none
 | .cut m a lo hi=>atv s m (cP s a) lo hi
 | .stuck=>some ([.aL .no],.d (.c .top),s)
 | .iR _ m len z ps=>match pU s m len ps with
   |some (ns,ps)=>some (nx s ns (.mL z len ps))
   |none=>none
 | .pu o args=>match o,args with
   | .ej,[a]=>match cP s a with
     | .d (.c .aw)=>some ([],.d (.c (.v (.int .i64 0))),s)
     |_=>none
   |o,args=>match gY s args with
    |some (ns,ds,_)=>some (nx s ns (.pu o ds))
    |none=>none
 | .kN t m bytes a b=>match cP s a,cP s b with
   | .row k l,.d y=>match cur s k l with
     |some (nl,e,sz)=>if e=t/\sz=m then some ([.op (.kN m bytes l y)],.row k (.x s.nv),{s with ai:=s.ai.set k (.row nl e sz (.x s.nv)),nv:=s.nv+1})else none
     |none=>none
   | .d (.c .aw),.d y=>some ([.op (.kN m bytes (.c (.sl [])) y),.aL (.ne (.x s.nv))],.row s.ai.length (.x s.nv),{s with ai:=s.ai++ [.row false t m (.x s.nv)],nv:=s.nv+1})
   |_,_=>none
 | .aA a=>some ([],cP s a,s)
 | .pick c a b=>match cP s c with
   | .d (.c (.v (.bool t)))=>some ([],if t then cP s a else cP s b,s)
   | .d c=>match asD s.kn (cP s a),asD s.kn (cP s b)with
     |some (na,a),some (nb,b)=>some (nx s (na++nb) (.pick c a b))
     |_,_=>none
   |_=>none
 | .alloc t n z=>agW s t n z
 | .box t n a=>atw s t n (cP s a)
 | .build z ps=>agU s z ps
 | .gG k t n z=>xP s k t n z
 | .m9 k t n a=>agV s k t n (cP s a)
 | .gF k t m len z ps=>xO s k t m len z ps
 | .buildSlice t m len z ps=>pV s t m len z ps
 | .load n a=>al9 s n (cP s a)
 | .store m a b=>agR s m (cP s a) (cP s b)
 | .bin o a b=>match cP s a,cP s b with
   | .d a,.d b=>some (nx s [] (.bin o a b))
   |_,_=>none
 | .beq neg a b=>match cP s a,cP s b with
   | .d a,.d b=>some (nx s [] (.beq neg a b))
   |_,_=>none
 | .un o a=>match cP s a with
   | .d a=>some (nx s [] (.un o a))
   |_=>none
 | .j6 k a=>match cP s a with
   | .d a=>some (nx s [] (.conv k a))
   |_=>none
 | .aK off a=>agT s off (cP s a)
 | .zZ off n a=>atu s off n (cP s a)
 | .bJ m a i=>agS s m (cP s a) (cP s i)
 | .lF a i=>match cP s a,cP s i with
   | .d a,.d i=>some (nx s [] (.lF a i))
   |_,_=>none
 | .fI a lo hi=>match cP s a,aaE s lo,aaE s hi with
   | .d a,some lo,some hi=>some (nx s [] (.fI a lo hi))
   |_,_,_=>none
 | .cX m a lo hi=>match cP s a,aaE s lo,aaE s hi with
   | .d a,some lo,some hi=>some (nx s [] (.cX m a lo hi))
   |_,_,_=>none
 | .mk t m bytes z n c=>match cP s n,cP s c with
   | .d n,.d c=>newRow s t m (nx s [] (.rep bytes z n c))
   |_,_=>none
 | .lg a=>match cP s a with
   | .d a=>some (nx s [] (.lg a))
   |_=>none
 | .bm a=>match cP s a with
   | .d (.c .aw)=>some ([],.d (.c (.v (.int .i64 0))),s)
   | .d a=>some (nx s [] (.bm a))
   | .row k l=>match cur s k l with
     |some _=>some (nx s [] (.bm (.sl l)))
     |none=>none
   |_=>none
 | .app t m bytes a b=>match cP s a with
   | .row k l=>match cur s k l with
     |some (nl,e,sz)=>if e=t/\sz=m then
       match(match cP s b with
        | .d y=>some y
        | .row k' l'=>if(cur s k' l').isSome=true then some (.sl l')else none
        |_=>none)with
       |some y=>some ([.op (.app m bytes l y)],.row k (.x s.nv),{s with ai:=s.ai.set k (.row nl e sz (.x s.nv)),nv:=s.nv+1})
       |none=>none
      else none
     |none=>none
   | .d (.c .aw)=>
     match(match cP s b with
      | .d y=>some y
      | .row k' l'=>if(cur s k' l').isSome=true then some (.sl l')else none
      |_=>none)with
     |some y=>some ([.op (.app m bytes (.c (.sl [])) y),.aL (.ne (.x s.nv))],.row s.ai.length (.x s.nv),{s with ai:=s.ai++ [.row false t m (.x s.nv)],nv:=s.nv+1})
     |none=>none
   |_=>none
 | .ext a i=>match cP s a with
   | .a9 cs=>match cs[i]? with
     |some v=>some ([],v,s)
     |none=>none
   | .d (.x j)=>some ([.aL (.a9 (.x j) i)],.d (.ext j i),s)
   |_=>none
 | .ca a=>match cP s a with
   | .ptr k f=>match m8 s k with
     |some _=>some ([],.ptr k f,s)
     |none=>none
   | .ip y f=>some ([],.ip y f,s)
   | .d (.fn f l)=>some ([],.d (.fn f l),s)
   | .d x=>some ([.aL (.anS x)],.d x,s)
   |_=>none
 | .sI f aX=>match gY s aX with
   |some (ns,ds,false)=>some (done s ns (.d (.fn f ds)))
   |_=>none
 | .nw f args=>match gY s args with
   |some (ns,ds,b)=>some (nx s ns (.call f ds b))
   |none=>none
 | .jV g args=>match cP s g,gY s args with
   | .d (.c (.fn f [])),some (ns,ds,b)=>some (nx s ns (.call f ds b))
   | .d (.fn f aX),some (ns,ds,b)=>some (nx s ns (.call f (ds++aX) b))
   | .d g,some (ns,ds,b)=>some (nx s ns (.ew g ds b))
   |_,_=>none
 | .mJ f args=>match gY s args with
   |some (ns,ds,_)=>some (nx s ns (.call f ds true))
   |none=>none
 | .eW nl e m f args=>match gY s args with
   |some (ns,ds,false)=>tz s nl e m (nx s ns (.eW nl e m f ds))
   |_=>none
 | .lK f args=>match gY s args with
   |some (ns,ds,false)=>some (nx s ns (.call f ds false))
   |_=>none
 | .jU gs f args=>qi s f (args.map (cP s)) (gs.filter hD.one)
 | .bk gs f args=>match qi s f (args.map (cP s)) gs with
   |some q=>some q
   |none=>match gY s args with
    |some (ns,ds,false)=>some (nx s ns (.call f ds false))
    |_=>none
 | .iN g args=>match cP s g,gY s args with
   | .d (.c (.fn f [])),some (ns,ds,false)=>some (nx s ns (.call f ds false))
   | .d (.fn f aX),some (ns,ds,false)=>some (nx s ns (.call f (ds++aX) false))
   | .d g,some (ns,ds,false)=>some (nx s ns (.ew g ds false))
   |_,_=>none
 |_=>none
def oX(s:SS)(t m k:Nat):SS:=
 {s with env:=s.env.map (λ p=>(p.1,if p.1=k then .row s.ai.length (.c (.sl []))else p.2)),ai:=s.ai++ [.row true t m (.c (.sl []))]}
def SV.iW(n:Nat)(l:D):SV->SV
 | .row m k=>if m=n/\k.beq l=true then .d (.sl l)else .row m k
 |v=>v
def SV.avK(n:Nat)(l:D):SV->SV
 | .agg cs=> .agg (cs.map (SV.iW n l))
 |v=>v.iW n l
def SO.iW(n:Nat)(l:D):SO->SO
 | .box e cs=> .box e (cs.map (SV.iW n l))
 |o=>o
def adT(s:SS)(n:Nat):SS:=
 match s.ai[n]? with
 |some (.row _ _ _ l)=>if l.cl s.nv=true then{s with env:=s.env.map (λ p=>(p.1,p.2.avK n l)),ai:=(s.ai.map (SO.iW n l)).set n .dead}else s
 |_=>s
def SV.fbx(n:Nat)(a:D):SV->SV
 | .ptr m f=>if m=n then .ip a f else .ptr m f
 |v=>v
def SV.fbc(n:Nat)(a:D):SV->SV
 | .ptr m f=>if m=n then .d (.ip a f)else .ptr m f
 |v=>v
def SO.fbx(n:Nat)(a:D):SO->SO
 | .box e cs=> .box e (cs.map (SV.fbc n a))
 |o=>o
def mkD:List D->D
 | [d]=>d
 |ds=> .agg ds
def zV(s:SS)(n:Nat):SS:=
 match s.ai[n]? with
 |some (.box _ cs)=>match ais cs with
  |some ds=>if D.cls s.nv ds=true then{s with env:=s.env.map (λ p=>(p.1,p.2.fbx n (mkD ds))),ai:=(s.ai.map (SO.fbx n (mkD ds))).set n .dead}else s
  |none=>s
 |_=>s
def SV.rows:SV->List Nat
 | .row n _=>[n]
 | .agg cs=>cs.flatMap λ| .row n _=>[n]|_=>[]
 |_=>[]
def pB(s:SS)(v:SV):SS:=v.rows.foldl adT s
def vq(s:SS)(l:List aI):SS:=l.foldl (λ s x=>pB s (cP s x)) s
def aij(s:SS)(x:aI):SS:=
 match cP s x with
 | .ptr n _=>match m8 s n with
   |some (_,cs)=>zV (cs.foldl pB s) n
   |none=>s
 |v=>pB s v
def ub:Nat->SS->Nat->SS
 |0,s,_=>s
 |k+1,s,n=>match m8 s n with
  |some (_,cs)=>zV (cs.foldl (λ s v=>match v with
   | .ptr m _=>ub k s m
   |v=>pB s v) s) n
  |none=>s
def zU(s:SS)(x:aI):SS:=
 match cP s x with
 | .ptr n _=>ub 3 s n
 |_=>s
def ua(s:SS)(l:List aI):SS:=l.foldl zU s
def ajz(s:SS)(l:List aI):SS:=l.foldl (λ s x=>match cP s x with
 | .agg cs=>pB s (.agg cs)
 |_=>s) s
def avN(s:SS)(l:List (SV×aI)):SS:=l.foldl (λ s p=>match p.1 with
 | .d _=>zU (pB s (cP s p.2)) p.2
 |_=>s) s
def at4(fl:List Nat)(op:ez)(s:SS):SS:=
 match op with
 | .app t m _ (.t k) _=>match lk s.env k with
   | .d (.c .aw)=>oX s t m k
   |_=>s
 | .kN t m _ (.t k) _=>match lk s.env k with
   | .d (.c .aw)=>oX s t m k
   |_=>s
 | .cX _ a _ _=>pB s (cP s a)
 | .buildSlice _ _ _ _ ps=>vq s (ps.map (·.2))
 | .store _ a b=>match cP s a with
   | .rp _ _ _ _=>pB s (cP s b)
   |_=>s
 | .sI _ aX=>aX.foldl aij s
 | .nw f args=>if fl.contains f=true then ua (ajz s args) args else ua (vq s args) args
 | .jV _ args=>ua (vq s args) args
 | .eW _ _ _ _ args=>ua (vq s args) args
 | .pick _ a b=>vq s [a,b]
 | .bk gs f args=>if(qi s f (args.map (cP s)) gs).isSome=true then s else match gs with
   |g::_=>avN s (g.args.zip args)
   | []=>s
 |_=>s
def aoL(s:SS)(l:List SV):SS:=l.foldl (λ s v=>match v with
 | .ptr m _=>ub 3 s m
 |v=>pB s v) s
def PO.cl(nv:Nat)(o:PO):Bool:=
 match o with
 | .val x=>x.cl nv
 | .pick c a b=>c.cl nv&&a.cl nv&&b.cl nv
 | .bin _ a b=>a.cl nv&&b.cl nv
 | .beq _ a b=>a.cl nv&&b.cl nv
 | .un _ a=>a.cl nv
 | .conv _ a=>a.cl nv
 | .elem _ l i=>l.cl nv&&i.cl nv
 | .zZ _ _ a=>a.cl nv
 | .vU _ _ a=>a.cl nv
 | .lF a i=>a.cl nv&&i.cl nv
 | .fI a _ _=>a.cl nv
 | .cX _ a _ _=>a.cl nv
 | .lg a=>a.cl nv
 | .bm a=>a.cl nv
 | .mL z _ ps=>z.ag&&ps.all (λ p=>p.2.cl nv)
 | .rep _ z _ _=>z.ag
 | .app _ _ l y=>l.cl nv&&y.cl nv
 | .get l _ _ _=>l.cl nv
 | .set l _ _ _ y=>l.cl nv&&y.cl nv
 | .call _ as _=>D.cls nv as
 | .ew g as _=>g.cl nv&&D.cls nv as
 | .ldp _ a=>a.cl nv
 | .fap _ a=>a.cl nv
 | .pu _ ds=>D.cls nv ds
 | .kN _ _ l y=>l.cl nv&&y.cl nv
 | .eW _ _ _ _ ds=>D.cls nv ds
 | .bk _ _ ds=>D.cls nv ds
def cI:Nat->List Node->Bool
 |_,[]=>true
 |nv,.op o::r=>o.cl nv&&cI (nv+1) r
 |nv,.aL _::r=>cI nv r
abbrev vQ:aI->Bool:=aI.okc
def ez.okc:ez->Bool
 | .box _ _ a=>vQ a
 | .m9 _ _ _ a=>vQ a
 | .gG _ _ _ z=>z.ag
 | .gF _ _ _ _ z ps=>z.ag&&ps.all (λ p=>p.2.okc)
 | .build z ps=>AV.ae z&&ps.all (λ p=>vQ p.2.2)
 | .store _ _ a=>vQ a
 |_=>true
def kns:Nat->List Node->List (Nat×Nat)
 |_,[]=>[]
 |nv,.aL (.cells (.x i) m)::r=>(i,m)::kns nv r
 |nv,.op (.elem m _ _)::r=>(nv,m)::kns (nv+1) r
 |nv,.op (.vU _ m _)::r=>(nv,m)::kns (nv+1) r
 |nv,.op (.zZ _ (some m) _)::r=>(nv,m)::kns (nv+1) r
 |nv,.op _::r=>kns (nv+1) r
 |nv,_::r=>kns nv r
def lI(op:ez)(s:SS):Option (List Node×SV×SS):=
 if s.cl=true/\op.okc=true then
  match xOp op s with
  |some (ns,v,s')=>if cI s.nv ns=true/\iO s.nv ns=s'.nv/\v.cl s'.nv=true/\s'.cl=true then some (ns,v,{s' with kn:=kns s.nv ns++s'.kn})else none
  |none=>none
 else none
def pre(fl:List Nat)(wk:Bool)(op:ez)(s:SS):SS:=if wk=true then at4 fl op s else s
def pG(fl:List Nat)(wk:Bool):List aO->SS->Option T
 | [],s=>some (.leaf .normal s)
 |o::r,s=>match o.guard with
  |none=>match lI o.op (pre fl wk o.op s)with
   |some (ns,v,s')=>(pG fl wk r (s'.bO o.dst v)).map (wrap ns)
   |none=>none
  |some (g,want)=>match lk s.env g with
   | .d (.c (.v (.bool b)))=>
     if b=want then
      match lk (pre fl wk o.op s).env g with
      | .d (.c (.v (.bool b')))=>if b'=want then
        match lI o.op (pre fl wk o.op s)with
        |some (ns,v,s')=>(pG fl wk r (s'.bO o.dst v)).map (wrap ns)
        |none=>none
        else none
      |_=>none
     else pG fl wk r (s.bO o.dst un)
   | .d (.c (.a9 []))=>pG fl wk r (s.bO o.dst un)
   | .d _=>match lk (pre fl wk o.op s).env g with
     | .d c=>
       match lI o.op ((pre fl wk o.op s).set g (.d (.c (.v (.bool want)))))with
       |some (ns,v,s')=>
        match pG fl wk r (s'.bO o.dst v),pG fl wk r (((pre fl wk o.op s).set g (.d (.c (.v (.bool (!want)))))).bO o.dst un)with
        |some t1,some t2=>some (if want=true then .ite c (wrap ns t1) t2 else .ite c t2 (wrap ns t1))
        |_,_=>none
       |none=>none
     |_=>none
   |_=>none
def axn:SV->List Nat
 | .row n _=>[n]
 | .ptr n _=>[n]
 | .rp n _ _ _=>[n]
 |_=>[]
def rfS(s:SS):aI->List Nat
 | .t n=>axn (lk s.env n)
 | .c a=>refs a
def anE(op:ez)(s:SS):iw:=lZ op (rfS s) s.ai.length
def mC(rows:List (List Nat))(all:List aO):List aO->List iw->SS->Option T
 | [],acc,s=>if iF rows (all.zip acc)=true then some (.leaf .normal s)else none
 |o::r,acc,s=>match o.guard with
  |none=>match lI o.op s with
   |some (ns,v,s')=>(mC rows all r (acc++ [anE o.op s]) (s'.bO o.dst v)).map (wrap ns)
   |none=>none
  |some (g,want)=>match lk s.env g with
   | .d (.c (.v (.bool b)))=>
     if b=want then
      match lI o.op s with
      |some (ns,v,s')=>(mC rows all r (acc++ [anE o.op s]) (s'.bO o.dst v)).map (wrap ns)
      |none=>none
     else mC rows all r (acc++ [⟨[],.cL⟩]) (s.bO o.dst un)
   | .d (.c (.a9 []))=>mC rows all r (acc++ [⟨[],.cL⟩]) (s.bO o.dst un)
   | .d c=>
     match lI o.op (s.set g (.d (.c (.v (.bool want)))))with
     |some (ns,v,s')=>
      match mC rows all r (acc++ [anE o.op (s.set g (.d (.c (.v (.bool want)))))]) (s'.bO o.dst v),mC rows all r (acc++ [⟨[],.cL⟩]) ((s.set g (.d (.c (.v (.bool (!want)))))).bO o.dst un)with
      |some t1,some t2=>some (if want=true then .ite c (wrap ns t1) t2 else .ite c t2 (wrap ns t1))
      |_,_=>none
     |none=>none
   |_=>none
def ez.aif:ez->List aI
 | .lK _ l| .mJ _ l| .eW _ _ _ _ l| .nw _ l| .sI _ l=>l
 | .iN x l=>x::l
 | .iR _ _ _ _ ps=>ps.map (·.2)
 | .cX _ x _ _=>[x]
 | .pick _ a b=>[a,b]
 | .store _ _ y=>[y]
 |_=>[]
def sS:List aO->SS->List SV
 | [],_=>[]
 |o::r,s=>match o.guard with
  |none=>match lI o.op s with
   |some (_,v,s')=>sS r (s'.bO o.dst v)
   |none=>o.op.aif.map (cP s)
  |some (g,want)=>match lk s.env g with
   | .d (.c (.v (.bool b)))=>if b=want then(match lI o.op s with
    |some (_,v,s')=>sS r (s'.bO o.dst v)
    |none=>o.op.aif.map (cP s))else sS r (s.bO o.dst un)
   | .d (.c (.a9 []))=>sS r (s.bO o.dst un)
   | .d _=>match lI o.op (s.set g (.d (.c (.v (.bool want)))))with
     |some (_,v,s')=>match sS r (s'.bO o.dst v)with
      | []=>sS r ((s.set g (.d (.c (.v (.bool (!want)))))).bO o.dst un)
      |l=>l
     |none=>o.op.aif.map (cP s)
   |_=>[]
def jd:List aO->SS->List aO×SS
 | [],s=>([],s)
 |o::r,s=>match o.op with
  | .alloc t m z=>let q:=jd r {s with ai:=s.ai++ [.row true t m (.c (.sl []))]};({o with op:= .gG s.ai.length t m z}::q.1,q.2)
  | .box t m x=>let q:=jd r {s with ai:=s.ai++ [.row true t m (.c (.sl []))]};({o with op:= .m9 s.ai.length t m x}::q.1,q.2)
  | .buildSlice t m (len+1) z ps=>let q:=jd r {s with ai:=s.ai++ [.row true t m (.c (.sl []))]};({o with op:= .gF s.ai.length t m (len+1) z ps}::q.1,q.2)
  |_=>let q:=jd r s;(o::q.1,q.2)
def afY(rows:List (List Nat))(ops:List aO):Nat->SS->Option (SS×List aO×T)
 |0,_=>none
 |n+1,s=>match mC rows ops ops [] s with
  |some t=>some (s,ops,t)
  |none=>match sS ops s with
   | []=>match mC rows (jd ops s).1 (jd ops s).1 [] (jd ops s).2 with
     |some t=>some ((jd ops s).2,(jd ops s).1,t)
     |none=>none
   |l=>afY rows ops n (aoL s l)
def D.inst(base:Nat)(vs:List D):D->D
 | .x i=>if i<base then .x i else vs.getD (i- base) (.c .top)
 |d=>if d.cl base=true then d else .c .top
def SV.inst(base:Nat)(vs:List D):SV->SV
 | .d x=> .d (x.inst base vs)
 | .row n l=> .row n (l.inst base vs)
 | .ptr n f=> .ptr n f
 | .rp n l i f=> .rp n (l.inst base vs) (i.inst base vs) f
 | .ip x f=> .ip (x.inst base vs) f
 | .agg cs=>if SV.cls base cs=true then .agg cs else .d (.c .top)
 | .a9 cs=>if SV.cls base cs=true then .a9 cs else .d (.c .top)
 | .top=> .top
def SO.inst(base:Nat)(vs:List D):SO->SO
 | .dead=> .dead
 | .box e cs=> .box e (cs.map (SV.inst base vs))
 | .row nl e s l=> .row nl e s (l.inst base vs)
def D0:SV->Option D
 | .d x=>some x
 |_=>none
def acf(base j:Nat):List (SV×SV)->Option D
 | []=>none
 |(a,b)::r=>match a with
  | .d (.x i)=>if i=base+j then(match D0 b with|some d=>some d|none=>acf base j r)else acf base j r
  | .row _ (.x i)=>if i=base+j then(match b with| .row _ l=>some l|_=>acf base j r)else acf base j r
  |_=>acf base j r
def alu:SO->SO->List (SV×SV)
 | .box _ cs,.box _ ds=>cs.zip ds
 | .row _ _ _ l,.row _ _ _ k=>[(.d l,.d k)]
 |_,_=>[]
def kA:List SV->List SV->List SV
 | .top::ts,_::cs=> .top::kA ts cs
 |_::ts,c::cs=>c::kA ts cs
 |_,cs=>cs
def apm(o:SO):Option SO->SO
 |some .dead=> .dead
 |some (.box _ ts)=>match o with
  | .box e cs=>if 2<=cs.length then .box e (kA ts cs)else .box e cs
  |o=>o
 |_=>o
def eE(t:List SO):Nat->List SO->List SO
 |_,[]=>[]
 |k,o::r=>apm o t[k]? ::eE t (k+1) r
def coerce(n0 base:Nat)(s t:SS):Option (List D):=
 let axs:=((t.ai.zip s.ai).flatMap λ p=>alu p.1 p.2)++t.env.map λ p=>(p.2,lk s.env p.1)
 match(List.range (t.nv- base)).mapM λ j=>acf base j axs with
 |none=>none
 |some vs=>
  let ai:=eE t.ai 0 s.ai
  if n0<=t.ai.length/\base<=t.nv/\base<=s.nv/\t.ai.length<=ai.length/\D.cls s.nv vs=true/\t.cl=true/\
   (t.env.all λ p=>(p.2.inst base vs).beq (lk s.env p.1)&&p.2.sc t.ai.length)=true/\
   ((t.ai.zip ai).all λ p=>(p.1.inst base vs).beq p.2&&p.1.sc t.ai.length)=true then some vs else none
def aeb(v:SV):List SV->Bool
 | []=>true
 |w::l=>v.beq w&&aeb v l
def awp:List SV->Bool
 | []=>true
 | .d _::l=>awp l
 |_::_=>false
def apD(n:Nat):List SS->List SV->Bool
 |s::ss,.row m l::vs=>decide (m=n)&&(cur s m l).isSome&&apD n ss vs
 | [],[]=>true
 |_,_=>false
def aCQ(L:List SS)(base next:Nat)(vs:List SV):SV×Nat:=
 match vs with
 | .row n l::_=>if apD n L vs=true then(.row n (.c .top),next)else(.top,next)
 |v::r=>
  if aeb v r=true/\v.cl base=true then(v,next)
  else if awp vs=true then(.d (.x next),next+1)
  else(.top,next)
 | []=>(.top,next)
def aCO(base next:Nat)(vs:List SV):SV×Nat:=
 match vs with
 | []=>(.top,next)
 |v::r=>
  if aeb v r=true/\v.cl base=true then(v,next)
  else if awp vs=true then(.d (.x next),next+1)
  else(.top,next)
def atd(L:List SS)(base:Nat):Nat->List (List SV)->List SV×Nat
 |next,[]=>([],next)
 |next,vs::r=>
  let(v,n1):=aCQ L base next vs
  let(l,n2):=atd L base n1 r
  (v::l,n2)
def ane(k:Nat)(l:List SO):List SV:=l.map λ| .box _ cs=>cs.getD k .top|_=> .top
def aCP(L:List SS)(base next:Nat)(os:List SO):SO×Nat:=
 match os with
 | .box e cs::r=>if r.all (λ| .box e' ds=>decide (e=e')&&decide (ds.length=cs.length)|_=>false)=true then
  let(l,n):=atd L base next ((List.range cs.length).map λ k=>ane k os)
  (.box e l,n)else(.dead,next)
 | .row nl e s l::r=>if r.all (λ| .row nl' e' s' _=>decide (nl=nl')&&decide (e=e')&&decide (s=s')|_=>false)=true then
  (if r.all (λ| .row _ _ _ k=>l.beq k|_=>false)=true/\l.cl base=true then(.row nl e s l,next)else(.row nl e s (.x next),next+1))else(.dead,next)
 |_=>(.dead,next)
def ate(L:List SS)(base:Nat):Nat->List (List SO)->List SO×Nat
 |next,[]=>([],next)
 |next,os::r=>
  let(o,n1):=aCP L base next os
  let(l,n2):=ate L base n1 r
  (o::l,n2)
def anm:List SS->Nat
 | []=>0
 | [s]=>s.ai.length
 |s::r=>min s.ai.length (anm r)
def ayf(s:SS):SV->Bool
 | .row n l=>(cur s n l).isSome
 |_=>false
def azq(base:Nat)(ai:List SO)(L:List SS):Nat->List Nat->List (Nat×SV)×Nat
 |next,[]=>([],next)
 |next,t::r=>
  let vs:=L.map λ s=>lk s.env t
  let q:SV×Nat:=match vs with
   | .row n _::_=>
     if(L.all λ s=>match lk s.env t with| .row m l=>decide (m=n)&&(cur s m l).isSome|_=>false)=true then
      (match ai[n]? with|some (.row _ _ _ l)=>(.row n l,next)|_=>(.top,next))else(.top,next)
   |_=>aCO base next vs
  let q:SV×Nat:=if q.1.sc ai.length=true then q else(.top,q.2)
  let(l,n2):=azq base ai L q.2 r
  match q.1 with
  | .top=>(l,n2)
  |v=>((t,v)::l,n2)
def fixC(ai:List SO):SV->SV
 | .row n (.c .top)=>match ai[n]? with|some (.row _ _ _ l)=> .row n l|_=> .top
 |v=>v
def aCS(ai:List SO):SO->SO
 | .box e cs=> .box e (cs.map (fixC ai))
 |o=>o
def gen(base:Nat)(L:List SS):SS:=
 match L with
 | []=>default
 |s::_=>
  let(asG,n1):=ate L base base ((List.range (anm L)).map λ k=>L.map λ s=>s.ai.getD k .dead)
  let ai:=asG.map (aCS asG)
  let(env,n2):=azq base ai L n1 (s.env.map (·.1))
  ⟨env,ai,n2,s.kn.filter λ p=>decide (p.1<base)⟩
def ar6(s:SS)(t:SS):Option (Nat×Nat×Nat):=
 s.env.findSome? λ p=>match p.2 with
   | .d (.c .aw)=>match lk t.env p.1 with
     | .row n l=>match cur t n l with
       |some (_,e,m)=>some (p.1,e,m)
       |none=>none
     |_=>none
   |_=>none
def ug(t:SS)(k:Nat):Nat->List SV->Option (Nat×Nat×Nat×Nat)
 |_,[]=>none
 |j,v::r=>match v with
  | .d (.c .aw)=>match m8 t k with
    |some (_,ds)=>match ds.getD j .top with
     | .row n l=>match cur t n l with
       |some (_,e,m)=>some (k,j,e,m)
       |none=>ug t k (j+1) r
     |_=>ug t k (j+1) r
    |none=>none
  |_=>ug t k (j+1) r
def aah(t:SS):Nat->List SO->Option (Nat×Nat×Nat×Nat)
 |_,[]=>none
 |k,o::r=>match o with
  | .box _ cs=>match ug t k 0 cs with
    |some q=>some q
    |none=>aah t (k+1) r
  |_=>aah t (k+1) r
def oY(s:SS)(k j t m:Nat):SS:=
 match m8 s k with
 |some (e,cs)=>{s with ai:=s.ai.set k (.box e (cs.set j (.row s.ai.length (.c (.sl [])))))++ [.row true t m (.c (.sl []))]}
 |none=>s
inductive Conv where
 |slot (k t m:Nat)
 |cell (k j t m:Nat)
 |fbx (n:Nat)
 |avO (n:Nat)
def ar5(s:SS)(t:SS):Option Conv:=
 s.env.findSome? λ p=>match p.2 with
   | .ptr n _=>match lk t.env p.1 with
     | .ip _ _=>some (.fbx n)
     |_=>none
   | .row n l=>match lk t.env p.1 with
     | .d _=>if(cur s n l).isSome=true then some (.avO n)else none
     |_=>none
   |_=>none
def ao5(s:SS)(L:List SS):Option Conv:=
 match L.findSome? (ar6 s)with
 |some (k,t,m)=>some (.slot k t m)
 |none=>match L.findSome? (λ t=>aah t 0 s.ai)with
  |some (k,j,t,m)=>some (.cell k j t m)
  |none=>L.findSome? (ar5 s)
def Conv.run(s:SS):Conv->SS
 | .slot k t m=>match lk s.env k with
   | .d (.c .aw)=>oX s t m k
   |_=>s
 | .cell k j t m=>match m8 s k with
   |some (_,cs)=>match cs[j]? with
    |some (.d (.c .aw))=>oY s k j t m
    |_=>s
   |none=>s
 | .fbx n=>match m8 s n with
   |some (_,cs)=>zV (cs.foldl pB s) n
   |none=>s
 | .avO n=>adT s n
def qV(t:T):List SS:=t.leaves.filterMap λ p=>match p.1 with| .normal=>some p.2|_=>none
def amx(a b:SS):Bool:=
 decide (a.nv=b.nv)&&decide (a.env.length=b.env.length)&&decide (a.ai.length=b.ai.length)&&
 ((a.env.zip b.env).all λ p=>decide (p.1.1=p.2.1)&&p.1.2.beq p.2.2)&&((a.ai.zip b.ai).all λ p=>p.1.beq p.2)
def anM(live:List Nat)(s:SS):SS:={s with env:=live.filterMap λ t=>match lk s.env t with| .top=>none|v=>some (t,v)}
def vm(body:SS->Option T):Nat->SS->SS->Option (SS×SS×T)
 |0,_,_=>none
 |n+1,s,h=>match body h with
  |none=>none
  |some t=>
   match ao5 s (qV t)with
   |some c=>if amx (c.run s) s=true then none else vm body n (c.run s) (c.run s)
   |none=>
    if amx h (gen s.nv (s::qV t))=true then some (s,h,t)else vm body n s (gen s.nv (s::qV t))
def aR.ahP:aR->Bool
 | .k8 _=>true
 |_=>false
def aR.drawn:aR->Option (List (List Nat)×List aO)
 | .region (some rows) ops=>some (rows,ops)
 |_=>none
def aR.auT:aR->Bool
 | .cond _ _ _=>true
 |_=>false
def qE(body:SS->Option T):Nat->SS->Option (SS×T)
 |0,_=>none
 |n+1,s=>match body s with
  |none=>none
  |some t=>
   if 2<=(qV t).length then
    match ao5 s (qV t)with
    |some c=>qE body n (c.run s)
    |none=>some (s,t)
   else some (s,t)
def ax5(L:List SS)(h:SS):Bool:=
 match L with
 |s::_::_=>s.env.any λ p=>(match lk h.env p.1 with| .top=>true|_=>false)&&L.all λ s'=>ayf s' (lk s'.env p.1)
 |_=>false
def xC(n0:Nat)(fl:List Nat):aR->SS->Option T
 | .skip,s=>some (.leaf .normal s)
 | .region none ops,s=>pG fl false ops s
 | .region (some rows) ops,s=>mC rows ops ops [] s
 | .gZ ops,s=>pG fl true ops s
 | .seq a b,s=>match xC n0 fl a s with
   |none=>none
   |some t0=>
    let L:=qV t0
    if b.ahP=true/\((t0.abZ=true/\1<=L.length)∨2<=L.length)/\ax5 L (gen s.nv L)=false then
     let h:=gen s.nv L
     match t0.fill (λ x s'=>match x with
      | .normal=>(coerce n0 s.nv s' h).map .jump
      |x=>some (.dq (.leaf x s'))) 0,xC n0 fl b h with
     |some t1,some t2=>some (.bind (h.nv- s.nv) t1 t2)
     |_,_=>none
    else t0.fill (λ x s'=>match x with| .normal=>xC n0 fl b s'|x=>some (.leaf x s')) 0
 | .cond c t f,s=>match cP s c with
   | .d (.c (.v (.bool b)))=>if b=true then xC n0 fl t s else xC n0 fl f s
   | .d c=>match xC n0 fl t s,xC n0 fl f s with
     |some t1,some t2=>if s.cl=true then some (.ite c t1 t2)else none
     |_,_=>none
   |_=>none
 | .block id b,s=>match xC n0 fl b s with
   |none=>none
   |some t=>t.fill (λ x s'=>match x with
    | .exit i=>some (if i=id then .leaf .normal s' else .leaf (.exit i) s')
    |x=>some (.leaf x s')) 0
 | .loop b,s=>match vm (xC n0 fl b) 8 s s with
   |none=>none
   |some (s1,h,t)=>match coerce n0 s1.nv s1 h with
    |some init=>match t.fill (λ x s'=>match x with
      | .normal=>(coerce n0 s1.nv s' h).map .jump
      |x=>some (.dq (.leaf x s'))) 0 with
     |some t1=>some (.loop init t1)
     |none=>none
    |none=>none
 | .exit id,s=>some (.leaf (.exit id) s)
 | .ret,s=>some (.leaf .ret s)
 | .ar live c,s=>match xC n0 fl c s with
   |none=>none
   |some t=>t.fill (λ x s'=>match x with
    | .normal=>some (.leaf .normal (anM live s'))
    |x=>some (.leaf x s')) 0
 | .k8 c,s=>if c.auT=true then(match qE (xC n0 fl c) 6 s with
  |some q=>some q.2
  |none=>none)else match c.drawn with
   |some q=>(afY q.1 q.2 6 s).map (·.2.2)
   |none=>xC n0 fl c s
def aR.weaken:aR->aR
 | .region none ops=> .gZ ops
 | .region (some rows) ops=> .k8 (.region (some rows) ops)
 | .seq a b=> .seq a.weaken (.k8 b.weaken)
 | .cond c t f=> .k8 (.cond c t.weaken f.weaken)
 | .block id b=> .block id b.weaken
 | .loop b=> .loop b.weaken
 | .ar l c=> .ar l c.weaken
 | .k8 c=> .k8 c.weaken
 |c=>c
def abH(s:SS):dG->Option SV
 | .tmp t=>some (lk s.env t)
 | .cell t n=>match lk s.env t with
   | .ptr k 0=>match m8 s k with
     |some (_,cs)=>match n with
      |none=>none
      |some m=>if cs.length=m/\m≠1 then some (.agg cs)else none
     |none=>none
   |_=>none
def arY(s:SS):SV->Option D
 | .d x=>some x
 | .row n l=>if(cur s n l).isSome=true then some (.sl l)else none
 |_=>none
def afT(s:SS):List SV->Option (List D)
 | []=>some []
 |v::r=>match arY s v,afT s r with
  |some d,some ds=>some (d::ds)
  |_,_=>none
def avT(s:SS):SV->Option D
 | .agg cs=>(afT s cs).map .agg
 |v=>arY s v
def aab(s:SS):List dG->Option (List D)
 | []=>some []
 |r::rs=>match abH s r with
  |some v=>match avT s v,aab s rs with
   |some d,some ds=>some (d::ds)
   |_,_=>none
  |none=>none
def lv(g:hD):SS:=⟨(List.range g.args.length).map λ i=>(i,g.args.getD i .top),g.ai,g.n,[]⟩
def yA(s:SS):List dG->Option (List SV)
 | []=>some []
 |r::rs=>match abH s r,yA s rs with
  |some v,some vs=>some (v::vs)
  |_,_=>none
def vP:List SV->SV
 | [v]=>v
 |vs=> .a9 vs
def yH(p v:SV):SV:=
 match p with
 | .d _=>match ahn v with
   |some d=> .d d
   |none=>v
 |_=>v
def ac8(p v:SV):SV:=
 match p,v with
 | .a9 ps,.a9 vs=> .a9 ((List.range vs.length).map λ i=>yH (ps.getD i .top) (vs.getD i .top))
 | .agg ps,.agg vs=> .agg ((List.range vs.length).map λ i=>yH (ps.getD i .top) (vs.getD i .top))
 |p,v=>yH p v
def arZ(g:hD)(s:SS)(v:SV):Option (List D×List Nat):=
 let q0:Mt:=([],(List.range g.ai.length).map λ n=>(n,n))
 let q1:=match g.res,v with
  | .a9 ps,.a9 ws=>tC [] ps ws q0
  | .agg ps,.agg ws=>tC [] ps ws q0
  |p,v=>ano [] p v q0
 let q:=tD s 0 g.cz (tD s 0 g.cz q1)
 match(List.range g.m).mapM (az3 q.1),(List.range g.cz.length).mapM (awm q.2)with
 |some τ,some dp=>some (τ,dp)
 |_,_=>none
def aac(s:SS)(dp:List Nat):Nat->Nat:=λ n=>if n<dp.length then dp.getD n 0 else s.ai.length+n
def qy(g:hD)(rs:List dG)(s:SS):Option (List D×List Nat):=
 match yA s rs with
 |none=>none
 |some vs=>match arZ g s (ac8 g.res (vP vs))with
  |none=>none
  |some (τ,dp)=>
   if s.cl=true/\g.ok=true/\(g.res.ahW τ (aac s dp)).beq (ac8 g.res (vP vs))=true/\dp.length=g.cz.length/\uS dp=true/\(List.range g.ai.length).all (λ n=>decide (aac s dp n=n))=true/\
    afS s τ (aac s dp) 0 g.cz=true/\τ.length=g.m/\D.cls s.nv τ=true then some (τ,dp)else none
end Go.Ab
