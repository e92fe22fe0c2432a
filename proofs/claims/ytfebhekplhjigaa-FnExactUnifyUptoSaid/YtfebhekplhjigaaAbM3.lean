/- Part of a proof: the functions that the law reaches, walked by the abstract logic of the texts Ab. -/
import Derived.Test.YtfebhekplhjigaaAbM2
import Derived.Deep.LoopGhost
import Derived.Laws.Strings
import Derived.WideKeyArgs
import Derived.ChangeSame
import Derived.OpenShut
import Derived.JoinedCond
import Derived.ChangeArms
open Nat(zero_mul le_refl zero_add)
open Bool(and_eq_true)
open Option(bind_eq_bind pure_def bind_eq_some_iff bind_some map_eq_some_iff)
open List(mapM_cons map_cons getElem?_map nil_append length_zip getElem?_take mem_of_getElem? mem_append_left)
set_option linter.unusedVariables false
set_option linter.unusedSimpArgs false
namespace Go.Ab
structure Sat(I0:cZ)(L0:Nat->Loc)(O0:List aa)(w0:World)(nt:Nat)(e:Env)(O:List aa)(a:Act)(w:World)(I:cZ)(L:Nat->Loc):Prop where
 uE:Good I0 L0 O0 w0 I L O w
 env:∀t,R I L O (e t) (a.tmps.getD t undef)
 size:nt<=a.tmps.size
 defers:a.defers= []
section
variable {P:Program} {I0:cZ} {L0:Nat->Loc} {O0:List aa} {w0:World} {nt:Nat}
theorem apn(tmps:Array Value)(d:Nat)(v:Value)(hd:d<tmps.size)(t:Nat):(tmps.setIfInBounds d v).getD t undef=if t=d then v else tmps.getD t undef:=by
 simp only[Array.getD_eq_getD_getElem?,Array.getElem?_setIfInBounds];by_cases h:d=t
 ·subst h;simp[hd]
 ·rw[if_neg h,if_neg (λ k=>h k.symm)]
theorem Sat.put{e:Env}{O O':List aa}{a:Act}{w w':World}{I I':cZ}{L L':Nat->Loc}(h:Sat I0 L0 O0 w0 nt e O a w I L){d:Option Nat}(hd:d.all (·<nt)=true){x:AV}{y:Value}
  (hg:Good I L O w I' L' O' w') (hr:R I' L' O' x y):Sat I0 L0 O0 w0 nt (bB e d x) O' (a.put d y) w' I' L':=by
 refine⟨h.uE.trans hg,λ t=> ?_,?_,?_⟩
 ·cases d with
  |none=>exact(h.env t).mono hg.ext
  |some d=>
   have aw:d<a.tmps.size:=by have:=h.size;simp at hd;omega
   simp only[bB,Env.set,Act.put];rw[apn _ _ _ aw]
   split
   ·exact hr
   ·exact(h.env t).mono hg.ext
 ·cases d<;>simp[Act.put];exact h.size;exact h.size
 ·cases d<;>simp[Act.put];exact h.defers;exact h.defers
theorem Sat.ajn{e e':Env}{O:List aa}{a:Act}{w:World}{I:cZ}{L:Nat->Loc}(h:Sat I0 L0 O0 w0 nt e O a w I L)(he:∀t,R I L O (e' t) (a.tmps.getD t undef)):Sat I0 L0 O0 w0 nt e' O a w I L:=
 ⟨h.uE,he,h.size,h.defers⟩
theorem adD{ops:Array Oper}{K:Env->List aa->Prop}{Q:Exit->Act->World->Prop}(hq:∀e O a w I L,K e O->Sat I0 L0 O0 w0 nt e O a w I L->Q .normal a w):
  ∀(l:List Oper) (al:List aH),l.mapM (rY P nt ops)=some (al.map aH.strip)->∀e O a w I L,wpOps P al e O K->Sat I0 L0 O0 w0 nt e O a w I L->wpList P ops Q l a w
 | [],al,h,e,O,a,w,I,L,hk,hs=>by
   simp at h;subst h;exact hq _ _ _ _ _ _ hk hs
 |o::l,al,h,e,O,a,w,I,L,hk,hs=>by
  simp only[mapM_cons,bind_eq_bind,pure_def,bind_eq_some_iff,Option.some.injEq]at h;obtain⟨b,hb,bs,hbs,h⟩:=h;cases al with
  |nil=>simp at h
  |cons ao al=>
   simp only[map_cons,List.cons.injEq]at h;obtain⟨rfl,rfl⟩:=h;have ih:=adD hq l al hbs;unfold rY at hb
   split at hb
   case h_2=>cases hb
   case h_1 op g hop hg=>
    split at hb
    case isFalse=>cases hb
    case isTrue hd=>
     simp only[Option.some.injEq,aH.strip,aH.mk.injEq]at hb;obtain⟨hgu,abQ,aoR⟩:=hb;subst aoR;rw[abQ]at hd
     have step:∀e1 I1 L1,Sat I0 L0 O0 w0 nt e1 O a w I1 L1->(wpOp P ao.op e1 O λ x O'=>wpOps P al (bB e1 ao.dst x) O' K)->o.wp P a w (wpList P ops Q l) Q:=by
      intro e1 I1 L1 zr xk;refine aaR hop zr.uE.inv zr.env xk λ x O' y I' L' w' pr wQ pF=> ?_
      rw[abQ];exact ih _ _ _ _ _ _ pr (zr.put hd wQ pF)
     have skip:∀e1 I1 L1,Sat I0 L0 O0 w0 nt e1 O a w I1 L1->wpOps P al (bB e1 ao.dst (.a9 [])) O K->wpList P ops Q l (a.put o.dst undef) w:=by
      intro e1 I1 L1 zr xk;rw[abQ];exact ih _ _ _ _ _ _ xk (zr.put hd (.refl zr.uE.inv) (.a9 [] #[] rfl (by simp)))
     simp only[wpOps]at hk;unfold wpList;cases hog:o.guard with
     |none=>
      rw[hog]at hg;simp only[tl,Option.some.injEq]at hg;subst hg;rw[←hgu]at hk;rw[if_pos (by simp[Region.wanted,hog])];exact .inl (step _ _ _ hs hk)
     |some jb=>
      obtain⟨j,want⟩:=jb;rw[hog]at hg;simp only[tl]at hg
      split at hg
      case h_2=>cases hg
      case h_1 t ht=>
       split at hg
       case isFalse=>cases hg
       case isTrue htn=>
        simp only[Option.some.injEq]at hg;subst hg;rw[←hgu]at hk;simp only at hk;have aw:t<a.tmps.size:=Nat.lt_of_lt_of_le htn hs.size;have bX:a.tmps[t]? =some (a.tmps.getD t undef):=by simp[Array.getD,aw]
        have hr:=hs.env t;have hw:Region.wanted o (yielded ops a.tmps)=(yielded ops a.tmps j==some want):=by simp[Region.wanted,hog]
        have hy:yielded ops a.tmps j=match some (a.tmps.getD t undef)with|some (.bool b)=>some b|_=>none:=by
         unfold yielded;rw[ht];simp only[bind_some];rw[bX];cases a.tmps.getD t undef<;>rfl
        split at hk
        ·rename_i b hb;rw[hb]at hr;have hv:=hr.bool;rw[hv]at hy;simp only at hy;rw[hw,hy]
         have rj:∀c,b=c->Sat I0 L0 O0 w0 nt (e.set t (.v (.bool c))) O a w I L:=by
          intro c hc;refine hs.ajn λ t'=> ?_
          unfold Env.set
          split
          ·rename_i htt;subst htt;rw[hv,hc];exact .v _ rfl
          ·exact hs.env t'
         by_cases m8:b=want
         ·rw[if_pos (by simp[m8])];exact .inl (step _ _ _ (rj want m8) (hk.1 m8))
         ·rw[if_neg (by simpa using m8)];have mI:b= !want:=by cases b<;>cases want<;>simp_all
          exact skip _ _ _ (rj (!want) mI) (hk.2 mI)
        ·rename_i hb;rw[hb]at hr
         have hv:a.tmps.getD t undef= .tuple #[]:=by
          generalize a.tmps.getD t undef=X at hr;cases hr with
          |a9 _ vs h1 _=>congr 1;exact Array.eq_empty_of_size_eq_zero h1.symm
         rw[hv]at hy;simp only at hy;rw[hw,hy,if_neg (by simp)];exact skip _ _ _ hs hk
        ·exact hk.elim
def AX.to:AX->Exit
 | .normal=> .normal
 | .exit id=> .exit id
 | .ret=> .ret
theorem arA{I:cZ}{L:Nat->Loc}{O:List aa}{e:Env}{f:Nat->Value}(h:∀t,R I L O (e t) (f t))(live:List Nat):∀t,R I L O (wG live e t) (f t):=by
 intro t;unfold wG
 split
 ·exact h t
 ·exact .top _
theorem Sat.wk{e e':Env}{O O':List aa}{a:Act}{w:World}{I:cZ}{L:Nat->Loc}(h:Sat I0 L0 O0 w0 nt e O a w I L)(hw:WK O0.length e O e' O'):∃I' L',Sat I0 L0 O0 w0 nt e' O' a w I' L':=by
 obtain⟨I',L',hg,hr⟩:=hw I0 L0 O0 w0 I L w _ rfl h.uE h.env;exact⟨I',L',hg,hr,h.size,h.defers⟩
theorem aaQ{ops:Array Oper}{K:Env->List aa->Prop}{Q:Exit->Act->World->Prop}(hq:∀e O a w I L,K e O->Sat I0 L0 O0 w0 nt e O a w I L->Q .normal a w):
  ∀(l:List Oper) (al:List aH),l.mapM (rY P nt ops)=some (al.map aH.strip)->∀e O a w I L,gF P O0.length al e O K->Sat I0 L0 O0 w0 nt e O a w I L->wpList P ops Q l a w
 | [],al,h,e,O,a,w,I,L,hk,hs=>by
   simp at h;subst h;obtain⟨e',O',hw,hk⟩:=hk;obtain⟨I',L',hs'⟩:=hs.wk hw;exact hq _ _ _ _ _ _ hk hs'
 |o::l,al,h,e00,O00,a,w,I00,L00,hk,aBl=>by
  simp only[mapM_cons,bind_eq_bind,pure_def,bind_eq_some_iff,Option.some.injEq]at h;obtain⟨b,hb,bs,hbs,h⟩:=h;cases al with
  |nil=>simp at h
  |cons ao al=>
   simp only[map_cons,List.cons.injEq]at h;obtain⟨rfl,rfl⟩:=h;simp only[gF]at hk;obtain⟨e,O,hwk,hk⟩:=hk;obtain⟨I,L,hs⟩:=aBl.wk hwk;have ih:=aaQ hq l al hbs;unfold rY at hb
   split at hb
   case h_2=>cases hb
   case h_1 op g hop hg=>
    split at hb
    case isFalse=>cases hb
    case isTrue hd=>
     simp only[Option.some.injEq,aH.strip,aH.mk.injEq]at hb;obtain⟨hgu,abQ,aoR⟩:=hb;subst aoR;rw[abQ]at hd
     have step:∀e1 I1 L1,Sat I0 L0 O0 w0 nt e1 O a w I1 L1->(wpOp P ao.op e1 O λ x O'=>gF P O0.length al (bB e1 ao.dst x) O' K)->o.wp P a w (wpList P ops Q l) Q:=by
      intro e1 I1 L1 zr xk;refine aaR hop zr.uE.inv zr.env xk λ x O' y I' L' w' pr wQ pF=> ?_
      rw[abQ];exact ih _ _ _ _ _ _ pr (zr.put hd wQ pF)
     have skip:∀e1 I1 L1,Sat I0 L0 O0 w0 nt e1 O a w I1 L1->gF P O0.length al (bB e1 ao.dst (.a9 [])) O K->wpList P ops Q l (a.put o.dst undef) w:=by
      intro e1 I1 L1 zr xk;rw[abQ];exact ih _ _ _ _ _ _ xk (zr.put hd (.refl zr.uE.inv) (.a9 [] #[] rfl (by simp)))
     unfold wpList;cases hog:o.guard with
     |none=>
      rw[hog]at hg;simp only[tl,Option.some.injEq]at hg;subst hg;rw[←hgu]at hk;rw[if_pos (by simp[Region.wanted,hog])];exact .inl (step _ _ _ hs hk)
     |some jb=>
      obtain⟨j,want⟩:=jb;rw[hog]at hg;simp only[tl]at hg
      split at hg
      case h_2=>cases hg
      case h_1 t ht=>
       split at hg
       case isFalse=>cases hg
       case isTrue htn=>
        simp only[Option.some.injEq]at hg;subst hg;rw[←hgu]at hk;simp only at hk;have aw:t<a.tmps.size:=Nat.lt_of_lt_of_le htn hs.size;have bX:a.tmps[t]? =some (a.tmps.getD t undef):=by simp[Array.getD,aw]
        have hr:=hs.env t;have hw:Region.wanted o (yielded ops a.tmps)=(yielded ops a.tmps j==some want):=by simp[Region.wanted,hog]
        have hy:yielded ops a.tmps j=match some (a.tmps.getD t undef)with|some (.bool b)=>some b|_=>none:=by
         unfold yielded;rw[ht];simp only[bind_some];rw[bX];cases a.tmps.getD t undef<;>rfl
        split at hk
        ·rename_i b hb;rw[hb]at hr;have hv:=hr.bool;rw[hv]at hy;simp only at hy;rw[hw,hy]
         have rj:∀c,b=c->Sat I0 L0 O0 w0 nt (e.set t (.v (.bool c))) O a w I L:=by
          intro c hc;refine hs.ajn λ t'=> ?_
          unfold Env.set
          split
          ·rename_i htt;subst htt;rw[hv,hc];exact .v _ rfl
          ·exact hs.env t'
         by_cases m8:b=want
         ·rw[if_pos (by simp[m8])];exact .inl (step _ _ _ (rj want m8) (hk.1 m8))
         ·rw[if_neg (by simpa using m8)];have mI:b= !want:=by cases b<;>cases want<;>simp_all
          exact skip _ _ _ (rj (!want) mI) (hk.2 mI)
        ·rename_i hb;rw[hb]at hr
         have hv:a.tmps.getD t undef= .tuple #[]:=by
          generalize a.tmps.getD t undef=X at hr;cases hr with
          |a9 _ vs h1 _=>congr 1;exact Array.eq_empty_of_size_eq_zero h1.symm
         rw[hv]at hy;simp only at hy;rw[hw,hy,if_neg (by simp)];exact skip _ _ _ hs hk
        ·exact hk.elim
theorem Sat.drawn{e:Env}{O:List aa}{a:Act}{w:World}{I:cZ}{L:Nat->Loc}(h:Sat I0 L0 O0 w0 nt e O a w I L)(k:Nat):Sat I0 L0 O0 w0 nt e O a {w with drawn:=k} I L:=
 ⟨h.uE.trans (Good.drawn h.uE.inv k),h.env,h.size,h.defers⟩
theorem aij{ops:Array Oper}{o:Oper}{ao:aH}(hb:rY P nt ops o=some ao.strip){e e':Env}{O O':List aa}(pK:Step P ao e O e' O'){a:Act}{w:World}{I:cZ}{L:Nat->Loc}(hs:Sat I0 L0 O0 w0 nt e O a w I L)
  {next:Act->World->Prop} {Q:Exit->Act->World->Prop} (hn:∀a w I L,Sat I0 L0 O0 w0 nt e' O' a w I L->next a w):
  if Region.wanted o (yielded ops a.tmps)=true then o.wp P a w next Q else next (a.put o.dst undef) w:=by
 unfold rY at hb
 split at hb
 case h_2=>cases hb
 case h_1 op g hop hg=>
  split at hb
  case isFalse=>cases hb
  case isTrue hd=>
   simp only[Option.some.injEq,aH.strip,aH.mk.injEq]at hb;obtain⟨hgu,abQ,aoR⟩:=hb;subst aoR;rw[abQ]at hd
   have ao5:∀t want,ao.guard=some (t,want)->∃j,o.guard=some (j,want)/\((ops[j]?).bind (·.dst))=some t/\t<nt:=by
    intro t want h;rw[h]at hgu;subst hgu;cases hog:o.guard with
    |none=>rw[hog]at hg;simp[tl]at hg
    |some jb=>
     obtain⟨j,b⟩:=jb;rw[hog]at hg;simp only[tl]at hg
     split at hg
     case h_2=>cases hg
     case h_1 t' ht'=>
      split at hg
      case isFalse=>cases hg
      case isTrue htn=>
       simp only[Option.some.injEq,Prod.mk.injEq]at hg;obtain⟨rfl,rfl⟩:=hg;exact⟨j,rfl,ht',htn⟩
   have aoH:∀{j t},((ops[j]?).bind (·.dst))=some t->t<nt->yielded ops a.tmps j=match some (a.tmps.getD t undef)with|some (.bool b)=>some b|_=>none:=by
    intro j t ht htn;have aw:t<a.tmps.size:=Nat.lt_of_lt_of_le htn hs.size;have bX:a.tmps[t]? =some (a.tmps.getD t undef):=by simp[Array.getD,aw]
    unfold yielded;rw[ht];simp only[bind_some];rw[bX];cases a.tmps.getD t undef<;>rfl
   cases pK with
   |run x _ hq hx=>
    have hw:Region.wanted o (yielded ops a.tmps)=true:=by
     cases hag:ao.guard with
     |none=>
      have:o.guard=none:=by
       rw[hag]at hgu;subst hgu;cases hog:o.guard with
       |none=>rfl
       |some jb=>
        obtain⟨j,b⟩:=jb;rw[hog]at hg;simp only[tl]at hg
        split at hg
        ·split at hg<;>simp at hg
        ·cases hg
      simp[Region.wanted,this]
     |some tw=>
      obtain⟨t,want⟩:=tw;obtain⟨j,h1,h2,h3⟩:=ao5 t want hag;have hr:=hs.env t;rw[hq t want hag]at hr;have hy:=aoH h2 h3;rw[hr.bool]at hy;simp only at hy;simp[Region.wanted,h1,hy]
    rw[if_pos hw];refine aaR hop hs.uE.inv hs.env (hx (λ x' oR=>x'=x/\oR=O') ⟨rfl,rfl⟩) λ x' oR y I' L' w' pr wQ pF=> ?_
    obtain⟨rfl,rfl⟩:=pr;rw[abQ];exact hn _ _ _ _ (hs.put hd wQ pF)
   |skip t want hgt hb=>
    obtain⟨j,h1,h2,h3⟩:=ao5 t want hgt;have hr:=hs.env t;have hy:=aoH h2 h3
    have hw:Region.wanted o (yielded ops a.tmps)=false:=by
     rcases hb with hb|hb
     ·rw[hb]at hr;rw[hr.bool]at hy;simp only at hy;simp[Region.wanted,h1,hy]
     ·rw[hb]at hr
      have hv:a.tmps.getD t undef= .tuple #[]:=by
       generalize a.tmps.getD t undef=X at hr;cases hr with
       |a9 _ vs h1 _=>congr 1;exact Array.eq_empty_of_size_eq_zero h1.symm
      rw[hv]at hy;simp only at hy;simp[Region.wanted,h1,hy]
    rw[if_neg (by simp[hw])];rw[abQ];exact hn _ _ _ _ (hs.put hd (.refl hs.uE.inv) (.a9 [] #[] rfl (by simp)))
theorem adt{ops:Array Oper}{al:List aH}(hm:ops.toList.mapM (rY P nt ops)=some (al.map aH.strip))(hlen:al.length=ops.size){e2:Env}{O2:List aa}{Q:Exit->Act->World->Prop}
  (hq:∀a w I L,Sat I0 L0 O0 w0 nt e2 O2 a w I L->Q .normal a w):
  ∀(l:List Nat),(∀i∈l,i<ops.size)->∀e O a w I L,Run P (l.map λ i=>al.getD i ⟨none,none,.aq (.c .top)⟩) e O e2 O2->Sat I0 L0 O0 w0 nt e O a w I L->Go.wpOps P ops Q l a w
 | [],_,e,O,a,w,I,L,hr,hs=>by
   cases hr;exact hq _ _ _ _ hs
 |i::l,hl,e,O,a,w,I,L,hr,hs=>by
  cases hr with
  |cons pK hr=>
   have hi:=hl i (by simp);have ho:ops[i]? =some ops[i]:=by simp[hi]
   have ha:al[i]? =some (al.getD i ⟨none,none,.aq (.c .top)⟩):=by simp[List.getD,show i<al.length by omega]
   have hc:=(mapM_some hm).2 i ops[i] ((al.getD i ⟨none,none,.aq (.c .top)⟩).strip) (by simp) (by rw[getElem?_map,ha];rfl);have:=aij (Q:=Q) hc pK hs (next:=Go.wpOps P ops Q l) λ a w I L hs'=>adt hm hlen hq l (λ j hj=>hl j (by simp[hj])) _ _ a w I L hr hs'
   simp only[Go.wpOps,ho]
   split
   ·rename_i hw;rw[if_pos hw]at this;exact .inl this
   ·rename_i hw;rw[if_neg hw]at this;exact this
theorem bR{code:Code}{c:aK}(h:fE P nt code=some c):
  (code= .skip/\c= .skip)∨(∃id ops draw rows afP,code= .region id ops draw/\c= .region rows afP/\ops.toList.mapM (rY P nt ops)=some afP/\((draw=false/\rows=none)∨(draw=true/\rows=some (rowsOf ops)/\(Region.departs ops=false∨P.follows .mixedOrders=true))))∨
  (∃x y ax ay,code= .seq x y/\c= .seq ax ay/\fE P nt x=some ax/\fE P nt y=some ay)∨
  (∃o x y ao ax ay,code= .cond o x y/\c= .cond ao ax ay/\bu o=some ao/\fE P nt x=some ax/\fE P nt y=some ay)∨
  (∃id b ab,code= .block id b/\c= .block id ab/\fE P nt b=some ab)∨(∃b ab,code= .loop b/\c= .loop ab/\fE P nt b=some ab)∨
  (∃id,code= .exit id/\c= .exit id)∨(code= .ret/\c= .ret):=by
 cases code with
 |skip=>simp only[fE,Option.some.injEq]at h;exact .inl ⟨rfl,h.symm⟩
 |region id ops draw=>
  cases draw
  ·simp only[fE,map_eq_some_iff]at h;obtain⟨afP,h1,h2⟩:=h;exact .inr (.inl ⟨id,ops,false,_,afP,rfl,h2.symm,h1,.inl ⟨rfl,rfl⟩⟩)
  ·simp only[fE]at h
   split at h
   ·cases h
   ·rename_i hd;simp only[map_eq_some_iff]at h;obtain⟨afP,h1,h2⟩:=h
    exact .inr (.inl ⟨id,ops,true,_,afP,rfl,h2.symm,h1,.inr ⟨rfl,rfl,by
     by_cases h:Region.departs ops=true
     ·exact .inr (by simpa [h]using hd)
     ·exact .inl (by simpa using h)⟩⟩)
 |seq x y=>
  simp only[fE]at h
  split at h
  ·rename_i ax ay h1 h2;simp only[Option.some.injEq]at h;exact .inr (.inr (.inl ⟨x,y,ax,ay,rfl,h.symm,h1,h2⟩))
  ·cases h
 |cond o x y=>
  simp only[fE]at h
  split at h
  ·rename_i ao ax ay h0 h1 h2;simp only[Option.some.injEq]at h;exact .inr (.inr (.inr (.inl ⟨o,x,y,ao,ax,ay,rfl,h.symm,h0,h1,h2⟩)))
  ·cases h
 |block id b=>
  simp only[fE,map_eq_some_iff]at h;obtain⟨ab,h1,h2⟩:=h;exact .inr (.inr (.inr (.inr (.inl ⟨id,b,ab,rfl,h2.symm,h1⟩))))
 |loop b=>
  simp only[fE,map_eq_some_iff]at h;obtain⟨ab,h1,h2⟩:=h;exact .inr (.inr (.inr (.inr (.inr (.inl ⟨b,ab,rfl,h2.symm,h1⟩)))))
 |exit id=>simp only[fE,Option.some.injEq]at h;exact .inr (.inr (.inr (.inr (.inr (.inr (.inl ⟨id,rfl,h.symm⟩))))))
 |ret=>simp only[fE,Option.some.injEq]at h;exact .inr (.inr (.inr (.inr (.inr (.inr (.inr ⟨rfl,h.symm⟩))))))
 |_=>simp[fE]at h
theorem ajq(c:aK):∀(code:Code),fE P nt code=some c.strip->∀(Q:AX->Env->List aa->Prop) (QM:Exit->Act->World->Prop),
  (∀x e O a w I L,Q x e O->Sat I0 L0 O0 w0 nt e O a w I L->QM x.to a w)->∀e O a w I L,kZ P O0.length c Q e O->Sat I0 L0 O0 w0 nt e O a w I L->code.wp P QM a w:=by
 induction c with
 |skip=>
  intro code hc Q QM hq e O a w I L hk hs;rcases bR hc with⟨rfl,h⟩|⟨_,_,_,_,_,_,h,_⟩|⟨_,_,_,_,_,h,_⟩|⟨_,_,_,_,_,_,_,h,_⟩|⟨_,_,_,_,h,_⟩|⟨_,_,_,h,_⟩|⟨_,_,h⟩|⟨_,h⟩<;>simp only[aK.strip]at h<;>first|(cases h;done)|skip
  exact wp_skip (hq .normal _ _ _ _ _ _ hk hs)
 |region d ops=>
  intro code hc Q QM hq e O a w I L hk hs;rcases bR hc with⟨_,h⟩|⟨id,an5,draw,rows,afP,rfl,h,hm,hdr⟩|⟨_,_,_,_,_,h,_⟩|⟨_,_,_,_,_,_,_,h,_⟩|⟨_,_,_,_,h,_⟩|⟨_,_,_,h,_⟩|⟨_,_,h⟩|⟨_,h⟩<;>simp only[aK.strip]at h<;>first|(cases h;done)|skip
  simp only[aK.region.injEq]at h;obtain⟨rfl,rfl⟩:=h;rcases hdr with⟨rfl,rfl⟩|⟨rfl,rfl,ayY⟩
  case inr=>
   obtain⟨al,te,hk⟩:=hk;rw[←te]at hm;obtain⟨iM,e2,O2,zu,bc,oS,hK⟩:=nQ al hk;rw[nil_append]at oS;refine wp_region_draw λ t=> ?_
   have hlen:al.length=an5.size:=by have:=(mapM_some hm).1;simpa using this
   obtain⟨h1,h2⟩:=aeK ayY (by rw[length_zip,zu];omega) oS bc t;have h3:=h1.run;rw[List.map_map]at h3
   have bX:((λ x:aH×iD=>x.1)∘λ i=>(al.zip iM).getD i (⟨none,none,.aq (.c .top)⟩,⟨[],.any⟩))=λ i=>al.getD i ⟨none,none,.aq (.c .top)⟩:=by
    funext i
    simp only[Function.comp,List.getD];by_cases hi:i<al.length
    ·have ei:i<iM.length:=by omega
     have hz:i<(al.zip iM).length:=by rw[length_zip];omega
     rw[List.getElem?_eq_getElem hz,List.getElem?_eq_getElem hi];simp
    ·rw[List.getElem?_eq_none (by rw[length_zip];omega),List.getElem?_eq_none (by omega)]
     rfl
   rw[bX]at h3;exact adt hm hlen (λ a w I L hs=>hq .normal _ _ _ _ _ _ hK hs) _ h2 e O a _ I L h3 (hs.drawn _)
  exact wp_region_list (adD (λ e O a w I L h hs=>hq .normal e O a w I L h hs) an5.toList ops hm e O a w I L hk hs)
 |seq x y ihx ihy=>
  intro code hc Q QM hq e O a w I L hk hs;rcases bR hc with⟨_,h⟩|⟨_,_,_,_,_,_,h,_⟩|⟨cx,cy,ax,ay,rfl,h,hx,hy⟩|⟨_,_,_,_,_,_,_,h,_⟩|⟨_,_,_,_,h,_⟩|⟨_,_,_,h,_⟩|⟨_,_,h⟩|⟨_,h⟩<;>simp only[aK.strip]at h<;>first|(cases h;done)|skip
  simp only[aK.seq.injEq]at h;obtain⟨rfl,rfl⟩:=h;refine wp_seq (ihx cx hx _ _ ?_ e O a w I L hk hs);intro z e O a w I L hz hs;cases z
  case normal=>exact ihy cy hy Q QM hq e O a w I L hz hs
  case exit id=>exact hq (.exit id) _ _ _ _ _ _ hz hs
  case ret=>exact hq .ret _ _ _ _ _ _ hz hs
 |cond c t f iht ihf=>
  intro code hc Q QM hq e O a w I L hk hs;rcases bR hc with⟨_,h⟩|⟨_,_,_,_,_,_,h,_⟩|⟨_,_,_,_,_,h,_⟩|⟨o,x,y,ao,ax,ay,rfl,h,h0,h1,h2⟩|⟨_,_,_,_,h,_⟩|⟨_,_,_,h,_⟩|⟨_,_,h⟩|⟨_,h⟩<;>simp only[aK.strip]at h<;>first|(cases h;done)|skip
  simp only[aK.cond.injEq]at h;obtain⟨rfl,rfl,rfl⟩:=h;have rc:=ar h0 hs.env;simp only[kZ]at hk
  split at hk
  ·rename_i b hb;rw[hb]at rc;refine wp_cond (t:=b) rc.bool ?_;cases b
   ·exact ihf y h2 Q QM hq e O a w I L (hk.2 rfl) hs
   ·exact iht x h1 Q QM hq e O a w I L (hk.1 rfl) hs
  ·exact hk.elim
 |block id b ih=>
  intro code hc Q QM hq e O a w I L hk hs;rcases bR hc with⟨_,h⟩|⟨_,_,_,_,_,_,h,_⟩|⟨_,_,_,_,_,h,_⟩|⟨_,_,_,_,_,_,_,h,_⟩|⟨id',cb,ab,rfl,h,hb⟩|⟨_,_,_,h,_⟩|⟨_,_,h⟩|⟨_,h⟩<;>simp only[aK.strip]at h<;>first|(cases h;done)|skip
  simp only[aK.block.injEq]at h;obtain⟨rfl,rfl⟩:=h;refine wp_block (ih cb hb _ _ ?_ e O a w I L hk hs);intro z e O a w I L hz hs;cases z
  case normal=>exact hq .normal _ _ _ _ _ _ hz hs
  case exit i=>
   simp only[AX.to,Exit.inBlock];simp only at hz;by_cases hi:i=id
   ·rw[if_pos hi]at hz⊢;exact hq .normal _ _ _ _ _ _ hz hs
   ·rw[if_neg hi]at hz⊢;exact hq (.exit i) _ _ _ _ _ _ hz hs
  case ret=>exact hq .ret _ _ _ _ _ _ hz hs
 |loop b ih=>
  intro code hc Q QM hq e O a w I L hk hs;rcases bR hc with⟨_,h⟩|⟨_,_,_,_,_,_,h,_⟩|⟨_,_,_,_,_,h,_⟩|⟨_,_,_,_,_,_,_,h,_⟩|⟨_,_,_,_,h,_⟩|⟨cb,ab,rfl,h,hb⟩|⟨_,_,h⟩|⟨_,h⟩<;>simp only[aK.strip]at h<;>first|(cases h;done)|skip
  simp only[aK.loop.injEq]at h;subst h;obtain⟨J,n,⟨e',O',hw,hJ⟩,aja⟩:=hk;obtain⟨I',L',hs'⟩:=hs.wk hw;refine wp_loop_ghost (λ m a w=>∃e O I L,J m e O/\Sat I0 L0 O0 w0 nt e O a w I L) n ⟨e',O',I',L',hJ,hs'⟩ ?_;rintro m a w ⟨e1,O1,I1,L1,hJ1,zr⟩;refine ih cb hb _ _ ?_ e1 O1 a w I1 L1 (aja m e1 O1 hJ1) zr;intro z e2 O2 a2 w2 I2 L2 hz hs2;cases z
  case normal=>
   obtain⟨m',e3,O3,aw,hw3,hJ3⟩:=hz;obtain⟨I3,L3,hs3⟩:=hs2.wk hw3;exact⟨m',aw,e3,O3,I3,L3,hJ3,hs3⟩
  case exit id=>exact hq (.exit id) _ _ _ _ _ _ hz hs2
  case ret=>exact hq .ret _ _ _ _ _ _ hz hs2
 |exit id=>
  intro code hc Q QM hq e O a w I L hk hs;rcases bR hc with⟨_,h⟩|⟨_,_,_,_,_,_,h,_⟩|⟨_,_,_,_,_,h,_⟩|⟨_,_,_,_,_,_,_,h,_⟩|⟨_,_,_,_,h,_⟩|⟨_,_,_,h,_⟩|⟨i,rfl,h⟩|⟨_,h⟩<;>simp only[aK.strip]at h<;>first|(cases h;done)|skip
  simp only[aK.exit.injEq]at h;subst h;exact wp_exit (hq (.exit id) _ _ _ _ _ _ hk hs)
 |ret=>
  intro code hc Q QM hq e O a w I L hk hs;rcases bR hc with⟨_,h⟩|⟨_,_,_,_,_,_,h,_⟩|⟨_,_,_,_,_,h,_⟩|⟨_,_,_,_,_,_,_,h,_⟩|⟨_,_,_,_,h,_⟩|⟨_,_,_,h,_⟩|⟨_,_,h⟩|⟨rfl,h⟩<;>simp only[aK.strip]at h<;>first|(cases h;done)|skip
  exact wp_ret (hq .ret _ _ _ _ _ _ hk hs)
 |ai live c ih=>
  intro code hc Q QM hq e O a w I L hk hs;refine ih code hc _ QM ?_ e O a w I L hk hs;intro x e O a w I L hx hs;cases x
  case normal=>exact hq .normal _ _ _ _ _ _ hx (hs.ajn (arA hs.env live))
  all_goals exact hq _ _ _ _ _ _ _ hx hs
 |gK ops=>
  intro code hc Q QM hq e O a w I L hk hs;rcases bR hc with⟨_,h⟩|⟨id,an5,draw,rows,afP,rfl,h,hm,hdr⟩|⟨_,_,_,_,_,h,_⟩|⟨_,_,_,_,_,_,_,h,_⟩|⟨_,_,_,_,h,_⟩|⟨_,_,_,h,_⟩|⟨_,_,h⟩|⟨_,h⟩<;>simp only[aK.strip]at h<;>first|(cases h;done)|skip
  simp only[aK.region.injEq]at h;obtain⟨rfl,rfl⟩:=h;rcases hdr with⟨rfl,h0⟩|⟨rfl,h0,ayY⟩
  case inr=>cases h0
  exact wp_region_list (aaQ (λ e O a w I L h hs=>hq .normal e O a w I L h hs) an5.toList ops hm e O a w I L hk hs)
 |mb c ih=>
  intro code hc Q QM hq e O a w I L hk hs;obtain⟨e',O',hw,hk⟩:=hk;obtain⟨I',L',hs'⟩:=hs.wk hw;exact ih code hc Q QM hq e' O' a w I' L' hk hs'
def apm(a:Act)(r:ResultVar):Sem Value:=
 match r with
 | .tmp t=>pure (a.tmps.getD t undef)
 | .cell b t=>do loadVar t (←asAddr (a.tmps.getD b undef))
theorem agv{e:Env}{O:List aa}{a:Act}{w:World}{I:cZ}{L:Nat->Loc}(hi:Inv I L O w)(he:∀t,R I L O (e t) (a.tmps.getD t undef)):
  ∀(l:List ResultVar) (al:List dg) (acc:List AV) (M:List AV->Prop),l.mapM (amq P)=some al->cK e O al acc M->
   ∃xs vs,M (acc.reverse++xs)/\xs.length=vs.length/\(∀(i:Nat) x v,xs[i]? =some x->vs[i]? =some v->R I L O x v)/\
    (l.mapM (apm a)).run P w= .ok vs w
 | [],al,acc,M,h,hk=>by
   simp at h;subst h;exact⟨[],[],by simpa [cK]using hk,rfl,by simp,by simp⟩
 |r::l,al,acc,M,h,hk=>by
  simp only[mapM_cons,bind_eq_bind,pure_def,bind_eq_some_iff,Option.some.injEq]at h;obtain⟨b,hb,bs,hbs,rfl⟩:=h
  have key:∃x v,cK e O bs (x::acc) M/\R I L O x v/\(apm a r).run P w= .ok v w:=by
   cases r with
   |tmp t=>
    simp only[amq,Option.some.injEq]at hb;subst hb;exact⟨_,_,hk,he t,rfl⟩
   |cell t ty=>
    simp only[amq,map_eq_some_iff]at hb;obtain⟨n,hn,rfl⟩:=hb;simp only[cK,dg.get]at hk
    split at hk
    ·rename_i k hk0;have hr:=he t;rw[hk0]at hr
     split at hk
     ·rename_i t' s x hO;obtain⟨hl,hk⟩:=hk;have hv:=hr.g9 hO rfl;obtain⟨c,⟨kS,g1,cL⟩,g2,g3,g4,g5,g6⟩:=hi.obj k _ _ _ hO;obtain⟨g7,g8⟩:=g6 0 x rfl
      have hex:∀j,∃u,j<n.getD 1->c[0*s+j]? =some u/\∀c',x.cells[j]? =some c'->R I L O c' u:=by
       intro j;by_cases hj:j<n.getD 1
       ·have pL:x.cells[j]? =some (x.cells[j]'(by omega)):=by simp
        obtain⟨u,hu,_,hr⟩:=g8 j _ pL;exact⟨u,λ _=>⟨hu,λ c'' h''=>by rw[pL]at h'';cases h'';exact hr⟩⟩
       ·exact⟨undef,λ h=>(hj h).elim⟩
      let bd:Nat->Value:=λ j=>(hex j).choose
      have ahd:∀j,j<n.getD 1->c[0*s+j]? =some (bd j)/\∀c',x.cells[j]? =some c'->R I L O c' (bd j):=λ j hj=>(hex j).choose_spec hj
      have bc:=vh (P:=P) (t:=ty) hn (L k).aZ 0 bd w (λ j hj=>by
       rw[eC g1];have:=(ahd j hj).1;rwa [zero_mul]at this)
      refine⟨_,_,hk,pk (bd:=bd) (by omega) λ j c' hj iQ=>(ahd j iQ).2 c' (by simpa using hj),?_⟩;simp only[apm,hv];simp[Instr.loadAt,Instr.sureAddr]at bc;simpa [asAddr]using bc
     ·exact hk.elim
    ·exact hk.elim
  obtain⟨x,v,pr,hr,bc⟩:=key;obtain⟨xs,vs,h1,h2,h3,h4⟩:=agv hi he l bs (x::acc) M hbs pr;refine⟨x::xs,v::vs,by simpa using h1,by simp[h2],λ i y u hy hu=> ?_,?_⟩
  ·cases i with
   |zero=>simp at hy hu;subst hy;subst hu;exact hr
   |succ i=>simp at hy hu;exact h3 i y u hy hu
  ·rw[mapM_cons,Sem.run_bind,bc,Result.andThen_ok,Sem.run_bind,h4]
   rfl
theorem agu{fn:Func}{e:Env}{O O':List aa}{a:Act}{w:World}{I:cZ}{L:Nat->Loc}{rs:List dg}{res:AV}{x:AX}(hm:fn.results.toList.mapM (amq P)=some rs)(hs:Sat I0 L0 O0 w0 nt e O a w I L)
  (hk:mW O0.length rs res O' x e O):∃y I' L',(results fn a.tmps).run P w= .ok y w/\R I' L' O' res y/\Good I0 L0 O0 w0 I' L' O' w:=by
 have pr:cK e O rs [] λ xs=>∃e',WK O0.length (λ t=>if t=0 then bn xs else .top) O e' O'/\e' 0=res:=by
  cases x<;>first|exact hk|exact hk.elim
 obtain⟨xs,vs,⟨e',hw,he0⟩,h2,h3,h4⟩:=agv hs.uE.inv hs.env _ _ _ _ hm pr;simp only[List.reverse_nil,nil_append]at hw
 let y:Value:=if h:vs.toArray.size=1 then vs.toArray[0]else .tuple vs.toArray
 have hy:R I L O (bn xs) y:=by
  unfold bn
  split
  ·rename_i x;have hv:vs.length=1:=by rw[←h2];rfl
   have:y=vs[0]'(by omega):=by simp[y,hv]
   rw[this];exact h3 0 x _ rfl (by simp[hv])
  ·rename_i bk
   have hv:vs.length≠1:=by
    rw[←h2];intro h1;obtain⟨x,hx⟩:=List.length_eq_one_iff.1 h1;exact bk x hx
   have:y= .tuple vs.toArray:=by simp[y,hv]
   rw[this];exact .a9 _ _ (by simpa using h2) λ i c v hc hv=>h3 i c v hc (by simpa using hv)
 obtain⟨I',L',hg,hr⟩:=hw I0 L0 O0 w0 I L w (λ t=>if t=0 then y else undef) rfl hs.uE (λ t=>by
  by_cases ht:t=0
  ·subst ht;simpa using hy
  ·simp only[if_neg ht];exact .top _)
 refine⟨y,I',L',?_,?_,hg⟩
 ·have bc:(fn.results.mapM (apm a)).run P w= .ok vs.toArray w:=by
    simp[Array.mapM_eq_mapM_toList,h4]
  have qp:results fn a.tmps=(do let vs ←fn.results.mapM (apm a);pure (if h:vs.size=1 then vs[0]else .tuple vs)):=rfl;rw[qp,Sem.run_bind,bc]
  rfl
 ·have:=hr 0;rw[he0]at this;simpa using this
def rK(P:Program)(f:FuncId)(a:lZ):Prop:=
 ∃fn code,P.funcs[f]? =some fn/\fn.body=some code/\(fn.name== "runtime.NumGoroutine")=false/\fn.ntmps=a.nt/\a.cg<=a.nt/\
  fE P a.nt code=some a.code.strip/\fn.results.toList.mapM (amq P)=some a.res
theorem cY{f:FuncId}{A:lZ}(hf:rK P f A){args:List AV}{O O':List aa}{res:AV}(hl:args.length=A.cg)
  (h:kZ P O.length A.code (mW O.length A.res res O') (oj args) O):cF P f args O res O':=by
 obtain⟨fn,code,h1,h2,h3,h4,h5,h6,h7⟩:=hf;refine⟨⟨fn,h1,by rw[h2];rfl,h3⟩,?_⟩;intro I L w vs hi hr;refine calls_of_wp h1 h2 ?_;have ta:vs.size=A.cg:=by rw[←hr.1,hl]
 have aBj:Sat I L O w A.nt (oj args) O {tmps:=vs++Array.replicate (fn.ntmps- vs.size) undef,defers:=[]} w I L:=by
  refine⟨.refl hi,λ t=> ?_,?_,rfl⟩
  ·unfold oj;by_cases ht:t<vs.size
   ·have ha:args[t]? =some (args.getD t (.a9 [])):=by simp[List.getD,show t<args.length by rw[hr.1];exact ht]
    have hv:vs[t]? =some ((vs++Array.replicate (fn.ntmps- vs.size) undef).getD t undef):=by
     rw[Array.getD_eq_getD_getElem?,Array.getElem?_append_left ht];simp[ht]
    exact hr.2 t _ _ ha hv
   ·have ha:args.getD t (.a9 [])= .a9 []:=by simp[List.getD,List.getElem?_eq_none (show args.length<=t by rw[hr.1];omega)]
    have hv:(vs++Array.replicate (fn.ntmps- vs.size) undef).getD t undef= .tuple #[]:=by
     rw[Array.getD_eq_getD_getElem?,Array.getElem?_append_right (by omega)];by_cases h8:t- vs.size<fn.ntmps- vs.size
     ·simp[h8];rfl
     ·simp[h8];rfl
    rw[ha,hv];exact .a9 [] #[] rfl (by simp)
  ·simp;omega
 refine ajq A.code code h6 _ _ ?_ (oj args) O _ w I L h aBj;intro x e O1 a w' I' L' hq hs;obtain⟨y,I2,L2,r1,r2,r3⟩:=agu h7 hs hq;cases x with
 |normal=>exact⟨hs.defers,y,r1,y,I2,L2,rfl,r2,r3⟩
 |ret=>exact⟨hs.defers,y,r1,y,I2,L2,rfl,r2,r3⟩
 |exit id=>exact hq.elim
end
end Go.Ab
namespace Go.Ab
universe u
theorem nr{α:Sort u}{a b:α}(h:a=b):a=b:=h
def iA:List (Nat×AV)->Env
 | [],_=> .top
 |(k,a)::l,t=>if t=k then a else iA l t
theorem xw(e:Env)(t:Nat)(a:AV)(k:Nat):(e.set t a) k=if k=t then a else e k:=nr rfl
theorem lL(k:Nat)(a:AV)(l:List (Nat×AV))(t:Nat):iA ((k,a)::l) t=if t=k then a else iA l t:=nr rfl
theorem qy(args:List AV)(t:Nat):oj args t=args.getD t (.a9 []):=nr rfl
theorem qj(live:List Nat)(e:Env):wG live e=iA (live.map λ t=>(t,e t)):=by
 funext t
 induction live with
 |nil=>rfl
 |cons k l ih=>
  simp only[map_cons,lL];unfold wG at ih⊢;by_cases h:t=k
  ·subst h;simp
  ·rw[if_neg h,←ih];simp[h]
theorem R.take{I:cZ}{L:Nat->Loc}{O:List aa}{k:Nat}(hk:k<=O.length){a:AV}{x:Value}(hr:R I L O a x)(h:a.inScope k=true):R I L (O.take k) a x:=by
 have bX:∀{n:Nat},n<k->(O.take k)[n]? =O[n]? :=λ {n} hn=>by rw[getElem?_take,if_pos hn]
 have hlen:(O.take k).length=k:=by simp;omega
 induction hr with
 |top x=>exact .top x
 |v x hx=>exact .v x hx
 |aA=>exact .aA
 |wO t x=>exact .wO t x
 |nP a cap=>exact .nP a cap
 |sl xs aZ off cap s bd h1 h2 h3 h4 _ ih=>
  refine .sl xs aZ off cap s bd h1 h2 h3 h4 λ i x j c hi hj=>ih i x j c hi hj ?_
  exact bT (bG (by simpa [AV.inScope]using h) x (mem_of_getElem? hi)) c (mem_of_getElem? hj)
 |bV x f aZ base bd h1 _ ih=>
  refine .bV x f aZ base bd h1 λ j c hj=>ih j c hj ?_
  exact bT (by simpa [AV.inScope]using h) c (mem_of_getElem? hj)
 |bN n len e s xs hn hl=>
  have m7:n<k:=by simpa [AV.inScope]using h
  exact .bN n len e s xs (by rw[bX m7];exact hn) hl
 |fj n e s hn=>
  have m7:n<k:=by simpa [AV.inScope]using h
  exact .fj n e s (by rw[bX m7];exact hn)
 |dG n len x hn zP hs hx=>
  have m7:n<k:=by simpa [AV.inScope]using h
  exact .dG n len x (by omega) (λ e s he=>zP e s (by rwa [bX m7]at he)) (λ e s xs rh=>hs e s xs (by rwa [bX m7]at rh)) hx
 |dm n len i f e s xs hn hl=>
  have m7:n<k:=by simpa [AV.inScope]using h
  exact .dm n len i f e s xs (by rw[bX m7];exact hn) hl
 |eZ n len i f x hn zP hs hx=>
  have m7:n<k:=by simpa [AV.inScope]using h
  exact .eZ n len i f x (by omega) (λ e s he=>zP e s (by rwa [bX m7]at he)) (λ e s xs rh=>hs e s xs (by rwa [bX m7]at rh)) hx
 |fn f aV vs h1 _ ih=>exact .fn f aV vs h1 λ i c x hi hx=>ih i c x hi hx (bG (by simpa [AV.inScope]using h) c (mem_of_getElem? hi))
 |agg cs vs h1 _ ih=>exact .agg cs vs h1 λ i c x hi hx=>ih i c x hi hx (bG (by simpa [AV.inScope]using h) c (mem_of_getElem? hi))
 |a9 cs vs h1 _ ih=>exact .a9 cs vs h1 λ i c x hi hx=>ih i c x hi hx (bG (by simpa [AV.inScope]using h) c (mem_of_getElem? hi))
 |cJ n a hn h1=>
  have m7:n<k:=by simpa [AV.inScope]using h
  exact .cJ n a (by rw[bX m7];exact hn) h1
 |fx n g hn=>
  have m7:n<k:=by simpa [AV.inScope]using h
  exact .fx n g (by rw[bX m7];exact hn)
 |dH n x hn b8 hng h1=>
  have m7:n<k:=by simpa [AV.inScope]using h
  exact .dH n x (by omega) (λ a ha=>b8 a (by rwa [bX m7]at ha)) (λ a ha=>hng a (by rwa [bX m7]at ha)) h1
theorem Good.take{I0 I:cZ}{L0 L:Nat->Loc}{O0 O:List aa}{w0 w:World}(h:Good I0 L0 O0 w0 I L O w){k:Nat}(h0:O0.length<=k)(hk:k<=O.length)(hb:∀ob∈O.take k,ob.inScope k=true):
  Good I0 L0 O0 w0 I L (O.take k) w:=by
 have bX:∀{n e s xs},(O.take k)[n]? =some (.live e s xs)->O[n]? =some (.live e s xs)/\n<k:=by
  intro n e s xs hn;rw[getElem?_take]at hn
  split at hn
  ·exact⟨hn,by assumption⟩
  ·cases hn
 have ayS:∀{n e s:Nat},(O.take k)[n]? =some (aa.nil e s)->O[n]? =some (aa.nil e s):=by
  intro n e s hn;rw[getElem?_take]at hn
  split at hn
  ·exact hn
  ·cases hn
 have abP:∀{n:Nat} {a:AV},(O.take k)[n]? =some (aa.own a)->O[n]? =some (aa.own a):=by
  intro n a hn;rw[getElem?_take]at hn
  split at hn
  ·exact hn
  ·cases hn
 have uS:∀{n:Nat} {a:fH},(O.take k)[n]? =some (aa.cE a)->O[n]? =some (aa.cE a):=by
  intro n a hn;rw[getElem?_take]at hn
  split at hn
  ·exact hn
  ·cases hn
 refine⟨⟨h.inv.gN,λ n e s xs hn=> ?_,λ n m _ _ _ _ _ _ hn hm=>h.inv.sep n m _ _ _ _ _ _ (bX hn).1 (bX hm).1,λ n e s xs o hn=>h.inv.cT n e s xs o (bX hn).1,h.inv.fix,h.inv.aZ,h.inv.ow.same (λ n a hn=>⟨abP hn,rfl⟩) (λ b o v hv=> .inl ⟨o,v,hv⟩) (λ m e s xs hm=> .inl ⟨m,_,_,_,(bX hm).1,rfl⟩) rfl,⟨λ n g hn=> ?_,λ n m g g' hn hm hb=>h.inv.gh.sep n m g g' (uS hn) (uS hm) hb⟩⟩,⟨h.ext.gN,by simp;omega,λ n hn e s xs hx=>h.ext.obj n hn e s xs (bX hx).1,λ n hn e s hx=>h.ext.nil n hn e s (ayS hx),λ n hn a hx=>h.ext.own n hn a (abP hx),λ n hn a hx=>h.ext.cE n hn a (uS hx)⟩,h.lK,?_,h.eK⟩
 ·obtain⟨c,⟨kS,h1,cL⟩,h2,h3,h4,h5,h6⟩:=h.inv.obj n e s xs (bX hn).1;refine⟨c,⟨kS,h1,cL⟩,h2,h3,h4,h5,λ i x hx=>⟨(h6 i x hx).1,λ j a ha=> ?_⟩⟩;obtain⟨y,hy,ho,hr⟩:=(h6 i x hx).2 j a ha;have hbo:=hb _ (mem_of_getElem? hn);exact⟨y,hy,ho,hr.take hk (bT (bG hbo x (mem_of_getElem? hx)) a (mem_of_getElem? ha))⟩
 ·have h1:=h.inv.gh.ok n g (uS hn);have hbo:=hb _ (mem_of_getElem? hn);cases g with
  |it s p=>exact h1
  |mp es=>
   obtain⟨en,c,h2,h3,h4⟩:=h1;refine⟨en,c,h2,h3,λ i a v hi=> ?_⟩;obtain⟨e,h5,h6,h7⟩:=h4 i a v hi;have hs:=List.all_eq_true.1 (show es.all (λ p=>p.1.inScope k&&p.2.inScope k)=true from hbo) (a,v) (mem_of_getElem? hi);simp only[and_eq_true]at hs;exact⟨e,h5,h6.take hk hs.1,h7.take hk hs.2⟩
 ·rintro b (⟨n,e,s,xs,hn,hb⟩|⟨n,a,o,v,hn,hb⟩|⟨n,g,hn,hb⟩)
  ·exact h.lb b (.inl ⟨n,e,s,xs,(bX hn).1,hb⟩)
  ·exact h.lb b (.inr (.inl ⟨n,a,o,v,abP hn,hb⟩))
  ·exact h.lb b (.inr (.inr ⟨n,g,uS hn,hb⟩))
theorem WK.forget{n0:Nat}{e e':Env}{O O':List aa}{k:Nat}(hO:O.take k=O')(h0:n0<=k)(hk:k<=O.length)(hb:∀ob∈O',ob.inScope k=true)(he:∀t,e' t= .top∨(e' t=e t/\(e' t).inScope k=true)):WK n0 e O e' O':=by
 subst hO;intro I0 L0 O0 w0 I L w f hl hg hr;subst hl;refine⟨I,L,hg.take h0 hk hb,λ t=> ?_⟩;rcases he t with h|⟨h,h'⟩
 ·rw[h];exact .top _
 ·rw[h]at h'⊢;exact(hr t).take hk h'
theorem wpOp_mono{P:Program}{o:dY}{e:Env}{O:List aa}{K K':AV->List aa->Prop}(hk:∀x O,K x O->K' x O)(h:wpOp P o e O K):wpOp P o e O K':=by
 obtain⟨x,O',h1,h2⟩:=yO h;exact h2 K' (hk x O' h1)
theorem nJ{P:Program}:∀(l:List aH) {e:Env} {O:List aa} {K K':Env->List aa->Prop},(∀e O,K e O->K' e O)->wpOps P l e O K->wpOps P l e O K'
 | [],_,_,_,_,hk,h=>hk _ _ h
 |o::l,e,O,K,K',hk,h=>by
  simp only[wpOps]at h⊢
  split at h
  ·exact wpOp_mono (λ x O' h=>nJ l hk h) h
  ·split at h
   ·exact⟨λ hb=>wpOp_mono (λ x O' h=>nJ l hk h) (h.1 hb),λ hb=>nJ l hk (h.2 hb)⟩
   ·exact nJ l hk h
   ·exact h.elim
theorem l9{P:Program}:∀(l:List aH) {acc:List iD} {e:Env} {O:List aa} {K K':List iD->Env->List aa->Prop},(∀a e O,K a e O->K' a e O)->cd P l acc e O K->cd P l acc e O K'
 | [],_,_,_,_,_,hk,h=>hk _ _ _ h
 |o::l,acc,e,O,K,K',hk,h=>by
  simp only[cd]at h⊢
  split at h
  ·exact wpOp_mono (λ x O' h=>l9 l hk h) h
  ·split at h
   ·exact⟨λ hb=>wpOp_mono (λ x O' h=>l9 l hk h) (h.1 hb),λ hb=>l9 l hk (h.2 hb)⟩
   ·exact l9 l hk h
   ·exact h.elim
theorem l8{P:Program}{n0:Nat}:∀(l:List aH) {e:Env} {O:List aa} {K K':Env->List aa->Prop},(∀e O,K e O->K' e O)->gF P n0 l e O K->gF P n0 l e O K'
 | [],_,_,_,_,hk,⟨e',O',hw,h⟩=>⟨e',O',hw,hk _ _ h⟩
 |o::l,e,O,K,K',hk,h=>by
  simp only[gF]at h⊢;obtain⟨e',O',hw,h⟩:=h;refine⟨e',O',hw,?_⟩
  split at h
  ·exact wpOp_mono (λ x O' h=>l8 l hk h) h
  ·split at h
   ·exact⟨λ hb=>wpOp_mono (λ x O' h=>l8 l hk h) (h.1 hb),λ hb=>l8 l hk (h.2 hb)⟩
   ·exact l8 l hk h
   ·exact h.elim
theorem af6{P:Program}{n0:Nat}(c:aK):∀{Q Q':AX->Env->List aa->Prop} {e:Env} {O:List aa},(∀x e O,Q x e O->Q' x e O)->kZ P n0 c Q e O->kZ P n0 c Q' e O:=by
 induction c with
 |skip=>intro Q Q' e O hq h;exact hq _ _ _ h
 |region r ops=>
  intro Q Q' e O hq h;cases r with
  |none=>exact nJ ops (λ e O h=>hq _ _ _ h) h
  |some rows=>obtain⟨al,h1,h2⟩:=h;exact⟨al,h1,l9 al (λ iM e O h=>⟨h.1,hq _ _ _ h.2⟩) h2⟩
 |gK ops=>intro Q Q' e O hq h;exact l8 ops (λ e O h=>hq _ _ _ h) h
 |seq a b iha ihb=>
  intro Q Q' e O hq h;refine iha (λ x e O h=> ?_) h;cases x
  ·exact ihb hq h
  ·exact hq _ _ _ h
  ·exact hq _ _ _ h
 |cond c t f iht ihf=>
  intro Q Q' e O hq h;simp only[kZ]at h⊢
  split at h
  ·exact⟨λ hb=>iht hq (h.1 hb),λ hb=>ihf hq (h.2 hb)⟩
  ·exact h.elim
 |block id b ih=>
  intro Q Q' e O hq h;refine ih (λ x e O h=> ?_) h;cases x
  ·exact hq _ _ _ h
  ·simp only at h⊢
   split
   ·rename_i hi;rw[if_pos hi]at h;exact hq _ _ _ h
   ·rename_i hi;rw[if_neg hi]at h;exact hq _ _ _ h
  ·exact hq _ _ _ h
 |loop b ih=>
  intro Q Q' e O hq h;obtain⟨J,n,h0,hr⟩:=h;refine⟨J,n,h0,λ n e O hJ=>ih (λ x e O h=> ?_) (hr n e O hJ)⟩;cases x
  ·exact h
  ·exact hq _ _ _ h
  ·exact hq _ _ _ h
 |exit id=>intro Q Q' e O hq h;exact hq _ _ _ h
 |ret=>intro Q Q' e O hq h;exact hq _ _ _ h
 |ai l c ih=>
  intro Q Q' e O hq h;refine ih (λ x e O h=> ?_) h;cases x<;>exact hq _ _ _ h
 |mb c ih=>
  intro Q Q' e O hq h;obtain⟨e',O',hw,h⟩:=h;exact⟨e',O',hw,ih hq h⟩
def aax(n0:Nat){ι:Type}(D:ι->Prop)(σ:ι->Env)(τ:ι->List aa)(μ:ι->Nat)(i:ι)(Q:AX->Env->List aa->Prop):AX->Env->List aa->Prop:=
 λ x e O=>match x with| .normal=>∃j,D j/\μ j<μ i/\WK n0 e O (σ j) (τ j)|x=>Q x e O
theorem am2{P:Program}{n0:Nat}{b:aK}{Q:AX->Env->List aa->Prop}{e:Env}{O:List aa}{ι:Type}(D:ι->Prop)(σ:ι->Env)(τ:ι->List aa)(μ:ι->Nat)(i0:ι)
  (hd:D i0) (h0:WK n0 e O (σ i0) (τ i0)) (hr:∀i,D i->kZ P n0 b (aax n0 D σ τ μ i Q) (σ i) (τ i)):kZ P n0 (.loop b) Q e O:=by
 refine⟨λ n e O=>∃i,D i/\μ i=n/\e=σ i/\O=τ i,μ i0,⟨_,_,h0,i0,hd,rfl,rfl,rfl⟩,?_⟩;rintro n e O ⟨i,hi,rfl,rfl,rfl⟩;refine af6 b (λ x e O h=> ?_) (hr i hi);cases x
 ·obtain⟨j,hj,h1,h2⟩:=h;exact⟨μ j,_,_,h1,h2,j,hj,rfl,rfl,rfl⟩
 ·exact h
 ·exact h
theorem WK.of_eq{n0:Nat}{e e':Env}{O O':List aa}(he:e=e')(hO:O=O'):WK n0 e O e' O':=by subst he;subst hO;exact .refl _ _ _
section
variable (P:Program) (n0:Nat) (Q:AX->Env->List aa->Prop) (e:Env) (O:List aa)
theorem pP:kZ P n0 .skip Q e O=Q .normal e O:=nr rfl
theorem kY(ops:List aH):kZ P n0 (.region none ops) Q e O=Go.Ab.wpOps P ops e O (Q .normal):=nr rfl
theorem awJ(c:aC)(t f:aK):kZ P n0 (.cond c t f) Q e O=match c.ev e with
 | .v (.bool b)=>(b=true->kZ P n0 t Q e O)/\(b=false->kZ P n0 f Q e O)
 |_=>False:=nr rfl
theorem pQ(id:Nat):kZ P n0 (.exit id) Q e O=Q (.exit id) e O:=nr rfl
theorem tv:kZ P n0 .ret Q e O=Q .ret e O:=nr rfl
theorem nh(K:Env->List aa->Prop):Go.Ab.wpOps P [] e O K=K e O:=nr rfl
theorem af4(K:Env->List aa->Prop)(t:Nat)(want:Bool)(d:Option Nat)(op:dY)(r:List aH):
 Go.Ab.wpOps P (⟨some (t,want),d,op⟩::r) e O K=match e t with
   | .v (.bool b)=>
     (b=want->wpOp P op (e.set t (.v (.bool want))) O λ x O'=>Go.Ab.wpOps P r (bB (e.set t (.v (.bool want))) d x) O' K)/\
     (b= !want->Go.Ab.wpOps P r (bB (e.set t (.v (.bool (!want)))) d (.a9 [])) O K)
   | .a9 []=>Go.Ab.wpOps P r (bB e d (.a9 [])) O K
   |_=>False:=nr rfl
theorem ni(t:Nat)(a:AV):bB e (some t) a=e.set t a:=nr rfl
theorem nj(a:AV):bB e none a=e:=nr rfl
theorem amj(n:Nat):(aC.t n).ev e=e n:=nr rfl
theorem amk(a:AV):(aC.c a).ev e=a:=nr rfl
end
end Go.Ab
namespace Go.Ab
theorem yQ(a:ByteArray):a.toList=a.data.toList:=ByteArray.toList_eq a
abbrev KT:=AV->List aa->Prop
def k1(a:AV)(O:List aa)(K:KT):Prop:=K a O
theorem asX(a:AV)(O:List aa)(K:KT):k1 a O K=K a O:=nr rfl
def sP(c a b:AV)(O:List aa)(K:KT):Prop:=match c with
 | .v (.bool t)=>K (if t then a else b) O
 |_=>False
theorem jC(a b:AV)(O:List aa)(K:KT):sP (.v (.bool true)) a b O K=k1 a O K:=nr rfl
theorem hD(a b:AV)(O:List aa)(K:KT):sP (.v (.bool false)) a b O K=k1 b O K:=nr rfl
theorem jD(t x y:Bool)(O:List aa)(K:KT):sP (.v (.bool t)) (.v (.bool x)) (.v (.bool y)) O K=k1 (.v (.bool (if t=true then x else y))) O K:=by cases t<;>rfl
def azr(t s:Nat)(a:AV)(O:List aa)(K:KT):Prop:=a.cells.length=s/\a.storable=true/\K (.ptr O.length 1 0 0) (O++ [.live t s [a]])
theorem um(t s:Nat)(a:AV)(O:List aa)(K:KT):azr t s a O K=(a.cells.length=s/\a.storable=true/\k1 (.ptr O.length 1 0 0) (O++ [.live t s [a]]) K):=nr rfl
def ade(z:List AV)(ps:List (Nat×Nat×AV))(O:List aa)(K:KT):Prop:=match ps with
 | []=>K (.agg z) O
 |(off,size,x)::r=>x.cells.length=size/\(x.bO||x.isAgg)=true/\off+size<=z.length/\ade (z.take off++x.cells++z.drop (off+size)) r O K
theorem qE(z:List AV)(O:List aa)(K:KT):ade z [] O K=k1 (.agg z) O K:=by simp[ade,k1]
theorem nH(z:List AV)(off size:Nat)(x:AV)(r:List (Nat×Nat×AV))(O:List aa)(K:KT):
 ade z ((off,size,x)::r) O K=(x.cells.length=size/\(x.bO||x.isAgg)=true/\off+size<=z.length/\ade (z.take off++x.cells++z.drop (off+size)) r O K):=by rw[ade]
theorem acg{e:Env}{O:List aa}{K:KT}:∀(ps:List (Nat×Nat×aC)) (z:List AV),jP e z ps (λ a=>K a O)=ade z (ps.map λ p=>(p.1,p.2.1,p.2.2.ev e)) O K
 | [],z=>by simp[jP,ade]
 |(off,size,x)::r,z=>by simp only[jP,map_cons,ade,acg r]
def adb(t s:Nat)(len:Nat)(xs:List AV)(ps:List (Nat×AV))(O:List aa)(K:KT):Prop:=match ps with
 | []=>K (.row O.length len) (O++ [.live t s xs])
 |(i,x)::r=>x.cells.length=s/\x.storable=true/\i<xs.length/\adb t s len (xs.set i x) r O K
theorem qA(t s len:Nat)(z:List AV)(O:List aa)(K:KT):adb t s len z [] O K=k1 (.row O.length len) (O++ [.live t s z]) K:=by simp[adb,k1]
theorem nG(t s len:Nat)(z:List AV)(i:Nat)(x:AV)(r:List (Nat×AV))(O:List aa)(K:KT):
 adb t s len z ((i,x)::r) O K=(x.cells.length=s/\x.storable=true/\i<z.length/\adb t s len (z.set i x) r O K):=by rw[adb]
theorem ags{e:Env}{O:List aa}{K:KT}(t s len:Nat):∀(ps:List (Nat×aC)) (z:List AV),pA e s z ps (λ xs=>K (.row O.length len) (O++ [.live t s xs]))=adb t s len z (ps.map λ p=>(p.1,p.2.ev e)) O K
 | [],z=>by simp[pA,adb]
 |(i,x)::r,z=>by simp only[pA,map_cons,adb,ags t s len r]
def sd(o:Option aa)(M:Nat->Nat->List AV->Prop):Prop:=match o with
 |some (.live t s xs)=>M t s xs
 |_=>False
def aaS(o:Option aa)(N:Nat->Nat->Prop)(M:Nat->Nat->List AV->Prop):Prop:=match o with
 |some (.live t s xs)=>M t s xs
 |some (.nil t s)=>N t s
 |_=>False
theorem eP(t s:Nat)(xs:List AV)(N:Nat->Nat->Prop)(M:Nat->Nat->List AV->Prop):aaS (some (.live t s xs)) N M=M t s xs:=nr rfl
theorem ib(t s:Nat)(N:Nat->Nat->Prop)(M:Nat->Nat->List AV->Prop):aaS (some (.nil t s)) N M=N t s:=nr rfl
theorem cX(t s:Nat)(xs:List AV)(M:Nat->Nat->List AV->Prop):sd (some (.live t s xs)) M=M t s xs:=nr rfl
def ake(n:Option Nat)(a:AV)(O:List aa)(K:KT):Prop:=match a with
    | .bV y f=>f+n.getD 1<=y.cells.length/\K (dt n y f) O
    | .ptr k len i f=>sd O[k]? λ _ _ xs=>xs.length=len/\i<len/\f+n.getD 1<=(xs.getD i .top).cells.length/\K (dt n (xs.getD i .top) f) O
    |_=>False
theorem ig(n:Option Nat)(y:AV)(f:Nat)(O:List aa)(K:KT):ake n (.bV y f) O K=(f+n.getD 1<=y.cells.length/\k1 (dt n y f) O K):=nr rfl
theorem jZ(n:Option Nat)(k len i f:Nat)(O:List aa)(K:KT):ake n (.ptr k len i f) O K=sd O[k]? λ _ _ xs=>xs.length=len/\i<len/\f+n.getD 1<=(xs.getD i .top).cells.length/\k1 (dt n (xs.getD i .top) f) O K:=nr rfl
def aii(m:Nat)(a b:AV)(O:List aa)(K:KT):Prop:=match a with
    | .ptr k len i f=>sd O[k]? λ t s xs=>xs.length=len/\i<len/\b.cells.length=m/\b.storable=true/\f+m<=(xs.getD i .top).cells.length/\K .top (O.set k (.live t s (xs.set i (u6 (xs.getD i .top) f b))))
    |_=>False
theorem gS(m k len i f:Nat)(b:AV)(O:List aa)(K:KT):aii m (.ptr k len i f) b O K=sd O[k]? λ t s xs=>xs.length=len/\i<len/\b.cells.length=m/\b.storable=true/\f+m<=(xs.getD i .top).cells.length/\k1 .top (O.set k (.live t s (xs.set i (u6 (xs.getD i .top) f b)))) K:=nr rfl
def eM(op:BinOp)(a b:AV)(O:List aa)(K:KT):Prop:=match a,b with
    | .v x,.v y=>match mD op x y with
      |some z=>K (.v z) O
      |none=>False
    |_,_=>False
section
variable (k:IntKind) (a b:Int) (O:List aa) (K:KT)
theorem oQ:eM .add (.v (.int k a)) (.v (.int k b)) O K=k1 (.v (.int k (k.wrap (a+b)))) O K:=by simp[eM,mD,uz,BinOp.eg,k1]
theorem oD:eM .sub (.v (.int k a)) (.v (.int k b)) O K=k1 (.v (.int k (k.wrap (a- b)))) O K:=by simp[eM,mD,uz,BinOp.eg,k1]
theorem oJ:eM .mul (.v (.int k a)) (.v (.int k b)) O K=k1 (.v (.int k (k.wrap (a*b)))) O K:=by simp[eM,mD,uz,BinOp.eg,k1]
theorem oP:eM .and (.v (.int k a)) (.v (.int k b)) O K=k1 (.v (.int k (k.wrap (BitVec.ofInt k.bits a&&&BitVec.ofInt k.bits b).toNat))) O K:=by simp[eM,mD,uz,BinOp.eg,k1]
theorem rM:eM .or (.v (.int k a)) (.v (.int k b)) O K=k1 (.v (.int k (k.wrap (BitVec.ofInt k.bits a|||BitVec.ofInt k.bits b).toNat))) O K:=by simp[eM,mD,uz,BinOp.eg,k1]
theorem oC:eM .xor (.v (.int k a)) (.v (.int k b)) O K=k1 (.v (.int k (k.wrap (BitVec.ofInt k.bits a^^^BitVec.ofInt k.bits b).toNat))) O K:=by simp[eM,mD,uz,BinOp.eg,k1]
theorem oH:eM .quo (.v (.int k a)) (.v (.int k b)) O K=(b≠0/\k1 (.v (.int k (k.wrap (a.tdiv b)))) O K):=by
 by_cases h:b=0<;>simp[eM,mD,uz,BinOp.eg,k1,h]
theorem oG:eM .rem (.v (.int k a)) (.v (.int k b)) O K=(b≠0/\k1 (.v (.int k (a.tmod b))) O K):=by
 by_cases h:b=0<;>simp[eM,mD,uz,BinOp.eg,k1,h]
theorem oO:eM .eql (.v (.int k a)) (.v (.int k b)) O K=k1 (.v (.bool (decide (a=b)))) O K:=by
 have:(a==b)=decide (a=b):=by by_cases h:a=b<;>simp[h]
 simp[eM,mD,uz,BinOp.eg,k1,this]
theorem oI:eM .neq (.v (.int k a)) (.v (.int k b)) O K=k1 (.v (.bool (!decide (a=b)))) O K:=by
 have:(a !=b)= !decide (a=b):=by by_cases h:a=b<;>simp[h]
 simp[eM,mD,uz,BinOp.eg,k1,this]
theorem oK:eM .lss (.v (.int k a)) (.v (.int k b)) O K=k1 (.v (.bool (decide (a<b)))) O K:=by simp[eM,mD,uz,BinOp.eg,k1]
theorem oL:eM .leq (.v (.int k a)) (.v (.int k b)) O K=k1 (.v (.bool (decide (a<=b)))) O K:=by simp[eM,mD,uz,BinOp.eg,k1]
theorem oM:eM .gtr (.v (.int k a)) (.v (.int k b)) O K=k1 (.v (.bool (decide (b<a)))) O K:=by simp[eM,mD,uz,BinOp.eg,k1]
theorem oN:eM .geq (.v (.int k a)) (.v (.int k b)) O K=k1 (.v (.bool (decide (b<=a)))) O K:=by simp[eM,mD,uz,BinOp.eg,k1]
theorem oF(k':IntKind):eM .shl (.v (.int k a)) (.v (.int k' b)) O K=(0<=b/\k1 (.v (.int k (k.wrap (a*2^(min b.toNat k.bits))))) O K):=by
 by_cases h:0<=b<;>simp[eM,mD,ajY,BinOp.eg,k1,h]
theorem oE(k':IntKind):eM .shr (.v (.int k a)) (.v (.int k' b)) O K=(0<=b/\k1 (.v (.int k (a.fdiv (2^(min b.toNat k.bits))))) O K):=by
 by_cases h:0<=b<;>simp[eM,mD,ajY,BinOp.eg,k1,h]
end
theorem aab(a b:ByteArray):(a.toList==b.toList)=decide (a=b):=by
 rw[yQ,yQ];by_cases h:a=b
 ·simp[h]
 ·have:¬a.data=b.data:=λ h'=>h (by cases a;cases b;simpa using h')
  simp[h,this]
section
variable (a b:ByteArray) (O:List aa) (K:KT)
theorem lQ:eM .add (.v (.string a)) (.v (.string b)) O K=(((a.size+b.size:Nat):Int)<=9223372036854775807/\k1 (.v (.string (a++b))) O K):=by
 have h3:IntKind.i64.max=9223372036854775807:=by decide
 by_cases h:((a.size+b.size:Nat):Int)<=9223372036854775807
 ·simp only[eM,mD,adn,k1,h3,if_pos h,h,if_true,true_and]
 ·simp only[eM,mD,adn,k1,h3,if_neg h,h,if_false,false_and]
theorem lP:eM .eql (.v (.string a)) (.v (.string b)) O K=k1 (.v (.bool (decide (a=b)))) O K:=by simp[eM,mD,adn,k1,aab]
theorem lO:eM .neq (.v (.string a)) (.v (.string b)) O K=k1 (.v (.bool (!decide (a=b)))) O K:=by simp[eM,mD,adn,k1,aab]
end
def unK(op:UnOp)(a:AV)(O:List aa)(K:KT):Prop:=match a with
    | .v x=>match sun op x with
      |some z=>K (.v z) O
      |none=>False
    |_=>False
theorem qJ(b:Bool)(O:List aa)(K:KT):unK .not (.v (.bool b)) O K=k1 (.v (.bool (!b))) O K:=nr rfl
theorem qK(k:IntKind)(n:Int)(O:List aa)(K:KT):unK .neg (.v (.int k n)) O K=k1 (.v (.int k (k.wrap (-n)))) O K:=by simp[unK,sun,k1]
def aca(k:IntKind)(a:AV)(O:List aa)(K:KT):Prop:=match a with
    | .v (.int _ n)=>K (.v (.int k (k.wrap n))) O
    |_=>False
theorem om(k k':IntKind)(n:Int)(O:List aa)(K:KT):aca k (.v (.int k' n)) O K=k1 (.v (.int k (k.wrap n))) O K:=nr rfl
def afD(off:Nat)(a:AV)(O:List aa)(K:KT):Prop:=match a with
    | .bV y f=>K (.bV y (f+off)) O
    | .ptr n len i f=>sd O[n]? λ _ _ xs=>xs.length=len/\K (.ptr n len i (f+off)) O
    |_=>False
theorem fP(off:Nat)(y:AV)(f:Nat)(O:List aa)(K:KT):afD off (.bV y f) O K=k1 (.bV y (f+off)) O K:=nr rfl
theorem gn(off n len i f:Nat)(O:List aa)(K:KT):afD off (.ptr n len i f) O K=sd O[n]? λ _ _ xs=>xs.length=len/\k1 (.ptr n len i (f+off)) O K:=nr rfl
def amc(off:Nat)(n:Option Nat)(a:AV)(O:List aa)(K:KT):Prop:=a.isAgg=true/\off+n.getD 1<=a.cells.length/\K (dt n a off) O
theorem rB(off:Nat)(n:Option Nat)(a:AV)(O:List aa)(K:KT):amc off n a O K=(a.isAgg=true/\off+n.getD 1<=a.cells.length/\k1 (dt n a off) O K):=nr rfl
def abE(s:Nat)(a i:AV)(O:List aa)(K:KT):Prop:=match a,i with
    | .sl xs,.v (.int _ i)=>0<=i/\i<xs.length/\(xs.getD i.toNat .top).cells.length=s/\K (.bV (xs.getD i.toNat .top) 0) O
    | .row n len,.v (.int _ i)=>sd O[n]? λ _ s' xs=>s'=s/\xs.length=len/\0<=i/\i<len/\K (.ptr n len i.toNat 0) O
    |_,_=>False
theorem lH(s:Nat)(xs:List AV)(k:IntKind)(i:Int)(O:List aa)(K:KT):abE s (.sl xs) (.v (.int k i)) O K=(0<=i/\i<xs.length/\(xs.getD i.toNat .top).cells.length=s/\k1 (.bV (xs.getD i.toNat .top) 0) O K):=nr rfl
theorem iw(s n len:Nat)(k:IntKind)(i:Int)(O:List aa)(K:KT):abE s (.row n len) (.v (.int k i)) O K=sd O[n]? λ _ s' xs=>s'=s/\xs.length=len/\0<=i/\i<len/\k1 (.ptr n len i.toNat 0) O K:=nr rfl
def abC(a i:AV)(O:List aa)(K:KT):Prop:=match a,i with
    | .v (.string s),.v (.int _ i)=>0<=i/\i<s.size/\K (.v (.int .u8 (s.data.toList.getD i.toNat 0).toNat)) O
    |_,_=>False
theorem od(s:ByteArray)(k:IntKind)(i:Int)(O:List aa)(K:KT):abC (.v (.string s)) (.v (.int k i)) O K=(0<=i/\i<s.size/\k1 (.v (.int .u8 (s.data.toList.getD i.toNat 0).toNat)) O K):=nr rfl
def bnd(d:Int)(x:Option AV)(M:Int->Prop):Prop:=match x with
 |none=>M d
 |some (.v (.int _ i))=>M i
 |_=>False
theorem oB(d:Int)(M:Int->Prop):bnd d none M=M d:=nr rfl
theorem oA(d:Int)(k:IntKind)(i:Int)(M:Int->Prop):bnd d (some (.v (.int k i))) M=M i:=nr rfl
theorem ach(d:Int)(e:Env)(x:Option aC)(M:Int->Prop):fq d e x M=bnd d (x.map (aC.ev e)) M:=by
 cases x with
 |none=>rfl
 |some o=>
  simp only[fq,bnd,Option.map_some];cases o.ev e<;>try rfl
  rename_i v;cases v<;>rfl
def o9(a:AV)(lo hi:Option AV)(O:List aa)(K:KT):Prop:=match a with
    | .v (.string s)=>bnd 0 lo λ l=>bnd s.size hi λ h=>0<=l/\l<=h/\h<=s.size/\K (.v (.string (s.extract l.toNat h.toNat))) O
    |_=>False
theorem jA(s:ByteArray)(lo hi:Option AV)(O:List aa)(K:KT):o9 (.v (.string s)) lo hi O K=bnd 0 lo λ l=>bnd s.size hi λ h=>0<=l/\l<=h/\h<=s.size/\k1 (.v (.string (s.extract l.toNat h.toNat))) O K:=nr rfl
def pa(s:Nat)(a:AV)(lo hi:Option AV)(O:List aa)(K:KT):Prop:=match a with
    | .sl xs=>bnd 0 lo λ l=>bnd xs.length hi λ h=>0<=l/\l<=h/\h<=xs.length/\(∀y∈xs,y.cells.length=s)/\K (.sl ((xs.take h.toNat).drop l.toNat)) O
    |_=>False
theorem jB(s:Nat)(xs:List AV)(lo hi:Option AV)(O:List aa)(K:KT):pa s (.sl xs) lo hi O K=bnd 0 lo λ l=>bnd xs.length hi λ h=>0<=l/\l<=h/\h<=xs.length/\(∀y∈xs,y.cells.length=s)/\k1 (.sl ((xs.take h.toNat).drop l.toNat)) O K:=nr rfl
def mkK(t s bytes:Nat)(z a b:AV)(O:List aa)(K:KT):Prop:=match a,b with
    | .v (.int .i64 n),.v (.int .i64 c)=>0<=n/\n<=c/\bytes*c<=2^48/\c<=maxLen/\K (.row O.length n.toNat) (O++ [.live t s (List.replicate n.toNat z)])
    |_,_=>False
theorem vz(t s bytes:Nat)(z:AV)(n c:Int)(O:List aa)(K:KT):mkK t s bytes z (.v (.int .i64 n)) (.v (.int .i64 c)) O K=(0<=n/\n<=c/\bytes*c<=281474976710656/\c<=9223372036854775807/\k1 (.row O.length n.toNat) (O++ [.live t s (List.replicate n.toNat z)]) K):=by
 have h1:((2:Int)^48)=281474976710656:=by decide
 have h2:((maxLen:Nat):Int)=9223372036854775807:=by decide
 simp only[mkK,h1,h2,k1]
def abc(a:AV)(O:List aa)(K:KT):Prop:=match a with
    | .v (.string s)=>K (.v (.int .i64 s.size)) O
    |_=>False
theorem nW(s:ByteArray)(O:List aa)(K:KT):abc (.v (.string s)) O K=k1 (.v (.int .i64 s.size)) O K:=nr rfl
def po(a:AV)(O:List aa)(K:KT):Prop:=match a with
    | .aA=>K (.v (.int .i64 0)) O
    | .sl xs=>K (.v (.int .i64 xs.length)) O
    | .row n len=>aaS O[n]? (λ _ _=>len=0/\K (.v (.int .i64 0)) O) λ _ _ xs=>xs.length=len/\K (.v (.int .i64 len)) O
    |_=>False
theorem ij(O:List aa)(K:KT):po .aA O K=k1 (.v (.int .i64 0)) O K:=nr rfl
theorem mo(xs:List AV)(O:List aa)(K:KT):po (.sl xs) O K=k1 (.v (.int .i64 xs.length)) O K:=nr rfl
theorem lx(n len:Nat)(O:List aa)(K:KT):po (.row n len) O K=aaS O[n]? (λ _ _=>len=0/\k1 (.v (.int .i64 0)) O K) λ _ _ xs=>xs.length=len/\k1 (.v (.int .i64 len)) O K:=nr rfl
def mM(O:List aa)(y:AV)(M:List AV->Prop):Prop:=match y with
 | .aA=>M []
 | .sl ys=>M ys
 | .row n len=>aaS O[n]? (λ _ _=>len=0/\M []) λ _ _ xs=>xs.length=len/\M xs
 |_=>False
theorem la(O:List aa)(M:List AV->Prop):mM O .aA M=M []:=nr rfl
theorem mc(O:List aa)(ys:List AV)(M:List AV->Prop):mM O (.sl ys) M=M ys:=nr rfl
theorem jR(O:List aa)(n len:Nat)(M:List AV->Prop):mM O (.row n len) M=aaS O[n]? (λ _ _=>len=0/\M []) λ _ _ xs=>xs.length=len/\M xs:=nr rfl
def pc(O:List aa)(x:AV)(t s bytes:Nat)(ys:List AV)(K:KT):Prop:=match x with
 | .aA=>ys.length*bytes<=140737488355328/\ys.length<=maxLen/\(ys= []->K .aA O)/\(ys≠[]->K (.row O.length ys.length) (O++ [.live t s ys]))
 | .row n len=>aaS O[n]? (λ t' s'=>t'=t/\s'=s/\len=0/\ys.length*bytes<=140737488355328/\ys.length<=maxLen/\(ys= []->K (.row n 0) O)/\(ys≠[]->K (.row n ys.length) (O.set n (.live t s ys)))) λ t' s' xs=>t'=t/\s'=s/\xs.length=len/\(len+ys.length)*bytes<=140737488355328/\len+ys.length<=maxLen/\
  K (.row n (len+ys.length)) (O.set n (.live t s (xs++ys)))
 |_=>False
theorem hZ(O:List aa)(t s bytes:Nat)(y:AV)(ys:List AV)(K:KT):pc O .aA t s bytes (y::ys) K=((y::ys).length*bytes<=140737488355328/\(y::ys).length<=maxLen/\k1 (.row O.length (y::ys).length) (O++ [.live t s (y::ys)]) K):=by
 simp[pc,k1]
theorem ia(O:List aa)(t s bytes:Nat)(ys:List AV)(K:KT):pc O .aA t s bytes ys K=(ys.length*bytes<=140737488355328/\ys.length<=maxLen/\(ys= []->k1 .aA O K)/\(ys≠[]->k1 (.row O.length ys.length) (O++ [.live t s ys]) K)):=nr rfl
theorem jW(O:List aa)(n len t s bytes:Nat)(ys:List AV)(K:KT):pc O (.row n len) t s bytes ys K=aaS O[n]? (λ t' s'=>t'=t/\s'=s/\len=0/\ys.length*bytes<=140737488355328/\ys.length<=maxLen/\(ys= []->k1 (.row n 0) O K)/\(ys≠[]->k1 (.row n ys.length) (O.set n (.live t s ys)) K)) λ t' s' xs=>t'=t/\s'=s/\xs.length=len/\(len+ys.length)*bytes<=140737488355328/\len+ys.length<=maxLen/\
        k1 (.row n (len+ys.length)) (O.set n (.live t s (xs++ys))) K:=nr rfl
def azl(a:AV)(i:Nat)(O:List aa)(K:KT):Prop:=match a with
    | .a9 vs=>i<vs.length/\K (vs.getD i .top) O
    |_=>False
theorem rD(vs:List AV)(i:Nat)(O:List aa)(K:KT):azl (.a9 vs) i O K=(i<vs.length/\k1 (vs.getD i .top) O K):=nr rfl
def agH(a:AV)(O:List aa)(K:KT):Prop:=match a with
    | .bV y f=>K (.bV y f) O
    | .fn f aV=>K (.fn f aV) O
    | .ptr n len i f=>sd O[n]? λ _ _ xs=>xs.length=len/\K (.ptr n len i f) O
    |_=>False
theorem ic(y:AV)(f:Nat)(O:List aa)(K:KT):agH (.bV y f) O K=k1 (.bV y f) O K:=nr rfl
theorem mi(f:FuncId)(cs:List AV)(O:List aa)(K:KT):agH (.fn f cs) O K=k1 (.fn f cs) O K:=nr rfl
theorem lv(n len i f:Nat)(O:List aa)(K:KT):agH (.ptr n len i f) O K=sd O[n]? λ _ _ xs=>xs.length=len/\k1 (.ptr n len i f) O K:=nr rfl
def akF(P:Program)(f:FuncId)(args:List AV)(O:List aa)(K:KT):Prop:=∃res O',cF P f args O res O'/\K res O'
theorem aj{P:Program}{f:FuncId}{args:List AV}{O:List aa}{K:KT}(res:AV)(O':List aa)(h:cF P f args O res O')(k:k1 res O' K):akF P f args O K:=⟨res,O',h,k⟩
def aeO(P:Program)(f:FuncId)(args:List AV)(O:List aa)(K:KT):Prop:=∃res,AV.ae args=true/\a7 P f args res/\K res O
theorem qQ{P:Program}{f:FuncId}{args:List AV}{O:List aa}{K:KT}(res:AV)(h:a7 P f args res)(hn:AV.ae args=true)(k:k1 res O K):aeO P f args O K:=⟨res,hn,h,k⟩
def aaN(P:Program)(f:FuncId)(kF args:List AV)(O:List aa)(K:KT):Prop:=∃res,AV.ae kF=true/\a7 P f kF res/\K res (zD O args res)
theorem qT{P:Program}{f:FuncId}{kF args:List AV}{O:List aa}{K:KT}(res:AV)(h:a7 P f kF res)(hn:AV.ae kF=true)(k:k1 res (zD O args res) K):aaN P f kF args O K:=⟨res,hn,h,k⟩
def apO(P:Program)(x:AV)(args:List AV)(O:List aa)(K:KT):Prop:=match x with
 | .fn f aV=>akF P f (args++aV) O K
 |_=>False
theorem nF(P:Program)(f:FuncId)(aV args:List AV)(O:List aa)(K:KT):apO P (.fn f aV) args O K=akF P f (args++aV) O K:=nr rfl
def aj4(P:Program)(x:AV)(args:List AV)(O:List aa)(K:KT):Prop:=match x with
 | .fn f aV=>aeO P f (args++aV) O K
 |_=>False
theorem gZ(P:Program)(f:FuncId)(aV args:List AV)(O:List aa)(K:KT):aj4 P (.fn f aV) args O K=aeO P f (args++aV) O K:=nr rfl
def aj6(P:Program)(x:AV)(kF args:List AV)(O:List aa)(K:KT):Prop:=match x with
 | .fn f aV=>aaN P f (kF++aV) args O K
 |_=>False
theorem hH(P:Program)(f:FuncId)(aV kF args:List AV)(O:List aa)(K:KT):aj6 P (.fn f aV) kF args O K=aaN P f (kF++aV) args O K:=nr rfl
section
variable (P:Program) (e:Env) (O:List aa) (K:KT)
theorem adE(x:aC):wpOp P (.aq x) e O K=k1 (x.ev e) O K:=nr rfl
theorem sQ(c a b:aC):wpOp P (.pick c a b) e O K=sP (c.ev e) (a.ev e) (b.ev e) O K:=nr rfl
theorem tK(t s:Nat)(z:AV):wpOp P (.alloc t s z) e O K=k1 (.ptr O.length 1 0 0) (O++ [.live t s [z]]) K:=nr rfl
theorem adF(t s:Nat)(x:aC):wpOp P (.box t s x) e O K=azr t s (x.ev e) O K:=nr rfl
theorem tJ(z:List AV)(ps:List (Nat×Nat×aC)):wpOp P (.build z ps) e O K=ade z (ps.map λ p=>(p.1,p.2.1,p.2.2.ev e)) O K:=acg ps z
theorem iL(t s len:Nat)(z:AV)(ps:List (Nat×aC)):wpOp P (.buildSlice t s len z ps) e O K=adb t s len (List.replicate len z) (ps.map λ p=>(p.1,p.2.ev e)) O K:=ags t s len ps _
theorem pB(n:Option Nat)(x:aC):wpOp P (.load n x) e O K=ake n (x.ev e) O K:=by
 simp only[wpOp,ake];cases x.ev e<;>first|rfl|(rename_i k l i f;cases O[k]? with|none=>rfl|some o=>cases o<;>rfl)
theorem pe(m:Nat)(x y:aC):wpOp P (.store m x y) e O K=aii m (x.ev e) (y.ev e) O K:=by
 simp only[wpOp,aii];cases x.ev e<;>first|rfl|(rename_i k l i f;cases O[k]? with|none=>rfl|some o=>cases o<;>rfl)
theorem aaV(op:BinOp)(x y:aC):wpOp P (.bin op x y) e O K=eM op (x.ev e) (y.ev e) O K:=nr rfl
theorem aiJ(op:UnOp)(x:aC):wpOp P (.un op x) e O K=unK op (x.ev e) O K:=nr rfl
theorem vu(k:IntKind)(x:aC):wpOp P (.kG k x) e O K=aca k (x.ev e) O K:=nr rfl
theorem ky(off:Nat)(x:aC):wpOp P (.aB off x) e O K=afD off (x.ev e) O K:=by
 simp only[wpOp,afD];cases x.ev e<;>first|rfl|(rename_i k l i f;cases O[k]? with|none=>rfl|some o=>cases o<;>rfl)
theorem aaT(off:Nat)(n:Option Nat)(x:aC):wpOp P (.yK off n x) e O K=amc off n (x.ev e) O K:=nr rfl
def afS(m s:Nat)(a i:AV)(O:List aa)(K:KT):Prop:=match a,i with
 | .bV y f,.v (.int _ i)=>0<=i/\i<m/\K (.bV y (f+i.toNat*s)) O
 | .ptr n len j f,.v (.int _ i)=>sd O[n]? λ _ _ xs=>xs.length=len/\0<=i/\i<m/\K (.ptr n len j (f+i.toNat*s)) O
 |_,_=>False
theorem kb(m s:Nat)(y:AV)(f:Nat)(k:IntKind)(i:Int)(O:List aa)(K:KT):afS m s (.bV y f) (.v (.int k i)) O K=(0<=i/\i<m/\k1 (.bV y (f+i.toNat*s)) O K):=nr rfl
theorem lS(m s n len j f:Nat)(k:IntKind)(i:Int)(O:List aa)(K:KT):afS m s (.ptr n len j f) (.v (.int k i)) O K=sd O[n]? λ _ _ xs=>xs.length=len/\0<=i/\i<m/\k1 (.ptr n len j (f+i.toNat*s)) O K:=nr rfl
theorem tL(m s:Nat)(x y:aC):wpOp P (.yX m s x y) e O K=afS m s (x.ev e) (y.ev e) O K:=by
 simp only[wpOp,afS];cases x.ev e<;>cases y.ev e<;>first|rfl|(rename_i v;cases v<;>first|rfl|(rename_i n len _ _ _ _;cases O[n]? with|none=>rfl|some o=>cases o<;>rfl))
theorem pf(s:Nat)(x y:aC):wpOp P (.bg s x y) e O K=abE s (x.ev e) (y.ev e) O K:=by
 simp only[wpOp,abE];cases x.ev e<;>cases y.ev e<;>first|rfl|(rename_i v;cases v<;>first|rfl|(rename_i n len _ _;cases O[n]? with|none=>rfl|some o=>cases o<;>rfl))
theorem vt(x y:aC):wpOp P (.m6 x y) e O K=abC (x.ev e) (y.ev e) O K:=nr rfl
theorem nS(x:aC)(lo hi:Option aC):wpOp P (.fW x lo hi) e O K=o9 (x.ev e) (lo.map (aC.ev e)) (hi.map (aC.ev e)) O K:=by simp only[wpOp,o9,ach];cases x.ev e<;>first|rfl|(rename_i v;cases v<;>rfl)
theorem nT(s:Nat)(x:aC)(lo hi:Option aC):wpOp P (.cO s x lo hi) e O K=pa s (x.ev e) (lo.map (aC.ev e)) (hi.map (aC.ev e)) O K:=by simp only[wpOp,pa,ach];cases x.ev e<;>rfl
theorem aiK(t s b:Nat)(z:AV)(x y:aC):wpOp P (.mk t s b z x y) e O K=mkK t s b z (x.ev e) (y.ev e) O K:=nr rfl
theorem vq(x:aC):wpOp P (.mn x) e O K=abc (x.ev e) O K:=nr rfl
theorem sR(x:aC):wpOp P (.bl x) e O K=po (x.ev e) O K:=by
 simp only[wpOp,po];cases x.ev e<;>first|rfl|(rename_i k l;cases O[k]? with|none=>rfl|some o=>cases o<;>rfl)
theorem yy(t s b:Nat)(x y:aC):wpOp P (.app t s b x y) e O K=mM O (y.ev e) λ ys=>(∀y∈ys,y.cells.length=s)/\pc O (x.ev e) t s b ys K:=by
 have h:∀ys,iB O (x.ev e) t s b ys K=pc O (x.ev e) t s b ys K:=by
  intro ys;unfold iB pc;cases x.ev e<;>first|rfl|(rename_i k l;cases O[k]? with|none=>rfl|some o=>cases o<;>rfl)
 simp only[wpOp,h];unfold vc mM;cases y.ev e<;>first|rfl|(rename_i k l;cases O[k]? with|none=>rfl|some o=>cases o<;>rfl)
theorem aaU(x:aC)(i:Nat):wpOp P (.ext x i) e O K=azl (x.ev e) i O K:=nr rfl
theorem vo(x:aC):wpOp P (.bQ x) e O K=agH (x.ev e) O K:=by
 simp only[wpOp,agH];cases x.ev e<;>first|rfl|(rename_i k l i f;cases O[k]? with|none=>rfl|some o=>cases o<;>rfl)
theorem vp(f:FuncId)(cs:List aC):wpOp P (.vw f cs) e O K=k1 (.fn f (cs.map (aC.ev e))) O K:=nr rfl
theorem xG(f:FuncId)(as:List aC):wpOp P (.call f as) e O K=akF P f (as.map (aC.ev e)) O K:=nr rfl
theorem tI(x:aC)(as:List aC):wpOp P (.eI x as) e O K=apO P (x.ev e) (as.map (aC.ev e)) O K:=nr rfl
theorem qW(f:FuncId)(as:List aC):wpOp P (.pb f as) e O K=aaN P f (as.map λ x=>jL O (x.ev e)) (as.map (aC.ev e)) O K:=nr rfl
theorem mh(x:aC)(as:List aC):wpOp P (.kx x as) e O K=aj6 P (x.ev e) (as.map λ x=>jL O (x.ev e)) (as.map (aC.ev e)) O K:=nr rfl
theorem qV(f:FuncId)(as:List aC):wpOp P (.mN f as) e O K=aeO P f (as.map (aC.ev e)) O K:=nr rfl
theorem mg(x:aC)(as:List aC):wpOp P (.jc x as) e O K=aj4 P (x.ev e) (as.map (aC.ev e)) O K:=nr rfl
end
def aoo(P:Program)(d:Option Nat)(e:Env)(r:List aH)(Q:Env->List aa->Prop):KT:=λ x O'=>Go.Ab.wpOps P r (bB e d x) O' Q
theorem tU(P:Program)(d:Option Nat)(e:Env)(r:List aH)(Q:Env->List aa->Prop)(a:AV)(O:List aa):k1 a O (aoo P d e r Q)=Go.Ab.wpOps P r (bB e d a) O Q:=nr rfl
theorem kX(P:Program)(d:Option Nat)(op:dY)(e:Env)(O:List aa)(r:List aH)(Q:Env->List aa->Prop):Go.Ab.wpOps P (⟨none,d,op⟩::r) e O Q=wpOp P op e O (aoo P d e r Q):=nr rfl
def zy(P:Program)(a:AV)(want:Bool)(t:Nat)(d:Option Nat)(op:dY)(r:List aH)(e:Env)(O:List aa)(Q:Env->List aa->Prop):Prop:=match a with
 | .v (.bool b)=>
   (b=want->wpOp P op (e.set t (.v (.bool want))) O (aoo P d (e.set t (.v (.bool want))) r Q))/\
   (b= !want->Go.Ab.wpOps P r (bB (e.set t (.v (.bool (!want)))) d (.a9 [])) O Q)
 | .a9 []=>Go.Ab.wpOps P r (bB e d (.a9 [])) O Q
 |_=>False
section
variable (P:Program) (t:Nat) (d:Option Nat) (op:dY) (r:List aH) (e:Env) (O:List aa) (Q:Env->List aa->Prop)
theorem ui(want:Bool):Go.Ab.wpOps P (⟨some (t,want),d,op⟩::r) e O Q=zy P (e t) want t d op r e O Q:=by
 rw[af4];unfold zy;cases e t<;>try rfl
theorem tX:zy P (.v (.bool true)) true t d op r e O Q=wpOp P op (e.set t (.v (.bool true))) O (aoo P d (e.set t (.v (.bool true))) r Q):=by simp[zy]
theorem ua:zy P (.v (.bool false)) false t d op r e O Q=wpOp P op (e.set t (.v (.bool false))) O (aoo P d (e.set t (.v (.bool false))) r Q):=by simp[zy]
theorem tY:zy P (.v (.bool true)) false t d op r e O Q=Go.Ab.wpOps P r (bB (e.set t (.v (.bool true))) d (.a9 [])) O Q:=by simp[zy]
theorem tZ:zy P (.v (.bool false)) true t d op r e O Q=Go.Ab.wpOps P r (bB (e.set t (.v (.bool false))) d (.a9 [])) O Q:=by simp[zy]
theorem ny(want:Bool):zy P (.a9 []) want t d op r e O Q=Go.Ab.wpOps P r (bB e d (.a9 [])) O Q:=by simp[zy]
variable {P t d op r e O Q}
end
def aec(P:Program)(n0:Nat)(a:AV)(t f:aK)(Q:AX->Env->List aa->Prop)(e:Env)(O:List aa):Prop:=match a with
 | .v (.bool b)=>(b=true->kZ P n0 t Q e O)/\(b=false->kZ P n0 f Q e O)
 |_=>False
def aqI(P:Program)(n0:Nat)(b:aK)(Q:AX->Env->List aa->Prop):AX->Env->List aa->Prop:=λ x e O=>match x with| .normal=>kZ P n0 b Q e O|x=>Q x e O
def afN(id:Nat)(Q:AX->Env->List aa->Prop):AX->Env->List aa->Prop:=λ x e O=>match x with| .exit i=>if i=id then Q .normal e O else Q (.exit i) e O|x=>Q x e O
def akh(l:List Nat)(Q:AX->Env->List aa->Prop):AX->Env->List aa->Prop:=λ x e O=>match x with| .normal=>Q .normal (wG l e) O|x=>Q x e O
section
variable (P:Program) (n0:Nat) (Q:AX->Env->List aa->Prop) (e:Env) (O:List aa)
theorem yi(c:aC)(t f:aK):kZ P n0 (.cond c t f) Q e O=aec P n0 (c.ev e) t f Q e O:=nr rfl
theorem lM(t f:aK):aec P n0 (.v (.bool true)) t f Q e O=kZ P n0 t Q e O:=by simp[aec]
theorem j5(t f:aK):aec P n0 (.v (.bool false)) t f Q e O=kZ P n0 f Q e O:=by simp[aec]
theorem aeg(a b:aK):kZ P n0 (.seq a b) Q e O=kZ P n0 a (aqI P n0 b Q) e O:=nr rfl
theorem uj(id:Nat)(b:aK):kZ P n0 (.block id b) Q e O=kZ P n0 b (afN id Q) e O:=nr rfl
theorem yh(l:List Nat)(c:aK):kZ P n0 (.ai l c) Q e O=kZ P n0 c (akh l Q) e O:=nr rfl
theorem xy(b:aK):aqI P n0 b Q .normal e O=kZ P n0 b Q e O:=nr rfl
theorem xz(b:aK)(i:Nat):aqI P n0 b Q (.exit i) e O=Q (.exit i) e O:=nr rfl
theorem xx(b:aK):aqI P n0 b Q .ret e O=Q .ret e O:=nr rfl
theorem qC(id:Nat):afN id Q .normal e O=Q .normal e O:=nr rfl
theorem qD(id i:Nat):afN id Q (.exit i) e O=if i=id then Q .normal e O else Q (.exit i) e O:=nr rfl
theorem qB(id:Nat):afN id Q .ret e O=Q .ret e O:=nr rfl
theorem tS(l:List Nat):akh l Q .normal e O=Q .normal (wG l e) O:=nr rfl
theorem tT(l:List Nat)(i:Nat):akh l Q (.exit i) e O=Q (.exit i) e O:=nr rfl
theorem tR(l:List Nat):akh l Q .ret e O=Q .ret e O:=nr rfl
variable {P n0 Q e O}
theorem my{b:Bool}{t f:aK}(h:b=true->kZ P n0 t Q e O)(h':b=false->kZ P n0 f Q e O):aec P n0 (.v (.bool b)) t f Q e O:=⟨h,h'⟩
end
section
variable {ι:Type} (n0:Nat) (D:ι->Prop) (σ:ι->Env) (τ:ι->List aa) (μ:ι->Nat) (i:ι) (Q:AX->Env->List aa->Prop) (e:Env) (O:List aa)
theorem p9(k:Nat):aax n0 D σ τ μ i Q (.exit k) e O=Q (.exit k) e O:=nr rfl
theorem p8:aax n0 D σ τ μ i Q .ret e O=Q .ret e O:=nr rfl
variable {n0 D σ τ μ i Q e O}
theorem aL(j:ι)(h:D j)(h1:μ j<μ i)(h2:WK n0 e O (σ j) (τ j)):aax n0 D σ τ μ i Q .normal e O:=⟨j,h,h1,h2⟩
end
def asT(P:Program)(n0:Nat)(Q:AX->Env->List aa->Prop)(e:Env)(O:List aa)(b:aK):Prop:=kZ P n0 (.loop b) Q e O
theorem yg(P:Program)(n0:Nat)(Q:AX->Env->List aa->Prop)(e:Env)(O:List aa)(b:aK):kZ P n0 (.loop b) Q e O=asT P n0 Q e O b:=nr rfl
theorem aQ{P:Program}{n0:Nat}{b:aK}{Q:AX->Env->List aa->Prop}{e:Env}{O:List aa}{ι:Type}(D:ι->Prop)(σ:ι->Env)(τ:ι->List aa)(μ:ι->Nat)(i0:ι)
 (hd:D i0) (h0:WK n0 e O (σ i0) (τ i0)) (hr:∀i,D i->kZ P n0 b (aax n0 D σ τ μ i Q) (σ i) (τ i)):asT P n0 Q e O b:=am2 D σ τ μ i0 hd h0 hr
theorem fN{m:Nat}{x:AV}(h:x.isAgg=true)(h':x.cells.length=m):dt (some m) x 0=x:=by simp[dt,h,h']
theorem cR(x:AV)(f:Nat):dt none x f=x.cells.getD f .top:=nr rfl
theorem k7{x y:AV}(h:y.cells.length=x.cells.length):u6 x 0 y=y:=by simp[u6,h]
theorem lN(cs:List AV):(AV.agg cs).cells=cs:=nr rfl
theorem aF(x:Value):(AV.v x).cells= [.v x]:=nr rfl
theorem jN:AV.aA.cells= [.aA]:=nr rfl
theorem oo(xs:List AV):(AV.sl xs).cells= [.sl xs]:=nr rfl
theorem nC(n l:Nat):(AV.row n l).cells= [.row n l]:=nr rfl
theorem nD(n l i f:Nat):(AV.ptr n l i f).cells= [.ptr n l i f]:=nr rfl
theorem oq(f:FuncId)(cs:List AV):(AV.fn f cs).cells= [.fn f cs]:=nr rfl
theorem lF(cs:List AV):(AV.agg cs).isAgg=true:=nr rfl
theorem n8(x:Value):(AV.v x).bO=true:=nr rfl
theorem im:AV.aA.bO=true:=nr rfl
theorem lB(xs:List AV):(AV.sl xs).bO=true:=nr rfl
theorem lC(n l:Nat):(AV.row n l).bO=true:=nr rfl
theorem lD(n l i f:Nat):(AV.ptr n l i f).bO=true:=nr rfl
theorem lE(f:FuncId)(cs:List AV):(AV.fn f cs).bO=true:=nr rfl
theorem fR(cs:List AV):(AV.agg cs).storable=cs.all AV.bO:=nr rfl
theorem js(x:Value):(AV.v x).storable=true:=nr rfl
theorem fh:AV.aA.storable=true:=nr rfl
theorem gT(xs:List AV):(AV.sl xs).storable=true:=nr rfl
theorem iE(n l:Nat):(AV.row n l).storable=true:=nr rfl
theorem iF(n l i f:Nat):(AV.ptr n l i f).storable=true:=nr rfl
theorem gU(f:FuncId)(cs:List AV):(AV.fn f cs).storable=true:=nr rfl
theorem lJ{O:List aa}{a:AV}(h:a.ag=true):jL O a=a:=by
 cases a<;>first|rfl|(simp[AV.ag]at h;done)
theorem kH{O:List aa}{args:List AV}{res:AV}(h:res.flat=true):zD O args res=O:=by simp[zD,h]
theorem vN{O:List aa}{args:List AV}{res:AV}(h:AV.ae args=true):zD O args res=O:=by
 unfold zD
 split
 ·rfl
 ·induction args with
  |nil=>rfl
  |cons a as ih=>
   simp only[AV.ae,and_eq_true]at h;have:ec O a=O:=by cases a<;>first|rfl|(simp[AV.ag]at h;done)
   simp only[List.foldl_cons,this];exact ih h.2
theorem yb(x:Value):(AV.v x).flat=true:=nr rfl
theorem lq:AV.ae []=true:=nr rfl
theorem jX(x:AV)(xs:List AV):AV.ae (x::xs)=(x.ag&&AV.ae xs):=nr rfl
theorem tO(x:Value):(AV.v x).ag=true:=nr rfl
theorem qe(xs:List AV):(AV.sl xs).ag=AV.ae xs:=nr rfl
theorem nu(xs:List AV):(AV.agg xs).ag=AV.ae xs:=nr rfl
theorem nq(xs:List AV):(AV.a9 xs).ag=AV.ae xs:=nr rfl
theorem lu:AV.aA.ag=true:=nr rfl
theorem qg(f:FuncId)(cs:List AV):(AV.fn f cs).ag=AV.ae cs:=nr rfl
theorem ajI{n:Int}(h: -9223372036854775808<=n)(h':n<=9223372036854775807):IntKind.i64.wrap n=n:=by
 rw[IntKind.wrap_i64];omega
section
variable (n0:Nat) (rs:List dg) (res:AV) (O':List aa) (e:Env) (O:List aa)
end
theorem aqL{n0 t:Nat}{res:AV}{O':List aa}{x:AX}(hx:x= .ret∨x= .normal){e:Env}{O:List aa}(h:e t=res)(hO:O.take n0=O')(hk:n0<=O.length)(hb:∀ob∈O',ob.inScope n0=true)(hs:res.inScope n0=true):
  mW n0 [.tmp t] res O' x e O:=by
 have:cK e O [.tmp t] [] λ xs=>∃e',WK n0 (λ t=>if t=0 then bn xs else .top) O e' O'/\e' 0=res:=by
  simp only[cK,dg.get,List.reverse_cons,List.reverse_nil,nil_append,bn];refine⟨λ t=>if t=0 then res else .top,WK.forget hO (le_refl _) hk hb λ t=> ?_,rfl⟩;by_cases ht:t=0
  ·subst ht;exact .inr ⟨by simp[h],by simpa using hs⟩
  ·exact .inl (by simp[ht])
 rcases hx with rfl|rfl<;>exact this
theorem agA{t:Nat}{res:AV}{x:AX}(hx:x= .ret∨x= .normal){e:Env}{O:List aa}(h:e t=res)(hs:res.ag=true):mW 0 [.tmp t] res [] x e O:=
 aqL hx h rfl (Nat.zero_le _) (by simp) (bU _ hs)
end Go.Ab
namespace Go.Ab
def fz(O:List aa):Nat->AV->AV
 |0,a=>a
 |k+1,.row n len=>match O[n]? with
  |some (.live _ _ xs)=>if xs.length=len then .sl (xs.map (fz O k))else .row n len
  |some (.nil _ _)=>if len=0 then .sl []else .row n len
  |_=> .row n len
 |_+1,.aA=> .sl []
 |k+1,.agg cs=> .agg (cs.map (fz O k))
 |k+1,.a9 vs=> .a9 (vs.map (fz O k))
 |_+1,a=>a
open Classical in
noncomputable def allI (I:cZ) (L:Nat->Loc) (O:List aa) (w:World):cZ:=λ b o=>if LB L O b then w.cell? ⟨b,o,none⟩else I b o
theorem xf{I:cZ}{L:Nat->Loc}{O:List aa}{w:World}(hi:Inv I L O w):∀b o x,I b o=some x->allI I L O w b o=some x:=by
 intro b o x hx;unfold allI
 split
 ·exact hi.gN b o x hx
 ·exact hx
theorem Good.all{I0 I:cZ}{L0 L:Nat->Loc}{O:List aa}{w0 w:World}(h:Good I0 L0 [] w0 I L O w):Good I0 L0 [] w0 (allI I L O w) L [] w:=by
 refine⟨⟨λ b o x hx=> ?_,by simp,by simp,by simp,λ p hp=>xf h.inv _ _ _ (h.inv.fix p hp),h.inv.xe (xf h.inv),.no (by simp),.no (by simp)⟩,⟨λ b o x hx=>xf h.inv _ _ _ (h.ext.gN _ _ _ hx),by simp,by simp,by simp,by simp,by simp⟩,h.lK,?_,λ b o x hx=> ?_⟩
 ·unfold allI at hx
  split at hx
  ·exact hx
  ·exact h.inv.gN b o x hx
 ·exact λ b hb=>(tt hb).elim
 ·unfold allI at hx
  split at hx
  ·rename_i hlb;rcases h.lb b hlb with h1|h1
   ·exact(tt h1).elim
   ·exact .inr (.inr h1)
  ·exact h.eK b o x hx
theorem ku(e:Env)(O:List aa)(acc:List AV)(M:List AV->Prop):cK e O [] acc M=M acc.reverse:=nr rfl
theorem kq(e:Env)(O:List aa)(t:Nat)(rs:List dg)(acc:List AV)(M:List AV->Prop):cK e O (.tmp t::rs) acc M=cK e O rs (e t::acc) M:=nr rfl
def ajs(o:Option aa)(n:Option Nat)(K:AV->Prop):Prop:=match o with
 |some (.live _ _ [x])=>n.getD 1<=x.cells.length/\K (dt n x 0)
 |_=>False
def atp(a:AV)(O:List aa)(n:Option Nat)(K:AV->Prop):Prop:=match a with
 | .ptr k 1 0 0=>ajs O[k]? n K
 |_=>False
theorem nn(e:Env)(O:List aa)(t:Nat)(n:Option Nat)(rs:List dg)(acc:List AV)(M:List AV->Prop):cK e O (.cell t n::rs) acc M=atp (e t) O n λ x=>cK e O rs (x::acc) M:=nr rfl
theorem nE(k:Nat)(O:List aa)(n:Option Nat)(K:AV->Prop):atp (.ptr k 1 0 0) O n K=ajs O[k]? n K:=nr rfl
theorem j7(t s:Nat)(x:AV)(n:Option Nat)(K:AV->Prop):ajs (some (.live t s [x])) n K=(n.getD 1<=x.cells.length/\K (dt n x 0)):=nr rfl
theorem np(x:AV):bn [x]=x:=nr rfl
theorem lj(x y:AV)(l:List AV):bn (x::y::l)= .a9 (x::y::l):=nr rfl
theorem ad0(O:List aa)(x:Value):jL O (.v x)= .v x:=nr rfl
theorem x6(O:List aa)(xs:List AV):jL O (.sl xs)= .sl xs:=nr rfl
theorem qw(O:List aa):jL O .aA= .aA:=nr rfl
theorem ub(O:List aa)(xs:List AV):jL O (.agg xs)= .agg xs:=nr rfl
theorem x7(O:List aa)(f:FuncId)(xs:List AV):jL O (.fn f xs)= .fn f xs:=nr rfl
theorem qH{a b y:AV}{cs:List AV}{i:Nat}(hy:y.cells= [y])(h:i<(a::b::cs).length):u6 (.agg (a::b::cs)) i y= .agg ((a::b::cs).set i y):=by
 unfold u6;rw[hy,if_neg (by simp[AV.cells])];simp only[AV.cells,List.length_singleton,List.append_assoc,List.singleton_append];rw[List.set_eq_take_append_cons_drop,if_pos h]
theorem adj{a b:AV}{cs:List AV}{i:Nat}(x:Value)(h:i<(a::b::cs).length):u6 (.agg (a::b::cs)) i (.v x)= .agg ((a::b::cs).set i (.v x)):=qH rfl h
theorem xm{a b:AV}{cs:List AV}{i:Nat}(x:List AV)(h:i<(a::b::cs).length):u6 (.agg (a::b::cs)) i (.sl x)= .agg ((a::b::cs).set i (.sl x)):=qH rfl h
theorem pR{a b:AV}{cs:List AV}{i:Nat}(h:i<(a::b::cs).length):u6 (.agg (a::b::cs)) i .aA= .agg ((a::b::cs).set i .aA):=qH rfl h
theorem tx{a b:AV}{cs:List AV}{i:Nat}(n l:Nat)(h:i<(a::b::cs).length):u6 (.agg (a::b::cs)) i (.row n l)= .agg ((a::b::cs).set i (.row n l)):=qH rfl h
theorem tz{a b:AV}{cs:List AV}{i:Nat}(n l j f:Nat)(h:i<(a::b::cs).length):u6 (.agg (a::b::cs)) i (.ptr n l j f)= .agg ((a::b::cs).set i (.ptr n l j f)):=qH rfl h
theorem xn{a b:AV}{cs:List AV}{i:Nat}(f:FuncId)(l:List AV)(h:i<(a::b::cs).length):u6 (.agg (a::b::cs)) i (.fn f l)= .agg ((a::b::cs).set i (.fn f l)):=qH rfl h
theorem tA{cs ds:List AV}{i:Nat}(h:i≠0):u6 (.agg cs) i (.agg ds)= .agg (cs.take i++(ds++cs.drop (i+ds.length))):=by
 unfold u6;rw[if_neg (by simp[h])];simp[AV.cells]
theorem pS{cs ds:List AV}(h:ds.length<cs.length):u6 (.agg cs) 0 (.agg ds)= .agg (ds++cs.drop ds.length):=by
 unfold u6;rw[if_neg (by simp[AV.cells];omega)];simp[AV.cells]
theorem aml(n:Nat):decide ((n:Int)<0)=false:=by simp
end Go.Ab
namespace Go.Ab
theorem WK.select{e e':Env}{O O1:List aa}(s:Nat->Nat)(hg:∀i,i<O1.length->O[s i]? =(O1[i]?).map (aa.bj s))(zw:∀i j,i<O1.length->j<O1.length->s i=s j->i=j)
  (hsO:∀ob∈O1,ob.inScope O1.length=true) (he:∀t,e' t= .top∨(e t=(e' t).bj s/\(e' t).inScope O1.length=true)):WK 0 e O e' O1:=by
 intro I0 L0 O0 w0 I L w f hl je hr;obtain rfl:O0= []:=List.eq_nil_of_length_eq_zero hl;have hi:=je.inv
 have gA:∀{n e k ys},O1[n]? =some (.live e k ys)->O[s n]? =some (.live e k (ys.map (AV.bj s))):=by
  intro n e k ys hn;rw[hg n (List.getElem?_eq_some_iff.1 hn).1,hn];rfl
 have jE:∀{n:Nat} {a:AV},O1[n]? =some (.own a)->O[s n]? =some (.own a):=by
  intro n a hn;rw[hg n (List.getElem?_eq_some_iff.1 hn).1,hn];rfl
 have rq:∀{n:Nat} {g:fH},O1[n]? =some (.cE g)->O[s n]? =some (.cE (g.bj s)):=by
  intro n a hn;rw[hg n (List.getElem?_eq_some_iff.1 hn).1,hn];rfl
 have un:∀{a:AV} {x:Value},R I L O (a.bj s) x->a.inScope O1.length=true->R I (λ n=>L (s n)) O1 a x:=λ hr hsc=>R.am5 hg (λ _ _=>rfl) hr _ rfl hsc
 refine⟨I,λ n=>L (s n),⟨⟨hi.gN,λ n e k ys hn=> ?_,λ n n' e k ys e' k' uF hn m7 hb=> ?_,λ n e k ys o hn=>hi.cT _ _ _ _ o (gA hn),hi.fix,hi.aZ,
  ⟨λ n a hn=>hi.ow.tree _ a (jE hn),λ n a hn=>hi.ow.cell _ a (jE hn),λ n a hn=>hi.ow.gN _ a (jE hn),λ n a hn b o v hv m e k xs hm=>hi.ow.live _ a (jE hn) b o v hv _ _ _ _ (gA hm),
   λ n m a c hn hm b o o' v v' hv iV=>zw _ _ (List.getElem?_eq_some_iff.1 hn).1 (List.getElem?_eq_some_iff.1 hm).1 (hi.ow.sep _ _ a c (jE hn) (jE hm) b o o' v v' hv iV),λ n a hn=>hi.ow.deep _ a (jE hn)⟩,
  ⟨λ n g hn=>(hi.gh.ok _ _ (rq hn)).un (λ _ _ hr hsc=>un hr hsc) (hsO _ (mem_of_getElem? hn)),λ n m a c hn hm hb=>zw _ _ (List.getElem?_eq_some_iff.1 hn).1 (List.getElem?_eq_some_iff.1 hm).1 (hi.gh.sep _ _ _ _ (rq hn) (rq hm) hb)⟩⟩,⟨je.ext.gN,by simp,by simp,by simp,by simp,by simp⟩,je.lK,?_,je.eK⟩,λ t=> ?_⟩
 ·obtain⟨c,⟨kS,q1,cL⟩,q2,q3,q4,q5,q6⟩:=hi.obj _ _ _ _ (gA hn);refine⟨c,⟨kS,q1,cL⟩,q2,by simpa using q3,q4,q5,λ i x hx=> ?_⟩;have kA:(ys.map (AV.bj s))[i]? =some (x.bj s):=by rw[getElem?_map,hx];rfl
  obtain⟨r1,r2⟩:=q6 i _ kA;rw[dq,List.length_map]at r1;refine⟨r1,λ j a ha=> ?_⟩;obtain⟨y,hy,ho,pF⟩:=r2 j (a.bj s) (by rw[dq,getElem?_map,ha];rfl);have hbo:=hsO _ (mem_of_getElem? hn);exact⟨y,hy,ho,un pF (bT (bG hbo x (mem_of_getElem? hx)) a (mem_of_getElem? ha))⟩
 ·exact zw _ _ (List.getElem?_eq_some_iff.1 hn).1 (List.getElem?_eq_some_iff.1 m7).1 (hi.sep _ _ _ _ _ _ _ _ (gA hn) (gA m7) hb)
 ·rintro b (⟨n,e,k,xs,hn,hb⟩|⟨n,a,o,v,hn,hb⟩|⟨n,a,hn,hb⟩)
  ·exact je.lb b (.inl ⟨s n,_,_,_,gA hn,hb⟩)
  ·exact je.lb b (.inr (.inl ⟨s n,a,o,v,jE hn,hb⟩))
  ·exact je.lb b (.inr (.inr ⟨s n,_,rq hn,hb⟩))
 ·rcases he t with h|⟨h,h'⟩
  ·rw[h];exact .top _
  ·have:=hr t;rw[h]at this;exact un this h'
end Go.Ab
namespace Go.Ab
open Go.ChangeShapes Go.WideShapes
section
variable {H:Type} {enc:TypeId×Value->H} {P:Program}
theorem uG(hl:laidOutB P=true){W W':World}{sp':Nat->Bool}:∀{ts:List TypeId} {vs:List Value} {ds:List (DataW H)} {ps:List MemPlace},(∀t∈ts,P.readableRec t=true/\t<P.types.size)->
  DataW.TrodAll enc P W 0 (λ _=>true) true ts vs ds ps->(∀p∈ps,W.sameAt W' p)->(∀p∈ps,sp' p.block=true)->DataW.TrodAll enc P W' 0 sp' true ts vs ds ps
 | [],_,_,_,_,h,_,_=>by
   obtain⟨rfl,rfl,rfl⟩:=trodAll_nil h;exact trodAll_mk0
 |t::ts,_,_,_,ht,h,hs,hp=>by
  obtain⟨v,vs,d,ds,p,q,rfl,rfl,rfl,h0,h1⟩:=trodAll_cons h;obtain⟨a,b⟩:=ht t List.mem_cons_self
  exact⟨p,q,WideElems.Trod_stays hl a b h0 (λ x hx=>hs x (mem_append_left _ hx)) (λ x hx=>hp x (mem_append_left _ hx)),
   uG hl (λ t' h'=>ht t' (List.mem_cons_of_mem _ h')) h1 (λ x hx=>hs x (List.mem_append_right _ hx)) (λ x hx=>hp x (List.mem_append_right _ hx)),rfl⟩
theorem aok{f:Func}{s:ChangeSpec}{apart fresh handsOn again:Bool}{W W':World}{args:Array Value}{ds gs:List (DataW H)}{before:List MemPlace}(hl:laidOutB P=true)
  (uB:∀t∈f.params.toList,P.readableRec t=true/\t<P.types.size) (hv:s.vars= []) (hW:DataW.Whole enc P f.params.toList s.vars apart W args.toList ds gs before) (hb:RowKit.Below W.heap.size W W')
  {t:TypeId} (hr:f.resultTypes= #[t]) (ht:P.underlying t=some .bool) (hfn:s.fn H (ds++gs)={results:=[.lit (.bool true)],args:=ds}):
  s.post enc P f apart fresh handsOn again W args (.bool true) W':=by
 have aw:=hW.lt;have hold:∀p∈before,(λ b=>decide (b<W.heap.size)) p.block=true:=λ p hp=>by simpa using aw p hp
 have hW0:=hW;obtain⟨p,q,hA,hV,rfl,hz,hn⟩:=hW0;rw[hv]at hV;obtain⟨rfl,rfl⟩:=trodVars_none hV
 have pK:∀sp:Nat->Bool,(∀x∈p,sp x.block=true)->DataW.TrodAll enc P W' 0 sp true f.params.toList args.toList ds p:=λ sp vS=>
  uG hl uB hA (λ x hx=>hb.same (aw x (mem_append_left _ hx))) vS
 have qp:∀(b:Nat) (sp:Nat->Bool) (hd:Bool),DataW.TrodAll enc P W' b sp hd f.resultTypes.toList ((Value.bool true).resultList f.resultTypes.size) [.lit (.bool true)] []:=by
  intro b sp hd;rw[hr];refine trodAll_mk1 ⟨1,?_⟩;simp[DataW.trod,ht,Value.cells]
 have as4:∀sp:Nat->Bool,DataW.TrodVars enc P W' sp s.vars [] []:=by
  intro sp;rw[hv];exact rfl
 refine⟨ds,[],p++ [],[],p,[],hW,by rw[hfn];exact qp _ _ _,by rw[hfn];exact pK _ (λ x hx=>hold x (mem_append_left _ hx)),by rw[hfn];exact as4 _,World.keptBut_mono (λ x hx=>hx) (hb.frame _),λ _=> ?_⟩;refine⟨?_,[.lit (.bool true)]++ds,[],([]++p)++ [],⟨[]++p,[],trodAll_append (pK _ (λ _ _=>rfl)) (qp _ _ _),as4 _,rfl,?_,?_⟩,?_⟩
 ·intro j t' r h1 h2;rw[hr]at h1 h2;cases j with
  |zero=>
   simp[Value.resultList]at h1 h2;subst h1;subst h2;exact RowKit.okWide_bool_mk ht true
  |succ j=>simp at h1
 ·intro b off hp;have hp':MemPlace.cell b off∈p++ []:=by simpa using hp
  rw[hb.frozen (aw _ hp')];exact hz b off hp'
 ·intro ha;have:=hn ha;simpa using this
 ·intro x hx _;simpa using hx
mutual
def oY:DataW H->Nat
 | .lit (.string bytes)=>bytes.length+1
 | .lit _=>1
 | .nil=>1
 | .ptr d=>oY d+1
 | .slice elems spare=>lX elems+lX spare+1
 | .agg parts=>lX parts+1
 | .iface _ d=>oY d+1
 | .map _=>1
 | .held _=>1
def lX:List (DataW H)->Nat
 | []=>0
 |d::r=>oY d+lX r
end
def agQ(w:World):cZ:=λ b o=>w.cell? ⟨b,o,none⟩
theorem an9(L:Nat->Loc)(w:World)(hf:∀p∈rC,w.cell? ⟨p.1,p.2.1,none⟩=some p.2.2)(hq:∀q∈nA,lY w q.1=some q.2/\∃v,agQ w q.1 0=some v/\aht q.1 v=true):Inv (agQ w) L [] w:=⟨λ _ _ _ h=>h,by simp,by simp,by simp,hf,hq,.no (by simp),.no (by simp)⟩
theorem axB(h:nA= [])(w:World):∀q∈nA,lY w q.1=some q.2/\∃v,agQ w q.1 0=some v/\aht q.1 v=true:=by rw[h];simp
theorem axA(h:rC= [])(w:World):∀p∈rC,w.cell? ⟨p.1,p.2.1,none⟩=some p.2.2:=by rw[h];simp
def RdC(w:World)(as:List AV)(cs:List Value):Prop:=
 as.length=cs.length/\∀(j:Nat) c y,as[j]? =some c->cs[j]? =some y->y.oneCell'=true/\∀L,R (agQ w) L [] c y
theorem RdC.nil(w:World):RdC w [] []:=⟨rfl,by simp⟩
theorem RdC.one{w:World}{a:AV}{y:Value}(h:y.oneCell'=true)(hr:∀L,R (agQ w) L [] a y):RdC w [a] [y]:=by
 refine⟨rfl,λ j c z hc hz=> ?_⟩;cases j with
 |zero=>simp at hc hz;subst hc;subst hz;exact⟨h,hr⟩
 |succ j=>simp at hc
theorem RdC.append{w:World}{as bs:List AV}{cs ds:List Value}(h:RdC w as cs)(k:RdC w bs ds):RdC w (as++bs) (cs++ds):=by
 refine⟨by simp[h.1,k.1],λ j c y hc hy=> ?_⟩;by_cases hj:j<as.length
 ·rw[List.getElem?_append_left hj]at hc;rw[List.getElem?_append_left (by rw[←h.1];exact hj)]at hy;exact h.2 j c y hc hy
 ·rw[List.getElem?_append_right (by omega)]at hc;rw[List.getElem?_append_right (by rw[←h.1];omega),←h.1]at hy;exact k.2 _ c y hc hy
theorem RdC.part{w:World}{as bs:List AV}{cs:List Value}(o n:Nat)(h:RdC w as ((cs.drop o).take n))(k:RdC w bs (cs.drop (o+n))):RdC w (as++bs) (cs.drop o):=by
 have:=h.append k;rwa [←List.drop_drop,List.take_append_drop]at this
def Rd(enc:TypeId×Value->H)(P:Program)(w:World)(f:Nat)(t:TypeId){α:Type}(cells:α->List AV)(wt:α->Nat)(ok:α->Prop):Prop:=
 ∀cs x,DataW.trod enc P w 0 (λ _=>true) true f t cs=some x->∃y:α,RdC w (cells y) cs/\wt y<=oY x.1/\ok y
theorem ais{w:World}{f:Nat}{t:TypeId}{k:IntKind}(ht:P.underlying t=some (.int k)):Rd enc P w f t (λ n:Int=>[.v (.int k n)]) (λ _=>1) (λ n=>k.min<=n/\n<=k.max):=by
 intro cs x h;obtain⟨n,rfl,rfl,hw⟩:=DataW.trod_int ht h;exact⟨n,.one rfl λ L=> .v _ rfl,le_refl _,by simpa [Lit.wf]using hw⟩
theorem ak7{w:World}{f:Nat}{t:TypeId}(ht:P.underlying t=some .string):Rd enc P w f t (λ s:ByteArray=>[.v (.string s)]) (λ s=>s.size+1) (λ _=>True):=by
 intro cs x h;obtain⟨s,rfl,rfl,_⟩:=DataW.trod_string ht h;refine⟨s,.one rfl λ L=> .v _ rfl,?_,trivial⟩;simp only[oY];rw[Array.length_toList];exact le_refl _
theorem ahL{α:Type}{wt:α->Nat}:∀{l:List α} {ds:List (DataW H)},l.length=ds.length->(∀(i:Nat) a d,l[i]? =some a->ds[i]? =some d->wt a<=oY d)->(l.map wt).sum<=lX ds
 | [],[],_,_=>le_refl _
 |a::l,d::ds,hl,h=>by
  have h0:=h 0 a d rfl rfl;have h1:=ahL (l:=l) (ds:=ds) (by simpa using hl) λ i a d ha hd=>h (i+1) a d ha hd
  simp only[map_cons,List.sum_cons,lX];omega
 | [],_::_,hl,_=>by simp at hl
 |_::_,[],hl,_=>by simp at hl
theorem ahE{α:Type}{n:Nat}{p:Nat->α->Prop}(h:∀i,i<n->∃a,p i a):∃l:List α,l.length=n/\∀(i:Nat) a,l[i]? =some a->p i a:=by
 induction n with
 |zero=>exact⟨[],rfl,by simp⟩
 |succ n ih=>
  obtain⟨l,hl,hp⟩:=ih λ i hi=>h i (Nat.lt_succ_of_lt hi)
  obtain⟨a,ha⟩:=h n (Nat.lt_succ_self n);refine⟨l++ [a],by simp[hl],λ i b hb=> ?_⟩;by_cases hi:i<l.length
  ·rw[List.getElem?_append_left hi]at hb;exact hp i b hb
  ·rw[List.getElem?_append_right (by omega)]at hb
   have:i=n:=by
    have:=(List.getElem?_eq_some_iff.1 hb).1;simp at this;omega
   subst this;simp[hl]at hb;subst hb;exact ha
theorem aaE{w:World}{f:Nat}{t e:TypeId}{α:Type}{av:α->AV}{wt:α->Nat}{ok:α->Prop}(ht:P.underlying t=some (.slice e))(hs:0<P.cellsOf e)(he:∀n,f=n+1->Rd enc P w n e (λ a=>(av a).cells) wt ok):
  Rd enc P w f t (λ l:List α=>[.sl (l.map av)]) (λ l=>(l.map wt).sum+1) (λ l=>∀a∈l,ok a):=by
 intro cs x h;rcases DataW.trod_slice ht h with⟨rfl,rfl⟩|⟨a,len,cap,elems,rest,n,rfl,rfl,rfl,hb,hl,hc,hn,ji,_,_⟩
 ·exact⟨[],.one rfl λ L=> .nP _ _,by simp[oY],by simp⟩
 ·replace he:=he n rfl
  have key:∀i,i<len->∃y:α,∃cs d,w.cells? 0 (a.add (i*P.cellsOf e)) (P.cellsOf e)=some cs/\elems[i]? =some d/\RdC w (av y).cells cs/\wt y<=oY d.1/\ok y:=by
   intro i hi;have h1:=ji i hi;have h2:elems[i]? =some elems[i]:=by simp[hn,hi]
   rw[h2,bind_eq_some_iff]at h1;obtain⟨cs,hcs,ht⟩:=h1;obtain⟨y,q1,q2,q3⟩:=he cs _ ht;exact⟨y,cs,_,hcs,h2,q1,q2,q3⟩
  obtain⟨l,zu,hp⟩:=ahE key;refine⟨l,.one rfl λ L=> ?_,?_,λ y hy=> ?_⟩
  ·by_cases h0:l= []
   ·subst h0;simp at zu;subst zu;exact .nP _ _
   ·obtain⟨b,off,spot⟩:=a
    have vE:0<len:=by
     rw[←zu];exact List.length_pos_iff.2 h0
    have aye:spot=none:=by
     obtain⟨y,cs,d,hcs,_,hr,_⟩:=key 0 vE;obtain⟨_,hlen,kU⟩:=World.cells?_some hcs;have h1:=kU 0 hs;have h2:cs[0]? =some cs[0]:=by simp[hlen,hs]
     rw[h2]at h1;simpa [Addr.add]using World.cell?_spot h1
    subst aye
    have bX:∀{i:Nat} {x:AV},(l.map av)[i]? =some x->∃y,l[i]? =some y/\x=av y:=by
     intro i x hx;simp only[getElem?_map,map_eq_some_iff]at hx;obtain⟨y,hy,rfl⟩:=hx;exact⟨y,hy,rfl⟩
    have kk:∀(i:Nat) (y:α),l[i]? =some y->(av y).cells.length=P.cellsOf e/\∀(j:Nat) (c:AV),(av y).cells[j]? =some c->∃z,w.cell? ⟨b,off+i*P.cellsOf e+j,none⟩=some z/\z.oneCell'=true/\∀L,R (agQ w) L [] c z:=by
     intro i y hy;obtain⟨cs,d,hcs,_,hr,_⟩:=hp i y hy;obtain⟨_,hlen,kU⟩:=World.cells?_some hcs;refine⟨by rw[hr.1,hlen],λ j c hc=> ?_⟩;have hj:j<cs.length:=by rw[←hr.1];exact(List.getElem?_eq_some_iff.1 hc).1
     have h1:=kU j (by omega);have h2:cs[j]? =some cs[j]:=by simp[hj]
     rw[h2]at h1;obtain⟨q1,q2⟩:=hr.2 j c _ hc h2;refine⟨_,?_,q1,q2⟩;rw[add_plain,add_plain]at h1;exact h1
    rw[show len=(l.map av).length by simp[zu]];refine .sl (l.map av) b off cap (P.cellsOf e) (λ i j=>(w.cell? ⟨b,off+i*P.cellsOf e+j,none⟩).getD undef) (by simp[zu];exact hl) (by simpa using h0) (λ i x hx=> ?_) (λ i x j c hx hc=> ?_) (λ i x j c hx hc=> ?_)
    ·obtain⟨y,hy,rfl⟩:=bX hx;exact(kk i y hy).1
    ·obtain⟨y,hy,rfl⟩:=bX hx;obtain⟨z,hz,ho,_⟩:=(kk i y hy).2 j c hc;unfold agQ;rw[hz];exact⟨rfl,ho⟩
    ·obtain⟨y,hy,rfl⟩:=bX hx;obtain⟨z,hz,ho,hr⟩:=(kk i y hy).2 j c hc;rw[hz];exact hr L
  ·have:(l.map wt).sum<=lX (elems.map (·.1)):=ahL (by simp[zu,hn]) λ i a d ha hd=>by
     obtain⟨cs,d',_,hd',_,hw,_⟩:=hp i a ha;simp[hd']at hd;subst hd;exact hw
   simp only[oY];omega
  ·obtain⟨i,hi⟩:=List.getElem?_of_mem hy;obtain⟨_,_,_,_,_,_,h⟩:=hp i y hi;exact h
theorem yK{w:World}{n:Nat}{cs:List Value}{fs:Array Field}{xs:List (DataW H×List MemPlace)}
  (hf:∀(i:Nat) (f:Field),fs[i]? =some f->DataW.trod enc P w 0 (λ _=>true) true n f.type ((cs.drop f.offset).take (P.cellsOf f.type))=xs[i]?)
  (i:Nat) {f:Field} (h:fs[i]? =some f) {t:TypeId} {o s:Nat} (ht:f.type=t) (ho:f.offset=o) (hs:P.cellsOf t=s):DataW.trod enc P w 0 (λ _=>true) true n t ((cs.drop o).take s)=xs[i]? :=by
 have:=hf i f h;rwa [ht,ho,hs]at this
end
end Go.Ab
namespace Go.Ab
theorem OT.awQ{w:World}{v x:Value}{S:Nat->Prop}(h:OT w (.v v) x S):x=v:=by cases h;rfl
def sp(n:Nat):List AV->List AV×List aa
 | []=>([],[])
 | .v x::r=>(.v x::(sp n r).1,(sp n r).2)
 |a::r=>(.own n::(sp (n+1) r).1,.own a::(sp (n+1) r).2)
def pW(n:Nat):AV->AV×List aa
 | .agg cs=>(.agg (sp n cs).1,(sp n cs).2)
 | .v x=>(.v x,[])
 |a=>(.own n,[.own a])
def gJ(n:Nat):List AV->List AV×List aa
 | []=>([],[])
 |x::r=>((pW n x).1::(gJ (n+(pW n x).2.length) r).1,(pW n x).2++(gJ (n+(pW n x).2.length) r).2)
def aCT(O:List aa)(c d:AV):Prop:=(c=d/\∃v,d= .v v)∨∃k,c= .own k/\O[k]? =some (.own d)
structure Split(O:List aa)(ys xs:List AV):Prop where
 len:ys.length=xs.length
 cells:∀(i:Nat) y x,ys[i]? =some y->xs[i]? =some x->y.cells.length=x.cells.length
 half:∀(i:Nat) y x (j:Nat) c d,ys[i]? =some y->xs[i]? =some x->y.cells[j]? =some c->x.cells[j]? =some d->aCT O c d
 inj:∀(i:Nat) y (j:Nat) i' y' j' k,ys[i]? =some y->y.cells[j]? =some (.own k)->ys[i']? =some y'->y'.cells[j']? =some (.own k)->i=i'/\j=j'
section
variable {P:Program} {I:cZ} {L:Nat->Loc} {O:List aa} {w:World}
theorem wg(hi:Inv I L O w){k:Nat}{d:AV}(hk:O[k]? =some (.own d)){y:Value}(hr:R I L O (.own k) y):y=(L k).val:=by
 cases hr with
 |cJ=>rfl
 |fx _ g h=>rw[hk]at h;cases h
 |dH _ _ _ h=>exact(h _ hk).elim
open Classical in
theorem Inv.acd(hi:Inv I L O w){k e s:Nat}{ys xs:List AV}(hk:O[k]? =some (.live e s ys))(hs:Split O ys xs):
  ∃S:Nat->Prop,OT w (.sl xs) (.slice (some ⟨(L k).aZ,0,none⟩) xs.length (L k).cap) S/\∀b,S b->LB L O b:=by
 obtain⟨c,⟨kS,h1,cL⟩,h2,h3,h4,h5,h6⟩:=hi.obj k e s ys hk;by_cases hx:xs= []
 ·subst hx;exact⟨_,.nP _ _,λ b h=>h.elim⟩
 let bd:Nat->Nat->Value:=λ i j=>(c[i*s+j]?).getD undef
 let nm:Nat->Nat->Option Nat:=λ i j=>match ys[i]? with
  |some y=>match y.cells[j]? with
   |some (.own m)=>some m
   |_=>none
  |none=>none
 let S:Nat->Nat->Nat->Prop:=λ i j b=>∃m,nm i j=some m/\∃o v,(L m).mem b o=some v
 have nm1:∀{i j m:Nat},nm i j=some m->∃y,ys[i]? =some y/\y.cells[j]? =some (.own m):=by
  intro i j m h;simp only[nm]at h;cases hy:ys[i]? with
  |none=>simp[hy]at h
  |some y=>
   simp only[hy]at h;cases hc:y.cells[j]? with
   |none=>simp[hc]at h
   |some a=>
    simp only[hc]at h;cases a<;>simp at h
    subst h;exact⟨y,rfl,hc⟩
 have pair:∀{i:Nat} {x:AV},xs[i]? =some x->∃y,ys[i]? =some y:=by
  intro i x h;have:=(List.getElem?_eq_some_iff.1 h).1;exact⟨ys[i]'(by rw[hs.len];exact this),by simp[hs.len,this]⟩
 have anU:∀{i:Nat} {x y:AV} {j:Nat} {a:AV},xs[i]? =some x->ys[i]? =some y->x.cells[j]? =some a->∃b,y.cells[j]? =some b:=by
  intro i x y j a h h' ha;have:=(List.getElem?_eq_some_iff.1 ha).1;have hl:=hs.cells i y x h' h;exact⟨y.cells[j]'(by rw[hl];exact this),by simp[hl,this]⟩
 have anV:∀{i:Nat} {y:AV},ys[i]? =some y->∃x,xs[i]? =some x:=by
  intro i x h;have:=(List.getElem?_eq_some_iff.1 h).1;exact⟨xs[i]'(by rw[←hs.len];exact this),by simp[←hs.len,this]⟩
 have aiG:∀{i:Nat} {x y:AV} {j:Nat} {a:AV},xs[i]? =some x->ys[i]? =some y->y.cells[j]? =some a->∃b,x.cells[j]? =some b:=by
  intro i x y j a h h' ha;have:=(List.getElem?_eq_some_iff.1 ha).1;have hl:=hs.cells i y x h' h;exact⟨x.cells[j]'(by rw[←hl];exact this),by simp[←hl,this]⟩
 have half:∀{i:Nat} {x:AV} {j:Nat} {a:AV},xs[i]? =some x->x.cells[j]? =some a->c[i*s+j]? =some (bd i j)/\(bd i j).oneCell'=true/\
   ((nm i j=none/\∃v,a= .v v/\v=bd i j)∨∃m,nm i j=some m/\O[m]? =some (.own a)/\bd i j=(L m).val):=by
  intro i x j a uA ha;obtain⟨y,hy⟩:=pair uA;obtain⟨b,hb⟩:=anU uA hy ha;obtain⟨z,hz,ho,hr⟩:=(h6 i y hy).2 j b hb;have hv:bd i j=z:=by simp[bd,hz]
  rw[hv];refine⟨hz,ho,?_⟩;rcases hs.half i y x j b a hy uA hb ha with⟨rfl,v,rfl⟩|⟨m,rfl,hm⟩
  ·refine .inl ⟨by simp only[nm,hy,hb],v,rfl,?_⟩;cases hr;rfl
  ·exact .inr ⟨m,by simp only[nm,hy,hb],hm,wg hi hm hr⟩
 have sep:∀{i j m:Nat} {x a:AV},xs[i]? =some x->x.cells[j]? =some a->nm i j=some m->O[m]? =some (.own a):=by
  intro i j m x a uA ha hm;rcases(half uA ha).2.2 with⟨h,_⟩|⟨m',h,h',_⟩
  ·rw[hm]at h;cases h
  ·rw[hm]at h;cases h;exact h'
 have deep:∀{i j m:Nat},nm i j=some m->∃x a:AV,xs[i]? =some x/\x.cells[j]? =some a/\O[m]? =some (.own a):=by
  intro i j m hm;obtain⟨y,hy,hc⟩:=nm1 hm;obtain⟨x,hx⟩:=anV hy;obtain⟨a,ha⟩:=aiG hx hy hc;exact⟨x,a,hx,ha,sep hx ha hm⟩
 refine⟨λ b=>b=(L k).aZ∨∃i j,S i j b,.sl xs (L k).aZ (L k).cap s e c bd S kS h1 cL h2 (by rw[←hs.len];exact h3) h4 h5 hx (λ i x uA=> ?_) (λ i x j a uA ha=>⟨(half uA ha).1,(half uA ha).2.1⟩) (λ i x j a uA ha=> ?_)
  (λ i j b hb=> ?_) (λ i j hb=> ?_) (λ i j i' j' b hb kD=> ?_),?_⟩
 ·obtain⟨y,hy⟩:=pair uA;rw[←hs.cells i y x hy uA];exact(h6 i y hy).1
 ·rcases(half uA ha).2.2 with⟨hn,v,rfl,hv⟩|⟨m,hm,hO,hv⟩
  ·have:S i j=λ _=>False:=by
     funext b;simp only[S,hn];simp
   rw[this,←hv];exact .v v (by have:=(half uA ha).2.1;rw[←hv]at this;exact this)
  ·obtain⟨T,t1,t2⟩:=hi.ow.deep m a hO
   have:S i j=T:=by
    funext b
    simp only[S,hm,Option.some.injEq,exists_eq_left'];exact propext (t2 b).symm
   rw[this,hv];exact t1
 ·obtain⟨m,hm,_⟩:=hb;obtain⟨x,a,h1,h2,_⟩:=deep hm;exact⟨x,a,h1,h2⟩
 ·obtain⟨m,hm,o,v,hv⟩:=hb;obtain⟨x,a,_,_,hO⟩:=deep hm;exact hi.ow.live m a hO _ o v hv k _ _ _ hk rfl
 ·obtain⟨m,hm,o,v,hv⟩:=hb;obtain⟨m',hm',o',v',iV⟩:=kD;obtain⟨x,a,_,_,hO⟩:=deep hm;obtain⟨x',a',_,_,sj⟩:=deep hm';have:=hi.ow.sep m m' a a' hO sj b o o' v v' hv iV;subst this;obtain⟨y,hy,hc⟩:=nm1 hm;obtain⟨y',mR,pL⟩:=nm1 hm';exact hs.inj i y j i' y' j' m hy hc mR pL
 ·rintro b (rfl|⟨i,j,m,hm,o,v,hv⟩)
  ·exact .inl ⟨k,e,s,ys,hk,rfl⟩
  ·obtain⟨x,a,_,_,hO⟩:=deep hm;exact .inr (.inl ⟨m,a,o,v,hO,hv⟩)
open Classical in
theorem Inv.akc(hi:Inv I L O w){a:AV}{x:Value}{S:Nat->Prop}(h:OT w a x S)(hS:∀b,S b->LB L O b):
  Inv I (λ _=>⟨0,0,x,λ b o=>if S b then w.cell? ⟨b,o,none⟩else none⟩) [.own a] w:=by
 have one:∀{n:Nat} {c:AV},[aa.own a][n]? =some (.own c)->n=0/\c=a:=by
  intro n c hn;cases n with
  |zero=>simp at hn;exact⟨rfl,hn.symm⟩
  |succ n=>simp at hn
 have nol:∀{n e s:Nat} {xs:List AV},[aa.own a][n]? ≠some (.live e s xs):=by
  intro n e s xs hn;cases n<;>simp at hn
 have sp:∀{b o:Nat} {v:Value},(if S b then w.cell? ⟨b,o,none⟩else none)=some v->S b/\w.cell? ⟨b,o,none⟩=some v:=by
  intro b o v hv
  split at hv
  ·rename_i hb;exact⟨hb,hv⟩
  ·cases hv
 refine⟨hi.gN,λ n e s xs hn=>(nol hn).elim,λ n m e s xs e' s' ys hn=>(nol hn).elim,λ n e s xs o hn=>(nol hn).elim,hi.fix,hi.aZ,
  ⟨λ n c hn L' O'=> ?_,λ n c hn b o v hv=>(sp hv).2,λ n c hn b o v hv o'=> ?_,λ n c hn b o v hv m e s xs hm=>(nol hm).elim,λ n m c d hn hm b o o' v v' _ _=> ?_,λ n c hn=> ?_⟩,.no (λ n g hn=>by cases n<;>simp at hn)⟩
 ·obtain⟨rfl,rfl⟩:=one hn;exact h.read _ _ _ λ b o v hb hv=>by show(if S b then _ else _)=_;rw[if_pos hb];exact hv
 ·rcases hS b (sp hv).1 with⟨n,e,s,xs,h1,h2⟩|⟨n,d,o2,v2,h1,h2⟩|⟨n,g,h1,h2⟩
  ·rw[←h2];exact hi.cT n e s xs o' h1
  ·exact hi.ow.gN n d h1 b o2 v2 h2 o'
  ·cases hq:I b o' with
   |none=>rfl
   |some u=>
    have h3:=(hi.gh.ok n g h1).no.cell (o:=o');rw[h2,hi.gN _ _ _ hq]at h3;cases h3
 ·rw[(one hn).1,(one hm).1]
 ·obtain⟨rfl,rfl⟩:=one hn;refine⟨S,h,λ b=>⟨λ hb=> ?_,λ ⟨o,v,hv⟩=>(sp hv).1⟩⟩;obtain⟨v,hv⟩:=(h.block b hb).2;exact⟨0,v,by show(if S b then _ else _)=_;rw[if_pos hb];exact hv⟩
end
theorem cF.acd{P:Program}{f:FuncId}{args:List AV}{len e s:Nat}{ys xs:List AV}{T:List aa}(h:cF P f args [] (.row 0 len) (.live e s ys::T))(hl:ys.length=len)(hs:Split (.live e s ys::T) ys xs):
  cF P f args [] (.own 0) [.own (.sl xs)]:=by
 refine⟨h.1,λ I L w vs hi hr=>(h.2 I L w vs hi hr).mono ?_⟩;rintro x w' ⟨y,I',L',rfl,hy,hg⟩;have hk:(aa.live e s ys::T)[0]? =some (.live e s ys):=rfl;obtain⟨S,hS,hb⟩:=hg.inv.acd hk hs;have hyv:=hy.dA hk hl;rw[←hl,hs.len]at hyv;subst hyv;have hinv:=hg.inv.akc hS hb;refine⟨_,I',_,rfl,.cJ 0 (.sl xs) rfl rfl,hinv,⟨hg.ext.gN,Nat.zero_le _,λ n hn=>by simp at hn,λ n hn=>by simp at hn,λ n hn=>by simp at hn,λ n hn=>by simp at hn⟩,hg.lK,?_,hg.eK⟩;rintro b (⟨n,e',s',fI,hn,_⟩|⟨n,a,o,v,hn,hv⟩|⟨n,g,hn,_⟩)
 rotate_right
 ·cases n<;>simp at hn
 ·cases n<;>simp at hn
 ·refine hg.lb b (hb b ?_)
  show S b;by_cases kD:S b
  ·exact kD
  ·simp[kD]at hv
structure akN(T:List aa)(ys xs:List AV):Prop where
 own:∀(m:Nat) ob,T[m]? =some ob->∃d,ob= .own d
 at_:∀(m:Nat) d,T[m]? =some (.own d)->∃(i:Nat) (y:AV) (j:Nat) (x:AV),ys[i]? =some y/\y.cells[j]? =some (.own (m+1))/\xs[i]? =some x/\x.cells[j]? =some d
open Classical in
theorem Inv.opens{I:cZ}{L:Nat->Loc}{w:World}{xs ys:List AV}{T:List aa}{rest:List AV}{vs:Array Value}(s:Nat)(hx:xs≠[])(hs:∀x∈xs,x.cells.length=s)(hT:akN T ys xs)(vS:∀e,Split (.live e s ys::T) ys xs)(qo:AV.ae rest=true)
  (hi:Inv I L [.own (.sl xs)] w) (hr:RL I L [.own (.sl xs)] (.own 0::rest) vs):
  ∃e L2,Inv I L2 (.live e s ys::T) w/\RL I L2 (.live e s ys::T) (.row 0 xs.length::rest) vs/\(∀b,LB L2 (.live e s ys::T) b->LB L [.own (.sl xs)] b)/\(L 0).val= .slice (some ⟨(L2 0).aZ,0,none⟩) xs.length (L2 0).cap:=by
 obtain⟨S0,t1,t2⟩:=hi.ow.deep 0 (.sl xs) rfl;obtain⟨v0,hv0⟩:∃v0,vs[0]? =some v0:=⟨vs[0]'(by have:=hr.1;simp at this;omega),by have:=hr.1;simp at this;simp<;>omega⟩;have qn:=wg hi rfl (hr.2 0 _ v0 rfl hv0);rw[←qn]at t1;cases t1 with
 |nP=>exact(hx rfl).elim
 |sl _ aZ cap s' e c bd S kS h1 cL h2 h3 h4 h5 h6 h7 h8 h9 h10 h11 h12=>
 obtain rfl:s'=s:=by
  obtain⟨x,xr,rfl⟩:=List.exists_cons_of_ne_nil hx;rw[←h7 0 x rfl,hs x (by simp)]
 have vS:=vS e;have iP:∀b,(b=aZ∨∃i j,S i j b)->∃o v,(L 0).mem b o=some v:=λ b hb=>(t2 b).1 hb
 have ayN:∀b,(b=aZ∨∃i j,S i j b)->∀o,I b o=none:=λ b hb o=>by
  obtain⟨o',v,hv⟩:=iP b hb;exact hi.ow.gN 0 (.sl xs) rfl b o' v hv o
 have hlb:∀b,(b=aZ∨∃i j,S i j b)->LB L [.own (.sl xs)] b:=λ b hb=>by
  obtain⟨o',v,hv⟩:=iP b hb;exact .inr (.inl ⟨0,_,o',v,rfl,hv⟩)
 let at':Nat->Nat->Nat->Prop:=λ m i j=>∃y,ys[i]? =some y/\y.cells[j]? =some (.own m)
 have uniq:∀{m i j i' j':Nat},at' m i j->at' m i' j'->i=i'/\j=j':=by
  rintro m i j i' j' ⟨y,q1,q2⟩ ⟨y',vj,q2'⟩;exact vS.inj i y j i' y' j' m q1 q2 vj q2'
 let L2:Nat->Loc:=λ m=>if m=0 then Loc.at aZ cap else if hm:∃p:Nat×Nat,at' m p.1 p.2 then⟨0,0,bd hm.choose.1 hm.choose.2,λ b o=>if S hm.choose.1 hm.choose.2 b then w.cell? ⟨b,o,none⟩else none⟩else Loc.at 0 0
 have aFV:L2 0=Loc.at aZ cap:=rfl
 have ahW:∀{m i j:Nat},m≠0->at' m i j->L2 m=⟨0,0,bd i j,λ b o=>if S i j b then w.cell? ⟨b,o,none⟩else none⟩:=by
  intro m i j h0 hm;have hx:∃p:Nat×Nat,at' m p.1 p.2:=⟨(i,j),hm⟩;obtain⟨q1,q2⟩:=uniq hx.choose_spec hm
  show(if m=0 then Loc.at aZ cap else if hm:∃p:Nat×Nat,at' m p.1 p.2 then _ else _)=_;rw[if_neg h0,dif_pos hx,q1,q2]
 let O2:List aa:= .live e s' ys::T
 have aeU:∀{m:Nat} {a:AV},O2[m]? =some (.own a)->m≠0/\∃(i:Nat) (j:Nat) (x:AV),at' m i j/\xs[i]? =some x/\x.cells[j]? =some a:=by
  intro m a hm;cases m with
  |zero=>simp[O2]at hm
  |succ m=>
   obtain⟨i,y,j,x,q1,q2,q3,q4⟩:=hT.at_ m a (by simpa [O2]using hm);exact⟨Nat.succ_ne_zero _,i,j,x,⟨y,q1,q2⟩,q3,q4⟩
 have adN:∀{m e' k:Nat} {zs:List AV},O2[m]? =some (.live e' k zs)->m=0/\e'=e/\k=s'/\zs=ys:=by
  intro m e' k zs hm;cases m with
  |zero=>simp[O2]at hm;exact⟨rfl,hm.1.symm,hm.2.1.symm,hm.2.2.symm⟩
  |succ m=>
   obtain⟨d,hd⟩:=hT.own m _ (by simpa [O2]using hm);cases hd
 have alE:∀{m i j b o:Nat} {v:Value},m≠0->at' m i j->(L2 m).mem b o=some v->S i j b/\w.cell? ⟨b,o,none⟩=some v:=by
  intro m i j b o v h0 ha hv;rw[ahW h0 ha]at hv;simp only at hv
  split at hv
  ·rename_i hb;exact⟨hb,hv⟩
  ·cases hv
 have kU:∀{i j:Nat} {x y:AV} {a:AV},xs[i]? =some x->ys[i]? =some y->y.cells[j]? =some a->R I L2 O2 a (bd i j):=by
  intro i j x y a uA hyi ha;have aw:=(List.getElem?_eq_some_iff.1 ha).1;have hl:=vS.cells i y x hyi uA;obtain⟨d,hd⟩:∃d,x.cells[j]? =some d:=⟨x.cells[j]'(by omega),by simp<;>omega⟩;have ho:=h9 i x j d uA hd;rcases vS.half i y x j a d hyi uA ha hd with⟨rfl,v,rfl⟩|⟨m,rfl,hm⟩
  ·have ho1:=ho.tH;rw[ho.awQ]at ho1⊢;exact .v _ ho1
  ·have hm0:=(aeU hm).1;have yJ:at' m i j:=⟨y,hyi,ha⟩;have:=R.cJ (I:=I) (L:=L2) (O:=O2) m d hm (by rw[ahW hm0 yJ];exact ho.tH);rw[ahW hm0 yJ]at this;exact this
 have hlen:=vS.len
 have axz:∀(n:Nat) (g:fH),O2[n]? ≠some (.cE g):=by
  intro n g hn;cases n with
  |zero=>cases hn
  |succ m=>
   obtain⟨d,hd⟩:=hT.own m (.cE g) hn;cases hd
 have hinv:Inv I L2 O2 w:=by
  refine⟨hi.gN,λ n e' k zs hn=> ?_,λ n m e' k zs e'' k' zs' hn hm _=> ?_,λ n e' k zs o hn=> ?_,hi.fix,hi.aZ,
   ⟨λ n a hn L' O'=> ?_,λ n a hn b o v hv=> ?_,λ n a hn b o v hv o'=> ?_,λ n a hn b o v hv m e' k zs hm hb=> ?_,λ n m a d hn hm b o o' v v' hv iV=> ?_,λ n a hn=> ?_⟩,.no axz⟩
  ·obtain⟨rfl,rfl,rfl,rfl⟩:=adN hn;refine⟨c,⟨kS,h1,cL⟩,h2,by rw[hlen];exact h3,h4,h5,λ i y hy=> ?_⟩;have aw:=(List.getElem?_eq_some_iff.1 hy).1;obtain⟨x,iy⟩:∃x,xs[i]? =some x:=⟨xs[i]'(by omega),by simp<;>omega⟩;have hc:=vS.cells i y x hy iy;refine⟨by rw[hc];exact h7 i x iy,λ j a ha=> ?_⟩;have iQ:=(List.getElem?_eq_some_iff.1 ha).1;obtain⟨d,hd⟩:∃d,x.cells[j]? =some d:=⟨x.cells[j]'(by omega),by simp<;>omega⟩;exact⟨bd i j,(h8 i x j d iy hd).1,(h8 i x j d iy hd).2,kU iy hy ha⟩
  ·rw[(adN hn).1,(adN hm).1]
  ·obtain⟨rfl,rfl,rfl,rfl⟩:=adN hn;exact ayN aZ (.inl rfl) o
  ·obtain⟨h0,i,j,x,ha,iy,hd⟩:=aeU hn;rw[ahW h0 ha];exact(h9 i x j a iy hd).read _ _ _ λ b o v hb hv=>by show(if S i j b then _ else _)=_;rw[if_pos hb];exact hv
  ·obtain⟨h0,i,j,x,ha,_⟩:=aeU hn;exact(alE h0 ha hv).2
  ·obtain⟨h0,i,j,x,ha,_⟩:=aeU hn;exact ayN b (.inr ⟨i,j,(alE h0 ha hv).1⟩) o'
  ·obtain⟨h0,i,j,x,ha,_⟩:=aeU hn;obtain⟨rfl,_⟩:=adN hm;have:aZ=b:=hb;subst this;exact h11 i j (alE h0 ha hv).1
  ·obtain⟨h0,i,j,x,⟨y,q1,q2⟩,_⟩:=aeU hn;obtain⟨h0',i',j',x',⟨y',vj,q2'⟩,_⟩:=aeU hm;obtain⟨rfl,rfl⟩:=h12 i j i' j' b (alE h0 ⟨y,q1,q2⟩ hv).1 (alE h0' ⟨y',vj,q2'⟩ iV).1;rw[q1]at vj;cases vj;rw[q2]at q2';cases q2'
   rfl
  ·obtain⟨h0,i,j,x,ha,iy,hd⟩:=aeU hn;rw[ahW h0 ha];have ho:=h9 i x j a iy hd;refine⟨S i j,ho,λ b=>⟨λ hb=> ?_,λ ⟨o,v,hv⟩=> ?_⟩⟩
   ·obtain⟨v,hv⟩:=(ho.block b hb).2;exact⟨0,v,by show(if S i j b then _ else _)=_;rw[if_pos hb];exact hv⟩
   ·simp only at hv
    split at hv
    ·assumption
    ·cases hv
 have kV:RL I L2 O2 (.row 0 xs.length::rest) vs:=by
  refine⟨hr.1,λ i a x ha iy=> ?_⟩;cases i with
  |zero=>
   simp at ha;subst ha;rw[hv0]at iy;cases iy;exact .bN 0 xs.length e s' ys rfl hlen
  |succ i=>exact(hr.2 (i+1) a x ha iy).ag (λ _ _ _ h=>h) (aW qo a (mem_of_getElem? (by simpa using ha)))
 have lb2:∀b,LB L2 O2 b->LB L [.own (.sl xs)] b:=by
  rintro b (⟨n,e',k,zs,hn,hb⟩|⟨n,a,o,v,hn,hv⟩|⟨n,g,hn,_⟩)
  rotate_right
  ·exact(axz n g hn).elim
  ·obtain⟨rfl,_⟩:=adN hn;exact hlb b (.inl hb.symm)
  ·obtain⟨h0,i,j,x,ha,_⟩:=aeU hn;exact hlb b (.inr ⟨i,j,(alE h0 ha hv).1⟩)
 exact⟨e,L2,hinv,kV,lb2,qn.symm⟩
open Classical in
theorem cF.opens{P:Program}{f:FuncId}{xs ys:List AV}{T:List aa}{rest:List AV}{res:AV}(s:Nat)(hx:xs≠[])(hs:∀x∈xs,x.cells.length=s)(hT:akN T ys xs)(vS:∀e,Split (.live e s ys::T) ys xs)(qo:AV.ae rest=true)(qp:res.flat=true)
  (h:∀e,cF P f (.row 0 xs.length::rest) (.live e s ys::T) res (List.replicate (T.length+1) .dead)):
  cF P f (.own 0::rest) [.own (.sl xs)] res [.dead]:=by
 refine⟨(h 0).1,λ I L w vs hi hr=> ?_⟩;obtain⟨e,L2,hinv,kV,lb2,_⟩:=hi.opens s hx hs hT vS qo hr;refine((h e).2 I L2 w vs hinv kV).mono ?_;rintro z w' ⟨y,I',L',rfl,hy,hg⟩
 refine⟨y,I',L',rfl,hy.flat qp,⟨hg.inv.gN,λ n e' k zs hn=> ?_,λ n m e' k zs e'' k' zs' hn=> ?_,λ n e' k zs o hn=> ?_,hg.inv.fix,hg.inv.aZ,.no λ n a hn=> ?_,.no λ n a hn=> ?_⟩,
  ⟨hg.ext.gN,le_refl _,λ n hn e' k zs iy=> ?_,λ n hn e' k iy=> ?_,λ n hn a iy=> ?_,λ n hn a iy=> ?_⟩,⟨hg.lK.os,hg.lK.tape,hg.lK.output,hg.lK.size,λ b hb hn=>hg.lK.block b hb λ hc=>hn (lb2 b hc)⟩,?_,λ b o x iy=> ?_⟩
 any_goals (cases n<;>simp at hn;done)
 any_goals (cases n<;>simp at iy;done)
 ·rintro b (⟨n,e',k,zs,hn,_⟩|⟨n,a,o,v,hn,_⟩|⟨n,a,hn,_⟩)<;>(cases n<;>simp at hn)
 ·rcases hg.eK b o x iy with h'|h'|h'
  ·exact .inl h'
  ·exact .inr (.inl (lb2 b h'))
  ·exact .inr (.inr h')
theorem cF.aue{P:Program}{f:FuncId}{xs ys fI uF:List AV}{T T':List aa}{rest:List AV}{res:AV}(s:Nat)(hx:xs≠[])(hs:∀x∈xs,x.cells.length=s)(hT:akN T ys xs)(vS:∀e,Split (.live e s ys::T) ys xs)(qo:AV.ae rest=true)(qp:res.flat=true)
  (hl:fI.length=xs.length) (ayf:∀e,Split (.live e s uF::T') uF fI)
  (h:∀e,cF P f (.row 0 xs.length::rest) (.live e s ys::T) res (.live e s uF::T')):
  cF P f (.own 0::rest) [.own (.sl xs)] res [.own (.sl fI)]:=by
 refine⟨(h 0).1,λ I L w vs hi hr=> ?_⟩;obtain⟨e,L2,hinv,kV,lb2,qn⟩:=hi.opens s hx hs hT vS qo hr;refine((h e).2 I L2 w vs hinv kV).mono ?_;rintro z w' ⟨y,I',L',rfl,hy,hg⟩;obtain⟨S,hS,hb⟩:=hg.inv.acd (k:=0) (xs:=fI) rfl (ayf e)
 have hL:L' 0=L2 0:=by
  rcases hg.ext.obj 0 (by simp) e s uF rfl with⟨zs,z1,z2,z3⟩|⟨z1,_⟩
  ·simp at z1;subst z1;exact z3 (by rw[(vS e).len,(ayf e).len,hl])
  ·simp at z1
 rw[hL,hl]at hS;have ayM:=hg.inv.akc hS hb;refine⟨y,I',_,rfl,hy.flat qp,ayM,⟨hg.ext.gN,le_refl _,λ n hn e' k zs iy=> ?_,λ n hn e' k iy=> ?_,λ n hn a iy=> ?_,λ n hn a iy=>by cases n<;>simp at iy⟩,⟨hg.lK.os,hg.lK.tape,hg.lK.output,hg.lK.size,λ b kD hn=>hg.lK.block b kD λ hc=>hn (lb2 b hc)⟩,?_,λ b o x iy=> ?_⟩
 ·cases n<;>simp at iy
 ·cases n<;>simp at iy
 ·cases n with
  |zero=>exact⟨⟨_,rfl⟩,qn.symm⟩
  |succ n=>simp at iy
 ·rintro b (⟨n,e',k,zs,hn,_⟩|⟨n,a,o,v,hn,hv⟩|⟨n,a,hn,_⟩)
  rotate_right
  ·cases n<;>simp at hn
  ·cases n<;>simp at hn
  ·have hSb:S b:=by
     by_cases kD:S b
     ·exact kD
     ·simp[kD]at hv
   rcases hg.lb b (hb b hSb)with h'|h'
   ·exact .inl (lb2 b h')
   ·exact .inr h'
 ·rcases hg.eK b o x iy with h'|h'|h'
  ·exact .inl h'
  ·exact .inr (.inl (lb2 b h'))
  ·exact .inr (.inr h')
end Go.Ab
namespace Go.Ab
inductive Frz(O:List aa):AV->AV->Prop
 |same (a:AV):a.ag=true->Frz O a a
 |own (n:Nat) (b:AV):O[n]? =some (.own b)->Frz O (.own n) b
 |row (n len e s:Nat) (xs:List AV):O[n]? =some (.live e s xs)->xs.length=len->AV.ae xs=true->Frz O (.row n len) (.sl xs)
 |nil (n e s:Nat):O[n]? =some (.nil e s)->Frz O (.row n 0) (.sl [])
 |deep (n len e s:Nat) (ys xs:List AV):O[n]? =some (.live e s ys)->ys.length=len->Split O ys xs->Frz O (.row n len) (.sl xs)
 |agg (as bs:List AV):as.length=bs.length->(∀(i:Nat) a b,as[i]? =some a->bs[i]? =some b->Frz O a b)->Frz O (.agg as) (.agg bs)
mutual
def AV.dJ:AV->Bool
 | .top| .v _| .aA| .row _ _| .ptr _ _ _ _| .own _| .wO=>true
 | .sl _| .bV _ _=>false
 | .fn _ cs=>AV.jY cs
 | .agg cs=>AV.jY cs
 | .a9 cs=>AV.jY cs
def AV.jY:List AV->Bool
 | []=>true
 |x::xs=>x.dJ&&AV.jY xs
end
theorem gE:∀{xs:List AV},AV.jY xs=true->∀x∈xs,x.dJ=true
 | [],_,x,h=>by simp at h
 |y::ys,h,x,hx=>by
  simp only[AV.jY,and_eq_true]at h;rcases List.mem_cons.1 hx with rfl|hx
  ·exact h.1
  ·exact gE h.2 x hx
theorem acQ{x:AV}(h:x.dJ=true):∀c∈x.cells,c.dJ=true:=by
 cases x<;>simp only[AV.cells]<;>intro c hc
 case agg cs=>exact gE (by simpa [AV.dJ]using h) c hc
 all_goals (simp at hc;subst hc;exact h)
def aa.dJ:aa->Bool
 | .live _ _ xs=>AV.jY xs
 | .cE _=>false
 |_=>true
section
variable {P:Program} {I J:cZ} {L:Nat->Loc} {O:List aa} {w:World}
theorem R.dJ{a:AV}{x:Value}(hr:R I L O a x):a.dJ=true->R J L O a x:=by
 induction hr with
 |top x=>intro _;exact .top x
 |v x h=>intro _;exact .v x h
 |aA=>intro _;exact .aA
 |wO t x=>intro _;exact .wO t x
 |nP=>intro h;simp[AV.dJ]at h
 |sl=>intro h;simp[AV.dJ]at h
 |bV=>intro h;simp[AV.dJ]at h
 |bN n len e s xs h1 h2=>intro _;exact .bN n len e s xs h1 h2
 |fj n e s h1=>intro _;exact .fj n e s h1
 |dG n len x h1 h2 h3 h4=>intro _;exact .dG n len x h1 h2 h3 h4
 |dm n len i f e s xs h1 h2=>intro _;exact .dm n len i f e s xs h1 h2
 |eZ n len i f x h1 h2 h3 h4=>intro _;exact .eZ n len i f x h1 h2 h3 h4
 |fn f aV vs h1 _ ih=>intro h;exact .fn f aV vs h1 λ i c x hc hx=>ih i c x hc hx (gE (by simpa [AV.dJ]using h) c (mem_of_getElem? hc))
 |agg cs vs h1 _ ih=>intro h;exact .agg cs vs h1 λ i c x hc hx=>ih i c x hc hx (gE (by simpa [AV.dJ]using h) c (mem_of_getElem? hc))
 |a9 cs vs h1 _ ih=>intro h;exact .a9 cs vs h1 λ i c x hc hx=>ih i c x hc hx (gE (by simpa [AV.dJ]using h) c (mem_of_getElem? hc))
 |cJ n a h1 h2=>intro _;exact .cJ n a h1 h2
 |fx n g h1=>intro _;exact .fx n g h1
 |dH n x h1 h2 h3 h4=>intro _;exact .dH n x h1 h2 h3 h4
theorem R.aoA(h:∀b o x,I b o=some x->J b o=some x){a:AV}{x:Value}(hr:R I L O a x):R J L O a x:=
 R.mono ⟨h,le_refl _,λ _ _ _ _ xs h=> .inl ⟨xs,h,le_refl _,λ _=>rfl⟩,λ _ _ _ _ h=>h,λ _ _ a h=>⟨⟨a,h⟩,rfl⟩,λ _ _ a h=>⟨⟨a,h,rfl⟩,rfl⟩⟩ hr
open Classical in
noncomputable def wA (I:cZ) (L:Nat->Loc) (O:List aa) (w:World):cZ:=λ b o=>if LB L O b then w.cell? ⟨b,o,none⟩else I b o
theorem wz(hi:Inv I L O w):∀b o x,I b o=some x->wA I L O w b o=some x:=by
 intro b o x hx;unfold wA
 split
 ·exact hi.gN b o x hx
 ·exact hx
theorem abb{b o:Nat}{v:Value}(hb:LB L O b)(hv:w.cell? ⟨b,o,none⟩=some v):wA I L O w b o=some v:=by
 unfold wA;rw[if_pos hb];exact hv
theorem alI(hi:Inv I L O w):Inv (wA I L O w) L [] w:=by
 refine⟨λ b o x hx=> ?_,by simp,by simp,by simp,λ p hp=>wz hi _ _ _ (hi.fix p hp),hi.xe (wz hi),.no (by simp),.no (by simp)⟩;unfold wA at hx
 split at hx
 ·exact hx
 ·exact hi.gN b o x hx
theorem Frz.sound(hi:Inv I L O w){a b:AV}(hf:Frz O a b):∀{x:Value},R I L O a x->R (wA I L O w) L [] b x:=by
 have hle:=wz hi
 induction hf with
 |same a hn=>intro x hr;exact hr.ag hle hn
 |own n b hO=>
  intro x hr;rw[wg hi hO hr];exact(hi.ow.tree n b hO L []).aoA λ p o v hv=>abb (.inr (.inl ⟨n,b,o,v,hO,hv⟩)) (hi.ow.cell n b hO p o v hv)
 |row n len e s xs hO hl hn=>
  intro x hr;have:=hr.dA hO hl;subst this;obtain⟨c,⟨kS,h1,cL⟩,h2,h3,h4,h5,h6⟩:=hi.obj n e s xs hO;by_cases hx:xs= []
  ·subst hx;simp at hl;subst hl;exact .nP _ _
  ·subst hl;refine(.sl xs (L n).aZ 0 (L n).cap s (λ i j=>(c[i*s+j]?).getD undef) h3 hx (λ i x hx=>(h6 i x hx).1) (λ i x j d hx hj=> ?_) λ i x j d hx hj=> ?_)
   ·obtain⟨y,hy,ho,_⟩:=(h6 i x hx).2 j d hj;refine⟨?_,by rw[hy];exact ho⟩;rw[hy,zero_add];exact abb (.inl ⟨n,e,s,xs,hO,rfl⟩) (by rw[eC h1,hy];rfl)
   ·obtain⟨y,hy,ho,pF⟩:=(h6 i x hx).2 j d hj;rw[hy];exact pF.ag hle (ej (aW hn x (mem_of_getElem? hx)) d (mem_of_getElem? hj))
 |nil n e s hO=>
  intro x hr;obtain⟨rfl,_⟩:=hr.lU hO;exact .nP _ _
 |deep n len e s ys xs hO hl hs=>
  intro x hr;have:=hr.dA hO hl;subst this;obtain⟨S,h1,h2⟩:=hi.acd hO hs;rw[←hl,hs.len];exact h1.read _ _ _ λ b o v hb hv=>abb (h2 b hb) hv
 |agg as bs hl h ih=>
  intro x hr;cases hr with
  |agg _ vs hv hr=>
   refine .agg bs vs (by omega) λ i c y hc hy=> ?_
   have aw:=(List.getElem?_eq_some_iff.1 hc).1;obtain⟨a,ha⟩:∃a,as[i]? =some a:=⟨as[i]'(by omega),by simp<;>omega⟩;exact ih i a c ha hc (hr i a y ha hy)
end
theorem cF.auD{P:Program}{f:FuncId}{args kF:List AV}{res:AV}{O O1:List aa}(h:cF P f kF [] res O1)(hl:args.length=kF.length)(hf:∀(i:Nat) a b,args[i]? =some a->kF[i]? =some b->Frz O a b)
  (qp:res.dJ=true) (zx:O1.all aa.dJ=true):cF P f args O (res.bj λ n=>O.length+n) (O++O1.map (aa.bj λ n=>O.length+n)):=by
 refine⟨h.1,λ I L w vs hi hr=> ?_⟩
 have kV:RL (wA I L O w) L [] kF vs:=by
  refine⟨by rw[←hl];exact hr.1,λ i b x hb hx=> ?_⟩;have aw:=(List.getElem?_eq_some_iff.1 hb).1;obtain⟨a,ha⟩:∃a,args[i]? =some a:=⟨args[i]'(by omega),by simp<;>omega⟩;exact(hf i a b ha hb).sound hi (hr.2 i a x ha hx)
 refine(h.2 _ _ _ _ (alI hi) kV).mono ?_;rintro z w' ⟨y,I',L',rfl,hy,hg⟩;have oi:∀b,b<w.heap.size->w'.heap[b]? =w.heap[b]? :=λ b hb=>hg.lK.block b hb tt
 have axx:∀{b o x},I b o=some x->¬LB L O b:=by
  rintro b o x hx (⟨n,e,s,xs,hn,hb⟩|⟨n,a,o',v,hn,hv⟩|⟨n,g,hn,hb⟩)
  ·rw[←hb,hi.cT n e s xs o hn]at hx;cases hx
  ·rw[hi.ow.gN n a hn b o' v hv o]at hx;cases hx
  ·have h3:=(hi.gh.ok n g hn).no.cell (o:=o);rw[hb,hi.gN _ _ _ hx]at h3;cases h3
 have asV:∀{b},LB L O b->b<w.heap.size:=by
  rintro b (⟨n,e,s,xs,hn,hb⟩|⟨n,a,o',v,hn,hv⟩|⟨n,g,hn,hb⟩)
  ·obtain⟨c,⟨kS,h1,cL⟩,_⟩:=hi.obj n e s xs hn;rw[←hb];exact(Array.getElem?_eq_some_iff.1 h1).1
  ·exact jO (hi.ow.cell n a hn b o' v hv)
  ·rw[←hb];exact(hi.gh.ok n g hn).no.1
 have akg:∀{b},LB L' O1 b->w.heap.size<=b:=λ hb=>by
  rcases hg.lb _ hb with h1|h1
  ·exact(tt h1).elim
  ·exact h1
 open Classical in
 let J:cZ:=λ b o=>if LB L O b then none else I' b o
 have hJ':∀b o x,J b o=some x->I' b o=some x/\¬LB L O b:=by
  intro b o x hx;simp only[J]at hx
  split at hx
  ·cases hx
  ·exact⟨hx,by assumption⟩
 have hIJ:∀b o x,I b o=some x->J b o=some x:=by
  intro b o x hx;simp only[J];rw[if_neg (axx hx)];exact hg.ext.gN b o x (wz hi b o x hx)
 let s:Nat->Nat:=λ n=>O.length+n
 let O2:=O++O1.map (aa.bj s)
 let L2:Nat->Loc:=λ n=>if n<O.length then L n else L' (n- O.length)
 have zU:∀{n},n<O.length->L2 n=L n:=λ h=>if_pos h
 have L2n:∀n,L2 (s n)=L' n:=λ n=>by
  show(if O.length+n<O.length then _ else L' (O.length+n- O.length))=_;rw[if_neg (by omega),Nat.add_sub_cancel_left]
 have zG:∀{n},n<O.length->O2[n]? =O[n]? :=λ h=>List.getElem?_append_left h
 have O2n:∀n,O2[s n]? =(O1[n]?).map (aa.bj s):=λ n=>by
  show(O++O1.map (aa.bj s))[O.length+n]? =_;rw[List.getElem?_append_right (by omega),Nat.add_sub_cancel_left,getElem?_map]
 have cls:∀n,(n<O.length)∨∃m,n=s m:=λ n=>by
  by_cases h:n<O.length
  ·exact .inl h
  ·exact .inr ⟨n- O.length,by show n=O.length+(n- O.length);omega⟩
 have cH:Ext I L O J L2 O2:=by
  refine⟨hIJ,by simp[O2],λ n hn e k xs hx=> ?_,λ n hn e k hx=> ?_,λ n hn a hx=> ?_,λ n hn a hx=>by
   rw[zG hn]at hx;exact⟨⟨a,hx,rfl⟩,by rw[zU hn]⟩⟩
  ·rw[zG hn]at hx;exact .inl ⟨xs,hx,le_refl _,λ _=>zU hn⟩
  ·rw[zG hn]at hx;exact hx
  ·rw[zG hn]at hx;exact⟨⟨a,hx⟩,by rw[zU hn]⟩
 have fwd:∀{a:AV} {x:Value},a.dJ=true->R I' L' O1 a x->R J L2 O2 (a.bj s) x:=λ hm hr=>
  (hr.dJ (J:=J) hm).bj (λ n hn=>by show O.length+n<(O++_).length;simp;exact hn) (λ n hn=>O2n n) λ n hn=>L2n n
 have wy:∀{m e k:Nat} {xs:List AV},O2[s m]? =some (.live e k xs)->∃ys,O1[m]? =some (.live e k ys)/\xs=ys.map (AV.bj s):=by
  intro m e k xs hx;rw[O2n,map_eq_some_iff]at hx;obtain⟨ob,q1,q2⟩:=hx;cases ob<;>simp[aa.bj]at q2
  obtain⟨rfl,rfl,rfl⟩:=q2;exact⟨_,q1,rfl⟩
 have aaP:∀{m:Nat} {a:AV},O2[s m]? =some (.own a)->O1[m]? =some (.own a):=by
  intro m a hx;rw[O2n,map_eq_some_iff]at hx;obtain⟨ob,q1,q2⟩:=hx;cases ob<;>simp[aa.bj]at q2
  subst q2;exact q1
 have axy:∀{m:Nat} {a:fH},O2[s m]? ≠some (.cE a):=by
  intro m a hx;rw[O2n,map_eq_some_iff]at hx;obtain⟨ob,q1,q2⟩:=hx;cases ob<;>simp[aa.bj]at q2
  have:=List.all_eq_true.1 zx _ (mem_of_getElem? q1);simp[aa.dJ]at this
 have uQ:∀{n e k:Nat} {xs:List AV},O[n]? =some (.live e k xs)->(L n).aZ<w.heap.size:=λ hn=>asV (.inl ⟨_,_,_,_,hn,rfl⟩)
 have iP:∀{n:Nat} {a:AV} {b o:Nat} {v:Value},O[n]? =some (.own a)->(L n).mem b o=some v->b<w.heap.size:=λ hn hv=>asV (.inr (.inl ⟨_,_,_,_,hn,hv⟩))
 have an4:∀{n e k:Nat} {xs:List AV},O1[n]? =some (.live e k xs)->w.heap.size<=(L' n).aZ:=λ hn=>akg (.inl ⟨_,_,_,_,hn,rfl⟩)
 have aup:∀{n:Nat} {a:AV} {b o:Nat} {v:Value},O1[n]? =some (.own a)->(L' n).mem b o=some v->w.heap.size<=b:=λ hn hv=>akg (.inr (.inl ⟨_,_,_,_,hn,hv⟩))
 have how:Own J L2 O2 w':=by
  refine⟨λ n a hn=> ?_,λ n a hn b o v hv=> ?_,λ n a hn b o v hv o'=> ?_,λ n a hn b o v hv m e k xs hm hb=> ?_,λ n m a c hn hm b o o' v v' hv iV=> ?_,λ n a hn=> ?_⟩
  ·rcases cls n with aw|⟨m,rfl⟩
   ·rw[zG aw]at hn;rw[zU aw];exact hi.ow.tree n a hn
   ·rw[L2n];exact hg.inv.ow.tree m a (aaP hn)
  ·rcases cls n with aw|⟨m,rfl⟩
   ·rw[zG aw]at hn;rw[zU aw]at hv;rw[←hi.ow.cell n a hn b o v hv];exact World.cell?_of_block (a:=⟨b,o,none⟩) (oi b (iP hn hv))
   ·rw[L2n]at hv;exact hg.inv.ow.cell m a (aaP hn) b o v hv
  ·rcases cls n with aw|⟨m,rfl⟩
   ·rw[zG aw]at hn;rw[zU aw]at hv;simp only[J];rw[if_pos (.inr (.inl ⟨n,a,o,v,hn,hv⟩))]
   ·rw[L2n]at hv;simp only[J]
    split
    ·rfl
    ·exact hg.inv.ow.gN m a (aaP hn) b o v hv o'
  ·rcases cls n with aw|⟨n',rfl⟩<;>rcases cls m with iQ|⟨m',rfl⟩
   ·rw[zG aw]at hn;rw[zU aw]at hv;rw[zG iQ]at hm;rw[zU iQ]at hb;exact hi.ow.live n a hn b o v hv m e k xs hm hb
   ·rw[zG aw]at hn;rw[zU aw]at hv;rw[L2n]at hb;obtain⟨ys,q1,_⟩:=wy hm;have:=an4 q1;have:=iP hn hv;omega
   ·rw[L2n]at hv;rw[zG iQ]at hm;rw[zU iQ]at hb;have:=aup (aaP hn) hv;have:=uQ hm;omega
   ·rw[L2n]at hv hb;obtain⟨ys,q1,_⟩:=wy hm;exact hg.inv.ow.live n' a (aaP hn) b o v hv m' _ _ _ q1 hb
  ·rcases cls n with aw|⟨n',rfl⟩<;>rcases cls m with iQ|⟨m',rfl⟩
   ·rw[zG aw]at hn;rw[zU aw]at hv;rw[zG iQ]at hm;rw[zU iQ]at iV;exact hi.ow.sep n m a c hn hm b o o' v v' hv iV
   ·rw[zG aw]at hn;rw[zU aw]at hv;rw[L2n]at iV;have:=aup (aaP hm) iV;have:=iP hn hv;omega
   ·rw[L2n]at hv;rw[zG iQ]at hm;rw[zU iQ]at iV;have:=aup (aaP hn) hv;have:=iP hm iV;omega
   ·rw[L2n]at hv iV;rw[hg.inv.ow.sep n' m' a c (aaP hn) (aaP hm) b o o' v v' hv iV]
  ·rcases cls n with aw|⟨m,rfl⟩
   ·rw[zG aw]at hn;rw[zU aw];obtain⟨S,p1,p2⟩:=hi.ow.deep n a hn;refine⟨S,p1.congr λ b hb=>oi b ?_,p2⟩;obtain⟨o,v,hv⟩:=(p2 b).1 hb;exact iP hn hv
   ·rw[L2n];exact hg.inv.ow.deep m a (aaP hn)
 have agF:∀{n:Nat} {g:fH},O2[n]? =some (.cE g)->O[n]? =some (.cE g)/\L2 n=L n:=by
  intro n g hn;rcases cls n with aw|⟨m,rfl⟩
  ·rw[zG aw]at hn;exact⟨hn,zU aw⟩
  ·exact(axy hn).elim
 have hgh:Gh J L2 O2 w':=hi.gh.step (λ n g hn=>⟨(agF hn).1,by rw[(agF hn).2]⟩) (λ _ _ hr=>hr.mono cH) λ b hb=>oi b hb.1
 refine⟨y,J,L2,rfl,fwd qp hy,⟨λ b o x hx=>hg.inv.gN b o x (hJ' b o x hx).1,λ n e k xs hn=> ?_,λ n m e k xs e' k' ys hn hm hb=> ?_,λ n e k xs o hn=> ?_,λ p hp=>hIJ _ _ _ (hi.fix p hp),hi.uo (λ b hb _=>oi b hb) hIJ,how,hgh⟩,cH,
  ⟨hg.lK.os,hg.lK.tape,hg.lK.output,hg.lK.size,λ b hb _=>oi b hb⟩,λ b hb=> ?_,λ b o x hx=> ?_⟩
 ·rcases cls n with aw|⟨m,rfl⟩
  ·rw[zG aw]at hn;rw[zU aw];exact(hi.obj n e k xs hn).congr (oi _ (uQ hn)) λ _ _ h=>h.mono cH
  ·obtain⟨ys,q1,rfl⟩:=wy hn;rw[L2n];obtain⟨c,⟨kS,r1,cL⟩,r2,r3,r4,r5,r6⟩:=hg.inv.obj m _ _ _ q1;refine⟨c,⟨kS,r1,cL⟩,r2,by simpa using r3,r4,r5,λ i x hx=> ?_⟩;obtain⟨z,hz,rfl⟩:=gM hx;rw[dq];refine⟨by rw[List.length_map];exact(r6 i z hz).1,λ j a ha=> ?_⟩;obtain⟨b,hb,rfl⟩:=gM ha;obtain⟨v,hv,ho,pF⟩:=(r6 i z hz).2 j b hb;have hm:AV.jY ys=true:=by have:=List.all_eq_true.1 zx _ (mem_of_getElem? q1);simpa [aa.dJ]using this
   exact⟨v,hv,ho,fwd (acQ (gE hm z (mem_of_getElem? hz)) b (mem_of_getElem? hb)) pF⟩
 ·rcases cls n with aw|⟨n',rfl⟩<;>rcases cls m with iQ|⟨m',rfl⟩
  ·rw[zG aw]at hn;rw[zU aw,zU iQ]at hb;rw[zG iQ]at hm;exact hi.sep n m _ _ _ _ _ _ hn hm hb
  ·rw[zG aw]at hn;rw[zU aw,L2n]at hb;obtain⟨ys,q1,_⟩:=wy hm;have:=an4 q1;have:=uQ hn;omega
  ·rw[zG iQ]at hm;rw[zU iQ,L2n]at hb;obtain⟨ys,q1,_⟩:=wy hn;have:=an4 q1;have:=uQ hm;omega
  ·rw[L2n,L2n]at hb;obtain⟨ys,q1,_⟩:=wy hn;obtain⟨uF,vj,_⟩:=wy hm;rw[hg.inv.sep n' m' _ _ _ _ _ _ q1 vj hb]
 ·rcases cls n with aw|⟨m,rfl⟩
  ·rw[zG aw]at hn;rw[zU aw];simp only[J];rw[if_pos (.inl ⟨n,e,k,xs,hn,rfl⟩)]
  ·rw[L2n];obtain⟨ys,q1,_⟩:=wy hn;simp only[J]
   split
   ·rfl
   ·exact hg.inv.cT m _ _ _ o q1
 ·rcases hb with⟨n,e,k,xs,hn,hb⟩|⟨n,a,o,v,hn,hv⟩|⟨n,a,hn,hb⟩
  rotate_right
  ·rw[(agF hn).2]at hb;exact .inl (.inr (.inr ⟨n,a,(agF hn).1,hb⟩))
  ·rcases cls n with aw|⟨m,rfl⟩
   ·rw[zG aw]at hn;rw[zU aw]at hb;exact .inl (.inl ⟨n,e,k,xs,hn,hb⟩)
   ·rw[L2n]at hb;obtain⟨ys,q1,_⟩:=wy hn;exact .inr (akg (.inl ⟨m,_,_,_,q1,hb⟩))
  ·rcases cls n with aw|⟨m,rfl⟩
   ·rw[zG aw]at hn;rw[zU aw]at hv;exact .inl (.inr (.inl ⟨n,a,o,v,hn,hv⟩))
   ·rw[L2n]at hv;exact .inr (akg (.inr (.inl ⟨m,a,o,v,aaP hn,hv⟩)))
 ·obtain⟨h1,h2⟩:=hJ' b o x hx;rcases hg.eK b o x h1 with h3|h3|h3
  ·unfold wA at h3;rw[if_neg h2]at h3;exact .inl h3
  ·exact(tt h3).elim
  ·exact .inr (.inr h3)
end Go.Ab
namespace Go.Ab
theorem Good.agc{I0 I I':cZ}{L0 L:Nat->Loc}{O0 O O':List aa}{w0 w:World}(h:Good I0 L0 O0 w0 I L O w)(hlen:O.length<=O'.length)
  (hI:∀b o x,I b o=some x->I' b o=some x) (hI2:∀b o x,I' b o=some x->I b o=some x∨(w.cell? ⟨b,o,none⟩=some x/\LV L O b))
  (hO:∀(m:Nat) e s fI,O'[m]? =some (.live e s fI)->∃xs,O[m]? =some (.live e s xs)/\xs.length=fI.length/\aem I' L O' w (L m) e s fI/\∀o,I' (L m).aZ o=none)
  (zt:∀(m:Nat) e s,m<O.length->O'[m]? =some (.nil e s)->O[m]? =some (.nil e s))
  (sh:∀(m:Nat) a,O'[m]? =some (.own a)->O[m]? =some (.own a))
  (al1:∀(m:Nat) g,O'[m]? =some (.cE g)->O[m]? =some (.cE g)/\∀a x,R I L O a x->R I' L O' a x):Good I0 L0 O0 w0 I' L O' w:=by
 refine⟨⟨λ b o x hx=> ?_,λ m e s xs hm=> ?_,λ n m e s xs e' s' ys hn hm hb=> ?_,λ m e s xs o hm=> ?_,λ p hp=>hI _ _ _ (h.inv.fix p hp),h.inv.xe hI,h.inv.ow.same (λ m a hm=>⟨sh m a hm,rfl⟩) (λ b o v hv=>by
  rcases hI2 b o v hv with h1|⟨_,h1⟩
  ·exact .inl ⟨o,v,h1⟩
  ·exact .inr (.inl h1)) (λ m e s xs hm=>by
  obtain⟨ys,h1,_⟩:=hO m e s xs hm;exact .inl ⟨m,_,_,_,h1,rfl⟩) rfl,⟨λ n g hn=>(h.inv.gh.ok n g (al1 n g hn).1).mono rfl (al1 n g hn).2 rfl,λ n m g k hn hm hb=>h.inv.gh.sep n m g k (al1 n g hn).1 (al1 m k hm).1 hb⟩⟩,?_,h.lK,?_,λ b o x hx=> ?_⟩
 ·rcases hI2 b o x hx with h1|⟨h1,_⟩
  ·exact h.inv.gN b o x h1
  ·exact h1
 ·obtain⟨_,_,_,h3,_⟩:=hO m e s xs hm;exact h3
 ·obtain⟨_,h1,_⟩:=hO n e s xs hn;obtain⟨_,h2,_⟩:=hO m e' s' ys hm;exact h.inv.sep n m _ _ _ _ _ _ h1 h2 hb
 ·obtain⟨_,_,_,_,h4⟩:=hO m e s xs hm;exact h4 o
 ·refine⟨λ b o x hx=>hI _ _ _ (h.ext.gN _ _ _ hx),Nat.le_trans h.ext.len hlen,λ n hn e s xs hx=> ?_,λ n hn e s hx=>h.ext.nil n hn e s (zt n e s (Nat.lt_of_lt_of_le hn h.ext.len) hx),λ n hn a hx=>h.ext.own n hn a (sh n a hx),λ n hn a hx=>h.ext.cE n hn a (al1 n a hx).1⟩;obtain⟨ys,h1,h2,_⟩:=hO n e s xs hx;rcases h.ext.obj n hn e s ys h1 with⟨zs,z1,z2,z3⟩|⟨z1,z2⟩
  ·exact .inl ⟨zs,z1,by omega,λ he=>z3 (by omega)⟩
  ·exact .inr ⟨z1,λ h0=>z2 (List.eq_nil_of_length_eq_zero (by simp[h2,h0]))⟩
 ·rintro b (⟨n,e,s,xs,hn,hb⟩|⟨n,a,o,v,hn,hb⟩|⟨n,a,hn,hb⟩)
  ·obtain⟨ys,h1,_⟩:=hO n e s xs hn;exact h.lb b (.inl ⟨n,e,s,ys,h1,hb⟩)
  ·exact h.lb b (.inr (.inl ⟨n,a,o,v,sh n a hn,hb⟩))
  ·exact h.lb b (.inr (.inr ⟨n,a,(al1 n a hn).1,hb⟩))
 ·rcases hI2 b o x hx with h1|⟨_,h1⟩
  ·exact h.eK b o x h1
  ·rcases h.lb b (.inl h1)with h2|h2
   ·exact .inr (.inl h2)
   ·exact .inr (.inr h2)
theorem WK.aaX{n0:Nat}{e e':Env}{O:List aa}(t s:Nat){O':List aa}(sj:O'.length=O.length+1)(dE:O'[O.length]? =some (.nil t s))
  (oh:∀m,m<O.length->O'[m]? =O[m]? ∨∃ee k ys uF,O[m]? =some (.live ee k ys)/\O'[m]? =some (.live ee k uF)/\uF.length=ys.length/\∀(i:Nat) y y',ys[i]? =some y->uF[i]? =some y'->y'.cells.length=y.cells.length/\
   ∀(j:Nat) c c',y.cells[j]? =some c->y'.cells[j]? =some c'->c'=c∨(c= .aA/\c'= .row O.length 0))
  (he:∀t,e' t=e t∨(e t= .aA/\e' t= .row O.length 0)):WK n0 e O e' O':=by
 intro I0 L0 O0 w0 I L w f h0 hg hr
 have cH:Ext I L O I L O':=by
  refine⟨λ _ _ _ h=>h,by omega,λ n hn ee k xs hx=> ?_,λ n hn ee k hx=> ?_,λ n hn a hx=> ?_,λ n hn a hx=> ?_⟩;rotate_left 2
  ·rcases oh n hn with h|⟨e1,k1,ys,uF,h1,h2,h3,_⟩
   ·rw[h]at hx;exact⟨⟨a,hx⟩,rfl⟩
   ·rw[h2]at hx;cases hx
  ·rcases oh n hn with h|⟨e1,k1,ys,uF,h1,h2,h3,_⟩
   ·rw[h]at hx;exact⟨⟨a,hx,rfl⟩,rfl⟩
   ·rw[h2]at hx;cases hx
  ·rcases oh n hn with h|⟨e1,k1,ys,uF,h1,h2,h3,_⟩
   ·exact .inl ⟨xs,by rw[←h];exact hx,le_refl _,λ _=>rfl⟩
   ·rw[h2]at hx;cases hx;exact .inl ⟨ys,h1,by omega,λ _=>rfl⟩
  ·rcases oh n hn with h|⟨e1,k1,ys,uF,h1,h2,h3,_⟩
   ·rwa [h]at hx
   ·rw[h2]at hx;cases hx
 have as9:∀{x:Value},R I L O .aA x->R I L O' (.row O.length 0) x:=by
  intro x hx;cases hx;exact .fj _ t s dE
 refine⟨I,L,hg.agc (by omega) (λ _ _ _ h=>h) (λ _ _ _ h=> .inl h) (λ m ee k xs hm=> ?_) (λ m ee k hm hx=>cH.nil m hm ee k hx) (λ m a hm=> ?_) (λ m a hm=> ?_),λ t=> ?_⟩;rotate_left;rotate_left
 ·refine⟨?_,λ _ _ h=>h.mono cH⟩;by_cases oW:m<O.length
  ·rcases oh m oW with h|⟨e1,k1,ys,uF,h1,h2,_⟩
   ·rwa [h]at hm
   ·rw[h2]at hm;cases hm
  ·have hl:=(List.getElem?_eq_some_iff.1 hm).1;rw[show m=O.length by omega,dE]at hm;cases hm
 rotate_right
 ·by_cases oW:m<O.length
  ·rcases oh m oW with h|⟨e1,k1,ys,uF,h1,h2,_⟩
   ·rwa [h]at hm
   ·rw[h2]at hm;cases hm
  ·have hl:=(List.getElem?_eq_some_iff.1 hm).1;rw[show m=O.length by omega,dE]at hm;cases hm
 rotate_left
 ·have aw:m<O.length:=by
    have:=(List.getElem?_eq_some_iff.1 hm).1;rcases Nat.lt_or_ge m O.length with h|h
    ·exact h
    ·have:m=O.length:=by omega
     subst this;rw[dE]at hm;cases hm
  rcases oh m aw with h|⟨e1,k1,ys,uF,h1,h2,h3,h4⟩
  ·rw[h]at hm;exact⟨xs,hm,rfl,(hg.inv.obj m _ _ _ hm).congr rfl λ _ _ h=>h.mono cH,λ o=>hg.inv.cT m _ _ _ o hm⟩
  ·rw[h2]at hm;cases hm;refine⟨ys,h1,h3.symm,?_,λ o=>hg.inv.cT m _ _ _ o h1⟩;obtain⟨c,⟨kS,q1,cL⟩,q2,q3,q4,q5,q6⟩:=hg.inv.obj m _ _ _ h1;refine⟨c,⟨kS,q1,cL⟩,q2,by omega,q4,q5,λ i y' mR=> ?_⟩;have hy:ys[i]? =some (ys[i]'(by have:=(List.getElem?_eq_some_iff.1 mR).1;omega)):=by simp
   obtain⟨p1,p2⟩:=h4 i _ _ hy mR;obtain⟨r1,r2⟩:=q6 i _ hy;refine⟨by rw[p1,r1],λ j a ha=> ?_⟩;have hc:=List.getElem?_eq_getElem (l:=(ys[i]'(by have:=(List.getElem?_eq_some_iff.1 mR).1;omega)).cells) (i:=j) (by have:=(List.getElem?_eq_some_iff.1 ha).1;omega);obtain⟨v,hv,ho,hrv⟩:=r2 j _ hc;refine⟨v,hv,ho,?_⟩;rcases p2 j _ _ hc ha with h|⟨h,h'⟩
   ·rw[h];exact hrv.mono cH
   ·rw[h'];rw[h]at hrv;exact as9 hrv
 ·rcases he t with h|⟨h,h'⟩
  ·rw[h];exact(hr t).mono cH
  ·rw[h'];have:=hr t;rw[h]at this;exact as9 this
inductive Fr(n:Nat)(xs:List AV):AV->AV->Prop
 |refl (a:AV):Fr n xs a a
 |row:Fr n xs (.row n xs.length) (.sl xs)
 |agg (cs ds:List AV):cs.length=ds.length->(∀(i:Nat) c d,cs[i]? =some c->ds[i]? =some d->Fr n xs c d)->Fr n xs (.agg cs) (.agg ds)
 |ptr (a:AV) (f:Nat):xs= [a]->Fr n xs (.ptr n 1 0 f) (.bV a f)
theorem Fr.width{n:Nat}{xs:List AV}{a b:AV}(h:Fr n xs a b):b.cells.length=a.cells.length:=by
 cases h with
 |refl=>rfl
 |row=>rfl
 |agg cs ds h _=>simp[AV.cells,h]
 |ptr=>rfl
open Classical in
noncomputable def frI (I:cZ) (L:Nat->Loc) (O:List aa) (w:World) (n:Nat):cZ:=λ b o=>
 if(∃e s xs,O[n]? =some (.live e s xs))/\(L n).aZ=b then w.cell? ⟨b,o,none⟩else I b o
theorem Fr.sound{I:cZ}{L:Nat->Loc}{O O':List aa}{w:World}(hi:Inv I L O w){n t s:Nat}{xs:List AV}(hO:O[n]? =some (.live t s xs)∨(O[n]? =some (.nil t s)/\xs= []))(hn:AV.ae xs=true)
  (cH:Ext I L O (frI I L O w n) L O') {a b:AV} (h:Fr n xs a b):∀{x:Value},R I L O a x->R (frI I L O w n) L O' b x:=by
 induction h with
 |refl a=>intro x hr;exact hr.mono cH
 |row=>
  intro x hr;rcases hO with hO|⟨hO,rfl⟩
  ·have:=hr.dA hO rfl;subst this;obtain⟨c,⟨kS,h1,cL⟩,h2,h3,h4,h5,h6⟩:=hi.obj n t s xs hO;by_cases hx:xs= []
   ·subst hx;exact .nP _ _
   ·refine(.sl xs (L n).aZ 0 (L n).cap s (λ i j=>(c[i*s+j]?).getD undef) h3 hx (λ i x hx=>(h6 i x hx).1) (λ i x j d hx hj=> ?_) λ i x j d hx hj=> ?_)
    ·obtain⟨y,hy,ho,_⟩:=(h6 i x hx).2 j d hj;unfold frI;rw[if_pos ⟨⟨t,s,xs,hO⟩,rfl⟩,zero_add,eC h1,hy];exact⟨rfl,ho⟩
    ·obtain⟨y,hy,ho,pF⟩:=(h6 i x hx).2 j d hj;rw[hy];exact pF.ag cH.gN (ej (aW hn x (mem_of_getElem? hx)) d (mem_of_getElem? hj))
  ·obtain⟨rfl,_⟩:=hr.lU hO;exact .nP _ _
 |agg cs ds h _ ih=>
  intro x hr;cases hr with
  |agg _ vs hl hr=>
   refine .agg _ _ (by omega) λ i d v hd hv=> ?_
   have hc:cs[i]? =some (cs[i]'(by have:=(List.getElem?_eq_some_iff.1 hd).1;omega)):=by simp
   exact ih i _ _ hc hd (hr i _ v hc hv)
 |ptr a f ha=>
  subst ha;intro x hr;rcases hO with hO|⟨_,h⟩
  ·have:=hr.g9 hO rfl;subst this;obtain⟨c,⟨kS,h1,cL⟩,h2,h3,h4,h5,h6⟩:=hi.obj n t s _ hO;obtain⟨q1,q2⟩:=h6 0 a rfl;simp only[zero_mul];refine .bV a f (L n).aZ 0 (λ j=>(c[j]?).getD undef) (λ j d hj=> ?_) λ j d hj=> ?_
   ·obtain⟨y,hy,ho,_⟩:=q2 j d hj;rw[zero_mul,zero_add]at hy;unfold frI;rw[if_pos ⟨⟨t,s,_,hO⟩,rfl⟩,zero_add,eC h1,hy];exact⟨rfl,ho⟩
   ·obtain⟨y,hy,ho,pF⟩:=q2 j d hj;rw[zero_mul,zero_add]at hy;rw[hy];exact pF.ag cH.gN (ej (aW hn a (by simp)) d (mem_of_getElem? hj))
  ·cases h
theorem avL{I:cZ}{L:Nat->Loc}{O:List aa}{w:World}(hi:Inv I L O w)(n:Nat):∀b o x,I b o=some x->frI I L O w n b o=some x:=by
 intro b o x hx;unfold frI
 split
 ·exact hi.gN b o x hx
 ·exact hx
theorem WK.jL{n0:Nat}{e e':Env}{O O':List aa}{n t s:Nat}{xs:List AV}(hO:O[n]? =some (.live t s xs)∨(O[n]? =some (.nil t s)/\xs= []))(hn:AV.ae xs=true)(hlen:O'.length=O.length)(hd:O'[n]? =some .dead)
  (oh:∀m,m≠n->O'[m]? =O[m]? ∨∃ee k ys uF,O[m]? =some (.live ee k ys)/\O'[m]? =some (.live ee k uF)/\uF.length=ys.length/\∀(i:Nat) y y',ys[i]? =some y->uF[i]? =some y'->y'.cells.length=y.cells.length/\
   ∀(j:Nat) c c',y.cells[j]? =some c->y'.cells[j]? =some c'->Fr n xs c c')
  (he:∀t,Fr n xs (e t) (e' t)):WK n0 e O e' O':=by
 intro I0 L0 O0 w0 I L w f h0 hg hr;have hle:=avL hg.inv n
 have uQ:∀{m ee k uF},O'[m]? =some (.live ee k uF)->m≠n/\∃ys,O[m]? =some (.live ee k ys)/\ys.length=uF.length:=by
  intro m ee k uF hm;have rl:m≠n:=by rintro rfl;rw[hd]at hm;cases hm
  refine⟨rl,?_⟩;rcases oh m rl with h|⟨e1,k1,ys,zs,h1,h2,h3,_⟩
  ·exact⟨uF,by rw[←h];exact hm,rfl⟩
  ·rw[h2]at hm;cases hm;exact⟨ys,h1,h3.symm⟩
 have zt:∀(m ee k:Nat),O'[m]? =some (aa.nil ee k)->O[m]? =some (aa.nil ee k):=by
  intro m ee k hm;have rl:m≠n:=by rintro rfl;rw[hd]at hm;cases hm
  rcases oh m rl with h|⟨e1,k1,ys,zs,h1,h2,h3,_⟩
  ·rwa [h]at hm
  ·rw[h2]at hm;cases hm
 have ayr:∀(m:Nat) (a:AV),O'[m]? =some (aa.own a)->O[m]? =some (aa.own a):=by
  intro m a hm;have rl:m≠n:=by rintro rfl;rw[hd]at hm;cases hm
  rcases oh m rl with h|⟨e1,k1,ys,zs,h1,h2,_⟩
  ·rwa [h]at hm
  ·rw[h2]at hm;cases hm
 have atc:∀(m:Nat) (a:fH),O'[m]? =some (aa.cE a)->O[m]? =some (aa.cE a):=by
  intro m a hm;have rl:m≠n:=by rintro rfl;rw[hd]at hm;cases hm
  rcases oh m rl with h|⟨e1,k1,ys,zs,h1,h2,_⟩
  ·rwa [h]at hm
  ·rw[h2]at hm;cases hm
 have cH:Ext I L O (frI I L O w n) L O':=by
  refine⟨hle,by omega,λ m hm ee k zs hz=> ?_,λ m _ ee k h=>zt m ee k h,λ m _ a h=>⟨⟨a,ayr m a h⟩,rfl⟩,λ m _ a h=>⟨⟨a,atc m a h,rfl⟩,rfl⟩⟩;obtain⟨_,ys,h1,h2⟩:=uQ hz;exact .inl ⟨ys,h1,by omega,λ _=>rfl⟩
 have hs:∀{a b:AV} {x:Value},Fr n xs a b->R I L O a x->R (frI I L O w n) L O' b x:=λ h hr=>h.sound hg.inv hO hn cH hr
 refine⟨frI I L O w n,L,hg.agc (by omega) hle (λ b o x hx=> ?_) (λ m ee k zs hm=> ?_) (λ m ee k _ hm=>zt m ee k hm) (λ m a hm=>by
  have rl:m≠n:=by rintro rfl;rw[hd]at hm;cases hm
  rcases oh m rl with h|⟨e1,k1,ys,zs,h1,h2,_⟩
  ·rwa [h]at hm
  ·rw[h2]at hm;cases hm) (λ m a hm=>⟨atc m a hm,λ _ _ h=>h.mono cH⟩),λ t=>hs (he t) (hr t)⟩
 ·unfold frI at hx
  split at hx
  ·rename_i h;obtain⟨⟨e1,s1,x1,h1⟩,h2⟩:=h;exact .inr ⟨hx,⟨n,e1,s1,x1,h1,h2⟩⟩
  ·exact .inl hx
 ·obtain⟨rl,ys,h1,h2⟩:=uQ hm;refine⟨ys,h1,h2,?_,λ o=> ?_⟩
  ·obtain⟨c,⟨kS,q1,cL⟩,q2,q3,q4,q5,q6⟩:=hg.inv.obj m _ _ _ h1;refine⟨c,⟨kS,q1,cL⟩,q2,by omega,q4,q5,λ i y' mR=> ?_⟩;have hy:ys[i]? =some (ys[i]'(by have:=(List.getElem?_eq_some_iff.1 mR).1;omega)):=by simp
   obtain⟨r1,r2⟩:=q6 i _ hy;rcases oh m rl with h|⟨e1,k1,us,us',g1,g2,g3,g4⟩
   ·rw[h,h1]at hm;cases hm;have hyy:=mR;rw[hy]at hyy;have hyy:=Option.some.inj hyy;rw[←hyy];refine⟨r1,λ j a ha=> ?_⟩;obtain⟨v,hv,ho,hrv⟩:=r2 j _ ha;exact⟨v,hv,ho,hrv.mono cH⟩
   ·rw[g2]at hm;cases hm;rw[h1]at g1;cases g1;obtain⟨p1,p2⟩:=g4 i _ _ hy mR;refine⟨by rw[p1,r1],λ j a ha=> ?_⟩;have hc:=List.getElem?_eq_getElem (l:=(ys[i]'(by have:=(List.getElem?_eq_some_iff.1 mR).1;omega)).cells) (i:=j) (by have:=(List.getElem?_eq_some_iff.1 ha).1;omega);obtain⟨v,hv,ho,hrv⟩:=r2 j _ hc;exact⟨v,hv,ho,hs (p2 j _ _ hc ha) hrv⟩
  ·cases hx:frI I L O w n (L m).aZ o with
   |none=>rfl
   |some x=>
    unfold frI at hx
    split at hx
    ·rename_i h;obtain⟨⟨e1,s1,x1,g1⟩,g2⟩:=h;exact(rl (hg.inv.sep n m _ _ _ _ _ _ g1 h1 g2).symm).elim
    ·rw[hg.inv.cT m _ _ _ o h1]at hx;cases hx
theorem WK.env{n0:Nat}{e e':Env}{O:List aa}(h:∀t,e' t= .top∨e' t=e t):WK n0 e O e' O:=by
 intro I0 L0 O0 w0 I L w f h0 hg hr;refine⟨I,L,hg,λ t=> ?_⟩;rcases h t with h|h
 ·rw[h];exact .top _
 ·rw[h];exact hr t
end Go.Ab
namespace Go.Ab
def aR:AV->List AV
 | .sl xs=>xs
 |_=>[]
def idxOf:AV->Nat
 | .v (.int _ k)=>k.toNat
 |_=>0
def am9(a:AV)(j:Nat):AV:=
 match a with
 | .a9 vs=>vs.getD j .top
 |_=> .top
mutual
def D.ev(r:List AV):D->AV
 | .x i=>r.getD i .top
 | .c a=>a
 | .cell i j=>(r.getD i .top).cells.getD j .top
 | .ext i j=>am9 (r.getD i .top) j
 | .sl l=> .sl (aR (l.ev r))
 | .agg l=> .agg (D.aX r l)
 | .fn f l=> .fn f (D.aX r l)
 | .ip d f=> .bV (d.ev r) f
def D.aX(r:List AV):List D->List AV
 | []=>[]
 |d::l=>d.ev r::D.aX r l
end
mutual
def D.cl(n:Nat):D->Bool
 | .x i=>decide (i<n)
 | .c a=>a.ag
 | .cell i _=>decide (i<n)
 | .ext i _=>decide (i<n)
 | .sl l=>l.cl n
 | .agg l=>D.cls n l
 | .fn _ l=>D.cls n l
 | .ip d _=>d.cl n
def D.cls(n:Nat):List D->Bool
 | []=>true
 |d::l=>d.cl n&&D.cls n l
end
def AV.ceq:AV->AV->Bool
 | .v (.int k a),.v (.int k' b)=>decide (k=k')&&decide (a=b)
 | .v (.bool a),.v (.bool b)=>decide (a=b)
 | .v (.string a),.v (.string b)=>decide (a=b)
 | .aA,.aA=>true
 | .sl [],.sl []=>true
 | .a9 [],.a9 []=>true
 | .fn f [],.fn g []=>decide (f=g)
 |_,_=>false
mutual
def D.beq:D->D->Bool
 | .x i,.x j=>decide (i=j)
 | .c a,.c b=>a.ceq b
 | .cell i j,.cell k l=>decide (i=k)&&decide (j=l)
 | .ext i j,.ext k l=>decide (i=k)&&decide (j=l)
 | .sl a,.sl b=>a.beq b
 | .agg a,.agg b=>D.mJ a b
 | .fn f a,.fn g b=>decide (f=g)&&D.mJ a b
 | .ip a f,.ip b g=>a.beq b&&decide (f=g)
 |_,_=>false
def D.mJ:List D->List D->Bool
 | [],[]=>true
 |a::as,b::bs=>a.beq b&&D.mJ as bs
 |_,_=>false
end
def nw:List AV->AV
 | [c]=>c
 |cs=> .agg cs
mutual
def SV.ev(r:List AV):SV->AV
 | .d x=>x.ev r
 | .row n l=> .row n (aR (l.ev r)).length
 | .ptr n f=> .ptr n 1 0 f
 | .rp n l i f=> .ptr n (aR (l.ev r)).length (idxOf (i.ev r)) f
 | .ip x f=> .bV (x.ev r) f
 | .agg cs=> .agg (SV.aX r cs)
 | .a9 cs=> .a9 (SV.aX r cs)
 | .top=> .top
def SV.aX(r:List AV):List SV->List AV
 | []=>[]
 |v::l=>v.ev r::SV.aX r l
end
def SO.ev(r:List AV):SO->aa
 | .dead=> .dead
 | .box e cs=> .live e cs.length [nw (SV.aX r cs)]
 | .row true e s l=>if aR (l.ev r)= []then .nil e s else .live e s (aR (l.ev r))
 | .row false e s l=> .live e s (aR (l.ev r))
mutual
def SV.cl(n:Nat):SV->Bool
 | .d x=>x.cl n
 | .row _ l=>l.cl n
 | .ptr _ _=>true
 | .rp _ l i _=>l.cl n&&i.cl n
 | .ip x _=>x.cl n
 | .agg cs=>SV.cls n cs
 | .a9 cs=>SV.cls n cs
 | .top=>true
def SV.cls(n:Nat):List SV->Bool
 | []=>true
 |v::l=>v.cl n&&SV.cls n l
end
def SO.cl(n:Nat):SO->Bool
 | .dead=>true
 | .box _ cs=>SV.cls n cs
 | .row _ _ _ l=>l.cl n
mutual
def SV.beq:SV->SV->Bool
 | .d x,.d y=>x.beq y
 | .row n l,.row m k=>decide (n=m)&&l.beq k
 | .ptr n f,.ptr m g=>decide (n=m)&&decide (f=g)
 | .rp n l i f,.rp m k j g=>decide (n=m)&&l.beq k&&i.beq j&&decide (f=g)
 | .ip x f,.ip y g=>x.beq y&&decide (f=g)
 | .agg a,.agg b=>SV.mJ a b
 | .a9 a,.a9 b=>SV.mJ a b
 | .top,.top=>true
 |_,_=>false
def SV.mJ:List SV->List SV->Bool
 | [],[]=>true
 |a::as,b::bs=>a.beq b&&SV.mJ as bs
 |_,_=>false
end
def SO.beq:SO->SO->Bool
 | .dead,.dead=>true
 | .box e cs,.box e' cs'=>decide (e=e')&&SV.mJ cs cs'
 | .row n e s l,.row n' e' s' l'=>decide (n=n')&&decide (e=e')&&decide (s=s')&&l.beq l'
 |_,_=>false
mutual
def SV.sc(k:Nat):SV->Bool
 | .d _=>true
 | .row n _=>decide (n<k)
 | .ptr n _=>decide (n<k)
 | .rp n _ _ _=>decide (n<k)
 | .ip _ _=>true
 | .agg cs=>SV.scs k cs
 | .a9 cs=>SV.scs k cs
 | .top=>true
def SV.scs(k:Nat):List SV->Bool
 | []=>true
 |v::l=>v.sc k&&SV.scs k l
end
def SO.sc(k:Nat):SO->Bool
 | .dead=>true
 | .box _ cs=>SV.scs k cs
 | .row _ _ _ _=>true
def lk:List (Nat×SV)->Nat->SV
 | [],_=> .top
 |(k,v)::l,t=>if t=k then v else lk l t
structure SS where
 env:List (Nat×SV)
 an:List SO
 nv:Nat
 kn:List (Nat×Nat)
instance:Inhabited SS:=⟨⟨[],[],0,[]⟩⟩
def SS.cl(s:SS):Bool:=s.env.all (λ p=>p.2.cl s.nv)&&s.an.all (λ o=>o.cl s.nv)
def bJ(s:SS)(r:List AV):Env:=λ t=>(lk s.env t).ev r
def bp(s:SS)(r:List AV):List aa:=s.an.map (SO.ev r)
def SS.set(s:SS)(t:Nat)(v:SV):SS:={s with env:=(t,v)::s.env.filter (λ p=>p.1 !=t)}
def SS.bB(s:SS)(d:Option Nat)(v:SV):SS:=
 match d with
 |some t=>s.set t v
 |none=>s
def un:SV:= .d (.c (.a9 []))
inductive PO where
 |val (x:D)
 |pick (c a b:D)
 |bin (op:BinOp) (a b:D)
 |beq (neg:Bool) (a b:D)
 |un (op:UnOp) (a:D)
 |conv (k:IntKind) (a:D)
 |elem (s:Nat) (l i:D)
 |yK (off:Nat) (n:Option Nat) (a:D)
 |aa9 (f m:Nat) (a:D)
 |m6 (a i:D)
 |fW (a:D) (lo hi:Option D)
 |cO (s:Nat) (a:D) (lo hi:Option D)
 |mn (a:D)
 |bl (a:D)
 |mkl (z:AV) (n:Nat) (parts:List (Nat×D))
 |rep (bytes:Nat) (z:AV) (n c:D)
 |app (s bytes:Nat) (l y:D)
 |get (l i:D) (f:Nat) (n:Option Nat)
 |set (l i:D) (f m:Nat) (y:D)
 |call (f:FuncId) (args:List D) (flat:Bool)
 |eI (g:D) (args:List D) (flat:Bool)
 |ldp (n:Option Nat) (a:D)
 |fap (off:Nat) (a:D)
 |pu (o:PU) (ds:List D)
 |mz (s bytes:Nat) (l y:D)
 |fc (nl:Bool) (e s:Nat) (f:FuncId) (args:List D)
 |gy (f:FuncId) (g:iW) (args:List D)
inductive rQ where
 |cells (a:D) (m:Nat)
 |one (a:D)
 |lt (a:D) (j:Nat)
 |a9 (a:D) (j:Nat)
 |idx (l i:D)
 |arC (a:D)
 |ne (l:D)
 |no
 |eql (a b:D)
inductive Node where
 |op (o:PO)
 |bI (c:rQ)
inductive T where
 |leaf (x:AX) (s:SS)
 |ret (ds:List D)
 |jump (vs:List D)
 |eB (t:T)
 |op (o:PO) (t:T)
 |bI (c:rQ) (t:T)
 |ite (c:D) (t f:T)
 |bind (k:Nat) (a b:T)
 |loop (init:List D) (b:T)
instance:Inhabited T:=⟨.jump []⟩
def D.evo(r:List AV):Option D->Option AV
 |none=>none
 |some d=>some (d.ev r)
def aef(P:Program)(f:FuncId)(args:List AV)(flat:Bool)(K:AV->Prop):Prop:=
 ∃res,a7 P f args res/\res.ag=true/\(flat=true->res.flat=true)/\K res
def vM(P:Program)(g:AV)(args:List AV)(flat:Bool)(K:AV->Prop):Prop:=
 match g with
 | .fn f aV=>aef P f (args++aV) flat K
 |_=>False
def b6(nl:Bool)(e s:Nat)(xs:List AV):aa:=if nl=true/\xs= []then .nil e s else .live e s xs
def xh(P:Program)(f:FuncId)(args:List AV)(nl:Bool)(e s:Nat)(xs:List AV):Prop:=cF P f args [] (.row 0 xs.length) [b6 nl e s xs]
def ajm(P:Program)(nl:Bool)(e s:Nat)(f:FuncId)(args:List AV)(K:AV->Prop):Prop:=
 ∃xs,xh P f args nl e s xs/\AV.ae xs=true/\K (.sl xs)
def zE(P:Program)(f:FuncId)(g:iW)(ins outs:List AV):Prop:=cF P f (SV.aX ins g.args) (g.an.map (SO.ev ins)) (g.res.ev outs) (g.ck.map (SO.ev outs))
def aip(P:Program)(f:FuncId)(g:iW)(args:List AV)(K:AV->Prop):Prop:=
 ∃outs,zE P f g args outs/\outs.length=g.m/\AV.ae outs=true/\K (.a9 outs)
def amI(s bytes:Nat)(xs:List AV)(y:AV)(K:AV->Prop):Prop:=
 mM [] y λ ys=>(∀y∈ys,y.cells.length=s)/\(xs.length+ys.length)*bytes<=140737488355328/\xs.length+ys.length<=maxLen/\K (.sl (xs++ys))
def avG(xs:List AV)(i:Nat)(f:Nat)(n:Option Nat)(K:AV->Prop):Prop:=i<xs.length/\f+n.getD 1<=(xs.getD i .top).cells.length/\K (dt n (xs.getD i .top) f)
def aqH(xs:List AV)(i:Nat)(f m:Nat)(y:AV)(K:AV->Prop):Prop:=
 i<xs.length/\y.cells.length=m/\y.storable=true/\f+m<=(xs.getD i .top).cells.length/\K (.sl (xs.set i (u6 (xs.getD i .top) f y)))
def wX(s:Nat)(a i:AV)(K:AV->Prop):Prop:=
 match a,i with
 | .sl xs,.v (.int _ i)=>0<=i/\i<xs.length/\(xs.getD i.toNat .top).cells.length=s/\K (xs.getD i.toNat .top)
 |_,_=>False
def aiq(bytes:Nat)(z a b:AV)(K:AV->Prop):Prop:=
 match a,b with
 | .v (.int .i64 n),.v (.int .i64 c)=>0<=n/\n<=c/\bytes*c<=281474976710656/\c<=9223372036854775807/\K (.sl (List.replicate n.toNat z))
 |_,_=>False
def eJ(z:List AV):List (Nat×AV)->List AV
 | []=>z
 |(i,y)::r=>eJ (z.set i y) r
def auB(f m:Nat)(a:AV)(K:AV->Prop):Prop:=f+m<=a.cells.length/\K (dt (some m) a f)
def aoi(n:Option Nat)(a:AV)(K:AV->Prop):Prop:=
 match a with
 | .bV y f=>f+n.getD 1<=y.cells.length/\K (dt n y f)
 |_=>False
def apz(off:Nat)(a:AV)(K:AV->Prop):Prop:=
 match a with
 | .bV y f=>K (.bV y (f+off))
 |_=>False
def aej(s bytes:Nat)(xs:List AV)(y:AV)(K:AV->Prop):Prop:=
 match y with
 | .v (.string b)=>s=1/\(xs.length+b.size)*bytes<=140737488355328/\xs.length+b.size<=maxLen/\K (.sl (xs++cM b))
 |_=>False
def ajz(neg:Bool)(a b:AV)(K:AV->Prop):Prop:=
 match a,b with
 | .v (.bool a),.v (.bool b)=>K (.v (.bool (neg !=(a==b))))
 |_,_=>False
def PO.wp(P:Program)(r:List AV)(o:PO)(K:AV->Prop):Prop:=
 match o with
 | .val x=>K (x.ev r)
 | .pick c a b=>sP (c.ev r) (a.ev r) (b.ev r) [] λ x _=>K x
 | .bin op a b=>eM op (a.ev r) (b.ev r) [] λ x _=>K x
 | .beq neg a b=>ajz neg (a.ev r) (b.ev r) K
 | .un op a=>unK op (a.ev r) [] λ x _=>K x
 | .conv k a=>aca k (a.ev r) [] λ x _=>K x
 | .elem s l i=>wX s (l.ev r) (i.ev r) K
 | .yK off n a=>amc off n (a.ev r) [] λ x _=>K x
 | .aa9 f m a=>auB f m (a.ev r) K
 | .m6 a i=>abC (a.ev r) (i.ev r) [] λ x _=>K x
 | .fW a lo hi=>o9 (a.ev r) (D.evo r lo) (D.evo r hi) [] λ x _=>K x
 | .cO s a lo hi=>pa s (a.ev r) (D.evo r lo) (D.evo r hi) [] λ x _=>K x
 | .mn a=>abc (a.ev r) [] λ x _=>K x
 | .bl a=>po (a.ev r) [] λ x _=>K x
 | .mkl z n parts=>K (.sl (eJ (List.replicate n z) (parts.map λ p=>(p.1,p.2.ev r))))
 | .rep bytes z n c=>aiq bytes z (n.ev r) (c.ev r) K
 | .app s bytes l y=>amI s bytes (aR (l.ev r)) (y.ev r) K
 | .get l i f n=>avG (aR (l.ev r)) (idxOf (i.ev r)) f n K
 | .set l i f m y=>aqH (aR (l.ev r)) (idxOf (i.ev r)) f m (y.ev r) K
 | .call f args flat=>aef P f (D.aX r args) flat K
 | .eI g args flat=>vM P (g.ev r) (D.aX r args) flat K
 | .ldp n a=>aoi n (a.ev r) K
 | .fap off a=>apz off (a.ev r) K
 | .pu o ds=>puK o (D.aX r ds) K
 | .mz s bytes l y=>aej s bytes (aR (l.ev r)) (y.ev r) K
 | .fc nl e s f args=>ajm P nl e s f (D.aX r args) K
 | .gy f g args=>aip P f g (D.aX r args) K
def alU(xs:List AV)(i:AV)(K:Prop):Prop:=
 match i with
 | .v (.int _ i)=>0<=i/\i<xs.length/\K
 |_=>False
def am8(a:AV)(j:Nat)(K:Prop):Prop:=
 match a with
 | .a9 vs=>j<vs.length/\K
 |_=>False
def adX(a:AV)(K:Prop):Prop:=
 match a with
 | .fn _ _=>K
 | .bV _ _=>K
 |_=>False
def rQ.wp(r:List AV)(c:rQ)(K:Prop):Prop:=
 match c with
 | .cells a m=>(a.ev r).isAgg=true/\(a.ev r).cells.length=m/\(a.ev r).storable=true/\K
 | .one a=>(a.ev r).cells.length=1/\(a.ev r).bO=true/\K
 | .lt a j=>j<(a.ev r).cells.length/\K
 | .a9 a j=>am8 (a.ev r) j K
 | .idx l i=>alU (aR (l.ev r)) (i.ev r) K
 | .arC a=>adX (a.ev r) K
 | .ne l=>aR (l.ev r)≠[]/\K
 | .no=>False
 | .eql a b=>(aR (a.ev r)).length=(aR (b.ev r)).length/\K
def bW(P:Program)(L:AX->SS->List AV->Prop)(R:AV->Prop):T->List AV->List (List AV->Prop)->Prop
 | .leaf x s,r,_=>L x s r
 | .ret ds,r,_=>R (bn (D.aX r ds))
 | .jump vs,r,S=>match S with
   |J::_=>J (D.aX r vs)
   | []=>False
 | .eB t,r,S=>match S with
   |_::S=>bW P L R t r S
   | []=>False
 | .op o t,r,S=>o.wp P r λ v=>bW P L R t (r++ [v]) S
 | .bI c t,r,S=>c.wp r (bW P L R t r S)
 | .ite c t f,r,S=>match c.ev r with
   | .v (.bool b)=>(b=true->bW P L R t r S)/\(b=false->bW P L R f r S)
   |_=>False
 | .bind k a b,r,S=>bW P L R a r ((λ vs=>vs.length=k->bW P L R b (r++vs) S)::S)
 | .loop init b,r,S=>∃(J:Nat->List AV->Prop) (n:Nat),J n (D.aX r init)/\∀n vs,J n vs->vs.length=init.length->bW P L R b (r++vs) ((λ vs'=>∃m,m<n/\J m vs')::S)
def asd:Nat->T->T
 |0,t=>t
 |n+1,t=> .eB (asd n t)
def T.fill(k:AX->SS->Option T):T->Nat->Option T
 | .leaf x s,d=>(k x s).map (asd d)
 | .ret d,_=>some (.ret d)
 | .jump vs,d=>if d=0 then none else some (.jump vs)
 | .eB t,d=>match d with
   |0=>none
   |d+1=>(t.fill k d).map .eB
 | .op o t,d=>(t.fill k d).map (.op o)
 | .bI c t,d=>(t.fill k d).map (.bI c)
 | .ite c t f,d=>match t.fill k d,f.fill k d with
   |some t,some f=>some (.ite c t f)
   |_,_=>none
 | .bind m a b,d=>match a.fill k (d+1),b.fill k d with
   |some a,some b=>some (.bind m a b)
   |_,_=>none
 | .loop init b,d=>(b.fill k (d+1)).map (.loop init)
def T.leaves:T->List (AX×SS)
 | .leaf x s=>[(x,s)]
 | .ret _=>[]
 | .jump _=>[]
 | .eB t=>t.leaves
 | .op _ t=>t.leaves
 | .bI _ t=>t.leaves
 | .ite _ t f=>t.leaves++f.leaves
 | .bind _ a b=>a.leaves++b.leaves
 | .loop _ b=>b.leaves
def T.adU:T->Bool
 | .leaf _ _=>false
 | .ret _=>false
 | .jump _=>false
 | .eB t=>t.adU
 | .op _ t=>t.adU
 | .bI _ t=>t.adU
 | .ite _ t f=>t.adU||f.adU
 | .bind _ _ _=>true
 | .loop _ _=>true
def wrap:List Node->T->T
 | [],t=>t
 | .op o::r,t=> .op o (wrap r t)
 | .bI c::r,t=> .bI c (wrap r t)
end Go.Ab
namespace Go.Ab
def cA(s:SS):aC->SV
 | .t n=>lk s.env n
 | .c a=> .d (.c a)
def ajp:List SV->Option (List D)
 | []=>some []
 | .d x::l=>match ajp l with
   |some ds=>some (x::ds)
   |none=>none
 |_::_=>none
def apD(kn:List (Nat×Nat))(ds:List D):Option Nat:=
 match ds with
 | .cell i 0::_::_=>if kn.contains (i,ds.length)=true/\D.mJ ds ((List.range ds.length).map λ j=> .cell i j)=true then some i else none
 |_=>none
def asD(kn:List (Nat×Nat)):SV->Option (List Node×D)
 | .d x=>some ([],x)
 | .agg cs=>match ajp cs with
   |some ds=>match apD kn ds with
    |some i=>some ([.bI (.cells (.x i) ds.length)],.x i)
    |none=>some ([],.agg ds)
   |none=>none
 | .ip x f=>some ([],.ip x f)
 |_=>none
def cur(s:SS)(n:Nat)(l:D):Option (Bool×Nat×Nat):=
 match s.an[n]? with
 |some (.row nl e sz l')=>if l'.beq l=true then some (nl,e,sz)else none
 |_=>none
def ov(s:SS)(n:Nat):Option (Nat×List SV):=
 match s.an[n]? with
 |some (.box e cs)=>some (e,cs)
 |_=>none
def jd:Nat->List Node->Nat
 |nv,[]=>nv
 |nv,.op _::r=>jd (nv+1) r
 |nv,.bI _::r=>jd nv r
def nx(s:SS)(ns:List Node)(o:PO):List Node×SV×SS:=(ns++ [.op o],.d (.x (jd s.nv ns)),{s with nv:=jd s.nv ns+1})
def done(s:SS)(ns:List Node)(v:SV):List Node×SV×SS:=(ns,v,{s with nv:=jd s.nv ns})
def qz(m:Nat)(x:D):Node:=if m=1 then .bI (.one x)else .bI (.cells x m)
def lW:List SV->List Node
 | []=>[]
 | .d x::l=> .bI (.one x)::lW l
 |_::l=>lW l
def pC:List SV->Bool
 | []=>true
 | .top::_=>false
 | .agg _::_=>false
 | .a9 _::_=>false
 |_::l=>pC l
def expand(nv m:Nat)(v:SV):Option (List Node×List SV):=
 if m=1 then
  match v with
  | .d x=>some ([.bI (.one x)],[.d x])
  | .agg _=>none
  | .a9 _=>none
  | .top=>none
  |v=>some ([],[v])
 else
  match v with
  | .agg cs=>if cs.length=m/\pC cs=true then some (lW cs,cs)else none
  | .d (.x i)=>some ([.bI (.cells (.x i) m)],(List.range m).map λ j=> .d (.cell i j))
  | .d (.agg l)=>if l.length=m then some ([.bI (.cells (.agg l) m)],l.map .d)else none
  | .d (.c (.agg l))=>if l.length=m then some ([.bI (.cells (.c (.agg l)) m)],l.map λ a=> .d (.c a))else none
  | .d x=>some ([.op (.val x),.bI (.cells (.x nv) m)],(List.range m).map λ j=> .d (.cell nv j))
  |_=>none
def aib(s:SS)(t n:Nat)(z:AV):Option (List Node×SV×SS):=
 if n=1/\z.isAgg=false then some ([],.ptr s.an.length 0,{s with an:=s.an++ [.box t [.d (.c z)]]})
 else match z with
  | .agg cs=>if n≠1/\cs.length=n then some ([],.ptr s.an.length 0,{s with an:=s.an++ [.box t (cs.map λ a=> .d (.c a))]})else none
  |_=>none
def atA(s:SS)(t n:Nat)(v:SV):Option (List Node×SV×SS):=
 match expand s.nv n v with
 |some (ns,cs)=>if cs.length=n then some (ns,.ptr s.an.length 0,{s with an:=s.an++ [.box t cs],nv:=jd s.nv ns})else none
 |none=>none
def zW(s:SS):List Node->List SV->List (Nat×Nat×aC)->Option (List Node×List SV)
 |ns,cs,[]=>some (ns,cs)
 |ns,cs,(off,size,x)::r=>match expand (jd s.nv ns) size (cA s x)with
  |some (ms,vs)=>if vs.length=size/\off+size<=cs.length then zW s (ns++ms) (cs.take off++vs++cs.drop (off+size)) r else none
  |none=>none
def norm(s:SS)(ns:List Node)(cs:List SV):List Node×SV×SS:=
 match asD s.kn (.agg cs)with
 |some (ms,x)=>done s (ns++ms) (.d x)
 |none=>done s ns (.agg cs)
def ah9(s:SS)(z:List AV)(ps:List (Nat×Nat×aC)):Option (List Node×SV×SS):=
 match zW s [] (z.map λ a=> .d (.c a)) ps with
 |some (ns,cs)=>some (norm s ns cs)
 |none=>none
def su(s:SS)(m len:Nat):List (Nat×aC)->Option (List Node×List (Nat×D))
 | []=>some ([],[])
 |(i,x)::r=>match asD s.kn (cA s x),su s m len r with
  |some (ns,d),some (ms,ps)=>if i<len then some (ns++qz m d::ms,(i,d)::ps)else none
  |_,_=>none
def newRow(s:SS)(t m:Nat)(q:List Node×SV×SS):Option (List Node×SV×SS):=
 match q with
 |(ns,.d l,s')=>some (ns,.row s.an.length l,{s' with an:=s'.an++ [.row false t m l]})
 |_=>none
def wj(s:SS)(nl:Bool)(t m:Nat)(q:List Node×SV×SS):Option (List Node×SV×SS):=
 match q with
 |(ns,.d l,s')=>some (ns,.row s.an.length l,{s' with an:=s'.an++ [.row nl t m l]})
 |_=>none
def sv(s:SS)(t m len:Nat)(z:AV)(ps:List (Nat×aC)):Option (List Node×SV×SS):=
 match su s m len ps with
 |some (ns,ps)=>newRow s t m (nx s ns (.mkl z len ps))
 |none=>none
def whole(kn:List (Nat×Nat))(y:D)(m:Nat):Bool:=
 match y with
 | .x i=>kn.contains (i,m)
 | .agg l=>decide (l.length=m)
 |_=>false
def am1(s:SS)(n:Option Nat)(v:SV):Option (List Node×SV×SS):=
 match v with
 | .ptr k f=>match ov s k with
   |some (_,cs)=>match n with
    |none=>match cs[f]? with
     |some v=>if cs.length=1 then(if pC [v]=true then some (lW [v],v,s)else none)else some ([],v,s)
     |none=>none
    |some m=>if cs.length≠1/\f+m<=cs.length then some (norm s [] ((cs.drop f).take m))else none
   |none=>none
 | .ip y f=>match n with
   |none=>match y with
    | .x i=>some ([.bI (.lt y f)],.d (.cell i f),s)
    | .agg l=>match l[f]? with
      |some d=>some ([],.d d,s)
      |none=>none
    |_=>some (.op (.val y):: [.bI (.lt (.x s.nv) f)],.d (.cell s.nv f),{s with nv:=s.nv+1})
   |some m=>if f=0/\whole s.kn y m=true then some ([.bI (.cells y m)],.d y,s)else some (nx s [] (.aa9 f m y))
 | .rp k l i f=>match cur s k l with
   |some _=>some (nx s [] (.get l i f n))
   |none=>none
 | .d y=>some (nx s [] (.ldp n y))
 |_=>none
def SV.rew(n:Nat)(l l':D):SV->SV
 | .row m k=>if m=n/\k.beq l=true then .row m l' else .row m k
 | .rp m k i f=>if m=n/\k.beq l=true then .rp m l' i f else .rp m k i f
 |v=>v
def ah6(s:SS)(m:Nat)(p y:SV):Option (List Node×SV×SS):=
 match p with
 | .ptr k f=>match ov s k,expand s.nv m y with
   |some (e,cs),some (ns,vs)=>
    if vs.length=m/\f+m<=cs.length/\(m=1∨cs.length≠1)/\(cs.length=1->pC cs=true)then
     some ((if cs.length=1 then lW cs else [])++ns,.top,{s with an:=s.an.set k (.box e (cs.take f++vs++cs.drop (f+m))),nv:=jd s.nv ns})else none
   |_,_=>none
 | .rp k l i f=>match cur s k l,asD s.kn y with
   |some (nl,e,sz),some (ns,d)=>
    let l':D:= .x (jd s.nv (ns++ [qz m d]))
    some (ns++ [qz m d]++ [.op (.set l i f m d)],.top,{s with env:=s.env.map (λ p=>(p.1,p.2.rew k l l')),an:=s.an.set k (.row nl e sz l'),nv:=jd s.nv (ns++ [qz m d])+1})
   |_,_=>none
 |_=>none
def ah8(s:SS)(off:Nat)(v:SV):Option (List Node×SV×SS):=
 match v with
 | .ptr k f=>match ov s k with
   |some _=>some ([],.ptr k (f+off),s)
   |none=>none
 | .rp k l i f=>match cur s k l with
   |some (false,_)=>some ([],.rp k l i (f+off),s)
   |some (true,_)=>some ([.bI (.idx l i)],.rp k l i (f+off),s)
   |none=>none
 | .ip y f=>some ([],.ip y (f+off),s)
 | .d y=>some (nx s [] (.fap off y))
 |_=>none
def aty(s:SS)(off:Nat)(n:Option Nat)(v:SV):Option (List Node×SV×SS):=
 match v with
 | .agg cs=>match n with
   |none=>match cs[off]? with
    |some v=>some ([],v,s)
    |none=>none
   |some m=>if off+m<=cs.length then some (norm s [] ((cs.drop off).take m))else none
 | .d (.agg l)=>match n with
   |none=>match l[off]? with
    |some d=>some ([],.d d,s)
    |none=>none
   |some _=>some (nx s [] (.yK off n (.agg l)))
 | .d x=>some (nx s [] (.yK off n x))
 |_=>none
def ah7(s:SS)(m:Nat)(v i:SV):Option (List Node×SV×SS):=
 match v,i with
 | .d l,.d i=>some (.op (.elem m l i):: [],.ip (.x s.nv) 0,{s with nv:=s.nv+1})
 | .row k l,.d i=>match cur s k l with
   |some (_,_,sz)=>if sz=m then some ([.bI (.idx l i)],.rp k l i 0,s)else none
   |none=>none
 |_,_=>none
def acx(s:SS):Option aC->Option (Option D)
 |none=>some none
 |some x=>match cA s x with
  | .d d=>some (some d)
  |_=>none
def gI(s:SS):List aC->Option (List Node×List D×Bool)
 | []=>some ([],[],false)
 |x::r=>match gI s r with
  |some (ns,ds,b)=>match cA s x with
   | .row k l=>match cur s k l with
     |some _=>some (ns,.sl l::ds,true)
     |none=>none
   |v=>match asD s.kn v with
    |some (ms,d)=>some (ms++ns,d::ds,b)
    |none=>none
  |none=>none
def kept(s:SS)(k t m:Nat):Bool:=
 match s.an[k]? with
 |some (.row true t' m' (.c (.sl [])))=>decide (t'=t)&&decide (m'=m)
 |_=>false
def zZ(s:SS)(k t n:Nat)(z:AV):Option (List Node×SV×SS):=
 if kept s k t n=true then
  if n=1/\z.isAgg=false then some ([],.ptr k 0,{s with an:=s.an.set k (.box t [.d (.c z)])})
  else match z with
   | .agg cs=>if n≠1/\cs.length=n then some ([],.ptr k 0,{s with an:=s.an.set k (.box t (cs.map λ a=> .d (.c a)))})else none
   |_=>none
 else none
def aia(s:SS)(k t n:Nat)(v:SV):Option (List Node×SV×SS):=
 if kept s k t n=true then
  match expand s.nv n v with
  |some (ns,cs)=>if cs.length=n then some (ns,.ptr k 0,{s with an:=s.an.set k (.box t cs),nv:=jd s.nv ns})else none
  |none=>none
 else none
def zY(s:SS)(k t m len:Nat)(z:AV)(ps:List (Nat×aC)):Option (List Node×SV×SS):=
 if kept s k t m=true then
  match su s m len ps with
  |some (ns,ps)=>some (ns++ [.op (.mkl z len ps),.bI (.ne (.x s.nv))],.row k (.x s.nv),{s with an:=s.an.set k (.row false t m (.x s.nv)),nv:=s.nv+1})
  |none=>none
 else none
def SV.pat(n k:Nat):SV->Bool
 | .d (.x i)=>decide (i<n)
 | .d (.c a)=>a.ag
 | .row m (.x i)=>decide (i<n)&&decide (m<k)
 | .ptr m _=>decide (m<k)
 |_=>false
def SO.pat(n k:Nat):SO->Bool
 | .dead=>true
 | .box _ cs=>cs.all (SV.pat n k)
 | .row _ _ _ (.x i)=>decide (i<n)
 |_=>false
def SV.mr(τ:List D)(σ:Nat->Nat):SV->SV
 | .d (.x i)=> .d (τ.getD i (.c .top))
 | .row m (.x i)=> .row (σ m) (τ.getD i (.c .top))
 | .ptr m f=> .ptr (σ m) f
 |v=>v
def SO.mr(τ:List D)(σ:Nat->Nat):SO->SO
 | .dead=> .dead
 | .box e cs=> .box e (cs.map (SV.mr τ σ))
 | .row nl e s (.x i)=> .row nl e s (τ.getD i (.c .top))
 |o=>o
def SV.acO(n k:Nat):SV->Bool
 | .a9 cs=>cs.all (SV.pat n k)
 | .agg cs=>cs.all (SV.pat n k)
 |v=>v.pat n k
def SV.ai2(τ:List D)(σ:Nat->Nat):SV->SV
 | .a9 cs=> .a9 (cs.map (SV.mr τ σ))
 | .agg cs=> .agg (cs.map (SV.mr τ σ))
 |v=>v.mr τ σ
def iW.ok(g:iW):Bool:=
 g.args.all (SV.pat g.n g.an.length)&&g.an.all (SO.pat g.n g.an.length)&&g.ck.all (SO.pat g.m g.ck.length)&&g.res.acO g.m g.ck.length&&decide (g.an.length<=g.ck.length)
abbrev Mt:=List (Nat×D)×List (Nat×Nat)
def aiD:SV->Option D
 | .d x=>some x
 | .agg cs=>(ajp cs).map .agg
 | .ip x f=>some (.ip x f)
 |_=>none
def aoa(kn:List (Nat×Nat))(p v:SV)(q:Mt):Mt:=
 match p,v with
 | .d (.x i),v=>match asD kn v with
   |some (_,d)=>((i,d)::q.1,q.2)
   |none=>q
 | .row m (.x i),.row k l=>((i,l)::q.1,(m,k)::q.2)
 | .ptr m _,.ptr k _=>(q.1,(m,k)::q.2)
 |_,_=>q
def wo(kn:List (Nat×Nat)):List SV->List SV->Mt->Mt
 |p::ps,v::vs,q=>wo kn ps vs (aoa kn p v q)
 |_,_,q=>q
def awd(l:List (Nat×Nat))(n:Nat):Option Nat:=(l.find? λ p=>p.1==n).map (·.2)
def azL(l:List (Nat×D))(n:Nat):Option D:=(l.find? λ p=>p.1==n).map (·.2)
def auA(s:SS)(q:Mt)(n:Nat)(p:SO):Mt:=
 match awd q.2 n with
 |none=>q
 |some k=>match p,s.an[k]? with
  | .box _ cs,some (.box _ ds)=>wo s.kn cs ds q
  | .row _ _ _ (.x i),some (.row _ _ _ l)=>((i,l)::q.1,q.2)
  |_,_=>q
def wq(s:SS):Nat->List SO->Mt->Mt
 |_,[],q=>q
 |n,p::ps,q=>wq s (n+1) ps (auA s q n p)
def eY(an:List SO)(cW:List Nat):Nat->Nat:=λ n=>if n<cW.length then cW.getD n 0 else an.length+(n- cW.length)
def azk(kn:List (Nat×Nat))(τ:List D)(σ:Nat->Nat)(p v:SV):Option (List Node):=
 match p with
 | .d (.x i)=>match asD kn v with
   |some (ns,d)=>if(τ.getD i (.c .top)).beq d=true then some ns else none
   |none=>none
 |p=>if(p.mr τ σ).beq v=true then some []else none
def ad5(kn:List (Nat×Nat))(τ:List D)(σ:Nat->Nat):List SV->List SV->Option (List Node)
 | [],[]=>some []
 |p::ps,v::vs=>match azk kn τ σ p v,ad5 kn τ σ ps vs with
  |some a,some b=>some (a++b)
  |_,_=>none
 |_,_=>none
def ahv(s:SS)(τ:List D)(σ:Nat->Nat):Nat->List SO->Bool
 |_,[]=>true
 |n,p::ps=>(match s.an[σ n]? with
  |some o=>(p.mr τ σ).beq o
  |none=>false)&&ahv s τ σ (n+1) ps
def posOf(j:Nat):List Nat->Nat->Option Nat
 | [],_=>none
 |x::l,i=>if x=j then some i else posOf j l (i+1)
def xH:List Nat->Bool
 | []=>true
 |x::l=> !l.contains x&&xH l
def sk(nv m:Nat):List D:=(List.range m).map λ j=> .ext nv j
def fw(an:List SO)(cW:List Nat)(ps:List SO):List SO:=
 ((List.range an.length).map λ j=>match posOf j cW 0 with
   |some n=>ps.getD n .dead
   |none=>an.getD j .dead)++ps.drop cW.length
def wF(g:iW)(τ:List D)(σ:Nat->Nat)(nv:Nat):List (Nat×D×D):=g.ai.filterMap λ (n:Nat)=>match g.an[n]?,g.ck[n]? with
 |some (SO.row _ _ _ (D.x i)),some (SO.row _ _ _ (D.x j))=>some (σ n,τ.getD i (.c .top),.ext nv j)
 |_,_=>none
def aeN(l:List (Nat×D×D))(v:SV):SV:=l.foldl (λ v q=>v.rew q.1 q.2.1 q.2.2) v
def aob(s:SS)(g:iW)(as:List SV):Option (List D×List Nat):=
 let q:=wq s 0 g.an (wq s 0 g.an (wo s.kn g.args as ([],[])))
 match(List.range g.n).mapM (azL q.1),(List.range g.an.length).mapM (awd q.2)with
 |some τ,some cW=>some (τ,cW)
 |_,_=>none
def aav(s:SS)(f:FuncId)(as:List SV)(g:iW):Option (List Node×SV×SS):=
 match aob s g as with
 |some (τ,cW)=>
  let σ:=eY s.an cW
  match ad5 s.kn τ σ g.args as with
  |some ns=>
   if g.ok=true/\cW.length=g.an.length/\xH cW=true/\cW.all (·<s.an.length)=true/\τ.length=g.n/\ahv s τ σ 0 g.an=true/\jd s.nv ns=s.nv then
    let e:=sk s.nv g.m
    let ks:=wF g τ σ s.nv
    some (ns++ .op (.gy f g τ)::ks.map (λ q=> .bI (.eql q.2.1 q.2.2)),g.res.ai2 e σ,
     {s with env:=s.env.map (λ p=>(p.1,aeN ks p.2)),an:=fw s.an cW (g.ck.map (SO.mr e σ)),nv:=s.nv+1})
   else none
  |none=>none
 |none=>none
def SV.isR:SV->Bool
 | .row _ _=>true
 | .ptr _ _=>true
 |_=>false
def iW.one(g:iW):Bool:=decide (g.an.length=1)&&decide (g.ck.length=1)&&g.an.all (SO.pat g.n 0)&&g.ck.all (SO.pat g.m 0)&&g.res.acO g.m 0&&decide ((g.args.filter SV.isR).length=1)
def sN(s:SS)(f:FuncId)(as:List SV):List iW->Option (List Node×SV×SS)
 | []=>none
 |g::gs=>match aav s f as g with
  |some q=>some q
  |none=>sN s f as gs
def adg(s:SS):Option aC->Bool
 |none=>true
 |some x=>match cA s x with
  | .d (.c (.v (.int _ n)))=>decide (n=0)
  |_=>false
def atz(s:SS)(m:Nat)(v:SV)(lo hi:Option aC):Option (List Node×SV×SS):=
 match v with
 | .d (.c .aA)=>if adg s lo=true/\adg s hi=true then some ([],.d (.c .aA),s)else none
 | .row k l=>match cur s k l with
   |some (nl,e,sz)=>if sz=m/\adg s lo=true/\hi.isSome=true/\adg s hi=true then
    some (if nl=true then [.bI (.ne l)]else [],.row s.an.length (.c (.sl [])),{s with an:=s.an.set k .dead++ [.row false e m (.c (.sl []))]})else none
   |none=>none
 |_=>none
def xOp(op:dY)(s:SS):Option (List Node×SV×SS):=
 match op with
 | .afO t m bytes z a b=>match cA s a,cA s b with
   | .d (.c .aA),.d y=>some ([.op (.rep bytes z y y),.bI (.ne (.x s.nv))],.row s.an.length (.x s.nv),{s with an:=s.an++ [.row false t m (.x s.nv)],nv:=s.nv+1})
   |_,_=>none
 | .cut m a lo hi=>atz s m (cA s a) lo hi
 | .stuck=>some ([.bI .no],.d (.c .top),s)
 | .jf _ m len z ps=>match su s m len ps with
   |some (ns,ps)=>some (nx s ns (.mkl z len ps))
   |none=>none
 | .pu o args=>match o,args with
   | .dT,[a]=>match cA s a with
     | .d (.c .aA)=>some ([],.d (.c (.v (.int .i64 0))),s)
     |_=>none
   |o,args=>match gI s args with
    |some (ns,ds,_)=>some (nx s ns (.pu o ds))
    |none=>none
 | .mz t m bytes a b=>match cA s a,cA s b with
   | .row k l,.d y=>match cur s k l with
     |some (nl,e,sz)=>if e=t/\sz=m then some ([.op (.mz m bytes l y)],.row k (.x s.nv),{s with an:=s.an.set k (.row nl e sz (.x s.nv)),nv:=s.nv+1})else none
     |none=>none
   | .d (.c .aA),.d y=>some ([.op (.mz m bytes (.c (.sl [])) y),.bI (.ne (.x s.nv))],.row s.an.length (.x s.nv),{s with an:=s.an++ [.row false t m (.x s.nv)],nv:=s.nv+1})
   |_,_=>none
 | .aq a=>some ([],cA s a,s)
 | .pick c a b=>match cA s c with
   | .d (.c (.v (.bool t)))=>some ([],if t then cA s a else cA s b,s)
   | .d c=>match asD s.kn (cA s a),asD s.kn (cA s b)with
     |some (na,a),some (nb,b)=>some (nx s (na++nb) (.pick c a b))
     |_,_=>none
   |_=>none
 | .alloc t n z=>aib s t n z
 | .box t n a=>atA s t n (cA s a)
 | .build z ps=>ah9 s z ps
 | .gx k t n z=>zZ s k t n z
 | .oz k t n a=>aia s k t n (cA s a)
 | .gw k t m len z ps=>zY s k t m len z ps
 | .buildSlice t m len z ps=>sv s t m len z ps
 | .load n a=>am1 s n (cA s a)
 | .store m a b=>ah6 s m (cA s a) (cA s b)
 | .bin o a b=>match cA s a,cA s b with
   | .d a,.d b=>some (nx s [] (.bin o a b))
   |_,_=>none
 | .beq neg a b=>match cA s a,cA s b with
   | .d a,.d b=>some (nx s [] (.beq neg a b))
   |_,_=>none
 | .un o a=>match cA s a with
   | .d a=>some (nx s [] (.un o a))
   |_=>none
 | .kG k a=>match cA s a with
   | .d a=>some (nx s [] (.conv k a))
   |_=>none
 | .aB off a=>ah8 s off (cA s a)
 | .yK off n a=>aty s off n (cA s a)
 | .bg m a i=>ah7 s m (cA s a) (cA s i)
 | .m6 a i=>match cA s a,cA s i with
   | .d a,.d i=>some (nx s [] (.m6 a i))
   |_,_=>none
 | .fW a lo hi=>match cA s a,acx s lo,acx s hi with
   | .d a,some lo,some hi=>some (nx s [] (.fW a lo hi))
   |_,_,_=>none
 | .cO m a lo hi=>match cA s a,acx s lo,acx s hi with
   | .d a,some lo,some hi=>some (nx s [] (.cO m a lo hi))
   |_,_,_=>none
 | .mk t m bytes z n c=>match cA s n,cA s c with
   | .d n,.d c=>newRow s t m (nx s [] (.rep bytes z n c))
   |_,_=>none
 | .mn a=>match cA s a with
   | .d a=>some (nx s [] (.mn a))
   |_=>none
 | .bl a=>match cA s a with
   | .d (.c .aA)=>some ([],.d (.c (.v (.int .i64 0))),s)
   | .d a=>some (nx s [] (.bl a))
   | .row k l=>match cur s k l with
     |some _=>some (nx s [] (.bl (.sl l)))
     |none=>none
   |_=>none
 | .app t m bytes a b=>match cA s a with
   | .row k l=>match cur s k l with
     |some (nl,e,sz)=>if e=t/\sz=m then
       match(match cA s b with
        | .d y=>some y
        | .row k' l'=>if(cur s k' l').isSome=true then some (.sl l')else none
        |_=>none)with
       |some y=>some ([.op (.app m bytes l y)],.row k (.x s.nv),{s with an:=s.an.set k (.row nl e sz (.x s.nv)),nv:=s.nv+1})
       |none=>none
      else none
     |none=>none
   | .d (.c .aA)=>
     match(match cA s b with
      | .d y=>some y
      | .row k' l'=>if(cur s k' l').isSome=true then some (.sl l')else none
      |_=>none)with
     |some y=>some ([.op (.app m bytes (.c (.sl [])) y),.bI (.ne (.x s.nv))],.row s.an.length (.x s.nv),{s with an:=s.an++ [.row false t m (.x s.nv)],nv:=s.nv+1})
     |none=>none
   |_=>none
 | .ext a i=>match cA s a with
   | .a9 cs=>match cs[i]? with
     |some v=>some ([],v,s)
     |none=>none
   | .d (.x j)=>some ([.bI (.a9 (.x j) i)],.d (.ext j i),s)
   |_=>none
 | .bQ a=>match cA s a with
   | .ptr k f=>match ov s k with
     |some _=>some ([],.ptr k f,s)
     |none=>none
   | .ip y f=>some ([],.ip y f,s)
   | .d (.fn f l)=>some ([],.d (.fn f l),s)
   | .d x=>some ([.bI (.arC x)],.d x,s)
   |_=>none
 | .vw f aV=>match gI s aV with
   |some (ns,ds,false)=>some (done s ns (.d (.fn f ds)))
   |_=>none
 | .pb f args=>match gI s args with
   |some (ns,ds,b)=>some (nx s ns (.call f ds b))
   |none=>none
 | .kx g args=>match cA s g,gI s args with
   | .d (.c (.fn f [])),some (ns,ds,b)=>some (nx s ns (.call f ds b))
   | .d (.fn f aV),some (ns,ds,b)=>some (nx s ns (.call f (ds++aV) b))
   | .d g,some (ns,ds,b)=>some (nx s ns (.eI g ds b))
   |_,_=>none
 | .nR f args=>match gI s args with
   |some (ns,ds,_)=>some (nx s ns (.call f ds true))
   |none=>none
 | .fc nl e m f args=>match gI s args with
   |some (ns,ds,false)=>wj s nl e m (nx s ns (.fc nl e m f ds))
   |_=>none
 | .mN f args=>match gI s args with
   |some (ns,ds,false)=>some (nx s ns (.call f ds false))
   |_=>none
 | .ko gs f args=>sN s f (args.map (cA s)) (gs.filter iW.one)
 | .gy gs f args=>match sN s f (args.map (cA s)) gs with
   |some q=>some q
   |none=>match gI s args with
    |some (ns,ds,false)=>some (nx s ns (.call f ds false))
    |_=>none
 | .jc g args=>match cA s g,gI s args with
   | .d (.c (.fn f [])),some (ns,ds,false)=>some (nx s ns (.call f ds false))
   | .d (.fn f aV),some (ns,ds,false)=>some (nx s ns (.call f (ds++aV) false))
   | .d g,some (ns,ds,false)=>some (nx s ns (.eI g ds false))
   |_,_=>none
 |_=>none
def qY(s:SS)(t m k:Nat):SS:=
 {s with env:=s.env.map (λ p=>(p.1,if p.1=k then .row s.an.length (.c (.sl []))else p.2)),an:=s.an++ [.row true t m (.c (.sl []))]}
def SV.jL(n:Nat)(l:D):SV->SV
 | .row m k=>if m=n/\k.beq l=true then .d (.sl l)else .row m k
 |v=>v
def SV.avH(n:Nat)(l:D):SV->SV
 | .agg cs=> .agg (cs.map (SV.jL n l))
 |v=>v.jL n l
def SO.jL(n:Nat)(l:D):SO->SO
 | .box e cs=> .box e (cs.map (SV.jL n l))
 |o=>o
def afx(s:SS)(n:Nat):SS:=
 match s.an[n]? with
 |some (.row _ _ _ l)=>if l.cl s.nv=true then{s with env:=s.env.map (λ p=>(p.1,p.2.avH n l)),an:=(s.an.map (SO.jL n l)).set n .dead}else s
 |_=>s
def SV.fbx(n:Nat)(a:D):SV->SV
 | .ptr m f=>if m=n then .ip a f else .ptr m f
 |v=>v
def SV.fbc(n:Nat)(a:D):SV->SV
 | .ptr m f=>if m=n then .d (.ip a f)else .ptr m f
 |v=>v
def SO.fbx(n:Nat)(a:D):SO->SO
 | .box e cs=> .box e (cs.map (SV.fbc n a))
 |o=>o
def mkD:List D->D
 | [d]=>d
 |ds=> .agg ds
def abZ(s:SS)(n:Nat):SS:=
 match s.an[n]? with
 |some (.box _ cs)=>match ajp cs with
  |some ds=>if D.cls s.nv ds=true then{s with env:=s.env.map (λ p=>(p.1,p.2.fbx n (mkD ds))),an:=(s.an.map (SO.fbx n (mkD ds))).set n .dead}else s
  |none=>s
 |_=>s
def SV.rows:SV->List Nat
 | .row n _=>[n]
 | .agg cs=>cs.flatMap λ| .row n _=>[n]|_=>[]
 |_=>[]
def rW(s:SS)(v:SV):SS:=v.rows.foldl afx s
def x8(s:SS)(l:List aC):SS:=l.foldl (λ s x=>rW s (cA s x)) s
def aji(s:SS)(x:aC):SS:=
 match cA s x with
 | .ptr n _=>match ov s n with
   |some (_,cs)=>abZ (cs.foldl rW s) n
   |none=>s
 |v=>rW s v
def wV:Nat->SS->Nat->SS
 |0,s,_=>s
 |k+1,s,n=>match ov s n with
  |some (_,cs)=>abZ (cs.foldl (λ s v=>match v with
   | .ptr m _=>wV k s m
   |v=>rW s v) s) n
  |none=>s
def abY(s:SS)(x:aC):SS:=
 match cA s x with
 | .ptr n _=>wV 3 s n
 |_=>s
def wU(s:SS)(l:List aC):SS:=l.foldl abY s
def aky(s:SS)(l:List aC):SS:=l.foldl (λ s x=>match cA s x with
 | .agg cs=>rW s (.agg cs)
 |_=>s) s
def avJ(s:SS)(l:List (SV×aC)):SS:=l.foldl (λ s p=>match p.1 with
 | .d _=>abY (rW s (cA s p.2)) p.2
 |_=>s) s
def at0(fl:List Nat)(op:dY)(s:SS):SS:=
 match op with
 | .app t m _ (.t k) _=>match lk s.env k with
   | .d (.c .aA)=>qY s t m k
   |_=>s
 | .mz t m _ (.t k) _=>match lk s.env k with
   | .d (.c .aA)=>qY s t m k
   |_=>s
 | .cO _ a _ _=>rW s (cA s a)
 | .buildSlice _ _ _ _ ps=>x8 s (ps.map (·.2))
 | .store _ a b=>match cA s a with
   | .rp _ _ _ _=>rW s (cA s b)
   |_=>s
 | .vw _ aV=>aV.foldl aji s
 | .pb f args=>if fl.contains f=true then wU (aky s args) args else wU (x8 s args) args
 | .kx _ args=>wU (x8 s args) args
 | .fc _ _ _ _ args=>wU (x8 s args) args
 | .pick _ a b=>x8 s [a,b]
 | .gy gs f args=>if(sN s f (args.map (cA s)) gs).isSome=true then s else match gs with
   |g::_=>avJ s (g.args.zip args)
   | []=>s
 |_=>s
def apr(s:SS)(l:List SV):SS:=l.foldl (λ s v=>match v with
 | .ptr m _=>wV 3 s m
 |v=>rW s v) s
def PO.cl(nv:Nat)(o:PO):Bool:=
 match o with
 | .val x=>x.cl nv
 | .pick c a b=>c.cl nv&&a.cl nv&&b.cl nv
 | .bin _ a b=>a.cl nv&&b.cl nv
 | .beq _ a b=>a.cl nv&&b.cl nv
 | .un _ a=>a.cl nv
 | .conv _ a=>a.cl nv
 | .elem _ l i=>l.cl nv&&i.cl nv
 | .yK _ _ a=>a.cl nv
 | .aa9 _ _ a=>a.cl nv
 | .m6 a i=>a.cl nv&&i.cl nv
 | .fW a _ _=>a.cl nv
 | .cO _ a _ _=>a.cl nv
 | .mn a=>a.cl nv
 | .bl a=>a.cl nv
 | .mkl z _ ps=>z.ag&&ps.all (λ p=>p.2.cl nv)
 | .rep _ z _ _=>z.ag
 | .app _ _ l y=>l.cl nv&&y.cl nv
 | .get l _ _ _=>l.cl nv
 | .set l _ _ _ y=>l.cl nv&&y.cl nv
 | .call _ as _=>D.cls nv as
 | .eI g as _=>g.cl nv&&D.cls nv as
 | .ldp _ a=>a.cl nv
 | .fap _ a=>a.cl nv
 | .pu _ ds=>D.cls nv ds
 | .mz _ _ l y=>l.cl nv&&y.cl nv
 | .fc _ _ _ _ ds=>D.cls nv ds
 | .gy _ _ ds=>D.cls nv ds
def cn:Nat->List Node->Bool
 |_,[]=>true
 |nv,.op o::r=>o.cl nv&&cn (nv+1) r
 |nv,.bI _::r=>cn nv r
abbrev yx:aC->Bool:=aC.okc
def dY.okc:dY->Bool
 | .box _ _ a=>yx a
 | .oz _ _ _ a=>yx a
 | .gx _ _ _ z=>z.ag
 | .gw _ _ _ _ z ps=>z.ag&&ps.all (λ p=>p.2.okc)
 | .build z ps=>AV.ae z&&ps.all (λ p=>yx p.2.2)
 | .store _ _ a=>yx a
 |_=>true
def kns:Nat->List Node->List (Nat×Nat)
 |_,[]=>[]
 |nv,.bI (.cells (.x i) m)::r=>(i,m)::kns nv r
 |nv,.op (.elem m _ _)::r=>(nv,m)::kns (nv+1) r
 |nv,.op (.aa9 _ m _)::r=>(nv,m)::kns (nv+1) r
 |nv,.op (.yK _ (some m) _)::r=>(nv,m)::kns (nv+1) r
 |nv,.op _::r=>kns (nv+1) r
 |nv,_::r=>kns nv r
def mK(op:dY)(s:SS):Option (List Node×SV×SS):=
 if s.cl=true/\op.okc=true then
  match xOp op s with
  |some (ns,v,s')=>if cn s.nv ns=true/\jd s.nv ns=s'.nv/\v.cl s'.nv=true/\s'.cl=true then some (ns,v,{s' with kn:=kns s.nv ns++s'.kn})else none
  |none=>none
 else none
def pre(fl:List Nat)(wk:Bool)(op:dY)(s:SS):SS:=if wk=true then at0 fl op s else s
def r8(fl:List Nat)(wk:Bool):List aH->SS->Option T
 | [],s=>some (.leaf .normal s)
 |o::r,s=>match o.guard with
  |none=>match mK o.op (pre fl wk o.op s)with
   |some (ns,v,s')=>(r8 fl wk r (s'.bB o.dst v)).map (wrap ns)
   |none=>none
  |some (g,want)=>match lk s.env g with
   | .d (.c (.v (.bool b)))=>
     if b=want then
      match lk (pre fl wk o.op s).env g with
      | .d (.c (.v (.bool b')))=>if b'=want then
        match mK o.op (pre fl wk o.op s)with
        |some (ns,v,s')=>(r8 fl wk r (s'.bB o.dst v)).map (wrap ns)
        |none=>none
        else none
      |_=>none
     else r8 fl wk r (s.bB o.dst un)
   | .d (.c (.a9 []))=>r8 fl wk r (s.bB o.dst un)
   | .d _=>match lk (pre fl wk o.op s).env g with
     | .d c=>
       match mK o.op ((pre fl wk o.op s).set g (.d (.c (.v (.bool want)))))with
       |some (ns,v,s')=>
        match r8 fl wk r (s'.bB o.dst v),r8 fl wk r (((pre fl wk o.op s).set g (.d (.c (.v (.bool (!want)))))).bB o.dst un)with
        |some t1,some t2=>some (if want=true then .ite c (wrap ns t1) t2 else .ite c t2 (wrap ns t1))
        |_,_=>none
       |none=>none
     |_=>none
   |_=>none
def aw5:SV->List Nat
 | .row n _=>[n]
 | .ptr n _=>[n]
 | .rp n _ _ _=>[n]
 |_=>[]
def rfS(s:SS):aC->List Nat
 | .t n=>aw5 (lk s.env n)
 | .c a=>refs a
def aol(op:dY)(s:SS):iD:=mZ op (rfS s) s.an.length
def nI(rows:List (List Nat))(all:List aH):List aH->List iD->SS->Option T
 | [],acc,s=>if iR rows (all.zip acc)=true then some (.leaf .normal s)else none
 |o::r,acc,s=>match o.guard with
  |none=>match mK o.op s with
   |some (ns,v,s')=>(nI rows all r (acc++ [aol o.op s]) (s'.bB o.dst v)).map (wrap ns)
   |none=>none
  |some (g,want)=>match lk s.env g with
   | .d (.c (.v (.bool b)))=>
     if b=want then
      match mK o.op s with
      |some (ns,v,s')=>(nI rows all r (acc++ [aol o.op s]) (s'.bB o.dst v)).map (wrap ns)
      |none=>none
     else nI rows all r (acc++ [⟨[],.cu⟩]) (s.bB o.dst un)
   | .d (.c (.a9 []))=>nI rows all r (acc++ [⟨[],.cu⟩]) (s.bB o.dst un)
   | .d c=>
     match mK o.op (s.set g (.d (.c (.v (.bool want)))))with
     |some (ns,v,s')=>
      match nI rows all r (acc++ [aol o.op (s.set g (.d (.c (.v (.bool want)))))]) (s'.bB o.dst v),nI rows all r (acc++ [⟨[],.cu⟩]) ((s.set g (.d (.c (.v (.bool (!want)))))).bB o.dst un)with
      |some t1,some t2=>some (if want=true then .ite c (wrap ns t1) t2 else .ite c t2 (wrap ns t1))
      |_,_=>none
     |none=>none
   |_=>none
def dY.ajf:dY->List aC
 | .mN _ l| .nR _ l| .fc _ _ _ _ l| .pb _ l| .vw _ l=>l
 | .jc x l=>x::l
 | .jf _ _ _ _ ps=>ps.map (·.2)
 | .cO _ x _ _=>[x]
 | .pick _ a b=>[a,b]
 | .store _ _ y=>[y]
 |_=>[]
def vH:List aH->SS->List SV
 | [],_=>[]
 |o::r,s=>match o.guard with
  |none=>match mK o.op s with
   |some (_,v,s')=>vH r (s'.bB o.dst v)
   |none=>o.op.ajf.map (cA s)
  |some (g,want)=>match lk s.env g with
   | .d (.c (.v (.bool b)))=>if b=want then(match mK o.op s with
    |some (_,v,s')=>vH r (s'.bB o.dst v)
    |none=>o.op.ajf.map (cA s))else vH r (s.bB o.dst un)
   | .d (.c (.a9 []))=>vH r (s.bB o.dst un)
   | .d _=>match mK o.op (s.set g (.d (.c (.v (.bool want)))))with
     |some (_,v,s')=>match vH r (s'.bB o.dst v)with
      | []=>vH r ((s.set g (.d (.c (.v (.bool (!want)))))).bB o.dst un)
      |l=>l
     |none=>o.op.ajf.map (cA s)
   |_=>[]
def jr:List aH->SS->List aH×SS
 | [],s=>([],s)
 |o::r,s=>match o.op with
  | .alloc t m z=>let q:=jr r {s with an:=s.an++ [.row true t m (.c (.sl []))]};({o with op:= .gx s.an.length t m z}::q.1,q.2)
  | .box t m x=>let q:=jr r {s with an:=s.an++ [.row true t m (.c (.sl []))]};({o with op:= .oz s.an.length t m x}::q.1,q.2)
  | .buildSlice t m (len+1) z ps=>let q:=jr r {s with an:=s.an++ [.row true t m (.c (.sl []))]};({o with op:= .gw s.an.length t m (len+1) z ps}::q.1,q.2)
  |_=>let q:=jr r s;(o::q.1,q.2)
def ahB(rows:List (List Nat))(ops:List aH):Nat->SS->Option (SS×List aH×T)
 |0,_=>none
 |n+1,s=>match nI rows ops ops [] s with
  |some t=>some (s,ops,t)
  |none=>match vH ops s with
   | []=>match nI rows (jr ops s).1 (jr ops s).1 [] (jr ops s).2 with
     |some t=>some ((jr ops s).2,(jr ops s).1,t)
     |none=>none
   |l=>ahB rows ops n (apr s l)
def D.inst(base:Nat)(vs:List D):D->D
 | .x i=>if i<base then .x i else vs.getD (i- base) (.c .top)
 |d=>if d.cl base=true then d else .c .top
def SV.inst(base:Nat)(vs:List D):SV->SV
 | .d x=> .d (x.inst base vs)
 | .row n l=> .row n (l.inst base vs)
 | .ptr n f=> .ptr n f
 | .rp n l i f=> .rp n (l.inst base vs) (i.inst base vs) f
 | .ip x f=> .ip (x.inst base vs) f
 | .agg cs=>if SV.cls base cs=true then .agg cs else .d (.c .top)
 | .a9 cs=>if SV.cls base cs=true then .a9 cs else .d (.c .top)
 | .top=> .top
def SO.inst(base:Nat)(vs:List D):SO->SO
 | .dead=> .dead
 | .box e cs=> .box e (cs.map (SV.inst base vs))
 | .row nl e s l=> .row nl e s (l.inst base vs)
def D0:SV->Option D
 | .d x=>some x
 |_=>none
def ad6(base j:Nat):List (SV×SV)->Option D
 | []=>none
 |(a,b)::r=>match a with
  | .d (.x i)=>if i=base+j then(match D0 b with|some d=>some d|none=>ad6 base j r)else ad6 base j r
  | .row _ (.x i)=>if i=base+j then(match b with| .row _ l=>some l|_=>ad6 base j r)else ad6 base j r
  |_=>ad6 base j r
def amp:SO->SO->List (SV×SV)
 | .box _ cs,.box _ ds=>cs.zip ds
 | .row _ _ _ l,.row _ _ _ k=>[(.d l,.d k)]
 |_,_=>[]
def k9:List SV->List SV->List SV
 | .top::ts,_::cs=> .top::k9 ts cs
 |_::ts,c::cs=>c::k9 ts cs
 |_,cs=>cs
def apZ(o:SO):Option SO->SO
 |some .dead=> .dead
 |some (.box _ ts)=>match o with
  | .box e cs=>if 2<=cs.length then .box e (k9 ts cs)else .box e cs
  |o=>o
 |_=>o
def ef(t:List SO):Nat->List SO->List SO
 |_,[]=>[]
 |k,o::r=>apZ o t[k]? ::ef t (k+1) r
def coerce(n0 base:Nat)(s t:SS):Option (List D):=
 let axb:=((t.an.zip s.an).flatMap λ p=>amp p.1 p.2)++t.env.map λ p=>(p.2,lk s.env p.1)
 match(List.range (t.nv- base)).mapM λ j=>ad6 base j axb with
 |none=>none
 |some vs=>
  let an:=ef t.an 0 s.an
  if n0<=t.an.length/\base<=t.nv/\base<=s.nv/\t.an.length<=an.length/\D.cls s.nv vs=true/\t.cl=true/\
   (t.env.all λ p=>(p.2.inst base vs).beq (lk s.env p.1)&&p.2.sc t.an.length)=true/\
   ((t.an.zip an).all λ p=>(p.1.inst base vs).beq p.2&&p.1.sc t.an.length)=true then some vs else none
def afQ(v:SV):List SV->Bool
 | []=>true
 |w::l=>v.beq w&&afQ v l
def awg:List SV->Bool
 | []=>true
 | .d _::l=>awg l
 |_::_=>false
def aqa(n:Nat):List SS->List SV->Bool
 |s::ss,.row m l::vs=>decide (m=n)&&(cur s m l).isSome&&aqa n ss vs
 | [],[]=>true
 |_,_=>false
def aCz(L:List SS)(base next:Nat)(vs:List SV):SV×Nat:=
 match vs with
 | .row n l::_=>if aqa n L vs=true then(.row n (.c .top),next)else(.top,next)
 |v::r=>
  if afQ v r=true/\v.cl base=true then(v,next)
  else if awg vs=true then(.d (.x next),next+1)
  else(.top,next)
 | []=>(.top,next)
def aCx(base next:Nat)(vs:List SV):SV×Nat:=
 match vs with
 | []=>(.top,next)
 |v::r=>
  if afQ v r=true/\v.cl base=true then(v,next)
  else if awg vs=true then(.d (.x next),next+1)
  else(.top,next)
def atk(L:List SS)(base:Nat):Nat->List (List SV)->List SV×Nat
 |next,[]=>([],next)
 |next,vs::r=>
  let(v,n1):=aCz L base next vs
  let(l,n2):=atk L base n1 r
  (v::l,n2)
def an3(k:Nat)(l:List SO):List SV:=l.map λ| .box _ cs=>cs.getD k .top|_=> .top
def aCy(L:List SS)(base next:Nat)(os:List SO):SO×Nat:=
 match os with
 | .box e cs::r=>if r.all (λ| .box e' ds=>decide (e=e')&&decide (ds.length=cs.length)|_=>false)=true then
  let(l,n):=atk L base next ((List.range cs.length).map λ k=>an3 k os)
  (.box e l,n)else(.dead,next)
 | .row nl e s l::r=>if r.all (λ| .row nl' e' s' _=>decide (nl=nl')&&decide (e=e')&&decide (s=s')|_=>false)=true then
  (if r.all (λ| .row _ _ _ k=>l.beq k|_=>false)=true/\l.cl base=true then(.row nl e s l,next)else(.row nl e s (.x next),next+1))else(.dead,next)
 |_=>(.dead,next)
def atl(L:List SS)(base:Nat):Nat->List (List SO)->List SO×Nat
 |next,[]=>([],next)
 |next,os::r=>
  let(o,n1):=aCy L base next os
  let(l,n2):=atl L base n1 r
  (o::l,n2)
def an8:List SS->Nat
 | []=>0
 | [s]=>s.an.length
 |s::r=>min s.an.length (an8 r)
def axY(s:SS):SV->Bool
 | .row n l=>(cur s n l).isSome
 |_=>false
def azf(base:Nat)(an:List SO)(L:List SS):Nat->List Nat->List (Nat×SV)×Nat
 |next,[]=>([],next)
 |next,t::r=>
  let vs:=L.map λ s=>lk s.env t
  let q:SV×Nat:=match vs with
   | .row n _::_=>
     if(L.all λ s=>match lk s.env t with| .row m l=>decide (m=n)&&(cur s m l).isSome|_=>false)=true then
      (match an[n]? with|some (.row _ _ _ l)=>(.row n l,next)|_=>(.top,next))else(.top,next)
   |_=>aCx base next vs
  let q:SV×Nat:=if q.1.sc an.length=true then q else(.top,q.2)
  let(l,n2):=azf base an L q.2 r
  match q.1 with
  | .top=>(l,n2)
  |v=>((t,v)::l,n2)
def fixC(an:List SO):SV->SV
 | .row n (.c .top)=>match an[n]? with|some (.row _ _ _ l)=> .row n l|_=> .top
 |v=>v
def aCB(an:List SO):SO->SO
 | .box e cs=> .box e (cs.map (fixC an))
 |o=>o
def gen(base:Nat)(L:List SS):SS:=
 match L with
 | []=>default
 |s::_=>
  let(asP,n1):=atl L base base ((List.range (an8 L)).map λ k=>L.map λ s=>s.an.getD k .dead)
  let an:=asP.map (aCB asP)
  let(env,n2):=azf base an L n1 (s.env.map (·.1))
  ⟨env,an,n2,s.kn.filter λ p=>decide (p.1<base)⟩
def ash(s:SS)(t:SS):Option (Nat×Nat×Nat):=
 s.env.findSome? λ p=>match p.2 with
   | .d (.c .aA)=>match lk t.env p.1 with
     | .row n l=>match cur t n l with
       |some (_,e,m)=>some (p.1,e,m)
       |none=>none
     |_=>none
   |_=>none
def xa(t:SS)(k:Nat):Nat->List SV->Option (Nat×Nat×Nat×Nat)
 |_,[]=>none
 |j,v::r=>match v with
  | .d (.c .aA)=>match ov t k with
    |some (_,ds)=>match ds.getD j .top with
     | .row n l=>match cur t n l with
       |some (_,e,m)=>some (k,j,e,m)
       |none=>xa t k (j+1) r
     |_=>xa t k (j+1) r
    |none=>none
  |_=>xa t k (j+1) r
def ab9(t:SS):Nat->List SO->Option (Nat×Nat×Nat×Nat)
 |_,[]=>none
 |k,o::r=>match o with
  | .box _ cs=>match xa t k 0 cs with
    |some q=>some q
    |none=>ab9 t (k+1) r
  |_=>ab9 t (k+1) r
def qZ(s:SS)(k j t m:Nat):SS:=
 match ov s k with
 |some (e,cs)=>{s with an:=s.an.set k (.box e (cs.set j (.row s.an.length (.c (.sl [])))))++ [.row true t m (.c (.sl []))]}
 |none=>s
inductive Conv where
 |slot (k t m:Nat)
 |cell (k j t m:Nat)
 |fbx (n:Nat)
 |avK (n:Nat)
def asg(s:SS)(t:SS):Option Conv:=
 s.env.findSome? λ p=>match p.2 with
   | .ptr n _=>match lk t.env p.1 with
     | .ip _ _=>some (.fbx n)
     |_=>none
   | .row n l=>match lk t.env p.1 with
     | .d _=>if(cur s n l).isSome=true then some (.avK n)else none
     |_=>none
   |_=>none
def apI(s:SS)(L:List SS):Option Conv:=
 match L.findSome? (ash s)with
 |some (k,t,m)=>some (.slot k t m)
 |none=>match L.findSome? (λ t=>ab9 t 0 s.an)with
  |some (k,j,t,m)=>some (.cell k j t m)
  |none=>L.findSome? (asg s)
def Conv.run(s:SS):Conv->SS
 | .slot k t m=>match lk s.env k with
   | .d (.c .aA)=>qY s t m k
   |_=>s
 | .cell k j t m=>match ov s k with
   |some (_,cs)=>match cs[j]? with
    |some (.d (.c .aA))=>qZ s k j t m
    |_=>s
   |none=>s
 | .fbx n=>match ov s n with
   |some (_,cs)=>abZ (cs.foldl rW s) n
   |none=>s
 | .avK n=>afx s n
def tN(t:T):List SS:=t.leaves.filterMap λ p=>match p.1 with| .normal=>some p.2|_=>none
def ant(a b:SS):Bool:=
 decide (a.nv=b.nv)&&decide (a.env.length=b.env.length)&&decide (a.an.length=b.an.length)&&
 ((a.env.zip b.env).all λ p=>decide (p.1.1=p.2.1)&&p.1.2.beq p.2.2)&&((a.an.zip b.an).all λ p=>p.1.beq p.2)
def aot(live:List Nat)(s:SS):SS:={s with env:=live.filterMap λ t=>match lk s.env t with| .top=>none|v=>some (t,v)}
def x5(body:SS->Option T):Nat->SS->SS->Option (SS×SS×T)
 |0,_,_=>none
 |n+1,s,h=>match body h with
  |none=>none
  |some t=>
   match apI s (tN t)with
   |some c=>if ant (c.run s) s=true then none else x5 body n (c.run s) (c.run s)
   |none=>
    if ant h (gen s.nv (s::tN t))=true then some (s,h,t)else x5 body n s (gen s.nv (s::tN t))
def aK.aiX:aK->Bool
 | .mb _=>true
 |_=>false
def aK.drawn:aK->Option (List (List Nat)×List aH)
 | .region (some rows) ops=>some (rows,ops)
 |_=>none
def aK.auM:aK->Bool
 | .cond _ _ _=>true
 |_=>false
def th(body:SS->Option T):Nat->SS->Option (SS×T)
 |0,_=>none
 |n+1,s=>match body s with
  |none=>none
  |some t=>
   if 2<=(tN t).length then
    match apI s (tN t)with
    |some c=>th body n (c.run s)
    |none=>some (s,t)
   else some (s,t)
def axO(L:List SS)(h:SS):Bool:=
 match L with
 |s::_::_=>s.env.any λ p=>(match lk h.env p.1 with| .top=>true|_=>false)&&L.all λ s'=>axY s' (lk s'.env p.1)
 |_=>false
def xC(n0:Nat)(fl:List Nat):aK->SS->Option T
 | .skip,s=>some (.leaf .normal s)
 | .region none ops,s=>r8 fl false ops s
 | .region (some rows) ops,s=>nI rows ops ops [] s
 | .gK ops,s=>r8 fl true ops s
 | .seq a b,s=>match xC n0 fl a s with
   |none=>none
   |some t0=>
    let L:=tN t0
    if b.aiX=true/\((t0.adU=true/\1<=L.length)∨2<=L.length)/\axO L (gen s.nv L)=false then
     let h:=gen s.nv L
     match t0.fill (λ x s'=>match x with
      | .normal=>(coerce n0 s.nv s' h).map .jump
      |x=>some (.eB (.leaf x s'))) 0,xC n0 fl b h with
     |some t1,some t2=>some (.bind (h.nv- s.nv) t1 t2)
     |_,_=>none
    else t0.fill (λ x s'=>match x with| .normal=>xC n0 fl b s'|x=>some (.leaf x s')) 0
 | .cond c t f,s=>match cA s c with
   | .d (.c (.v (.bool b)))=>if b=true then xC n0 fl t s else xC n0 fl f s
   | .d c=>match xC n0 fl t s,xC n0 fl f s with
     |some t1,some t2=>if s.cl=true then some (.ite c t1 t2)else none
     |_,_=>none
   |_=>none
 | .block id b,s=>match xC n0 fl b s with
   |none=>none
   |some t=>t.fill (λ x s'=>match x with
    | .exit i=>some (if i=id then .leaf .normal s' else .leaf (.exit i) s')
    |x=>some (.leaf x s')) 0
 | .loop b,s=>match x5 (xC n0 fl b) 8 s s with
   |none=>none
   |some (s1,h,t)=>match coerce n0 s1.nv s1 h with
    |some init=>match t.fill (λ x s'=>match x with
      | .normal=>(coerce n0 s1.nv s' h).map .jump
      |x=>some (.eB (.leaf x s'))) 0 with
     |some t1=>some (.loop init t1)
     |none=>none
    |none=>none
 | .exit id,s=>some (.leaf (.exit id) s)
 | .ret,s=>some (.leaf .ret s)
 | .ai live c,s=>match xC n0 fl c s with
   |none=>none
   |some t=>t.fill (λ x s'=>match x with
    | .normal=>some (.leaf .normal (aot live s'))
    |x=>some (.leaf x s')) 0
 | .mb c,s=>if c.auM=true then(match th (xC n0 fl c) 6 s with
  |some q=>some q.2
  |none=>none)else match c.drawn with
   |some q=>(ahB q.1 q.2 6 s).map (·.2.2)
   |none=>xC n0 fl c s
def aK.weaken:aK->aK
 | .region none ops=> .gK ops
 | .region (some rows) ops=> .mb (.region (some rows) ops)
 | .seq a b=> .seq a.weaken (.mb b.weaken)
 | .cond c t f=> .mb (.cond c t.weaken f.weaken)
 | .block id b=> .block id b.weaken
 | .loop b=> .loop b.weaken
 | .ai l c=> .ai l c.weaken
 | .mb c=> .mb c.weaken
 |c=>c
def adw(s:SS):dg->Option SV
 | .tmp t=>some (lk s.env t)
 | .cell t n=>match lk s.env t with
   | .ptr k 0=>match ov s k with
     |some (_,cs)=>match n with
      |none=>none
      |some m=>if cs.length=m/\m≠1 then some (.agg cs)else none
     |none=>none
   |_=>none
def ar9(s:SS):SV->Option D
 | .d x=>some x
 | .row n l=>if(cur s n l).isSome=true then some (.sl l)else none
 |_=>none
def ahw(s:SS):List SV->Option (List D)
 | []=>some []
 |v::r=>match ar9 s v,ahw s r with
  |some d,some ds=>some (d::ds)
  |_,_=>none
def avO(s:SS):SV->Option D
 | .agg cs=>(ahw s cs).map .agg
 |v=>ar9 s v
def ab4(s:SS):List dg->Option (List D)
 | []=>some []
 |r::rs=>match adw s r with
  |some v=>match avO s v,ab4 s rs with
   |some d,some ds=>some (d::ds)
   |_,_=>none
  |none=>none
def mw(g:iW):SS:=⟨(List.range g.args.length).map λ i=>(i,g.args.getD i .top),g.an,g.n,[]⟩
def aaB(s:SS):List dg->Option (List SV)
 | []=>some []
 |r::rs=>match adw s r,aaB s rs with
  |some v,some vs=>some (v::vs)
  |_,_=>none
def yw:List SV->SV
 | [v]=>v
 |vs=> .a9 vs
def aaJ(p v:SV):SV:=
 match p with
 | .d _=>match aiD v with
   |some d=> .d d
   |none=>v
 |_=>v
def aeP(p v:SV):SV:=
 match p,v with
 | .a9 ps,.a9 vs=> .a9 ((List.range vs.length).map λ i=>aaJ (ps.getD i .top) (vs.getD i .top))
 | .agg ps,.agg vs=> .agg ((List.range vs.length).map λ i=>aaJ (ps.getD i .top) (vs.getD i .top))
 |p,v=>aaJ p v
def asa(g:iW)(s:SS)(v:SV):Option (List D×List Nat):=
 let q0:Mt:=([],(List.range g.an.length).map λ n=>(n,n))
 let q1:=match g.res,v with
  | .a9 ps,.a9 ws=>wo [] ps ws q0
  | .agg ps,.agg ws=>wo [] ps ws q0
  |p,v=>aoa [] p v q0
 let q:=wq s 0 g.ck (wq s 0 g.ck q1)
 match(List.range g.m).mapM (azL q.1),(List.range g.ck.length).mapM (awd q.2)with
 |some τ,some cW=>some (τ,cW)
 |_,_=>none
def ab5(s:SS)(cW:List Nat):Nat->Nat:=λ n=>if n<cW.length then cW.getD n 0 else s.an.length+n
def tg(g:iW)(rs:List dg)(s:SS):Option (List D×List Nat):=
 match aaB s rs with
 |none=>none
 |some vs=>match asa g s (aeP g.res (yw vs))with
  |none=>none
  |some (τ,cW)=>
   if s.cl=true/\g.ok=true/\(g.res.ai2 τ (ab5 s cW)).beq (aeP g.res (yw vs))=true/\cW.length=g.ck.length/\xH cW=true/\(List.range g.an.length).all (λ n=>decide (ab5 s cW n=n))=true/\
    ahv s τ (ab5 s cW) 0 g.ck=true/\τ.length=g.m/\D.cls s.nv τ=true then some (τ,cW)else none
end Go.Ab
