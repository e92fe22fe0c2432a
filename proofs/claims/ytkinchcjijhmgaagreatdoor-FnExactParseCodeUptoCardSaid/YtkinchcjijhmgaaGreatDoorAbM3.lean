/- Part of a proof: the functions that the law reaches, walked by the abstract logic of the texts Ab. -/
import Derived.Test.YtkinchcjijhmgaaGreatDoorAbM2
import Derived.Deep.LoopGhost
import Derived.Laws.Strings
import Derived.WideKeyArgs
import Derived.ChangeSame
import Derived.OpenShut
import Derived.JoinedCond
import Derived.ChangeArms
open Nat(zero_mul le_refl zero_add)
open Bool(and_eq_true)
open Option(bind_eq_bind pure_def bind_eq_some_iff bind_some map_eq_some_iff)
open List(mapM_cons map_cons getElem?_map nil_append length_zip getElem?_take mem_of_getElem? mem_append_left)
set_option linter.unusedVariables false
set_option linter.unusedSimpArgs false
namespace Go.Ab
structure Sat(I0:da)(L0:Nat->Loc)(O0:List ae)(w0:World)(nt:Nat)(e:Env)(O:List ae)(a:Act)(w:World)(I:da)(L:Nat->Loc):Prop where
 kB:Good I0 L0 O0 w0 I L O w
 env:∀t,R I L O (e t) (a.tmps.getD t undef)
 size:nt<=a.tmps.size
 defers:a.defers= []
section
variable {P:Program} {I0:da} {L0:Nat->Loc} {O0:List ae} {w0:World} {nt:Nat}
theorem alW(tmps:Array Value)(d:Nat)(v:Value)(hd:d<tmps.size)(t:Nat):(tmps.setIfInBounds d v).getD t undef=if t=d then v else tmps.getD t undef:=by
 simp only[Array.getD_eq_getD_getElem?,Array.getElem?_setIfInBounds];by_cases h:d=t
 ·subst h;simp[hd]
 ·rw[if_neg h,if_neg (λ k=>h k.symm)]
theorem Sat.put{e:Env}{O O':List ae}{a:Act}{w w':World}{I I':da}{L L':Nat->Loc}(h:Sat I0 L0 O0 w0 nt e O a w I L){d:Option Nat}(hd:d.all (·<nt)=true){x:AV}{y:Value}
  (hg:Good I L O w I' L' O' w') (hr:R I' L' O' x y):Sat I0 L0 O0 w0 nt (bI e d x) O' (a.put d y) w' I' L':=by
 refine⟨h.kB.trans hg,λ t=> ?_,?_,?_⟩
 ·cases d with
  |none=>exact(h.env t).mono hg.ext
  |some d=>
   have au:d<a.tmps.size:=by have:=h.size;simp at hd;omega
   simp only[bI,Env.set,Act.put];rw[alW _ _ _ au]
   split
   ·exact hr
   ·exact(h.env t).mono hg.ext
 ·cases d<;>simp[Act.put];exact h.size;exact h.size
 ·cases d<;>simp[Act.put];exact h.defers;exact h.defers
theorem Sat.afX{e e':Env}{O:List ae}{a:Act}{w:World}{I:da}{L:Nat->Loc}(h:Sat I0 L0 O0 w0 nt e O a w I L)(he:∀t,R I L O (e' t) (a.tmps.getD t undef)):Sat I0 L0 O0 w0 nt e' O a w I L:=
 ⟨h.kB,he,h.size,h.defers⟩
theorem zG{ops:Array Oper}{K:Env->List ae->Prop}{Q:Exit->Act->World->Prop}(hq:∀e O a w I L,K e O->Sat I0 L0 O0 w0 nt e O a w I L->Q .normal a w):
  ∀(l:List Oper) (al:List aN),l.mapM (nK P nt ops)=some (al.map aN.strip)->∀e O a w I L,wpOps P al e O K->Sat I0 L0 O0 w0 nt e O a w I L->wpList P ops Q l a w
 | [],al,h,e,O,a,w,I,L,hk,hs=>by
   simp at h;subst h;exact hq _ _ _ _ _ _ hk hs
 |o::l,al,h,e,O,a,w,I,L,hk,hs=>by
  simp only[mapM_cons,bind_eq_bind,pure_def,bind_eq_some_iff,Option.some.injEq]at h;obtain⟨b,hb,bs,hbs,h⟩:=h;cases al with
  |nil=>simp at h
  |cons ao al=>
   simp only[map_cons,List.cons.injEq]at h;obtain⟨rfl,rfl⟩:=h;have ih:=zG hq l al hbs;unfold nK at hb
   split at hb
   case h_2=>cases hb
   case h_1 op g hop hg=>
    split at hb
    case isFalse=>cases hb
    case isTrue hd=>
     simp only[Option.some.injEq,aN.strip,aN.mk.injEq]at hb;obtain⟨hgu,x8,alw⟩:=hb;subst alw;rw[x8]at hd
     have step:∀e1 I1 L1,Sat I0 L0 O0 w0 nt e1 O a w I1 L1->(wpOp P ao.op e1 O λ x O'=>wpOps P al (bI e1 ao.dst x) O' K)->o.wp P a w (wpList P ops Q l) Q:=by
      intro e1 I1 L1 yI qY;refine xj hop yI.kB.inv yI.env qY λ x O' y I' L' w' hk' sk lI=> ?_
      rw[x8];exact ih _ _ _ _ _ _ hk' (yI.put hd sk lI)
     have skip:∀e1 I1 L1,Sat I0 L0 O0 w0 nt e1 O a w I1 L1->wpOps P al (bI e1 ao.dst (.aK [])) O K->wpList P ops Q l (a.put o.dst undef) w:=by
      intro e1 I1 L1 yI qY;rw[x8];exact ih _ _ _ _ _ _ qY (yI.put hd (.refl yI.kB.inv) (.aK [] #[] rfl (by simp)))
     simp only[wpOps]at hk;unfold wpList;cases hog:o.guard with
     |none=>
      rw[hog]at hg;simp only[oS,Option.some.injEq]at hg;subst hg;rw[←hgu]at hk;rw[if_pos (by simp[Region.wanted,hog])];exact .inl (step _ _ _ hs hk)
     |some jb=>
      obtain⟨j,want⟩:=jb;rw[hog]at hg;simp only[oS]at hg
      split at hg
      case h_2=>cases hg
      case h_1 t ht=>
       split at hg
       case isFalse=>cases hg
       case isTrue htn=>
        simp only[Option.some.injEq]at hg;subst hg;rw[←hgu]at hk;simp only at hk;have au:t<a.tmps.size:=Nat.lt_of_lt_of_le htn hs.size;have dc:a.tmps[t]? =some (a.tmps.getD t undef):=by simp[Array.getD,au]
        have hr:=hs.env t;have hw:Region.wanted o (yielded ops a.tmps)=(yielded ops a.tmps j==some want):=by simp[Region.wanted,hog]
        have hy:yielded ops a.tmps j=match some (a.tmps.getD t undef)with|some (.bool b)=>some b|_=>none:=by
         unfold yielded;rw[ht];simp only[bind_some];rw[dc];cases a.tmps.getD t undef<;>rfl
        split at hk
        ·rename_i b hb;rw[hb]at hr;have hv:=hr.bool;rw[hv]at hy;simp only at hy;rw[hw,hy]
         have mV:∀c,b=c->Sat I0 L0 O0 w0 nt (e.set t (.v (.bool c))) O a w I L:=by
          intro c hc;refine hs.afX λ t'=> ?_
          unfold Env.set
          split
          ·rename_i htt;subst htt;rw[hv,hc];exact .v _ rfl
          ·exact hs.env t'
         by_cases nW:b=want
         ·rw[if_pos (by simp[nW])];exact .inl (step _ _ _ (mV want nW) (hk.1 nW))
         ·rw[if_neg (by simpa using nW)];have hbn:b= !want:=by cases b<;>cases want<;>simp_all
          exact skip _ _ _ (mV (!want) hbn) (hk.2 hbn)
        ·rename_i hb;rw[hb]at hr
         have hv:a.tmps.getD t undef= .tuple #[]:=by
          generalize a.tmps.getD t undef=X at hr;cases hr with
          |aK _ vs h1 _=>congr 1;exact Array.eq_empty_of_size_eq_zero h1.symm
         rw[hv]at hy;simp only at hy;rw[hw,hy,if_neg (by simp)];exact skip _ _ _ hs hk
        ·exact hk.elim
def AX.to:AX->Exit
 | .normal=> .normal
 | .exit id=> .exit id
 | .ret=> .ret
theorem aoB{I:da}{L:Nat->Loc}{O:List ae}{e:Env}{f:Nat->Value}(h:∀t,R I L O (e t) (f t))(live:List Nat):∀t,R I L O (r7 live e t) (f t):=by
 intro t;unfold r7
 split
 ·exact h t
 ·exact .top _
theorem Sat.wk{e e':Env}{O O':List ae}{a:Act}{w:World}{I:da}{L:Nat->Loc}(h:Sat I0 L0 O0 w0 nt e O a w I L)(hw:WK O0.length e O e' O'):∃I' L',Sat I0 L0 O0 w0 nt e' O' a w I' L':=by
 obtain⟨I',L',hg,hr⟩:=hw I0 L0 O0 w0 I L w _ rfl h.kB h.env;exact⟨I',L',hg,hr,h.size,h.defers⟩
theorem xi{ops:Array Oper}{K:Env->List ae->Prop}{Q:Exit->Act->World->Prop}(hq:∀e O a w I L,K e O->Sat I0 L0 O0 w0 nt e O a w I L->Q .normal a w):
  ∀(l:List Oper) (al:List aN),l.mapM (nK P nt ops)=some (al.map aN.strip)->∀e O a w I L,ij P O0.length al e O K->Sat I0 L0 O0 w0 nt e O a w I L->wpList P ops Q l a w
 | [],al,h,e,O,a,w,I,L,hk,hs=>by
   simp at h;subst h;obtain⟨e',O',hw,hk⟩:=hk;obtain⟨I',L',hs'⟩:=hs.wk hw;exact hq _ _ _ _ _ _ hk hs'
 |o::l,al,h,e00,O00,a,w,I00,L00,hk,axB=>by
  simp only[mapM_cons,bind_eq_bind,pure_def,bind_eq_some_iff,Option.some.injEq]at h;obtain⟨b,hb,bs,hbs,h⟩:=h;cases al with
  |nil=>simp at h
  |cons ao al=>
   simp only[map_cons,List.cons.injEq]at h;obtain⟨rfl,rfl⟩:=h;simp only[ij]at hk;obtain⟨e,O,tL,hk⟩:=hk;obtain⟨I,L,hs⟩:=axB.wk tL;have ih:=xi hq l al hbs;unfold nK at hb
   split at hb
   case h_2=>cases hb
   case h_1 op g hop hg=>
    split at hb
    case isFalse=>cases hb
    case isTrue hd=>
     simp only[Option.some.injEq,aN.strip,aN.mk.injEq]at hb;obtain⟨hgu,x8,alw⟩:=hb;subst alw;rw[x8]at hd
     have step:∀e1 I1 L1,Sat I0 L0 O0 w0 nt e1 O a w I1 L1->(wpOp P ao.op e1 O λ x O'=>ij P O0.length al (bI e1 ao.dst x) O' K)->o.wp P a w (wpList P ops Q l) Q:=by
      intro e1 I1 L1 yI qY;refine xj hop yI.kB.inv yI.env qY λ x O' y I' L' w' hk' sk lI=> ?_
      rw[x8];exact ih _ _ _ _ _ _ hk' (yI.put hd sk lI)
     have skip:∀e1 I1 L1,Sat I0 L0 O0 w0 nt e1 O a w I1 L1->ij P O0.length al (bI e1 ao.dst (.aK [])) O K->wpList P ops Q l (a.put o.dst undef) w:=by
      intro e1 I1 L1 yI qY;rw[x8];exact ih _ _ _ _ _ _ qY (yI.put hd (.refl yI.kB.inv) (.aK [] #[] rfl (by simp)))
     unfold wpList;cases hog:o.guard with
     |none=>
      rw[hog]at hg;simp only[oS,Option.some.injEq]at hg;subst hg;rw[←hgu]at hk;rw[if_pos (by simp[Region.wanted,hog])];exact .inl (step _ _ _ hs hk)
     |some jb=>
      obtain⟨j,want⟩:=jb;rw[hog]at hg;simp only[oS]at hg
      split at hg
      case h_2=>cases hg
      case h_1 t ht=>
       split at hg
       case isFalse=>cases hg
       case isTrue htn=>
        simp only[Option.some.injEq]at hg;subst hg;rw[←hgu]at hk;simp only at hk;have au:t<a.tmps.size:=Nat.lt_of_lt_of_le htn hs.size;have dc:a.tmps[t]? =some (a.tmps.getD t undef):=by simp[Array.getD,au]
        have hr:=hs.env t;have hw:Region.wanted o (yielded ops a.tmps)=(yielded ops a.tmps j==some want):=by simp[Region.wanted,hog]
        have hy:yielded ops a.tmps j=match some (a.tmps.getD t undef)with|some (.bool b)=>some b|_=>none:=by
         unfold yielded;rw[ht];simp only[bind_some];rw[dc];cases a.tmps.getD t undef<;>rfl
        split at hk
        ·rename_i b hb;rw[hb]at hr;have hv:=hr.bool;rw[hv]at hy;simp only at hy;rw[hw,hy]
         have mV:∀c,b=c->Sat I0 L0 O0 w0 nt (e.set t (.v (.bool c))) O a w I L:=by
          intro c hc;refine hs.afX λ t'=> ?_
          unfold Env.set
          split
          ·rename_i htt;subst htt;rw[hv,hc];exact .v _ rfl
          ·exact hs.env t'
         by_cases nW:b=want
         ·rw[if_pos (by simp[nW])];exact .inl (step _ _ _ (mV want nW) (hk.1 nW))
         ·rw[if_neg (by simpa using nW)];have hbn:b= !want:=by cases b<;>cases want<;>simp_all
          exact skip _ _ _ (mV (!want) hbn) (hk.2 hbn)
        ·rename_i hb;rw[hb]at hr
         have hv:a.tmps.getD t undef= .tuple #[]:=by
          generalize a.tmps.getD t undef=X at hr;cases hr with
          |aK _ vs h1 _=>congr 1;exact Array.eq_empty_of_size_eq_zero h1.symm
         rw[hv]at hy;simp only at hy;rw[hw,hy,if_neg (by simp)];exact skip _ _ _ hs hk
        ·exact hk.elim
theorem Sat.drawn{e:Env}{O:List ae}{a:Act}{w:World}{I:da}{L:Nat->Loc}(h:Sat I0 L0 O0 w0 nt e O a w I L)(k:Nat):Sat I0 L0 O0 w0 nt e O a {w with drawn:=k} I L:=
 ⟨h.kB.trans (Good.drawn h.kB.inv k),h.env,h.size,h.defers⟩
theorem aeE{ops:Array Oper}{o:Oper}{ao:aN}(hb:nK P nt ops o=some ao.strip){e e':Env}{O O':List ae}(iu:Step P ao e O e' O'){a:Act}{w:World}{I:da}{L:Nat->Loc}(hs:Sat I0 L0 O0 w0 nt e O a w I L)
  {next:Act->World->Prop} {Q:Exit->Act->World->Prop} (hn:∀a w I L,Sat I0 L0 O0 w0 nt e' O' a w I L->next a w):
  if Region.wanted o (yielded ops a.tmps)=true then o.wp P a w next Q else next (a.put o.dst undef) w:=by
 unfold nK at hb
 split at hb
 case h_2=>cases hb
 case h_1 op g hop hg=>
  split at hb
  case isFalse=>cases hb
  case isTrue hd=>
   simp only[Option.some.injEq,aN.strip,aN.mk.injEq]at hb;obtain⟨hgu,x8,alw⟩:=hb;subst alw;rw[x8]at hd
   have alI:∀t want,ao.guard=some (t,want)->∃j,o.guard=some (j,want)/\((ops[j]?).bind (·.dst))=some t/\t<nt:=by
    intro t want h;rw[h]at hgu;subst hgu;cases hog:o.guard with
    |none=>rw[hog]at hg;simp[oS]at hg
    |some jb=>
     obtain⟨j,b⟩:=jb;rw[hog]at hg;simp only[oS]at hg
     split at hg
     case h_2=>cases hg
     case h_1 t' ht'=>
      split at hg
      case isFalse=>cases hg
      case isTrue htn=>
       simp only[Option.some.injEq,Prod.mk.injEq]at hg;obtain⟨rfl,rfl⟩:=hg;exact⟨j,rfl,ht',htn⟩
   have ali:∀{j t},((ops[j]?).bind (·.dst))=some t->t<nt->yielded ops a.tmps j=match some (a.tmps.getD t undef)with|some (.bool b)=>some b|_=>none:=by
    intro j t ht htn;have au:t<a.tmps.size:=Nat.lt_of_lt_of_le htn hs.size;have dc:a.tmps[t]? =some (a.tmps.getD t undef):=by simp[Array.getD,au]
    unfold yielded;rw[ht];simp only[bind_some];rw[dc];cases a.tmps.getD t undef<;>rfl
   cases iu with
   |run x _ hq hx=>
    have hw:Region.wanted o (yielded ops a.tmps)=true:=by
     cases hag:ao.guard with
     |none=>
      have:o.guard=none:=by
       rw[hag]at hgu;subst hgu;cases hog:o.guard with
       |none=>rfl
       |some jb=>
        obtain⟨j,b⟩:=jb;rw[hog]at hg;simp only[oS]at hg
        split at hg
        ·split at hg<;>simp at hg
        ·cases hg
      simp[Region.wanted,this]
     |some tw=>
      obtain⟨t,want⟩:=tw;obtain⟨j,h1,h2,h3⟩:=alI t want hag;have hr:=hs.env t;rw[hq t want hag]at hr;have hy:=ali h2 h3;rw[hr.bool]at hy;simp only at hy;simp[Region.wanted,h1,hy]
    rw[if_pos hw];refine xj hop hs.kB.inv hs.env (hx (λ x' pC=>x'=x/\pC=O') ⟨rfl,rfl⟩) λ x' pC y I' L' w' hk' sk lI=> ?_
    obtain⟨rfl,rfl⟩:=hk';rw[x8];exact hn _ _ _ _ (hs.put hd sk lI)
   |skip t want hgt hb=>
    obtain⟨j,h1,h2,h3⟩:=alI t want hgt;have hr:=hs.env t;have hy:=ali h2 h3
    have hw:Region.wanted o (yielded ops a.tmps)=false:=by
     rcases hb with hb|hb
     ·rw[hb]at hr;rw[hr.bool]at hy;simp only at hy;simp[Region.wanted,h1,hy]
     ·rw[hb]at hr
      have hv:a.tmps.getD t undef= .tuple #[]:=by
       generalize a.tmps.getD t undef=X at hr;cases hr with
       |aK _ vs h1 _=>congr 1;exact Array.eq_empty_of_size_eq_zero h1.symm
      rw[hv]at hy;simp only at hy;simp[Region.wanted,h1,hy]
    rw[if_neg (by simp[hw])];rw[x8];exact hn _ _ _ _ (hs.put hd (.refl hs.kB.inv) (.aK [] #[] rfl (by simp)))
theorem zu{ops:Array Oper}{al:List aN}(hm:ops.toList.mapM (nK P nt ops)=some (al.map aN.strip))(hlen:al.length=ops.size){e2:Env}{O2:List ae}{Q:Exit->Act->World->Prop}
  (hq:∀a w I L,Sat I0 L0 O0 w0 nt e2 O2 a w I L->Q .normal a w):
  ∀(l:List Nat),(∀i∈l,i<ops.size)->∀e O a w I L,Run P (l.map λ i=>al.getD i ⟨none,none,.bt (.c .top)⟩) e O e2 O2->Sat I0 L0 O0 w0 nt e O a w I L->Go.wpOps P ops Q l a w
 | [],_,e,O,a,w,I,L,hr,hs=>by
   cases hr;exact hq _ _ _ _ hs
 |i::l,hl,e,O,a,w,I,L,hr,hs=>by
  cases hr with
  |cons iu hr=>
   have hi:=hl i (by simp);have ho:ops[i]? =some ops[i]:=by simp[hi]
   have ha:al[i]? =some (al.getD i ⟨none,none,.bt (.c .top)⟩):=by simp[List.getD,show i<al.length by omega]
   have hc:=(mapM_some hm).2 i ops[i] ((al.getD i ⟨none,none,.bt (.c .top)⟩).strip) (by simp) (by rw[getElem?_map,ha];rfl);have:=aeE (Q:=Q) hc iu hs (next:=Go.wpOps P ops Q l) λ a w I L hs'=>zu hm hlen hq l (λ j hj=>hl j (by simp[hj])) _ _ a w I L hr hs'
   simp only[Go.wpOps,ho]
   split
   ·rename_i hw;rw[if_pos hw]at this;exact .inl this
   ·rename_i hw;rw[if_neg hw]at this;exact this
theorem b6{code:Code}{c:aO}(h:fO P nt code=some c):
  (code= .skip/\c= .skip)∨(∃id ops draw rows abT,code= .region id ops draw/\c= .region rows abT/\ops.toList.mapM (nK P nt ops)=some abT/\((draw=false/\rows=none)∨(draw=true/\rows=some (rowsOf ops)/\(Region.departs ops=false∨P.follows .mixedOrders=true))))∨
  (∃x y ax ay,code= .seq x y/\c= .seq ax ay/\fO P nt x=some ax/\fO P nt y=some ay)∨
  (∃o x y ao ax ay,code= .cond o x y/\c= .cond ao ax ay/\bC o=some ao/\fO P nt x=some ax/\fO P nt y=some ay)∨
  (∃id b ab,code= .block id b/\c= .block id ab/\fO P nt b=some ab)∨(∃b ab,code= .loop b/\c= .loop ab/\fO P nt b=some ab)∨
  (∃id,code= .exit id/\c= .exit id)∨(code= .ret/\c= .ret):=by
 cases code with
 |skip=>simp only[fO,Option.some.injEq]at h;exact .inl ⟨rfl,h.symm⟩
 |region id ops draw=>
  cases draw
  ·simp only[fO,map_eq_some_iff]at h;obtain⟨abT,h1,h2⟩:=h;exact .inr (.inl ⟨id,ops,false,_,abT,rfl,h2.symm,h1,.inl ⟨rfl,rfl⟩⟩)
  ·simp only[fO]at h
   split at h
   ·cases h
   ·rename_i hd;simp only[map_eq_some_iff]at h;obtain⟨abT,h1,h2⟩:=h
    exact .inr (.inl ⟨id,ops,true,_,abT,rfl,h2.symm,h1,.inr ⟨rfl,rfl,by
     by_cases h:Region.departs ops=true
     ·exact .inr (by simpa [h]using hd)
     ·exact .inl (by simpa using h)⟩⟩)
 |seq x y=>
  simp only[fO]at h
  split at h
  ·rename_i ax ay h1 h2;simp only[Option.some.injEq]at h;exact .inr (.inr (.inl ⟨x,y,ax,ay,rfl,h.symm,h1,h2⟩))
  ·cases h
 |cond o x y=>
  simp only[fO]at h
  split at h
  ·rename_i ao ax ay h0 h1 h2;simp only[Option.some.injEq]at h;exact .inr (.inr (.inr (.inl ⟨o,x,y,ao,ax,ay,rfl,h.symm,h0,h1,h2⟩)))
  ·cases h
 |block id b=>
  simp only[fO,map_eq_some_iff]at h;obtain⟨ab,h1,h2⟩:=h;exact .inr (.inr (.inr (.inr (.inl ⟨id,b,ab,rfl,h2.symm,h1⟩))))
 |loop b=>
  simp only[fO,map_eq_some_iff]at h;obtain⟨ab,h1,h2⟩:=h;exact .inr (.inr (.inr (.inr (.inr (.inl ⟨b,ab,rfl,h2.symm,h1⟩)))))
 |exit id=>simp only[fO,Option.some.injEq]at h;exact .inr (.inr (.inr (.inr (.inr (.inr (.inl ⟨id,rfl,h.symm⟩))))))
 |ret=>simp only[fO,Option.some.injEq]at h;exact .inr (.inr (.inr (.inr (.inr (.inr (.inr ⟨rfl,h.symm⟩))))))
 |_=>simp[fO]at h
theorem af1(c:aO):∀(code:Code),fO P nt code=some c.strip->∀(Q:AX->Env->List ae->Prop) (QM:Exit->Act->World->Prop),
  (∀x e O a w I L,Q x e O->Sat I0 L0 O0 w0 nt e O a w I L->QM x.to a w)->∀e O a w I L,ln P O0.length c Q e O->Sat I0 L0 O0 w0 nt e O a w I L->code.wp P QM a w:=by
 induction c with
 |skip=>
  intro code hc Q QM hq e O a w I L hk hs;rcases b6 hc with⟨rfl,h⟩|⟨_,_,_,_,_,_,h,_⟩|⟨_,_,_,_,_,h,_⟩|⟨_,_,_,_,_,_,_,h,_⟩|⟨_,_,_,_,h,_⟩|⟨_,_,_,h,_⟩|⟨_,_,h⟩|⟨_,h⟩<;>simp only[aO.strip]at h<;>first|(cases h;done)|skip
  exact wp_skip (hq .normal _ _ _ _ _ _ hk hs)
 |region d ops=>
  intro code hc Q QM hq e O a w I L hk hs;rcases b6 hc with⟨_,h⟩|⟨id,akF,draw,rows,abT,rfl,h,hm,uO⟩|⟨_,_,_,_,_,h,_⟩|⟨_,_,_,_,_,_,_,h,_⟩|⟨_,_,_,_,h,_⟩|⟨_,_,_,h,_⟩|⟨_,_,h⟩|⟨_,h⟩<;>simp only[aO.strip]at h<;>first|(cases h;done)|skip
  simp only[aO.region.injEq]at h;obtain⟨rfl,rfl⟩:=h;rcases uO with⟨rfl,rfl⟩|⟨rfl,rfl,avz⟩
  case inr=>
   obtain⟨al,hal,hk⟩:=hk;rw[←hal]at hm;obtain⟨jZ,e2,O2,hll,bJ,uM,hK⟩:=kR al hk;rw[nil_append]at uM;refine wp_region_draw λ t=> ?_
   have hlen:al.length=akF.size:=by have:=(mapM_some hm).1;simpa using this
   obtain⟨h1,h2⟩:=aaQ avz (by rw[length_zip,hll];omega) uM bJ t;have h3:=h1.run;rw[List.map_map]at h3
   have dc:((λ x:aN×ll=>x.1)∘λ i=>(al.zip jZ).getD i (⟨none,none,.bt (.c .top)⟩,⟨[],.any⟩))=λ i=>al.getD i ⟨none,none,.bt (.c .top)⟩:=by
    funext i
    simp only[Function.comp,List.getD];by_cases hi:i<al.length
    ·have ej:i<jZ.length:=by omega
     have hz:i<(al.zip jZ).length:=by rw[length_zip];omega
     rw[List.getElem?_eq_getElem hz,List.getElem?_eq_getElem hi];simp
    ·rw[List.getElem?_eq_none (by rw[length_zip];omega),List.getElem?_eq_none (by omega)]
     rfl
   rw[dc]at h3;exact zu hm hlen (λ a w I L hs=>hq .normal _ _ _ _ _ _ hK hs) _ h2 e O a _ I L h3 (hs.drawn _)
  exact wp_region_list (zG (λ e O a w I L h hs=>hq .normal e O a w I L h hs) akF.toList ops hm e O a w I L hk hs)
 |seq x y ihx ihy=>
  intro code hc Q QM hq e O a w I L hk hs;rcases b6 hc with⟨_,h⟩|⟨_,_,_,_,_,_,h,_⟩|⟨cx,cy,ax,ay,rfl,h,hx,hy⟩|⟨_,_,_,_,_,_,_,h,_⟩|⟨_,_,_,_,h,_⟩|⟨_,_,_,h,_⟩|⟨_,_,h⟩|⟨_,h⟩<;>simp only[aO.strip]at h<;>first|(cases h;done)|skip
  simp only[aO.seq.injEq]at h;obtain⟨rfl,rfl⟩:=h;refine wp_seq (ihx cx hx _ _ ?_ e O a w I L hk hs);intro z e O a w I L hz hs;cases z
  case normal=>exact ihy cy hy Q QM hq e O a w I L hz hs
  case exit id=>exact hq (.exit id) _ _ _ _ _ _ hz hs
  case ret=>exact hq .ret _ _ _ _ _ _ hz hs
 |cond c t f iht ihf=>
  intro code hc Q QM hq e O a w I L hk hs;rcases b6 hc with⟨_,h⟩|⟨_,_,_,_,_,_,h,_⟩|⟨_,_,_,_,_,h,_⟩|⟨o,x,y,ao,ax,ay,rfl,h,h0,h1,h2⟩|⟨_,_,_,_,h,_⟩|⟨_,_,_,h,_⟩|⟨_,_,h⟩|⟨_,h⟩<;>simp only[aO.strip]at h<;>first|(cases h;done)|skip
  simp only[aO.cond.injEq]at h;obtain⟨rfl,rfl,rfl⟩:=h;have rc:=an h0 hs.env;simp only[ln]at hk
  split at hk
  ·rename_i b hb;rw[hb]at rc;refine wp_cond (t:=b) rc.bool ?_;cases b
   ·exact ihf y h2 Q QM hq e O a w I L (hk.2 rfl) hs
   ·exact iht x h1 Q QM hq e O a w I L (hk.1 rfl) hs
  ·exact hk.elim
 |block id b ih=>
  intro code hc Q QM hq e O a w I L hk hs;rcases b6 hc with⟨_,h⟩|⟨_,_,_,_,_,_,h,_⟩|⟨_,_,_,_,_,h,_⟩|⟨_,_,_,_,_,_,_,h,_⟩|⟨id',cb,ab,rfl,h,hb⟩|⟨_,_,_,h,_⟩|⟨_,_,h⟩|⟨_,h⟩<;>simp only[aO.strip]at h<;>first|(cases h;done)|skip
  simp only[aO.block.injEq]at h;obtain⟨rfl,rfl⟩:=h;refine wp_block (ih cb hb _ _ ?_ e O a w I L hk hs);intro z e O a w I L hz hs;cases z
  case normal=>exact hq .normal _ _ _ _ _ _ hz hs
  case exit i=>
   simp only[AX.to,Exit.inBlock];simp only at hz;by_cases hi:i=id
   ·rw[if_pos hi]at hz⊢;exact hq .normal _ _ _ _ _ _ hz hs
   ·rw[if_neg hi]at hz⊢;exact hq (.exit i) _ _ _ _ _ _ hz hs
  case ret=>exact hq .ret _ _ _ _ _ _ hz hs
 |loop b ih=>
  intro code hc Q QM hq e O a w I L hk hs;rcases b6 hc with⟨_,h⟩|⟨_,_,_,_,_,_,h,_⟩|⟨_,_,_,_,_,h,_⟩|⟨_,_,_,_,_,_,_,h,_⟩|⟨_,_,_,_,h,_⟩|⟨cb,ab,rfl,h,hb⟩|⟨_,_,h⟩|⟨_,h⟩<;>simp only[aO.strip]at h<;>first|(cases h;done)|skip
  simp only[aO.loop.injEq]at h;subst h;obtain⟨J,n,⟨e',O',hw,hJ⟩,afJ⟩:=hk;obtain⟨I',L',hs'⟩:=hs.wk hw;refine wp_loop_ghost (λ m a w=>∃e O I L,J m e O/\Sat I0 L0 O0 w0 nt e O a w I L) n ⟨e',O',I',L',hJ,hs'⟩ ?_;rintro m a w ⟨e1,O1,I1,L1,hJ1,yI⟩;refine ih cb hb _ _ ?_ e1 O1 a w I1 L1 (afJ m e1 O1 hJ1) yI;intro z e2 O2 a2 w2 I2 L2 hz hs2;cases z
  case normal=>
   obtain⟨m',e3,O3,au,hw3,hJ3⟩:=hz;obtain⟨I3,L3,hs3⟩:=hs2.wk hw3;exact⟨m',au,e3,O3,I3,L3,hJ3,hs3⟩
  case exit id=>exact hq (.exit id) _ _ _ _ _ _ hz hs2
  case ret=>exact hq .ret _ _ _ _ _ _ hz hs2
 |exit id=>
  intro code hc Q QM hq e O a w I L hk hs;rcases b6 hc with⟨_,h⟩|⟨_,_,_,_,_,_,h,_⟩|⟨_,_,_,_,_,h,_⟩|⟨_,_,_,_,_,_,_,h,_⟩|⟨_,_,_,_,h,_⟩|⟨_,_,_,h,_⟩|⟨i,rfl,h⟩|⟨_,h⟩<;>simp only[aO.strip]at h<;>first|(cases h;done)|skip
  simp only[aO.exit.injEq]at h;subst h;exact wp_exit (hq (.exit id) _ _ _ _ _ _ hk hs)
 |ret=>
  intro code hc Q QM hq e O a w I L hk hs;rcases b6 hc with⟨_,h⟩|⟨_,_,_,_,_,_,h,_⟩|⟨_,_,_,_,_,h,_⟩|⟨_,_,_,_,_,_,_,h,_⟩|⟨_,_,_,_,h,_⟩|⟨_,_,_,h,_⟩|⟨_,_,h⟩|⟨rfl,h⟩<;>simp only[aO.strip]at h<;>first|(cases h;done)|skip
  exact wp_ret (hq .ret _ _ _ _ _ _ hk hs)
 |aU live c ih=>
  intro code hc Q QM hq e O a w I L hk hs;refine ih code hc _ QM ?_ e O a w I L hk hs;intro x e O a w I L hx hs;cases x
  case normal=>exact hq .normal _ _ _ _ _ _ hx (hs.afX (aoB hs.env live))
  all_goals exact hq _ _ _ _ _ _ _ hx hs
 |hD ops=>
  intro code hc Q QM hq e O a w I L hk hs;rcases b6 hc with⟨_,h⟩|⟨id,akF,draw,rows,abT,rfl,h,hm,uO⟩|⟨_,_,_,_,_,h,_⟩|⟨_,_,_,_,_,_,_,h,_⟩|⟨_,_,_,_,h,_⟩|⟨_,_,_,h,_⟩|⟨_,_,h⟩|⟨_,h⟩<;>simp only[aO.strip]at h<;>first|(cases h;done)|skip
  simp only[aO.region.injEq]at h;obtain⟨rfl,rfl⟩:=h;rcases uO with⟨rfl,h0⟩|⟨rfl,h0,avz⟩
  case inr=>cases h0
  exact wp_region_list (xi (λ e O a w I L h hs=>hq .normal e O a w I L h hs) akF.toList ops hm e O a w I L hk hs)
 |j6 c ih=>
  intro code hc Q QM hq e O a w I L hk hs;obtain⟨e',O',hw,hk⟩:=hk;obtain⟨I',L',hs'⟩:=hs.wk hw;exact ih code hc Q QM hq e' O' a w I' L' hk hs'
def alV(a:Act)(r:ResultVar):Sem Value:=
 match r with
 | .tmp t=>pure (a.tmps.getD t undef)
 | .cell b t=>do loadVar t (←asAddr (a.tmps.getD b undef))
theorem acr{e:Env}{O:List ae}{a:Act}{w:World}{I:da}{L:Nat->Loc}(hi:Inv I L O w)(he:∀t,R I L O (e t) (a.tmps.getD t undef)):
  ∀(l:List ResultVar) (al:List ff) (acc:List AV) (M:List AV->Prop),l.mapM (aiT P)=some al->fi e O al acc M->
   ∃xs vs,M (acc.reverse++xs)/\xs.length=vs.length/\(∀(i:Nat) x v,xs[i]? =some x->vs[i]? =some v->R I L O x v)/\
    (l.mapM (alV a)).run P w= .ok vs w
 | [],al,acc,M,h,hk=>by
   simp at h;subst h;exact⟨[],[],by simpa [fi]using hk,rfl,by simp,by simp⟩
 |r::l,al,acc,M,h,hk=>by
  simp only[mapM_cons,bind_eq_bind,pure_def,bind_eq_some_iff,Option.some.injEq]at h;obtain⟨b,hb,bs,hbs,rfl⟩:=h
  have key:∃x v,fi e O bs (x::acc) M/\R I L O x v/\(alV a r).run P w= .ok v w:=by
   cases r with
   |tmp t=>
    simp only[aiT,Option.some.injEq]at hb;subst hb;exact⟨_,_,hk,he t,rfl⟩
   |cell t ty=>
    simp only[aiT,map_eq_some_iff]at hb;obtain⟨n,hn,rfl⟩:=hb;simp only[fi,ff.get]at hk
    split at hk
    ·rename_i k hk0;have hr:=he t;rw[hk0]at hr
     split at hk
     ·rename_i t' s x hO;obtain⟨hl,hk⟩:=hk;have hv:=hr.gP hO rfl;obtain⟨c,⟨j5,g1,dn⟩,g2,g3,g4,g5,g6⟩:=hi.obj k _ _ _ hO;obtain⟨g7,g8⟩:=g6 0 x rfl
      have hex:∀j,∃u,j<n.getD 1->c[0*s+j]? =some u/\∀c',x.cells[j]? =some c'->R I L O c' u:=by
       intro j;by_cases hj:j<n.getD 1
       ·have oI:x.cells[j]? =some (x.cells[j]'(by omega)):=by simp
        obtain⟨u,hu,_,hr⟩:=g8 j _ oI;exact⟨u,λ _=>⟨hu,λ c'' h''=>by rw[oI]at h'';cases h'';exact hr⟩⟩
       ·exact⟨undef,λ h=>(hj h).elim⟩
      let bB:Nat->Value:=λ j=>(hex j).choose
      have adg:∀j,j<n.getD 1->c[0*s+j]? =some (bB j)/\∀c',x.cells[j]? =some c'->R I L O c' (bB j):=λ j hj=>(hex j).choose_spec hj
      have bJ:=ql (P:=P) (t:=ty) hn (L k).bc 0 bB w (λ j hj=>by
       rw[dV g1];have:=(adg j hj).1;rwa [zero_mul]at this)
      refine⟨_,_,hk,lF (bB:=bB) (by omega) λ j c' hj gV=>(adg j gV).2 c' (by simpa using hj),?_⟩;simp only[alV,hv];simp[Instr.loadAt,Instr.sureAddr]at bJ;simpa [asAddr]using bJ
     ·exact hk.elim
    ·exact hk.elim
  obtain⟨x,v,hk',hr,bJ⟩:=key;obtain⟨xs,vs,h1,h2,h3,h4⟩:=acr hi he l bs (x::acc) M hbs hk';refine⟨x::xs,v::vs,by simpa using h1,by simp[h2],λ i y u hy hu=> ?_,?_⟩
  ·cases i with
   |zero=>simp at hy hu;subst hy;subst hu;exact hr
   |succ i=>simp at hy hu;exact h3 i y u hy hu
  ·rw[mapM_cons,Sem.run_bind,bJ,Result.andThen_ok,Sem.run_bind,h4]
   rfl
theorem acp{fn:Func}{e:Env}{O O':List ae}{a:Act}{w:World}{I:da}{L:Nat->Loc}{rs:List ff}{res:AV}{x:AX}(hm:fn.results.toList.mapM (aiT P)=some rs)(hs:Sat I0 L0 O0 w0 nt e O a w I L)
  (hk:lQ O0.length rs res O' x e O):∃y I' L',(results fn a.tmps).run P w= .ok y w/\R I' L' O' res y/\Good I0 L0 O0 w0 I' L' O' w:=by
 have hk':fi e O rs [] λ xs=>∃e',WK O0.length (λ t=>if t=0 then b4 xs else .top) O e' O'/\e' 0=res:=by
  cases x<;>first|exact hk|exact hk.elim
 obtain⟨xs,vs,⟨e',hw,he0⟩,h2,h3,h4⟩:=acr hs.kB.inv hs.env _ _ _ _ hm hk';simp only[List.reverse_nil,nil_append]at hw
 let y:Value:=if h:vs.toArray.size=1 then vs.toArray[0]else .tuple vs.toArray
 have hy:R I L O (b4 xs) y:=by
  unfold b4
  split
  ·rename_i x;have hv:vs.length=1:=by rw[←h2];rfl
   have:y=vs[0]'(by omega):=by simp[y,hv]
   rw[this];exact h3 0 x _ rfl (by simp[hv])
  ·rename_i cr
   have hv:vs.length≠1:=by
    rw[←h2];intro h1;obtain⟨x,hx⟩:=List.length_eq_one_iff.1 h1;exact cr x hx
   have:y= .tuple vs.toArray:=by simp[y,hv]
   rw[this];exact .aK _ _ (by simpa using h2) λ i c v hc hv=>h3 i c v hc (by simpa using hv)
 obtain⟨I',L',hg,hr⟩:=hw I0 L0 O0 w0 I L w (λ t=>if t=0 then y else undef) rfl hs.kB (λ t=>by
  by_cases ht:t=0
  ·subst ht;simpa using hy
  ·simp only[if_neg ht];exact .top _)
 refine⟨y,I',L',?_,?_,hg⟩
 ·have bJ:(fn.results.mapM (alV a)).run P w= .ok vs.toArray w:=by
    simp[Array.mapM_eq_mapM_toList,h4]
  have mW:results fn a.tmps=(do let vs ←fn.results.mapM (alV a);pure (if h:vs.size=1 then vs[0]else .tuple vs)):=rfl;rw[mW,Sem.run_bind,bJ]
  rfl
 ·have:=hr 0;rw[he0]at this;simpa using this
def cFn(P:Program)(f:FuncId)(a:sG):Prop:=
 ∃fn code,P.funcs[f]? =some fn/\fn.body=some code/\(fn.name== "runtime.NumGoroutine")=false/\fn.ntmps=a.nt/\a.iw<=a.nt/\
  fO P a.nt code=some a.code.strip/\fn.results.toList.mapM (aiT P)=some a.res
theorem hH{f:FuncId}{A:sG}(hf:cFn P f A){args:List AV}{O O':List ae}{res:AV}(hl:args.length=A.iw)
  (h:ln P O.length A.code (lQ O.length A.res res O') (nh args) O):js P f args O res O':=by
 obtain⟨fn,code,h1,h2,h3,h4,h5,h6,h7⟩:=hf;refine⟨⟨fn,h1,by rw[h2];rfl,h3⟩,?_⟩;intro I L w vs hi hr;refine calls_of_wp h1 h2 ?_;have lj:vs.size=A.iw:=by rw[←hr.1,hl]
 have axz:Sat I L O w A.nt (nh args) O {tmps:=vs++Array.replicate (fn.ntmps- vs.size) undef,defers:=[]} w I L:=by
  refine⟨.refl hi,λ t=> ?_,?_,rfl⟩
  ·unfold nh;by_cases ht:t<vs.size
   ·have ha:args[t]? =some (args.getD t (.aK [])):=by simp[List.getD,show t<args.length by rw[hr.1];exact ht]
    have hv:vs[t]? =some ((vs++Array.replicate (fn.ntmps- vs.size) undef).getD t undef):=by
     rw[Array.getD_eq_getD_getElem?,Array.getElem?_append_left ht];simp[ht]
    exact hr.2 t _ _ ha hv
   ·have ha:args.getD t (.aK [])= .aK []:=by simp[List.getD,List.getElem?_eq_none (show args.length<=t by rw[hr.1];omega)]
    have hv:(vs++Array.replicate (fn.ntmps- vs.size) undef).getD t undef= .tuple #[]:=by
     rw[Array.getD_eq_getD_getElem?,Array.getElem?_append_right (by omega)];by_cases h8:t- vs.size<fn.ntmps- vs.size
     ·simp[h8];rfl
     ·simp[h8];rfl
    rw[ha,hv];exact .aK [] #[] rfl (by simp)
  ·simp;omega
 refine af1 A.code code h6 _ _ ?_ (nh args) O _ w I L h axz;intro x e O1 a w' I' L' hq hs;obtain⟨y,I2,L2,r1,r2,r3⟩:=acp h7 hs hq;cases x with
 |normal=>exact⟨hs.defers,y,r1,y,I2,L2,rfl,r2,r3⟩
 |ret=>exact⟨hs.defers,y,r1,y,I2,L2,rfl,r2,r3⟩
 |exit id=>exact hq.elim
end
end Go.Ab
namespace Go.Ab
universe u
theorem nr{α:Sort u}{a b:α}(h:a=b):a=b:=h
def ng:List (Nat×AV)->Env
 | [],_=> .top
 |(k,a)::l,t=>if t=k then a else ng l t
theorem aqU(e:Env)(t:Nat)(a:AV)(k:Nat):(e.set t a) k=if k=t then a else e k:=nr rfl
theorem pj(k:Nat)(a:AV)(l:List (Nat×AV))(t:Nat):ng ((k,a)::l) t=if t=k then a else ng l t:=nr rfl
theorem amh(args:List AV)(t:Nat):nh args t=args.getD t (.aK []):=nr rfl
theorem ak5(live:List Nat)(e:Env):r7 live e=ng (live.map λ t=>(t,e t)):=by
 funext t
 induction live with
 |nil=>rfl
 |cons k l ih=>
  simp only[map_cons,pj];unfold r7 at ih⊢;by_cases h:t=k
  ·subst h;simp
  ·rw[if_neg h,←ih];simp[h]
theorem R.take{I:da}{L:Nat->Loc}{O:List ae}{k:Nat}(hk:k<=O.length){a:AV}{x:Value}(hr:R I L O a x)(h:a.inScope k=true):R I L (O.take k) a x:=by
 have dc:∀{n:Nat},n<k->(O.take k)[n]? =O[n]? :=λ {n} hn=>by rw[getElem?_take,if_pos hn]
 have hlen:(O.take k).length=k:=by simp;omega
 induction hr with
 |top x=>exact .top x
 |v x hx=>exact .v x hx
 |aQ=>exact .aQ
 |oF t x=>exact .oF t x
 |me a cap=>exact .me a cap
 |sl xs bc off cap s bB h1 h2 h3 h4 _ ih=>
  refine .sl xs bc off cap s bB h1 h2 h3 h4 λ i x j c hi hj=>ih i x j c hi hj ?_
  exact b7 (bP (by simpa [AV.inScope]using h) x (mem_of_getElem? hi)) c (mem_of_getElem? hj)
 |bW x f bc base bB h1 _ ih=>
  refine .bW x f bc base bB h1 λ j c hj=>ih j c hj ?_
  exact b7 (by simpa [AV.inScope]using h) c (mem_of_getElem? hj)
 |bV n len e s xs hn hl=>
  have mw:n<k:=by simpa [AV.inScope]using h
  exact .bV n len e s xs (by rw[dc mw];exact hn) hl
 |eb n e s hn=>
  have mw:n<k:=by simpa [AV.inScope]using h
  exact .eb n e s (by rw[dc mw];exact hn)
 |dN n len x hn vW hs hx=>
  have mw:n<k:=by simpa [AV.inScope]using h
  exact .dN n len x (by omega) (λ e s he=>vW e s (by rwa [dc mw]at he)) (λ e s xs pO=>hs e s xs (by rwa [dc mw]at pO)) hx
 |di n len i f e s xs hn hl=>
  have mw:n<k:=by simpa [AV.inScope]using h
  exact .di n len i f e s xs (by rw[dc mw];exact hn) hl
 |fa n len i f x hn vW hs hx=>
  have mw:n<k:=by simpa [AV.inScope]using h
  exact .fa n len i f x (by omega) (λ e s he=>vW e s (by rwa [dc mw]at he)) (λ e s xs pO=>hs e s xs (by rwa [dc mw]at pO)) hx
 |fn f aX vs h1 _ ih=>exact .fn f aX vs h1 λ i c x hi hx=>ih i c x hi hx (bP (by simpa [AV.inScope]using h) c (mem_of_getElem? hi))
 |agg cs vs h1 _ ih=>exact .agg cs vs h1 λ i c x hi hx=>ih i c x hi hx (bP (by simpa [AV.inScope]using h) c (mem_of_getElem? hi))
 |aK cs vs h1 _ ih=>exact .aK cs vs h1 λ i c x hi hx=>ih i c x hi hx (bP (by simpa [AV.inScope]using h) c (mem_of_getElem? hi))
 |eL n a hn h1=>
  have mw:n<k:=by simpa [AV.inScope]using h
  exact .eL n a (by rw[dc mw];exact hn) h1
 |fD n g hn=>
  have mw:n<k:=by simpa [AV.inScope]using h
  exact .fD n g (by rw[dc mw];exact hn)
 |dO n x hn cd hng h1=>
  have mw:n<k:=by simpa [AV.inScope]using h
  exact .dO n x (by omega) (λ a ha=>cd a (by rwa [dc mw]at ha)) (λ a ha=>hng a (by rwa [dc mw]at ha)) h1
theorem Good.take{I0 I:da}{L0 L:Nat->Loc}{O0 O:List ae}{w0 w:World}(h:Good I0 L0 O0 w0 I L O w){k:Nat}(h0:O0.length<=k)(hk:k<=O.length)(hb:∀ob∈O.take k,ob.inScope k=true):
  Good I0 L0 O0 w0 I L (O.take k) w:=by
 have dc:∀{n e s xs},(O.take k)[n]? =some (.live e s xs)->O[n]? =some (.live e s xs)/\n<k:=by
  intro n e s xs hn;rw[getElem?_take]at hn
  split at hn
  ·exact⟨hn,by assumption⟩
  ·cases hn
 have avp:∀{n e s:Nat},(O.take k)[n]? =some (ae.nil e s)->O[n]? =some (ae.nil e s):=by
  intro n e s hn;rw[getElem?_take]at hn
  split at hn
  ·exact hn
  ·cases hn
 have x5:∀{n:Nat} {a:AV},(O.take k)[n]? =some (ae.own a)->O[n]? =some (ae.own a):=by
  intro n a hn;rw[getElem?_take]at hn
  split at hn
  ·exact hn
  ·cases hn
 have pQ:∀{n:Nat} {a:fT},(O.take k)[n]? =some (ae.cN a)->O[n]? =some (ae.cN a):=by
  intro n a hn;rw[getElem?_take]at hn
  split at hn
  ·exact hn
  ·cases hn
 refine⟨⟨h.inv.iy,λ n e s xs hn=> ?_,λ n m _ _ _ _ _ _ hn hm=>h.inv.sep n m _ _ _ _ _ _ (dc hn).1 (dc hm).1,λ n e s xs o hn=>h.inv.dT n e s xs o (dc hn).1,h.inv.fix,h.inv.bc,h.inv.ow.same (λ n a hn=>⟨x5 hn,rfl⟩) (λ b o v hv=> .inl ⟨o,v,hv⟩) (λ m e s xs hm=> .inl ⟨m,_,_,_,(dc hm).1,rfl⟩) rfl,⟨λ n g hn=> ?_,λ n m g g' hn hm hb=>h.inv.gh.sep n m g g' (pQ hn) (pQ hm) hb⟩⟩,⟨h.ext.iy,by simp;omega,λ n hn e s xs hx=>h.ext.obj n hn e s xs (dc hx).1,λ n hn e s hx=>h.ext.nil n hn e s (avp hx),λ n hn a hx=>h.ext.own n hn a (x5 hx),λ n hn a hx=>h.ext.cN n hn a (pQ hx)⟩,h.mE,?_,h.iM⟩
 ·obtain⟨c,⟨j5,h1,dn⟩,h2,h3,h4,h5,h6⟩:=h.inv.obj n e s xs (dc hn).1;refine⟨c,⟨j5,h1,dn⟩,h2,h3,h4,h5,λ i x hx=>⟨(h6 i x hx).1,λ j a ha=> ?_⟩⟩;obtain⟨y,hy,ho,hr⟩:=(h6 i x hx).2 j a ha;have hbo:=hb _ (mem_of_getElem? hn);exact⟨y,hy,ho,hr.take hk (b7 (bP hbo x (mem_of_getElem? hx)) a (mem_of_getElem? ha))⟩
 ·have h1:=h.inv.gh.ok n g (pQ hn);have hbo:=hb _ (mem_of_getElem? hn);cases g with
  |it s p=>exact h1
  |mp es=>
   obtain⟨en,c,h2,h3,h4⟩:=h1;refine⟨en,c,h2,h3,λ i a v hi=> ?_⟩;obtain⟨e,h5,h6,h7⟩:=h4 i a v hi;have hs:=List.all_eq_true.1 (show es.all (λ p=>p.1.inScope k&&p.2.inScope k)=true from hbo) (a,v) (mem_of_getElem? hi);simp only[and_eq_true]at hs;exact⟨e,h5,h6.take hk hs.1,h7.take hk hs.2⟩
 ·rintro b (⟨n,e,s,xs,hn,hb⟩|⟨n,a,o,v,hn,hb⟩|⟨n,g,hn,hb⟩)
  ·exact h.lb b (.inl ⟨n,e,s,xs,(dc hn).1,hb⟩)
  ·exact h.lb b (.inr (.inl ⟨n,a,o,v,x5 hn,hb⟩))
  ·exact h.lb b (.inr (.inr ⟨n,g,pQ hn,hb⟩))
theorem WK.forget{n0:Nat}{e e':Env}{O O':List ae}{k:Nat}(hO:O.take k=O')(h0:n0<=k)(hk:k<=O.length)(hb:∀ob∈O',ob.inScope k=true)(he:∀t,e' t= .top∨(e' t=e t/\(e' t).inScope k=true)):WK n0 e O e' O':=by
 subst hO;intro I0 L0 O0 w0 I L w f hl hg hr;subst hl;refine⟨I,L,hg.take h0 hk hb,λ t=> ?_⟩;rcases he t with h|⟨h,h'⟩
 ·rw[h];exact .top _
 ·rw[h]at h'⊢;exact(hr t).take hk h'
theorem wpOp_mono{P:Program}{o:dZ}{e:Env}{O:List ae}{K K':AV->List ae->Prop}(hk:∀x O,K x O->K' x O)(h:wpOp P o e O K):wpOp P o e O K':=by
 obtain⟨x,O',h1,h2⟩:=aqf h;exact h2 K' (hk x O' h1)
theorem kO{P:Program}:∀(l:List aN) {e:Env} {O:List ae} {K K':Env->List ae->Prop},(∀e O,K e O->K' e O)->wpOps P l e O K->wpOps P l e O K'
 | [],_,_,_,_,hk,h=>hk _ _ h
 |o::l,e,O,K,K',hk,h=>by
  simp only[wpOps]at h⊢
  split at h
  ·exact wpOp_mono (λ x O' h=>kO l hk h) h
  ·split at h
   ·exact⟨λ hb=>wpOp_mono (λ x O' h=>kO l hk h) (h.1 hb),λ hb=>kO l hk (h.2 hb)⟩
   ·exact kO l hk h
   ·exact h.elim
theorem jT{P:Program}:∀(l:List aN) {acc:List ll} {e:Env} {O:List ae} {K K':List ll->Env->List ae->Prop},(∀a e O,K a e O->K' a e O)->dq P l acc e O K->dq P l acc e O K'
 | [],_,_,_,_,_,hk,h=>hk _ _ _ h
 |o::l,acc,e,O,K,K',hk,h=>by
  simp only[dq]at h⊢
  split at h
  ·exact wpOp_mono (λ x O' h=>jT l hk h) h
  ·split at h
   ·exact⟨λ hb=>wpOp_mono (λ x O' h=>jT l hk h) (h.1 hb),λ hb=>jT l hk (h.2 hb)⟩
   ·exact jT l hk h
   ·exact h.elim
theorem jS{P:Program}{n0:Nat}:∀(l:List aN) {e:Env} {O:List ae} {K K':Env->List ae->Prop},(∀e O,K e O->K' e O)->ij P n0 l e O K->ij P n0 l e O K'
 | [],_,_,_,_,hk,⟨e',O',hw,h⟩=>⟨e',O',hw,hk _ _ h⟩
 |o::l,e,O,K,K',hk,h=>by
  simp only[ij]at h⊢;obtain⟨e',O',hw,h⟩:=h;refine⟨e',O',hw,?_⟩
  split at h
  ·exact wpOp_mono (λ x O' h=>jS l hk h) h
  ·split at h
   ·exact⟨λ hb=>wpOp_mono (λ x O' h=>jS l hk h) (h.1 hb),λ hb=>jS l hk (h.2 hb)⟩
   ·exact jS l hk h
   ·exact h.elim
theorem ajz{P:Program}{n0:Nat}(c:aO):∀{Q Q':AX->Env->List ae->Prop} {e:Env} {O:List ae},(∀x e O,Q x e O->Q' x e O)->ln P n0 c Q e O->ln P n0 c Q' e O:=by
 induction c with
 |skip=>intro Q Q' e O hq h;exact hq _ _ _ h
 |region r ops=>
  intro Q Q' e O hq h;cases r with
  |none=>exact kO ops (λ e O h=>hq _ _ _ h) h
  |some rows=>obtain⟨al,h1,h2⟩:=h;exact⟨al,h1,jT al (λ jZ e O h=>⟨h.1,hq _ _ _ h.2⟩) h2⟩
 |hD ops=>intro Q Q' e O hq h;exact jS ops (λ e O h=>hq _ _ _ h) h
 |seq a b iha ihb=>
  intro Q Q' e O hq h;refine iha (λ x e O h=> ?_) h;cases x
  ·exact ihb hq h
  ·exact hq _ _ _ h
  ·exact hq _ _ _ h
 |cond c t f iht ihf=>
  intro Q Q' e O hq h;simp only[ln]at h⊢
  split at h
  ·exact⟨λ hb=>iht hq (h.1 hb),λ hb=>ihf hq (h.2 hb)⟩
  ·exact h.elim
 |block id b ih=>
  intro Q Q' e O hq h;refine ih (λ x e O h=> ?_) h;cases x
  ·exact hq _ _ _ h
  ·simp only at h⊢
   split
   ·rename_i hi;rw[if_pos hi]at h;exact hq _ _ _ h
   ·rename_i hi;rw[if_neg hi]at h;exact hq _ _ _ h
  ·exact hq _ _ _ h
 |loop b ih=>
  intro Q Q' e O hq h;obtain⟨J,n,h0,hr⟩:=h;refine⟨J,n,h0,λ n e O hJ=>ih (λ x e O h=> ?_) (hr n e O hJ)⟩;cases x
  ·exact h
  ·exact hq _ _ _ h
  ·exact hq _ _ _ h
 |exit id=>intro Q Q' e O hq h;exact hq _ _ _ h
 |ret=>intro Q Q' e O hq h;exact hq _ _ _ h
 |aU l c ih=>
  intro Q Q' e O hq h;refine ih (λ x e O h=> ?_) h;cases x<;>exact hq _ _ _ h
 |j6 c ih=>
  intro Q Q' e O hq h;obtain⟨e',O',hw,h⟩:=h;exact⟨e',O',hw,ih hq h⟩
def wT(n0:Nat){ι:Type}(D:ι->Prop)(σ:ι->Env)(τ:ι->List ae)(μ:ι->Nat)(i:ι)(Q:AX->Env->List ae->Prop):AX->Env->List ae->Prop:=
 λ x e O=>match x with| .normal=>∃j,D j/\μ j<μ i/\WK n0 e O (σ j) (τ j)|x=>Q x e O
theorem ajA{P:Program}{n0:Nat}{b:aO}{Q:AX->Env->List ae->Prop}{e:Env}{O:List ae}{ι:Type}(D:ι->Prop)(σ:ι->Env)(τ:ι->List ae)(μ:ι->Nat)(i0:ι)
  (hd:D i0) (h0:WK n0 e O (σ i0) (τ i0)) (hr:∀i,D i->ln P n0 b (wT n0 D σ τ μ i Q) (σ i) (τ i)):ln P n0 (.loop b) Q e O:=by
 refine⟨λ n e O=>∃i,D i/\μ i=n/\e=σ i/\O=τ i,μ i0,⟨_,_,h0,i0,hd,rfl,rfl,rfl⟩,?_⟩;rintro n e O ⟨i,hi,rfl,rfl,rfl⟩;refine ajz b (λ x e O h=> ?_) (hr i hi);cases x
 ·obtain⟨j,hj,h1,h2⟩:=h;exact⟨μ j,_,_,h1,h2,j,hj,rfl,rfl,rfl⟩
 ·exact h
 ·exact h
theorem WK.of_eq{n0:Nat}{e e':Env}{O O':List ae}(he:e=e')(hO:O=O'):WK n0 e O e' O':=by subst he;subst hO;exact .refl _ _ _
section
variable (P:Program) (n0:Nat) (Q:AX->Env->List ae->Prop) (e:Env) (O:List ae)
theorem ajy:ln P n0 .skip Q e O=Q .normal e O:=nr rfl
theorem aey(ops:List aN):ln P n0 (.region none ops) Q e O=Go.Ab.wpOps P ops e O (Q .normal):=nr rfl
theorem atu(c:aE)(t f:aO):ln P n0 (.cond c t f) Q e O=match c.ev e with
 | .v (.bool b)=>(b=true->ln P n0 t Q e O)/\(b=false->ln P n0 f Q e O)
 |_=>False:=nr rfl
theorem ajB(id:Nat):ln P n0 (.exit id) Q e O=Q (.exit id) e O:=nr rfl
theorem anj:ln P n0 .ret Q e O=Q .ret e O:=nr rfl
theorem ahd(K:Env->List ae->Prop):Go.Ab.wpOps P [] e O K=K e O:=nr rfl
theorem ab8(K:Env->List ae->Prop)(t:Nat)(want:Bool)(d:Option Nat)(op:dZ)(r:List aN):
 Go.Ab.wpOps P (⟨some (t,want),d,op⟩::r) e O K=match e t with
   | .v (.bool b)=>
     (b=want->wpOp P op (e.set t (.v (.bool want))) O λ x O'=>Go.Ab.wpOps P r (bI (e.set t (.v (.bool want))) d x) O' K)/\
     (b= !want->Go.Ab.wpOps P r (bI (e.set t (.v (.bool (!want)))) d (.aK [])) O K)
   | .aK []=>Go.Ab.wpOps P r (bI e d (.aK [])) O K
   |_=>False:=nr rfl
theorem ahp(t:Nat)(a:AV):bI e (some t) a=e.set t a:=nr rfl
theorem ahq(a:AV):bI e none a=e:=nr rfl
theorem ayL(n:Nat):(aE.t n).ev e=e n:=nr rfl
theorem ayM(a:AV):(aE.c a).ev e=a:=nr rfl
end
end Go.Ab
namespace Go.Ab
theorem uU(a:ByteArray):a.toList=a.data.toList:=ByteArray.toList_eq a
abbrev KT:=AV->List ae->Prop
def k1(a:AV)(O:List ae)(K:KT):Prop:=K a O
theorem apW(a:AV)(O:List ae)(K:KT):k1 a O K=K a O:=nr rfl
def nB(c a b:AV)(O:List ae)(K:KT):Prop:=match c with
 | .v (.bool t)=>K (if t then a else b) O
 |_=>False
theorem xc(a b:AV)(O:List ae)(K:KT):nB (.v (.bool true)) a b O K=k1 a O K:=nr rfl
theorem uw(a b:AV)(O:List ae)(K:KT):nB (.v (.bool false)) a b O K=k1 b O K:=nr rfl
theorem xd(t x y:Bool)(O:List ae)(K:KT):nB (.v (.bool t)) (.v (.bool x)) (.v (.bool y)) O K=k1 (.v (.bool (if t=true then x else y))) O K:=by cases t<;>rfl
def av2(t s:Nat)(a:AV)(O:List ae)(K:KT):Prop:=a.cells.length=s/\a.storable=true/\K (.ptr O.length 1 0 0) (O++ [.live t s [a]])
theorem apv(t s:Nat)(a:AV)(O:List ae)(K:KT):av2 t s a O K=(a.cells.length=s/\a.storable=true/\k1 (.ptr O.length 1 0 0) (O++ [.live t s [a]]) K):=nr rfl
def zg(z:List AV)(ps:List (Nat×Nat×AV))(O:List ae)(K:KT):Prop:=match ps with
 | []=>K (.agg z) O
 |(off,size,x)::r=>x.cells.length=size/\(x.cI||x.isAgg)=true/\off+size<=z.length/\zg (z.take off++x.cells++z.drop (off+size)) r O K
theorem amJ(z:List AV)(O:List ae)(K:KT):zg z [] O K=k1 (.agg z) O K:=by simp[zg,k1]
theorem ai7(z:List AV)(off size:Nat)(x:AV)(r:List (Nat×Nat×AV))(O:List ae)(K:KT):
 zg z ((off,size,x)::r) O K=(x.cells.length=size/\(x.cI||x.isAgg)=true/\off+size<=z.length/\zg (z.take off++x.cells++z.drop (off+size)) r O K):=by rw[zg]
theorem yz{e:Env}{O:List ae}{K:KT}:∀(ps:List (Nat×Nat×aE)) (z:List AV),iO e z ps (λ a=>K a O)=zg z (ps.map λ p=>(p.1,p.2.1,p.2.2.ev e)) O K
 | [],z=>by simp[iO,zg]
 |(off,size,x)::r,z=>by simp only[iO,map_cons,zg,yz r]
def zf(t s:Nat)(len:Nat)(xs:List AV)(ps:List (Nat×AV))(O:List ae)(K:KT):Prop:=match ps with
 | []=>K (.row O.length len) (O++ [.live t s xs])
 |(i,x)::r=>x.cells.length=s/\x.storable=true/\i<xs.length/\zf t s len (xs.set i x) r O K
theorem amC(t s len:Nat)(z:List AV)(O:List ae)(K:KT):zf t s len z [] O K=k1 (.row O.length len) (O++ [.live t s z]) K:=by simp[zf,k1]
theorem ai6(t s len:Nat)(z:List AV)(i:Nat)(x:AV)(r:List (Nat×AV))(O:List ae)(K:KT):
 zf t s len z ((i,x)::r) O K=(x.cells.length=s/\x.storable=true/\i<z.length/\zf t s len (z.set i x) r O K):=by rw[zf]
theorem aco{e:Env}{O:List ae}{K:KT}(t s len:Nat):∀(ps:List (Nat×aE)) (z:List AV),lP e s z ps (λ xs=>K (.row O.length len) (O++ [.live t s xs]))=zf t s len z (ps.map λ p=>(p.1,p.2.ev e)) O K
 | [],z=>by simp[lP,zf]
 |(i,x)::r,z=>by simp only[lP,map_cons,zf,aco t s len r]
def nR(o:Option ae)(M:Nat->Nat->List AV->Prop):Prop:=match o with
 |some (.live t s xs)=>M t s xs
 |_=>False
def tb(o:Option ae)(N:Nat->Nat->Prop)(M:Nat->Nat->List AV->Prop):Prop:=match o with
 |some (.live t s xs)=>M t s xs
 |some (.nil t s)=>N t s
 |_=>False
theorem kF(t s:Nat)(xs:List AV)(N:Nat->Nat->Prop)(M:Nat->Nat->List AV->Prop):tb (some (.live t s xs)) N M=M t s xs:=nr rfl
theorem mq(t s:Nat)(N:Nat->Nat->Prop)(M:Nat->Nat->List AV->Prop):tb (some (.nil t s)) N M=N t s:=nr rfl
theorem gC(t s:Nat)(xs:List AV)(M:Nat->Nat->List AV->Prop):nR (some (.live t s xs)) M=M t s xs:=nr rfl
def agG(n:Option Nat)(a:AV)(O:List ae)(K:KT):Prop:=match a with
    | .bW y f=>f+n.getD 1<=y.cells.length/\K (dH n y f) O
    | .ptr k len i f=>nR O[k]? λ _ _ xs=>xs.length=len/\i<len/\f+n.getD 1<=(xs.getD i .top).cells.length/\K (dH n (xs.getD i .top) f) O
    |_=>False
theorem qC(n:Option Nat)(y:AV)(f:Nat)(O:List ae)(K:KT):agG n (.bW y f) O K=(f+n.getD 1<=y.cells.length/\k1 (dH n y f) O K):=nr rfl
theorem tk(n:Option Nat)(k len i f:Nat)(O:List ae)(K:KT):agG n (.ptr k len i f) O K=nR O[k]? λ _ _ xs=>xs.length=len/\i<len/\f+n.getD 1<=(xs.getD i .top).cells.length/\k1 (dH n (xs.getD i .top) f) O K:=nr rfl
def aeD(m:Nat)(a b:AV)(O:List ae)(K:KT):Prop:=match a with
    | .ptr k len i f=>nR O[k]? λ t s xs=>xs.length=len/\i<len/\b.cells.length=m/\b.storable=true/\f+m<=(xs.getD i .top).cells.length/\K .top (O.set k (.live t s (xs.set i (lN (xs.getD i .top) f b))))
    |_=>False
theorem qc(m k len i f:Nat)(b:AV)(O:List ae)(K:KT):aeD m (.ptr k len i f) b O K=nR O[k]? λ t s xs=>xs.length=len/\i<len/\b.cells.length=m/\b.storable=true/\f+m<=(xs.getD i .top).cells.length/\k1 .top (O.set k (.live t s (xs.set i (lN (xs.getD i .top) f b)))) K:=nr rfl
def eN(op:BinOp)(a b:AV)(O:List ae)(K:KT):Prop:=match a,b with
    | .v x,.v y=>match j8 op x y with
      |some z=>K (.v z) O
      |none=>False
    |_,_=>False
section
variable (k:IntKind) (a b:Int) (O:List ae) (K:KT)
theorem ad9:eN .add (.v (.int k a)) (.v (.int k b)) O K=k1 (.v (.int k (k.wrap (a+b)))) O K:=by simp[eN,j8,pz,BinOp.eh,k1]
theorem adW:eN .sub (.v (.int k a)) (.v (.int k b)) O K=k1 (.v (.int k (k.wrap (a- b)))) O K:=by simp[eN,j8,pz,BinOp.eh,k1]
theorem ad2:eN .mul (.v (.int k a)) (.v (.int k b)) O K=k1 (.v (.int k (k.wrap (a*b)))) O K:=by simp[eN,j8,pz,BinOp.eh,k1]
theorem ad8:eN .and (.v (.int k a)) (.v (.int k b)) O K=k1 (.v (.int k (k.wrap (BitVec.ofInt k.bits a&&&BitVec.ofInt k.bits b).toNat))) O K:=by simp[eN,j8,pz,BinOp.eh,k1]
theorem ag6:eN .or (.v (.int k a)) (.v (.int k b)) O K=k1 (.v (.int k (k.wrap (BitVec.ofInt k.bits a|||BitVec.ofInt k.bits b).toNat))) O K:=by simp[eN,j8,pz,BinOp.eh,k1]
theorem adV:eN .xor (.v (.int k a)) (.v (.int k b)) O K=k1 (.v (.int k (k.wrap (BitVec.ofInt k.bits a^^^BitVec.ofInt k.bits b).toNat))) O K:=by simp[eN,j8,pz,BinOp.eh,k1]
theorem ad0:eN .quo (.v (.int k a)) (.v (.int k b)) O K=(b≠0/\k1 (.v (.int k (k.wrap (a.tdiv b)))) O K):=by
 by_cases h:b=0<;>simp[eN,j8,pz,BinOp.eh,k1,h]
theorem adZ:eN .rem (.v (.int k a)) (.v (.int k b)) O K=(b≠0/\k1 (.v (.int k (a.tmod b))) O K):=by
 by_cases h:b=0<;>simp[eN,j8,pz,BinOp.eh,k1,h]
theorem ad7:eN .eql (.v (.int k a)) (.v (.int k b)) O K=k1 (.v (.bool (decide (a=b)))) O K:=by
 have:(a==b)=decide (a=b):=by by_cases h:a=b<;>simp[h]
 simp[eN,j8,pz,BinOp.eh,k1,this]
theorem ad1:eN .neq (.v (.int k a)) (.v (.int k b)) O K=k1 (.v (.bool (!decide (a=b)))) O K:=by
 have:(a !=b)= !decide (a=b):=by by_cases h:a=b<;>simp[h]
 simp[eN,j8,pz,BinOp.eh,k1,this]
theorem ad3:eN .lss (.v (.int k a)) (.v (.int k b)) O K=k1 (.v (.bool (decide (a<b)))) O K:=by simp[eN,j8,pz,BinOp.eh,k1]
theorem ad4:eN .leq (.v (.int k a)) (.v (.int k b)) O K=k1 (.v (.bool (decide (a<=b)))) O K:=by simp[eN,j8,pz,BinOp.eh,k1]
theorem ad5:eN .gtr (.v (.int k a)) (.v (.int k b)) O K=k1 (.v (.bool (decide (b<a)))) O K:=by simp[eN,j8,pz,BinOp.eh,k1]
theorem ad6:eN .geq (.v (.int k a)) (.v (.int k b)) O K=k1 (.v (.bool (decide (b<=a)))) O K:=by simp[eN,j8,pz,BinOp.eh,k1]
theorem adY(k':IntKind):eN .shl (.v (.int k a)) (.v (.int k' b)) O K=(0<=b/\k1 (.v (.int k (k.wrap (a*2^(min b.toNat k.bits))))) O K):=by
 by_cases h:0<=b<;>simp[eN,j8,agn,BinOp.eh,k1,h]
theorem adX(k':IntKind):eN .shr (.v (.int k a)) (.v (.int k' b)) O K=(0<=b/\k1 (.v (.int k (a.fdiv (2^(min b.toNat k.bits))))) O K):=by
 by_cases h:0<=b<;>simp[eN,j8,agn,BinOp.eh,k1,h]
end
theorem wq(a b:ByteArray):(a.toList==b.toList)=decide (a=b):=by
 rw[uU,uU];by_cases h:a=b
 ·simp[h]
 ·have:¬a.data=b.data:=λ h'=>h (by cases a;cases b;simpa using h')
  simp[h,this]
section
variable (a b:ByteArray) (O:List ae) (K:KT)
theorem aay:eN .add (.v (.string a)) (.v (.string b)) O K=(((a.size+b.size:Nat):Int)<=9223372036854775807/\k1 (.v (.string (a++b))) O K):=by
 have h3:IntKind.i64.max=9223372036854775807:=by decide
 by_cases h:((a.size+b.size:Nat):Int)<=9223372036854775807
 ·simp only[eN,j8,zo,k1,h3,if_pos h,h,if_true,true_and]
 ·simp only[eN,j8,zo,k1,h3,if_neg h,h,if_false,false_and]
theorem aax:eN .eql (.v (.string a)) (.v (.string b)) O K=k1 (.v (.bool (decide (a=b)))) O K:=by simp[eN,j8,zo,k1,wq]
theorem aaw:eN .neq (.v (.string a)) (.v (.string b)) O K=k1 (.v (.bool (!decide (a=b)))) O K:=by simp[eN,j8,zo,k1,wq]
end
def unK(op:UnOp)(a:AV)(O:List ae)(K:KT):Prop:=match a with
    | .v x=>match sun op x with
      |some z=>K (.v z) O
      |none=>False
    |_=>False
theorem agl(b:Bool)(O:List ae)(K:KT):unK .not (.v (.bool b)) O K=k1 (.v (.bool (!b))) O K:=nr rfl
theorem agm(k:IntKind)(n:Int)(O:List ae)(K:KT):unK .neg (.v (.int k n)) O K=k1 (.v (.int k (k.wrap (-n)))) O K:=by simp[unK,sun,k1]
def uV(k:IntKind)(a:AV)(O:List ae)(K:KT):Prop:=match a with
    | .v (.int _ n)=>K (.v (.int k (k.wrap n))) O
    |_=>False
theorem adD(k k':IntKind)(n:Int)(O:List ae)(K:KT):uV k (.v (.int k' n)) O K=k1 (.v (.int k (k.wrap n))) O K:=nr rfl
def abG(off:Nat)(a:AV)(O:List ae)(K:KT):Prop:=match a with
    | .bW y f=>K (.bW y (f+off)) O
    | .ptr n len i f=>nR O[n]? λ _ _ xs=>xs.length=len/\K (.ptr n len i (f+off)) O
    |_=>False
theorem oL(off:Nat)(y:AV)(f:Nat)(O:List ae)(K:KT):abG off (.bW y f) O K=k1 (.bW y (f+off)) O K:=nr rfl
theorem nf(off n len i f:Nat)(O:List ae)(K:KT):abG off (.ptr n len i f) O K=nR O[n]? λ _ _ xs=>xs.length=len/\k1 (.ptr n len i (f+off)) O K:=nr rfl
def aiE(off:Nat)(n:Option Nat)(a:AV)(O:List ae)(K:KT):Prop:=a.isAgg=true/\off+n.getD 1<=a.cells.length/\K (dH n a off) O
theorem agZ(off:Nat)(n:Option Nat)(a:AV)(O:List ae)(K:KT):aiE off n a O K=(a.isAgg=true/\off+n.getD 1<=a.cells.length/\k1 (dH n a off) O K):=nr rfl
def abu(s:Nat)(a i:AV)(O:List ae)(K:KT):Prop:=match a,i with
    | .sl xs,.v (.int _ i)=>0<=i/\i<xs.length/\(xs.getD i.toNat .top).cells.length=s/\K (.bW (xs.getD i.toNat .top) 0) O
    | .row n len,.v (.int _ i)=>nR O[n]? λ _ s' xs=>s'=s/\xs.length=len/\0<=i/\i<len/\K (.ptr n len i.toNat 0) O
    |_,_=>False
theorem z8(s:Nat)(xs:List AV)(k:IntKind)(i:Int)(O:List ae)(K:KT):abu s (.sl xs) (.v (.int k i)) O K=(0<=i/\i<xs.length/\(xs.getD i.toNat .top).cells.length=s/\k1 (.bW (xs.getD i.toNat .top) 0) O K):=nr rfl
theorem xU(s n len:Nat)(k:IntKind)(i:Int)(O:List ae)(K:KT):abu s (.row n len) (.v (.int k i)) O K=nR O[n]? λ _ s' xs=>s'=s/\xs.length=len/\0<=i/\i<len/\k1 (.ptr n len i.toNat 0) O K:=nr rfl
def uK(a i:AV)(O:List ae)(K:KT):Prop:=match a,i with
    | .v (.string s),.v (.int _ i)=>0<=i/\i<s.size/\K (.v (.int .u8 (s.data.toList.getD i.toNat 0).toNat)) O
    |_,_=>False
theorem ade(s:ByteArray)(k:IntKind)(i:Int)(O:List ae)(K:KT):uK (.v (.string s)) (.v (.int k i)) O K=(0<=i/\i<s.size/\k1 (.v (.int .u8 (s.data.toList.getD i.toNat 0).toNat)) O K):=nr rfl
def yJ(d:Int)(x:Option AV)(M:Int->Prop):Prop:=match x with
 |none=>M d
 |some (.v (.int _ i))=>M i
 |_=>False
theorem adT(d:Int)(M:Int->Prop):yJ d none M=M d:=nr rfl
theorem adS(d:Int)(k:IntKind)(i:Int)(M:Int->Prop):yJ d (some (.v (.int k i))) M=M i:=nr rfl
theorem yA(d:Int)(e:Env)(x:Option aE)(M:Int->Prop):fq d e x M=yJ d (x.map (aE.ev e)) M:=by
 cases x with
 |none=>rfl
 |some o=>
  simp only[fq,yJ,Option.map_some];cases o.ev e<;>try rfl
  rename_i v;cases v<;>rfl
def km(a:AV)(lo hi:Option AV)(O:List ae)(K:KT):Prop:=match a with
    | .v (.string s)=>yJ 0 lo λ l=>yJ s.size hi λ h=>0<=l/\l<=h/\h<=s.size/\K (.v (.string (s.extract l.toNat h.toNat))) O
    |_=>False
theorem wN(s:ByteArray)(lo hi:Option AV)(O:List ae)(K:KT):km (.v (.string s)) lo hi O K=yJ 0 lo λ l=>yJ s.size hi λ h=>0<=l/\l<=h/\h<=s.size/\k1 (.v (.string (s.extract l.toNat h.toNat))) O K:=nr rfl
def ko(s:Nat)(a:AV)(lo hi:Option AV)(O:List ae)(K:KT):Prop:=match a with
    | .sl xs=>yJ 0 lo λ l=>yJ xs.length hi λ h=>0<=l/\l<=h/\h<=xs.length/\(∀y∈xs,y.cells.length=s)/\K (.sl ((xs.take h.toNat).drop l.toNat)) O
    |_=>False
theorem wO(s:Nat)(xs:List AV)(lo hi:Option AV)(O:List ae)(K:KT):ko s (.sl xs) lo hi O K=yJ 0 lo λ l=>yJ xs.length hi λ h=>0<=l/\l<=h/\h<=xs.length/\(∀y∈xs,y.cells.length=s)/\k1 (.sl ((xs.take h.toNat).drop l.toNat)) O K:=nr rfl
def mkK(t s bytes:Nat)(z a b:AV)(O:List ae)(K:KT):Prop:=match a,b with
    | .v (.int .i64 n),.v (.int .i64 c)=>0<=n/\n<=c/\bytes*c<=2^48/\c<=maxLen/\K (.row O.length n.toNat) (O++ [.live t s (List.replicate n.toNat z)])
    |_,_=>False
theorem akG(t s bytes:Nat)(z:AV)(n c:Int)(O:List ae)(K:KT):mkK t s bytes z (.v (.int .i64 n)) (.v (.int .i64 c)) O K=(0<=n/\n<=c/\bytes*c<=281474976710656/\c<=9223372036854775807/\k1 (.row O.length n.toNat) (O++ [.live t s (List.replicate n.toNat z)]) K):=by
 have h1:((2:Int)^48)=281474976710656:=by decide
 have h2:((maxLen:Nat):Int)=9223372036854775807:=by decide
 simp only[mkK,h1,h2,k1]
def uF(a:AV)(O:List ae)(K:KT):Prop:=match a with
    | .v (.string s)=>K (.v (.int .i64 s.size)) O
    |_=>False
theorem ac3(s:ByteArray)(O:List ae)(K:KT):uF (.v (.string s)) O K=k1 (.v (.int .i64 s.size)) O K:=nr rfl
def lH(a:AV)(O:List ae)(K:KT):Prop:=match a with
    | .aQ=>K (.v (.int .i64 0)) O
    | .sl xs=>K (.v (.int .i64 xs.length)) O
    | .row n len=>tb O[n]? (λ _ _=>len=0/\K (.v (.int .i64 0)) O) λ _ _ xs=>xs.length=len/\K (.v (.int .i64 len)) O
    |_=>False
theorem xA(O:List ae)(K:KT):lH .aQ O K=k1 (.v (.int .i64 0)) O K:=nr rfl
theorem xz(xs:List AV)(O:List ae)(K:KT):lH (.sl xs) O K=k1 (.v (.int .i64 xs.length)) O K:=nr rfl
theorem ah8(n len:Nat)(O:List ae)(K:KT):lH (.row n len) O K=tb O[n]? (λ _ _=>len=0/\k1 (.v (.int .i64 0)) O K) λ _ _ xs=>xs.length=len/\k1 (.v (.int .i64 len)) O K:=nr rfl
def jV(O:List ae)(y:AV)(M:List AV->Prop):Prop:=match y with
 | .aQ=>M []
 | .sl ys=>M ys
 | .row n len=>tb O[n]? (λ _ _=>len=0/\M []) λ _ _ xs=>xs.length=len/\M xs
 |_=>False
theorem aeH(O:List ae)(M:List AV->Prop):jV O .aQ M=M []:=nr rfl
theorem wy(O:List ae)(ys:List AV)(M:List AV->Prop):jV O (.sl ys) M=M ys:=nr rfl
theorem sJ(O:List ae)(n len:Nat)(M:List AV->Prop):jV O (.row n len) M=tb O[n]? (λ _ _=>len=0/\M []) λ _ _ xs=>xs.length=len/\M xs:=nr rfl
def lB(O:List ae)(x:AV)(t s bytes:Nat)(ys:List AV)(K:KT):Prop:=match x with
 | .aQ=>ys.length*bytes<=140737488355328/\ys.length<=maxLen/\(ys= []->K .aQ O)/\(ys≠[]->K (.row O.length ys.length) (O++ [.live t s ys]))
 | .row n len=>tb O[n]? (λ t' s'=>t'=t/\s'=s/\len=0/\ys.length*bytes<=140737488355328/\ys.length<=maxLen/\(ys= []->K (.row n 0) O)/\(ys≠[]->K (.row n ys.length) (O.set n (.live t s ys)))) λ t' s' xs=>t'=t/\s'=s/\xs.length=len/\(len+ys.length)*bytes<=140737488355328/\len+ys.length<=maxLen/\
  K (.row n (len+ys.length)) (O.set n (.live t s (xs++ys)))
 |_=>False
theorem acC(O:List ae)(t s bytes:Nat)(y:AV)(ys:List AV)(K:KT):lB O .aQ t s bytes (y::ys) K=((y::ys).length*bytes<=140737488355328/\(y::ys).length<=maxLen/\k1 (.row O.length (y::ys).length) (O++ [.live t s (y::ys)]) K):=by
 simp[lB,k1]
theorem qv(O:List ae)(t s bytes:Nat)(ys:List AV)(K:KT):lB O .aQ t s bytes ys K=(ys.length*bytes<=140737488355328/\ys.length<=maxLen/\(ys= []->k1 .aQ O K)/\(ys≠[]->k1 (.row O.length ys.length) (O++ [.live t s ys]) K)):=nr rfl
theorem ta(O:List ae)(n len t s bytes:Nat)(ys:List AV)(K:KT):lB O (.row n len) t s bytes ys K=tb O[n]? (λ t' s'=>t'=t/\s'=s/\len=0/\ys.length*bytes<=140737488355328/\ys.length<=maxLen/\(ys= []->k1 (.row n 0) O K)/\(ys≠[]->k1 (.row n ys.length) (O.set n (.live t s ys)) K)) λ t' s' xs=>t'=t/\s'=s/\xs.length=len/\(len+ys.length)*bytes<=140737488355328/\len+ys.length<=maxLen/\
        k1 (.row n (len+ys.length)) (O.set n (.live t s (xs++ys))) K:=nr rfl
def avU(a:AV)(i:Nat)(O:List ae)(K:KT):Prop:=match a with
    | .aK vs=>i<vs.length/\K (vs.getD i .top) O
    |_=>False
theorem ag1(vs:List AV)(i:Nat)(O:List ae)(K:KT):avU (.aK vs) i O K=(i<vs.length/\k1 (vs.getD i .top) O K):=nr rfl
def acM(a:AV)(O:List ae)(K:KT):Prop:=match a with
    | .bW y f=>K (.bW y f) O
    | .fn f aX=>K (.fn f aX) O
    | .ptr n len i f=>nR O[n]? λ _ _ xs=>xs.length=len/\K (.ptr n len i f) O
    |_=>False
theorem qy(y:AV)(f:Nat)(O:List ae)(K:KT):acM (.bW y f) O K=k1 (.bW y f) O K:=nr rfl
theorem xo(f:FuncId)(cs:List AV)(O:List ae)(K:KT):acM (.fn f cs) O K=k1 (.fn f cs) O K:=nr rfl
theorem zJ(n len i f:Nat)(O:List ae)(K:KT):acM (.ptr n len i f) O K=nR O[n]? λ _ _ xs=>xs.length=len/\k1 (.ptr n len i f) O K:=nr rfl
def ag5(P:Program)(f:FuncId)(args:List AV)(O:List ae)(K:KT):Prop:=∃res O',js P f args O res O'/\K res O'
theorem aW{P:Program}{f:FuncId}{args:List AV}{O:List ae}{K:KT}(res:AV)(O':List ae)(h:js P f args O res O')(k:k1 res O' K):ag5 P f args O K:=⟨res,O',h,k⟩
def aaW(P:Program)(f:FuncId)(args:List AV)(O:List ae)(K:KT):Prop:=∃res,AV.ad args=true/\aI P f args res/\K res O
theorem kr{P:Program}{f:FuncId}{args:List AV}{O:List ae}{K:KT}(res:AV)(h:aI P f args res)(hn:AV.ad args=true)(k:k1 res O K):aaW P f args O K:=⟨res,hn,h,k⟩
def xe(P:Program)(f:FuncId)(ib args:List AV)(O:List ae)(K:KT):Prop:=∃res,AV.ad ib=true/\aI P f ib res/\K res (yK O args res)
theorem mK{P:Program}{f:FuncId}{ib args:List AV}{O:List ae}{K:KT}(res:AV)(h:aI P f ib res)(hn:AV.ad ib=true)(k:k1 res (yK O args res) K):xe P f ib args O K:=⟨res,hn,h,k⟩
def amv(P:Program)(x:AV)(args:List AV)(O:List ae)(K:KT):Prop:=match x with
 | .fn f aX=>ag5 P f (args++aX) O K
 |_=>False
theorem aiS(P:Program)(f:FuncId)(aX args:List AV)(O:List ae)(K:KT):amv P (.fn f aX) args O K=ag5 P f (args++aX) O K:=nr rfl
def agt(P:Program)(x:AV)(args:List AV)(O:List ae)(K:KT):Prop:=match x with
 | .fn f aX=>aaW P f (args++aX) O K
 |_=>False
theorem qo(P:Program)(f:FuncId)(aX args:List AV)(O:List ae)(K:KT):agt P (.fn f aX) args O K=aaW P f (args++aX) O K:=nr rfl
def agu(P:Program)(x:AV)(ib args:List AV)(O:List ae)(K:KT):Prop:=match x with
 | .fn f aX=>xe P f (ib++aX) args O K
 |_=>False
theorem qu(P:Program)(f:FuncId)(aX ib args:List AV)(O:List ae)(K:KT):agu P (.fn f aX) ib args O K=xe P f (ib++aX) args O K:=nr rfl
section
variable (P:Program) (e:Env) (O:List ae) (K:KT)
theorem aul(x:aE):wpOp P (.bt x) e O K=k1 (x.ev e) O K:=nr rfl
theorem ae7(c a b:aE):wpOp P (.pick c a b) e O K=nB (c.ev e) (a.ev e) (b.ev e) O K:=nr rfl
theorem aof(t s:Nat)(z:AV):wpOp P (.alloc t s z) e O K=k1 (.ptr O.length 1 0 0) (O++ [.live t s [z]]) K:=nr rfl
theorem auo(t s:Nat)(x:aE):wpOp P (.box t s x) e O K=av2 t s (x.ev e) O K:=nr rfl
theorem aoe(z:List AV)(ps:List (Nat×Nat×aE)):wpOp P (.build z ps) e O K=zg z (ps.map λ p=>(p.1,p.2.1,p.2.2.ev e)) O K:=yz ps z
theorem aa7(t s len:Nat)(z:AV)(ps:List (Nat×aE)):wpOp P (.buildSlice t s len z ps) e O K=zf t s len (List.replicate len z) (ps.map λ p=>(p.1,p.2.ev e)) O K:=aco t s len ps _
theorem o_load(n:Option Nat)(x:aE):wpOp P (.load n x) e O K=agG n (x.ev e) O K:=by
 simp only[wpOp,agG];cases x.ev e<;>first|rfl|(rename_i k l i f;cases O[k]? with|none=>rfl|some o=>cases o<;>rfl)
theorem aa5(m:Nat)(x y:aE):wpOp P (.store m x y) e O K=aeD m (x.ev e) (y.ev e) O K:=by
 simp only[wpOp,aeD];cases x.ev e<;>first|rfl|(rename_i k l i f;cases O[k]? with|none=>rfl|some o=>cases o<;>rfl)
theorem apQ(op:BinOp)(x y:aE):wpOp P (.bin op x y) e O K=eN op (x.ev e) (y.ev e) O K:=nr rfl
theorem aui(op:UnOp)(x:aE):wpOp P (.un op x) e O K=unK op (x.ev e) O K:=nr rfl
theorem aku(k:IntKind)(x:aE):wpOp P (.jo k x) e O K=uV k (x.ev e) O K:=nr rfl
theorem o4(off:Nat)(x:aE):wpOp P (.dz off x) e O K=abG off (x.ev e) O K:=by
 simp only[wpOp,abG];cases x.ev e<;>first|rfl|(rename_i k l i f;cases O[k]? with|none=>rfl|some o=>cases o<;>rfl)
theorem apO(off:Nat)(n:Option Nat)(x:aE):wpOp P (.yg off n x) e O K=aiE off n (x.ev e) O K:=nr rfl
def abV(m s:Nat)(a i:AV)(O:List ae)(K:KT):Prop:=match a,i with
 | .bW y f,.v (.int _ i)=>0<=i/\i<m/\K (.bW y (f+i.toNat*s)) O
 | .ptr n len j f,.v (.int _ i)=>nR O[n]? λ _ _ xs=>xs.length=len/\0<=i/\i<m/\K (.ptr n len j (f+i.toNat*s)) O
 |_,_=>False
theorem aed(m s:Nat)(y:AV)(f:Nat)(k:IntKind)(i:Int)(O:List ae)(K:KT):abV m s (.bW y f) (.v (.int k i)) O K=(0<=i/\i<m/\k1 (.bW y (f+i.toNat*s)) O K):=nr rfl
theorem agf(m s n len j f:Nat)(k:IntKind)(i:Int)(O:List ae)(K:KT):abV m s (.ptr n len j f) (.v (.int k i)) O K=nR O[n]? λ _ _ xs=>xs.length=len/\0<=i/\i<m/\k1 (.ptr n len j (f+i.toNat*s)) O K:=nr rfl
theorem aog(m s:Nat)(x y:aE):wpOp P (.u7 m s x y) e O K=abV m s (x.ev e) (y.ev e) O K:=by
 simp only[wpOp,abV];cases x.ev e<;>cases y.ev e<;>first|rfl|(rename_i v;cases v<;>first|rfl|(rename_i n len _ _ _ _;cases O[n]? with|none=>rfl|some o=>cases o<;>rfl))
theorem aa6(s:Nat)(x y:aE):wpOp P (.kf s x y) e O K=abu s (x.ev e) (y.ev e) O K:=by
 simp only[wpOp,abu];cases x.ev e<;>cases y.ev e<;>first|rfl|(rename_i v;cases v<;>first|rfl|(rename_i n len _ _;cases O[n]? with|none=>rfl|some o=>cases o<;>rfl))
theorem akt(x y:aE):wpOp P (.eB x y) e O K=uK (x.ev e) (y.ev e) O K:=nr rfl
theorem acG(x:aE)(lo hi:Option aE):wpOp P (.cL x lo hi) e O K=km (x.ev e) (lo.map (aE.ev e)) (hi.map (aE.ev e)) O K:=by simp only[wpOp,km,yA];cases x.ev e<;>first|rfl|(rename_i v;cases v<;>rfl)
theorem acH(s:Nat)(x:aE)(lo hi:Option aE):wpOp P (.cw s x lo hi) e O K=ko s (x.ev e) (lo.map (aE.ev e)) (hi.map (aE.ev e)) O K:=by simp only[wpOp,ko,yA];cases x.ev e<;>rfl
theorem aun(t s b:Nat)(z:AV)(x y:aE):wpOp P (.mk t s b z x y) e O K=mkK t s b z (x.ev e) (y.ev e) O K:=nr rfl
theorem aks(x:aE):wpOp P (.dI x) e O K=uF (x.ev e) O K:=nr rfl
theorem ae8(x:aE):wpOp P (.cz x) e O K=lH (x.ev e) O K:=by
 simp only[wpOp,lH];cases x.ev e<;>first|rfl|(rename_i k l;cases O[k]? with|none=>rfl|some o=>cases o<;>rfl)
theorem akv(t s b:Nat)(x y:aE):wpOp P (.app t s b x y) e O K=jV O (y.ev e) λ ys=>(∀y∈ys,y.cells.length=s)/\lB O (x.ev e) t s b ys K:=by
 have h:∀ys,gY O (x.ev e) t s b ys K=lB O (x.ev e) t s b ys K:=by
  intro ys;unfold gY lB;cases x.ev e<;>first|rfl|(rename_i k l;cases O[k]? with|none=>rfl|some o=>cases o<;>rfl)
 simp only[wpOp,h];unfold qd jV;cases y.ev e<;>first|rfl|(rename_i k l;cases O[k]? with|none=>rfl|some o=>cases o<;>rfl)
theorem apP(x:aE)(i:Nat):wpOp P (.ext x i) e O K=avU (x.ev e) i O K:=nr rfl
theorem akq(x:aE):wpOp P (.ov x) e O K=acM (x.ev e) O K:=by
 simp only[wpOp,acM];cases x.ev e<;>first|rfl|(rename_i k l i f;cases O[k]? with|none=>rfl|some o=>cases o<;>rfl)
theorem akr(f:FuncId)(cs:List aE):wpOp P (.tj f cs) e O K=k1 (.fn f (cs.map (aE.ev e))) O K:=nr rfl
theorem arp(f:FuncId)(as:List aE):wpOp P (.call f as) e O K=ag5 P f (as.map (aE.ev e)) O K:=nr rfl
theorem aod(x:aE)(as:List aE):wpOp P (.eJ x as) e O K=amv P (x.ev e) (as.map (aE.ev e)) O K:=nr rfl
theorem agB(f:FuncId)(as:List aE):wpOp P (.lA f as) e O K=xe P f (as.map λ x=>jl O (x.ev e)) (as.map (aE.ev e)) O K:=nr rfl
theorem xl(x:aE)(as:List aE):wpOp P (.jf x as) e O K=agu P (x.ev e) (as.map λ x=>jl O (x.ev e)) (as.map (aE.ev e)) O K:=nr rfl
theorem agA(f:FuncId)(as:List aE):wpOp P (.jX f as) e O K=aaW P f (as.map (aE.ev e)) O K:=nr rfl
theorem xk(x:aE)(as:List aE):wpOp P (.ik x as) e O K=agt P (x.ev e) (as.map (aE.ev e)) O K:=nr rfl
end
def ak0(P:Program)(d:Option Nat)(e:Env)(r:List aN)(Q:Env->List ae->Prop):KT:=λ x O'=>Go.Ab.wpOps P r (bI e d x) O' Q
theorem aoC(P:Program)(d:Option Nat)(e:Env)(r:List aN)(Q:Env->List ae->Prop)(a:AV)(O:List ae):k1 a O (ak0 P d e r Q)=Go.Ab.wpOps P r (bI e d a) O Q:=nr rfl
theorem aev(P:Program)(d:Option Nat)(op:dZ)(e:Env)(O:List ae)(r:List aN)(Q:Env->List ae->Prop):Go.Ab.wpOps P (⟨none,d,op⟩::r) e O Q=wpOp P op e O (ak0 P d e r Q):=nr rfl
def vH(P:Program)(a:AV)(want:Bool)(t:Nat)(d:Option Nat)(op:dZ)(r:List aN)(e:Env)(O:List ae)(Q:Env->List ae->Prop):Prop:=match a with
 | .v (.bool b)=>
   (b=want->wpOp P op (e.set t (.v (.bool want))) O (ak0 P d (e.set t (.v (.bool want))) r Q))/\
   (b= !want->Go.Ab.wpOps P r (bI (e.set t (.v (.bool (!want)))) d (.aK [])) O Q)
 | .aK []=>Go.Ab.wpOps P r (bI e d (.aK [])) O Q
 |_=>False
section
variable (P:Program) (t:Nat) (d:Option Nat) (op:dZ) (r:List aN) (e:Env) (O:List ae) (Q:Env->List ae->Prop)
theorem apr(want:Bool):Go.Ab.wpOps P (⟨some (t,want),d,op⟩::r) e O Q=vH P (e t) want t d op r e O Q:=by
 rw[ab8];unfold vH;cases e t<;>try rfl
theorem ao3:vH P (.v (.bool true)) true t d op r e O Q=wpOp P op (e.set t (.v (.bool true))) O (ak0 P d (e.set t (.v (.bool true))) r Q):=by simp[vH]
theorem ao6:vH P (.v (.bool false)) false t d op r e O Q=wpOp P op (e.set t (.v (.bool false))) O (ak0 P d (e.set t (.v (.bool false))) r Q):=by simp[vH]
theorem ao4:vH P (.v (.bool true)) false t d op r e O Q=Go.Ab.wpOps P r (bI (e.set t (.v (.bool true))) d (.aK [])) O Q:=by simp[vH]
theorem ao5:vH P (.v (.bool false)) true t d op r e O Q=Go.Ab.wpOps P r (bI (e.set t (.v (.bool false))) d (.aK [])) O Q:=by simp[vH]
theorem aix(want:Bool):vH P (.aK []) want t d op r e O Q=Go.Ab.wpOps P r (bI e d (.aK [])) O Q:=by simp[vH]
variable {P t d op r e O Q}
end
def aaq(P:Program)(n0:Nat)(a:AV)(t f:aO)(Q:AX->Env->List ae->Prop)(e:Env)(O:List ae):Prop:=match a with
 | .v (.bool b)=>(b=true->ln P n0 t Q e O)/\(b=false->ln P n0 f Q e O)
 |_=>False
def anz(P:Program)(n0:Nat)(b:aO)(Q:AX->Env->List ae->Prop):AX->Env->List ae->Prop:=λ x e O=>match x with| .normal=>ln P n0 b Q e O|x=>Q x e O
def abR(id:Nat)(Q:AX->Env->List ae->Prop):AX->Env->List ae->Prop:=λ x e O=>match x with| .exit i=>if i=id then Q .normal e O else Q (.exit i) e O|x=>Q x e O
def agK(l:List Nat)(Q:AX->Env->List ae->Prop):AX->Env->List ae->Prop:=λ x e O=>match x with| .normal=>Q .normal (r7 l e) O|x=>Q x e O
section
variable (P:Program) (n0:Nat) (Q:AX->Env->List ae->Prop) (e:Env) (O:List ae)
theorem asG(c:aE)(t f:aO):ln P n0 (.cond c t f) Q e O=aaq P n0 (c.ev e) t f Q e O:=nr rfl
theorem af0(t f:aO):aaq P n0 (.v (.bool true)) t f Q e O=ln P n0 t Q e O:=by simp[aaq]
theorem adE(t f:aO):aaq P n0 (.v (.bool false)) t f Q e O=ln P n0 f Q e O:=by simp[aaq]
theorem av1(a b:aO):ln P n0 (.seq a b) Q e O=ln P n0 a (anz P n0 b Q) e O:=nr rfl
theorem aps(id:Nat)(b:aO):ln P n0 (.block id b) Q e O=ln P n0 b (abR id Q) e O:=nr rfl
theorem asE(l:List Nat)(c:aO):ln P n0 (.aU l c) Q e O=ln P n0 c (agK l Q) e O:=nr rfl
theorem aqX(b:aO):anz P n0 b Q .normal e O=ln P n0 b Q e O:=nr rfl
theorem aqY(b:aO)(i:Nat):anz P n0 b Q (.exit i) e O=Q (.exit i) e O:=nr rfl
theorem aqW(b:aO):anz P n0 b Q .ret e O=Q .ret e O:=nr rfl
theorem amH(id:Nat):abR id Q .normal e O=Q .normal e O:=nr rfl
theorem amI(id i:Nat):abR id Q (.exit i) e O=if i=id then Q .normal e O else Q (.exit i) e O:=nr rfl
theorem amG(id:Nat):abR id Q .ret e O=Q .ret e O:=nr rfl
theorem aoz(l:List Nat):agK l Q .normal e O=Q .normal (r7 l e) O:=nr rfl
theorem aoA(l:List Nat)(i:Nat):agK l Q (.exit i) e O=Q (.exit i) e O:=nr rfl
theorem aoy(l:List Nat):agK l Q .ret e O=Q .ret e O:=nr rfl
variable {P n0 Q e O}
theorem j4{b:Bool}{t f:aO}(h:b=true->ln P n0 t Q e O)(h':b=false->ln P n0 f Q e O):aaq P n0 (.v (.bool b)) t f Q e O:=⟨h,h'⟩
end
section
variable {ι:Type} (n0:Nat) (D:ι->Prop) (σ:ι->Env) (τ:ι->List ae) (μ:ι->Nat) (i:ι) (Q:AX->Env->List ae->Prop) (e:Env) (O:List ae)
theorem ajV(k:Nat):wT n0 D σ τ μ i Q (.exit k) e O=Q (.exit k) e O:=nr rfl
theorem ajU:wT n0 D σ τ μ i Q .ret e O=Q .ret e O:=nr rfl
variable {n0 D σ τ μ i Q e O}
theorem dD(j:ι)(h:D j)(h1:μ j<μ i)(h2:WK n0 e O (σ j) (τ j)):wT n0 D σ τ μ i Q .normal e O:=⟨j,h,h1,h2⟩
end
def apS(P:Program)(n0:Nat)(Q:AX->Env->List ae->Prop)(e:Env)(O:List ae)(b:aO):Prop:=ln P n0 (.loop b) Q e O
theorem asC(P:Program)(n0:Nat)(Q:AX->Env->List ae->Prop)(e:Env)(O:List ae)(b:aO):ln P n0 (.loop b) Q e O=apS P n0 Q e O b:=nr rfl
theorem lE{P:Program}{n0:Nat}{b:aO}{Q:AX->Env->List ae->Prop}{e:Env}{O:List ae}{ι:Type}(D:ι->Prop)(σ:ι->Env)(τ:ι->List ae)(μ:ι->Nat)(i0:ι)
 (hd:D i0) (h0:WK n0 e O (σ i0) (τ i0)) (hr:∀i,D i->ln P n0 b (wT n0 D σ τ μ i Q) (σ i) (τ i)):apS P n0 Q e O b:=ajA D σ τ μ i0 hd h0 hr
theorem oB{m:Nat}{x:AV}(h:x.isAgg=true)(h':x.cells.length=m):dH (some m) x 0=x:=by simp[dH,h,h']
theorem fZ(x:AV)(f:Nat):dH none x f=x.cells.getD f .top:=nr rfl
theorem zl{x y:AV}(h:y.cells.length=x.cells.length):lN x 0 y=y:=by simp[lN,h]
theorem aat(cs:List AV):(AV.agg cs).cells=cs:=nr rfl
theorem bp(x:Value):(AV.v x).cells= [.v x]:=nr rfl
theorem yy:AV.aQ.cells= [.aQ]:=nr rfl
theorem adJ(xs:List AV):(AV.sl xs).cells= [.sl xs]:=nr rfl
theorem aiM(n l:Nat):(AV.row n l).cells= [.row n l]:=nr rfl
theorem aiN(n l i f:Nat):(AV.ptr n l i f).cells= [.ptr n l i f]:=nr rfl
theorem adK(f:FuncId)(cs:List AV):(AV.fn f cs).cells= [.fn f cs]:=nr rfl
theorem z7(cs:List AV):(AV.agg cs).isAgg=true:=nr rfl
theorem xL(x:Value):(AV.v x).cI=true:=nr rfl
theorem uI:AV.aQ.cI=true:=nr rfl
theorem zZ(xs:List AV):(AV.sl xs).cI=true:=nr rfl
theorem afy(n l:Nat):(AV.row n l).cI=true:=nr rfl
theorem afz(n l i f:Nat):(AV.ptr n l i f).cI=true:=nr rfl
theorem z6(f:FuncId)(cs:List AV):(AV.fn f cs).cI=true:=nr rfl
theorem rh(cs:List AV):(AV.agg cs).storable=cs.all AV.cI:=nr rfl
theorem wx(x:Value):(AV.v x).storable=true:=nr rfl
theorem pE:AV.aQ.storable=true:=nr rfl
theorem uk(xs:List AV):(AV.sl xs).storable=true:=nr rfl
theorem aaF(n l:Nat):(AV.row n l).storable=true:=nr rfl
theorem aaG(n l i f:Nat):(AV.ptr n l i f).storable=true:=nr rfl
theorem um(f:FuncId)(cs:List AV):(AV.fn f cs).storable=true:=nr rfl
theorem aai{O:List ae}{a:AV}(h:a.ag=true):jl O a=a:=by
 cases a<;>first|rfl|(simp[AV.ag]at h;done)
theorem sE{O:List ae}{args:List AV}{res:AV}(h:res.flat=true):yK O args res=O:=by simp[yK,h]
theorem qV{O:List ae}{args:List AV}{res:AV}(h:AV.ad args=true):yK O args res=O:=by
 unfold yK
 split
 ·rfl
 ·induction args with
  |nil=>rfl
  |cons a as ih=>
   simp only[AV.ad,and_eq_true]at h;have:eM O a=O:=by cases a<;>first|rfl|(simp[AV.ag]at h;done)
   simp only[List.foldl_cons,this];exact ih h.2
theorem asm(x:Value):(AV.v x).flat=true:=nr rfl
theorem afa:AV.ad []=true:=nr rfl
theorem acL(x:AV)(xs:List AV):AV.ad (x::xs)=(x.ag&&AV.ad xs):=nr rfl
theorem aok(x:Value):(AV.v x).ag=true:=nr rfl
theorem aky(xs:List AV):(AV.sl xs).ag=AV.ad xs:=nr rfl
theorem ah0(xs:List AV):(AV.agg xs).ag=AV.ad xs:=nr rfl
theorem ahY(xs:List AV):(AV.aK xs).ag=AV.ad xs:=nr rfl
theorem afc:AV.aQ.ag=true:=nr rfl
theorem akz(f:FuncId)(cs:List AV):(AV.fn f cs).ag=AV.ad cs:=nr rfl
theorem ani{n:Int}(h: -9223372036854775808<=n)(h':n<=9223372036854775807):IntKind.i64.wrap n=n:=by
 rw[IntKind.wrap_i64];omega
section
variable (n0:Nat) (rs:List ff) (res:AV) (O':List ae) (e:Env) (O:List ae)
end
theorem agr{n0 t:Nat}{res:AV}{O':List ae}{x:AX}(hx:x= .ret∨x= .normal){e:Env}{O:List ae}(h:e t=res)(hO:O.take n0=O')(hk:n0<=O.length)(hb:∀ob∈O',ob.inScope n0=true)(hs:res.inScope n0=true):
  lQ n0 [.tmp t] res O' x e O:=by
 have:fi e O [.tmp t] [] λ xs=>∃e',WK n0 (λ t=>if t=0 then b4 xs else .top) O e' O'/\e' 0=res:=by
  simp only[fi,ff.get,List.reverse_cons,List.reverse_nil,nil_append,b4];refine⟨λ t=>if t=0 then res else .top,WK.forget hO (le_refl _) hk hb λ t=> ?_,rfl⟩;by_cases ht:t=0
  ·subst ht;exact .inr ⟨by simp[h],by simpa using hs⟩
  ·exact .inl (by simp[ht])
 rcases hx with rfl|rfl<;>exact this
theorem akf{t:Nat}{res:AV}{x:AX}(hx:x= .ret∨x= .normal){e:Env}{O:List ae}(h:e t=res)(hs:res.ag=true):lQ 0 [.tmp t] res [] x e O:=
 agr hx h rfl (Nat.zero_le _) (by simp) (bF _ hs)
end Go.Ab
namespace Go.Ab
def fz(O:List ae):Nat->AV->AV
 |0,a=>a
 |k+1,.row n len=>match O[n]? with
  |some (.live _ _ xs)=>if xs.length=len then .sl (xs.map (fz O k))else .row n len
  |some (.nil _ _)=>if len=0 then .sl []else .row n len
  |_=> .row n len
 |_+1,.aQ=> .sl []
 |k+1,.agg cs=> .agg (cs.map (fz O k))
 |k+1,.aK vs=> .aK (vs.map (fz O k))
 |_+1,a=>a
open Classical in
noncomputable def allI (I:da) (L:Nat->Loc) (O:List ae) (w:World):da:=λ b o=>if LB L O b then w.cell? ⟨b,o,none⟩else I b o
theorem sD{I:da}{L:Nat->Loc}{O:List ae}{w:World}(hi:Inv I L O w):∀b o x,I b o=some x->allI I L O w b o=some x:=by
 intro b o x hx;unfold allI
 split
 ·exact hi.iy b o x hx
 ·exact hx
theorem Good.all{I0 I:da}{L0 L:Nat->Loc}{O:List ae}{w0 w:World}(h:Good I0 L0 [] w0 I L O w):Good I0 L0 [] w0 (allI I L O w) L [] w:=by
 refine⟨⟨λ b o x hx=> ?_,by simp,by simp,by simp,λ p hp=>sD h.inv _ _ _ (h.inv.fix p hp),h.inv.sC (sD h.inv),.no (by simp),.no (by simp)⟩,⟨λ b o x hx=>sD h.inv _ _ _ (h.ext.iy _ _ _ hx),by simp,by simp,by simp,by simp,by simp⟩,h.mE,?_,λ b o x hx=> ?_⟩
 ·unfold allI at hx
  split at hx
  ·exact hx
  ·exact h.inv.iy b o x hx
 ·exact λ b hb=>(oU hb).elim
 ·unfold allI at hx
  split at hx
  ·rename_i hlb;rcases h.lb b hlb with h1|h1
   ·exact(oU h1).elim
   ·exact .inr (.inr h1)
  ·exact h.iM b o x hx
theorem acs(e:Env)(O:List ae)(acc:List AV)(M:List AV->Prop):fi e O [] acc M=M acc.reverse:=nr rfl
theorem acq(e:Env)(O:List ae)(t:Nat)(rs:List ff)(acc:List AV)(M:List AV->Prop):fi e O (.tmp t::rs) acc M=fi e O rs (e t::acc) M:=nr rfl
def af3(o:Option ae)(n:Option Nat)(K:AV->Prop):Prop:=match o with
 |some (.live _ _ [x])=>n.getD 1<=x.cells.length/\K (dH n x 0)
 |_=>False
def aqh(a:AV)(O:List ae)(n:Option Nat)(K:AV->Prop):Prop:=match a with
 | .ptr k 1 0 0=>af3 O[k]? n K
 |_=>False
theorem ahw(e:Env)(O:List ae)(t:Nat)(n:Option Nat)(rs:List ff)(acc:List AV)(M:List AV->Prop):fi e O (.cell t n::rs) acc M=aqh (e t) O n λ x=>fi e O rs (x::acc) M:=nr rfl
theorem aiR(k:Nat)(O:List ae)(n:Option Nat)(K:AV->Prop):aqh (.ptr k 1 0 0) O n K=af3 O[k]? n K:=nr rfl
theorem adL(t s:Nat)(x:AV)(n:Option Nat)(K:AV->Prop):af3 (some (.live t s [x])) n K=(n.getD 1<=x.cells.length/\K (dH n x 0)):=nr rfl
theorem ahP(x:AV):b4 [x]=x:=nr rfl
theorem ae5(x y:AV)(l:List AV):b4 (x::y::l)= .aK (x::y::l):=nr rfl
theorem avR(O:List ae)(x:Value):jl O (.v x)= .v x:=nr rfl
theorem asf(O:List ae)(xs:List AV):jl O (.sl xs)= .sl xs:=nr rfl
theorem alY(O:List ae):jl O .aQ= .aQ:=nr rfl
theorem ao7(O:List ae)(xs:List AV):jl O (.agg xs)= .agg xs:=nr rfl
theorem asg(O:List ae)(f:FuncId)(xs:List AV):jl O (.fn f xs)= .fn f xs:=nr rfl
theorem mF{a b y:AV}{cs:List AV}{i:Nat}(hy:y.cells= [y])(h:i<(a::b::cs).length):lN (.agg (a::b::cs)) i y= .agg ((a::b::cs).set i y):=by
 unfold lN;rw[hy,if_neg (by simp[AV.cells])];simp only[AV.cells,List.length_singleton,List.append_assoc,List.singleton_append];rw[List.set_eq_take_append_cons_drop,if_pos h]
theorem atA{a b:AV}{cs:List AV}{i:Nat}(x:Value)(h:i<(a::b::cs).length):lN (.agg (a::b::cs)) i (.v x)= .agg ((a::b::cs).set i (.v x)):=mF rfl h
theorem aqF{a b:AV}{cs:List AV}{i:Nat}(x:List AV)(h:i<(a::b::cs).length):lN (.agg (a::b::cs)) i (.sl x)= .agg ((a::b::cs).set i (.sl x)):=mF rfl h
theorem ajD{a b:AV}{cs:List AV}{i:Nat}(h:i<(a::b::cs).length):lN (.agg (a::b::cs)) i .aQ= .agg ((a::b::cs).set i .aQ):=mF rfl h
theorem anm{a b:AV}{cs:List AV}{i:Nat}(n l:Nat)(h:i<(a::b::cs).length):lN (.agg (a::b::cs)) i (.row n l)= .agg ((a::b::cs).set i (.row n l)):=mF rfl h
theorem ann{a b:AV}{cs:List AV}{i:Nat}(n l j f:Nat)(h:i<(a::b::cs).length):lN (.agg (a::b::cs)) i (.ptr n l j f)= .agg ((a::b::cs).set i (.ptr n l j f)):=mF rfl h
theorem aqG{a b:AV}{cs:List AV}{i:Nat}(f:FuncId)(l:List AV)(h:i<(a::b::cs).length):lN (.agg (a::b::cs)) i (.fn f l)= .agg ((a::b::cs).set i (.fn f l)):=mF rfl h
theorem anp{cs ds:List AV}{i:Nat}(h:i≠0):lN (.agg cs) i (.agg ds)= .agg (cs.take i++(ds++cs.drop (i+ds.length))):=by
 unfold lN;rw[if_neg (by simp[h])];simp[AV.cells]
theorem ajE{cs ds:List AV}(h:ds.length<cs.length):lN (.agg cs) 0 (.agg ds)= .agg (ds++cs.drop ds.length):=by
 unfold lN;rw[if_neg (by simp[AV.cells];omega)];simp[AV.cells]
theorem WK.abB{n0:Nat}{O O':List ae}(k:Nat){l l':List (Nat×AV)}(h:ng l'=ng l)(hO:O.take k=O')(h0:n0<=k)(hk:k<=O.length)(hb:O'.all (λ ob=>ob.inScope k)=true)
  (hs:l.all (λ p=>p.2.inScope k)=true):WK n0 (ng l') O (ng l) O':=by
 rw[h];refine .forget hO h0 hk (λ ob ho=>List.all_eq_true.1 hb ob ho) λ t=> ?_
 have key:ng l t= .top∨(ng l t).inScope k=true:=by
  clear h
  induction l with
  |nil=>exact .inl rfl
  |cons p l ih=>
   obtain⟨q,a⟩:=p;simp only[List.all_cons,and_eq_true]at hs;simp only[pj]
   split
   ·exact .inr hs.1
   ·exact ih hs.2
 exact key.imp id λ h=>⟨rfl,h⟩
theorem ayU(n:Nat):decide ((n:Int)<0)=false:=by simp
end Go.Ab
namespace Go.Ab
theorem WK.select{e e':Env}{O O1:List ae}(s:Nat->Nat)(hg:∀i,i<O1.length->O[s i]? =(O1[i]?).map (ae.bO s))(abv:∀i j,i<O1.length->j<O1.length->s i=s j->i=j)
  (hsO:∀ob∈O1,ob.inScope O1.length=true) (he:∀t,e' t= .top∨(e t=(e' t).bO s/\(e' t).inScope O1.length=true)):WK 0 e O e' O1:=by
 intro I0 L0 O0 w0 I L w f hl iN hr;obtain rfl:O0= []:=List.eq_nil_of_length_eq_zero hl;have hi:=iN.inv
 have gz:∀{n e k ys},O1[n]? =some (.live e k ys)->O[s n]? =some (.live e k (ys.map (AV.bO s))):=by
  intro n e k ys hn;rw[hg n (List.getElem?_eq_some_iff.1 hn).1,hn];rfl
 have iI:∀{n:Nat} {a:AV},O1[n]? =some (.own a)->O[s n]? =some (.own a):=by
  intro n a hn;rw[hg n (List.getElem?_eq_some_iff.1 hn).1,hn];rfl
 have mZ:∀{n:Nat} {g:fT},O1[n]? =some (.cN g)->O[s n]? =some (.cN (g.bO s)):=by
  intro n a hn;rw[hg n (List.getElem?_eq_some_iff.1 hn).1,hn];rfl
 have un:∀{a:AV} {x:Value},R I L O (a.bO s) x->a.inScope O1.length=true->R I (λ n=>L (s n)) O1 a x:=λ hr hsc=>R.ajF hg (λ _ _=>rfl) hr _ rfl hsc
 refine⟨I,λ n=>L (s n),⟨⟨hi.iy,λ n e k ys hn=> ?_,λ n n' e k ys e' k' pV hn mw hb=> ?_,λ n e k ys o hn=>hi.dT _ _ _ _ o (gz hn),hi.fix,hi.bc,
  ⟨λ n a hn=>hi.ow.tree _ a (iI hn),λ n a hn=>hi.ow.cell _ a (iI hn),λ n a hn=>hi.ow.iy _ a (iI hn),λ n a hn b o v hv m e k xs hm=>hi.ow.live _ a (iI hn) b o v hv _ _ _ _ (gz hm),
   λ n m a c hn hm b o o' v v' hv qX=>abv _ _ (List.getElem?_eq_some_iff.1 hn).1 (List.getElem?_eq_some_iff.1 hm).1 (hi.ow.sep _ _ a c (iI hn) (iI hm) b o o' v v' hv qX),λ n a hn=>hi.ow.deep _ a (iI hn)⟩,
  ⟨λ n g hn=>(hi.gh.ok _ _ (mZ hn)).un (λ _ _ hr hsc=>un hr hsc) (hsO _ (mem_of_getElem? hn)),λ n m a c hn hm hb=>abv _ _ (List.getElem?_eq_some_iff.1 hn).1 (List.getElem?_eq_some_iff.1 hm).1 (hi.gh.sep _ _ _ _ (mZ hn) (mZ hm) hb)⟩⟩,⟨iN.ext.iy,by simp,by simp,by simp,by simp,by simp⟩,iN.mE,?_,iN.iM⟩,λ t=> ?_⟩
 ·obtain⟨c,⟨j5,q1,dn⟩,q2,q3,q4,q5,q6⟩:=hi.obj _ _ _ _ (gz hn);refine⟨c,⟨j5,q1,dn⟩,q2,by simpa using q3,q4,q5,λ i x hx=> ?_⟩;have jj:(ys.map (AV.bO s))[i]? =some (x.bO s):=by rw[getElem?_map,hx];rfl
  obtain⟨r1,r2⟩:=q6 i _ jj;rw[du,List.length_map]at r1;refine⟨r1,λ j a ha=> ?_⟩;obtain⟨y,hy,ho,lI⟩:=r2 j (a.bO s) (by rw[du,getElem?_map,ha];rfl);have hbo:=hsO _ (mem_of_getElem? hn);exact⟨y,hy,ho,un lI (b7 (bP hbo x (mem_of_getElem? hx)) a (mem_of_getElem? ha))⟩
 ·exact abv _ _ (List.getElem?_eq_some_iff.1 hn).1 (List.getElem?_eq_some_iff.1 mw).1 (hi.sep _ _ _ _ _ _ _ _ (gz hn) (gz mw) hb)
 ·rintro b (⟨n,e,k,xs,hn,hb⟩|⟨n,a,o,v,hn,hb⟩|⟨n,a,hn,hb⟩)
  ·exact iN.lb b (.inl ⟨s n,_,_,_,gz hn,hb⟩)
  ·exact iN.lb b (.inr (.inl ⟨s n,a,o,v,iI hn,hb⟩))
  ·exact iN.lb b (.inr (.inr ⟨s n,_,mZ hn,hb⟩))
 ·rcases he t with h|⟨h,h'⟩
  ·rw[h];exact .top _
  ·have:=hr t;rw[h]at this;exact un this h'
end Go.Ab
namespace Go.Ab
open Go.ChangeShapes Go.WideShapes
section
variable {H:Type} {enc:TypeId×Value->H} {P:Program}
theorem pD(hl:laidOutB P=true){W W':World}{sp':Nat->Bool}:∀{ts:List TypeId} {vs:List Value} {ds:List (DataW H)} {ps:List MemPlace},(∀t∈ts,P.readableRec t=true/\t<P.types.size)->
  DataW.TrodAll enc P W 0 (λ _=>true) true ts vs ds ps->(∀p∈ps,W.sameAt W' p)->(∀p∈ps,sp' p.block=true)->DataW.TrodAll enc P W' 0 sp' true ts vs ds ps
 | [],_,_,_,_,h,_,_=>by
   obtain⟨rfl,rfl,rfl⟩:=trodAll_nil h;exact trodAll_mk0
 |t::ts,_,_,_,ht,h,hs,hp=>by
  obtain⟨v,vs,d,ds,p,q,rfl,rfl,rfl,h0,h1⟩:=trodAll_cons h;obtain⟨a,b⟩:=ht t List.mem_cons_self
  exact⟨p,q,WideElems.Trod_stays hl a b h0 (λ x hx=>hs x (mem_append_left _ hx)) (λ x hx=>hp x (mem_append_left _ hx)),
   pD hl (λ t' h'=>ht t' (List.mem_cons_of_mem _ h')) h1 (λ x hx=>hs x (List.mem_append_right _ hx)) (λ x hx=>hp x (List.mem_append_right _ hx)),rfl⟩
theorem akX{f:Func}{s:ChangeSpec}{apart fresh handsOn again:Bool}{W W':World}{args:Array Value}{ds gs:List (DataW H)}{before:List MemPlace}(hl:laidOutB P=true)
  (hts:∀t∈f.params.toList,P.readableRec t=true/\t<P.types.size) (hv:s.vars= []) (hW:DataW.Whole enc P f.params.toList s.vars apart W args.toList ds gs before) (hb:RowKit.Below W.heap.size W W')
  {t:TypeId} (hr:f.resultTypes= #[t]) (ht:P.underlying t=some .bool) (hfn:s.fn H (ds++gs)={results:=[.lit (.bool true)],args:=ds}):
  s.post enc P f apart fresh handsOn again W args (.bool true) W':=by
 have au:=hW.lt;have hold:∀p∈before,(λ b=>decide (b<W.heap.size)) p.block=true:=λ p hp=>by simpa using au p hp
 have hW0:=hW;obtain⟨p,q,hA,hV,rfl,hz,hn⟩:=hW0;rw[hv]at hV;obtain⟨rfl,rfl⟩:=trodVars_none hV
 have iu:∀sp:Nat->Bool,(∀x∈p,sp x.block=true)->DataW.TrodAll enc P W' 0 sp true f.params.toList args.toList ds p:=λ sp hsp=>
  pD hl hts hA (λ x hx=>hb.same (au x (mem_append_left _ hx))) hsp
 have mW:∀(b:Nat) (sp:Nat->Bool) (hd:Bool),DataW.TrodAll enc P W' b sp hd f.resultTypes.toList ((Value.bool true).resultList f.resultTypes.size) [.lit (.bool true)] []:=by
  intro b sp hd;rw[hr];refine trodAll_mk1 ⟨1,?_⟩;simp[DataW.trod,ht,Value.cells]
 have apZ:∀sp:Nat->Bool,DataW.TrodVars enc P W' sp s.vars [] []:=by
  intro sp;rw[hv];exact rfl
 refine⟨ds,[],p++ [],[],p,[],hW,by rw[hfn];exact mW _ _ _,by rw[hfn];exact iu _ (λ x hx=>hold x (mem_append_left _ hx)),by rw[hfn];exact apZ _,World.keptBut_mono (λ x hx=>hx) (hb.frame _),λ _=> ?_⟩;refine⟨?_,[.lit (.bool true)]++ds,[],([]++p)++ [],⟨[]++p,[],trodAll_append (iu _ (λ _ _=>rfl)) (mW _ _ _),apZ _,rfl,?_,?_⟩,?_⟩
 ·intro j t' r h1 h2;rw[hr]at h1 h2;cases j with
  |zero=>
   simp[Value.resultList]at h1 h2;subst h1;subst h2;exact RowKit.okWide_bool_mk ht true
  |succ j=>simp at h1
 ·intro b off hp;have hp':MemPlace.cell b off∈p++ []:=by simpa using hp
  rw[hb.frozen (au _ hp')];exact hz b off hp'
 ·intro ha;have:=hn ha;simpa using this
 ·intro x hx _;simpa using hx
mutual
def vL:DataW H->Nat
 | .lit (.string bytes)=>bytes.length+1
 | .lit _=>1
 | .nil=>1
 | .ptr d=>vL d+1
 | .slice elems spare=>pn elems+pn spare+1
 | .agg parts=>pn parts+1
 | .iface _ d=>vL d+1
 | .map _=>1
 | .held _=>1
def pn:List (DataW H)->Nat
 | []=>0
 |d::r=>vL d+pn r
end
def ah4(w:World):da:=λ b o=>w.cell? ⟨b,o,none⟩
theorem akM(L:Nat->Loc)(w:World)(hf:∀p∈k9,w.cell? ⟨p.1,p.2.1,none⟩=some p.2.2)(hq:∀q∈kK,fA w q.1=some q.2/\∃v,ah4 w q.1 0=some v/\adq q.1 v=true):Inv (ah4 w) L [] w:=⟨λ _ _ _ h=>h,by simp,by simp,by simp,hf,hq,.no (by simp),.no (by simp)⟩
def RdC(w:World)(as:List AV)(cs:List Value):Prop:=
 as.length=cs.length/\∀(j:Nat) c y,as[j]? =some c->cs[j]? =some y->y.oneCell'=true/\∀L,R (ah4 w) L [] c y
theorem RdC.one{w:World}{a:AV}{y:Value}(h:y.oneCell'=true)(hr:∀L,R (ah4 w) L [] a y):RdC w [a] [y]:=by
 refine⟨rfl,λ j c z hc hz=> ?_⟩;cases j with
 |zero=>simp at hc hz;subst hc;subst hz;exact⟨h,hr⟩
 |succ j=>simp at hc
theorem RdC.append{w:World}{as bs:List AV}{cs ds:List Value}(h:RdC w as cs)(k:RdC w bs ds):RdC w (as++bs) (cs++ds):=by
 refine⟨by simp[h.1,k.1],λ j c y hc hy=> ?_⟩;by_cases hj:j<as.length
 ·rw[List.getElem?_append_left hj]at hc;rw[List.getElem?_append_left (by rw[←h.1];exact hj)]at hy;exact h.2 j c y hc hy
 ·rw[List.getElem?_append_right (by omega)]at hc;rw[List.getElem?_append_right (by rw[←h.1];omega),←h.1]at hy;exact k.2 _ c y hc hy
theorem RdC.part{w:World}{as bs:List AV}{cs:List Value}(o n:Nat)(h:RdC w as ((cs.drop o).take n))(k:RdC w bs (cs.drop (o+n))):RdC w (as++bs) (cs.drop o):=by
 have:=h.append k;rwa [←List.drop_drop,List.take_append_drop]at this
def Rd(enc:TypeId×Value->H)(P:Program)(w:World)(f:Nat)(t:TypeId){α:Type}(cells:α->List AV)(wt:α->Nat)(ok:α->Prop):Prop:=
 ∀cs x,DataW.trod enc P w 0 (λ _=>true) true f t cs=some x->∃y:α,RdC w (cells y) cs/\wt y<=vL x.1/\ok y
theorem ahz{w:World}{f:Nat}{t:TypeId}(ht:P.underlying t=some .string):Rd enc P w f t (λ s:ByteArray=>[.v (.string s)]) (λ s=>s.size+1) (λ _=>True):=by
 intro cs x h;obtain⟨s,rfl,rfl,_⟩:=DataW.trod_string ht h;refine⟨s,.one rfl λ L=> .v _ rfl,?_,trivial⟩;simp only[vL];rw[Array.length_toList];exact le_refl _
theorem yg{w:World}{n:Nat}{cs:List Value}{fs:Array Field}{xs:List (DataW H×List MemPlace)}
  (hf:∀(i:Nat) (f:Field),fs[i]? =some f->DataW.trod enc P w 0 (λ _=>true) true n f.type ((cs.drop f.offset).take (P.cellsOf f.type))=xs[i]?)
  (i:Nat) {f:Field} (h:fs[i]? =some f) {t:TypeId} {o s:Nat} (ht:f.type=t) (ho:f.offset=o) (hs:P.cellsOf t=s):DataW.trod enc P w 0 (λ _=>true) true n t ((cs.drop o).take s)=xs[i]? :=by
 have:=hf i f h;rwa [ht,ho,hs]at this
end
end Go.Ab
namespace Go.Ab
def sp(n:Nat):List AV->List AV×List ae
 | []=>([],[])
 | .v x::r=>(.v x::(sp n r).1,(sp n r).2)
 |a::r=>(.own n::(sp (n+1) r).1,.own a::(sp (n+1) r).2)
def ay3(O:List ae)(c d:AV):Prop:=(c=d/\∃v,d= .v v)∨∃k,c= .own k/\O[k]? =some (.own d)
structure Split(O:List ae)(ys xs:List AV):Prop where
 len:ys.length=xs.length
 cells:∀(i:Nat) y x,ys[i]? =some y->xs[i]? =some x->y.cells.length=x.cells.length
 half:∀(i:Nat) y x (j:Nat) c d,ys[i]? =some y->xs[i]? =some x->y.cells[j]? =some c->x.cells[j]? =some d->ay3 O c d
 inj:∀(i:Nat) y (j:Nat) i' y' j' k,ys[i]? =some y->y.cells[j]? =some (.own k)->ys[i']? =some y'->y'.cells[j']? =some (.own k)->i=i'/\j=j'
section
variable {P:Program} {I:da} {L:Nat->Loc} {O:List ae} {w:World}
theorem acB(hi:Inv I L O w){k:Nat}{d:AV}(hk:O[k]? =some (.own d)){y:Value}(hr:R I L O (.own k) y):y=(L k).val:=by
 cases hr with
 |eL=>rfl
 |fD _ g h=>rw[hk]at h;cases h
 |dO _ _ _ h=>exact(h _ hk).elim
open Classical in
theorem Inv.asy(hi:Inv I L O w){k e s:Nat}{ys xs:List AV}(hk:O[k]? =some (.live e s ys))(hs:Split O ys xs):
  ∃S:Nat->Prop,OT w (.sl xs) (.slice (some ⟨(L k).bc,0,none⟩) xs.length (L k).cap) S/\∀b,S b->LB L O b:=by
 obtain⟨c,⟨j5,h1,dn⟩,h2,h3,h4,h5,h6⟩:=hi.obj k e s ys hk;by_cases hx:xs= []
 ·subst hx;exact⟨_,.me _ _,λ b h=>h.elim⟩
 let bB:Nat->Nat->Value:=λ i j=>(c[i*s+j]?).getD undef
 let nm:Nat->Nat->Option Nat:=λ i j=>match ys[i]? with
  |some y=>match y.cells[j]? with
   |some (.own m)=>some m
   |_=>none
  |none=>none
 let S:Nat->Nat->Nat->Prop:=λ i j b=>∃m,nm i j=some m/\∃o v,(L m).mem b o=some v
 have nm1:∀{i j m:Nat},nm i j=some m->∃y,ys[i]? =some y/\y.cells[j]? =some (.own m):=by
  intro i j m h;simp only[nm]at h;cases hy:ys[i]? with
  |none=>simp[hy]at h
  |some y=>
   simp only[hy]at h;cases hc:y.cells[j]? with
   |none=>simp[hc]at h
   |some a=>
    simp only[hc]at h;cases a<;>simp at h
    subst h;exact⟨y,rfl,hc⟩
 have pair:∀{i:Nat} {x:AV},xs[i]? =some x->∃y,ys[i]? =some y:=by
  intro i x h;have:=(List.getElem?_eq_some_iff.1 h).1;exact⟨ys[i]'(by rw[hs.len];exact this),by simp[hs.len,this]⟩
 have at0:∀{i:Nat} {x y:AV} {j:Nat} {a:AV},xs[i]? =some x->ys[i]? =some y->x.cells[j]? =some a->∃b,y.cells[j]? =some b:=by
  intro i x y j a h h' ha;have:=(List.getElem?_eq_some_iff.1 ha).1;have hl:=hs.cells i y x h' h;exact⟨y.cells[j]'(by rw[hl];exact this),by simp[hl,this]⟩
 have at1:∀{i:Nat} {y:AV},ys[i]? =some y->∃x,xs[i]? =some x:=by
  intro i x h;have:=(List.getElem?_eq_some_iff.1 h).1;exact⟨xs[i]'(by rw[←hs.len];exact this),by simp[←hs.len,this]⟩
 have aq7:∀{i:Nat} {x y:AV} {j:Nat} {a:AV},xs[i]? =some x->ys[i]? =some y->y.cells[j]? =some a->∃b,x.cells[j]? =some b:=by
  intro i x y j a h h' ha;have:=(List.getElem?_eq_some_iff.1 ha).1;have hl:=hs.cells i y x h' h;exact⟨x.cells[j]'(by rw[←hl];exact this),by simp[←hl,this]⟩
 have half:∀{i:Nat} {x:AV} {j:Nat} {a:AV},xs[i]? =some x->x.cells[j]? =some a->c[i*s+j]? =some (bB i j)/\(bB i j).oneCell'=true/\
   ((nm i j=none/\∃v,a= .v v/\v=bB i j)∨∃m,nm i j=some m/\O[m]? =some (.own a)/\bB i j=(L m).val):=by
  intro i x j a hxi ha;obtain⟨y,hy⟩:=pair hxi;obtain⟨b,hb⟩:=at0 hxi hy ha;obtain⟨z,hz,ho,hr⟩:=(h6 i y hy).2 j b hb;have hv:bB i j=z:=by simp[bB,hz]
  rw[hv];refine⟨hz,ho,?_⟩;rcases hs.half i y x j b a hy hxi hb ha with⟨rfl,v,rfl⟩|⟨m,rfl,hm⟩
  ·refine .inl ⟨by simp only[nm,hy,hb],v,rfl,?_⟩;cases hr;rfl
  ·exact .inr ⟨m,by simp only[nm,hy,hb],hm,acB hi hm hr⟩
 have sep:∀{i j m:Nat} {x a:AV},xs[i]? =some x->x.cells[j]? =some a->nm i j=some m->O[m]? =some (.own a):=by
  intro i j m x a hxi ha hm;rcases(half hxi ha).2.2 with⟨h,_⟩|⟨m',h,h',_⟩
  ·rw[hm]at h;cases h
  ·rw[hm]at h;cases h;exact h'
 have deep:∀{i j m:Nat},nm i j=some m->∃x a:AV,xs[i]? =some x/\x.cells[j]? =some a/\O[m]? =some (.own a):=by
  intro i j m hm;obtain⟨y,hy,hc⟩:=nm1 hm;obtain⟨x,hx⟩:=at1 hy;obtain⟨a,ha⟩:=aq7 hx hy hc;exact⟨x,a,hx,ha,sep hx ha hm⟩
 refine⟨λ b=>b=(L k).bc∨∃i j,S i j b,.sl xs (L k).bc (L k).cap s e c bB S j5 h1 dn h2 (by rw[←hs.len];exact h3) h4 h5 hx (λ i x hxi=> ?_) (λ i x j a hxi ha=>⟨(half hxi ha).1,(half hxi ha).2.1⟩) (λ i x j a hxi ha=> ?_)
  (λ i j b hb=> ?_) (λ i j hb=> ?_) (λ i j i' j' b hb jr=> ?_),?_⟩
 ·obtain⟨y,hy⟩:=pair hxi;rw[←hs.cells i y x hy hxi];exact(h6 i y hy).1
 ·rcases(half hxi ha).2.2 with⟨hn,v,rfl,hv⟩|⟨m,hm,hO,hv⟩
  ·have:S i j=λ _=>False:=by
     funext b;simp only[S,hn];simp
   rw[this,←hv];exact .v v (by have:=(half hxi ha).2.1;rw[←hv]at this;exact this)
  ·obtain⟨T,t1,t2⟩:=hi.ow.deep m a hO
   have:S i j=T:=by
    funext b
    simp only[S,hm,Option.some.injEq,exists_eq_left'];exact propext (t2 b).symm
   rw[this,hv];exact t1
 ·obtain⟨m,hm,_⟩:=hb;obtain⟨x,a,h1,h2,_⟩:=deep hm;exact⟨x,a,h1,h2⟩
 ·obtain⟨m,hm,o,v,hv⟩:=hb;obtain⟨x,a,_,_,hO⟩:=deep hm;exact hi.ow.live m a hO _ o v hv k _ _ _ hk rfl
 ·obtain⟨m,hm,o,v,hv⟩:=hb;obtain⟨m',hm',o',v',qX⟩:=jr;obtain⟨x,a,_,_,hO⟩:=deep hm;obtain⟨x',a',_,_,hO'⟩:=deep hm';have:=hi.ow.sep m m' a a' hO hO' b o o' v v' hv qX;subst this;obtain⟨y,hy,hc⟩:=nm1 hm;obtain⟨y',pN,oI⟩:=nm1 hm';exact hs.inj i y j i' y' j' m hy hc pN oI
 ·rintro b (rfl|⟨i,j,m,hm,o,v,hv⟩)
  ·exact .inl ⟨k,e,s,ys,hk,rfl⟩
  ·obtain⟨x,a,_,_,hO⟩:=deep hm;exact .inr (.inl ⟨m,a,o,v,hO,hv⟩)
end
end Go.Ab
namespace Go.Ab
inductive Frz(O:List ae):AV->AV->Prop
 |same (a:AV):a.ag=true->Frz O a a
 |own (n:Nat) (b:AV):O[n]? =some (.own b)->Frz O (.own n) b
 |row (n len e s:Nat) (xs:List AV):O[n]? =some (.live e s xs)->xs.length=len->AV.ad xs=true->Frz O (.row n len) (.sl xs)
 |nil (n e s:Nat):O[n]? =some (.nil e s)->Frz O (.row n 0) (.sl [])
 |deep (n len e s:Nat) (ys xs:List AV):O[n]? =some (.live e s ys)->ys.length=len->Split O ys xs->Frz O (.row n len) (.sl xs)
 |agg (as bs:List AV):as.length=bs.length->(∀(i:Nat) a b,as[i]? =some a->bs[i]? =some b->Frz O a b)->Frz O (.agg as) (.agg bs)
mutual
def AV.dj:AV->Bool
 | .top| .v _| .aQ| .row _ _| .ptr _ _ _ _| .own _| .oF=>true
 | .sl _| .bW _ _=>false
 | .fn _ cs=>AV.fF cs
 | .agg cs=>AV.fF cs
 | .aK cs=>AV.fF cs
def AV.fF:List AV->Bool
 | []=>true
 |x::xs=>x.dj&&AV.fF xs
end
theorem gD:∀{xs:List AV},AV.fF xs=true->∀x∈xs,x.dj=true
 | [],_,x,h=>by simp at h
 |y::ys,h,x,hx=>by
  simp only[AV.fF,and_eq_true]at h;rcases List.mem_cons.1 hx with rfl|hx
  ·exact h.1
  ·exact gD h.2 x hx
theorem yX{x:AV}(h:x.dj=true):∀c∈x.cells,c.dj=true:=by
 cases x<;>simp only[AV.cells]<;>intro c hc
 case agg cs=>exact gD (by simpa [AV.dj]using h) c hc
 all_goals (simp at hc;subst hc;exact h)
def ae.dj:ae->Bool
 | .live _ _ xs=>AV.fF xs
 | .cN _=>false
 |_=>true
section
variable {P:Program} {I J:da} {L:Nat->Loc} {O:List ae} {w:World}
theorem R.dj{a:AV}{x:Value}(hr:R I L O a x):a.dj=true->R J L O a x:=by
 induction hr with
 |top x=>intro _;exact .top x
 |v x h=>intro _;exact .v x h
 |aQ=>intro _;exact .aQ
 |oF t x=>intro _;exact .oF t x
 |me=>intro h;simp[AV.dj]at h
 |sl=>intro h;simp[AV.dj]at h
 |bW=>intro h;simp[AV.dj]at h
 |bV n len e s xs h1 h2=>intro _;exact .bV n len e s xs h1 h2
 |eb n e s h1=>intro _;exact .eb n e s h1
 |dN n len x h1 h2 h3 h4=>intro _;exact .dN n len x h1 h2 h3 h4
 |di n len i f e s xs h1 h2=>intro _;exact .di n len i f e s xs h1 h2
 |fa n len i f x h1 h2 h3 h4=>intro _;exact .fa n len i f x h1 h2 h3 h4
 |fn f aX vs h1 _ ih=>intro h;exact .fn f aX vs h1 λ i c x hc hx=>ih i c x hc hx (gD (by simpa [AV.dj]using h) c (mem_of_getElem? hc))
 |agg cs vs h1 _ ih=>intro h;exact .agg cs vs h1 λ i c x hc hx=>ih i c x hc hx (gD (by simpa [AV.dj]using h) c (mem_of_getElem? hc))
 |aK cs vs h1 _ ih=>intro h;exact .aK cs vs h1 λ i c x hc hx=>ih i c x hc hx (gD (by simpa [AV.dj]using h) c (mem_of_getElem? hc))
 |eL n a h1 h2=>intro _;exact .eL n a h1 h2
 |fD n g h1=>intro _;exact .fD n g h1
 |dO n x h1 h2 h3 h4=>intro _;exact .dO n x h1 h2 h3 h4
theorem R.ald(h:∀b o x,I b o=some x->J b o=some x){a:AV}{x:Value}(hr:R I L O a x):R J L O a x:=
 R.mono ⟨h,le_refl _,λ _ _ _ _ xs h=> .inl ⟨xs,h,le_refl _,λ _=>rfl⟩,λ _ _ _ _ h=>h,λ _ _ a h=>⟨⟨a,h⟩,rfl⟩,λ _ _ a h=>⟨⟨a,h,rfl⟩,rfl⟩⟩ hr
open Classical in
noncomputable def rQ (I:da) (L:Nat->Loc) (O:List ae) (w:World):da:=λ b o=>if LB L O b then w.cell? ⟨b,o,none⟩else I b o
theorem rP(hi:Inv I L O w):∀b o x,I b o=some x->rQ I L O w b o=some x:=by
 intro b o x hx;unfold rQ
 split
 ·exact hi.iy b o x hx
 ·exact hx
theorem xy{b o:Nat}{v:Value}(hb:LB L O b)(hv:w.cell? ⟨b,o,none⟩=some v):rQ I L O w b o=some v:=by
 unfold rQ;rw[if_pos hb];exact hv
theorem ah7(hi:Inv I L O w):Inv (rQ I L O w) L [] w:=by
 refine⟨λ b o x hx=> ?_,by simp,by simp,by simp,λ p hp=>rP hi _ _ _ (hi.fix p hp),hi.sC (rP hi),.no (by simp),.no (by simp)⟩;unfold rQ at hx
 split at hx
 ·exact hx
 ·exact hi.iy b o x hx
theorem Frz.sound(hi:Inv I L O w){a b:AV}(hf:Frz O a b):∀{x:Value},R I L O a x->R (rQ I L O w) L [] b x:=by
 have hle:=rP hi
 induction hf with
 |same a hn=>intro x hr;exact hr.ag hle hn
 |own n b hO=>
  intro x hr;rw[acB hi hO hr];exact(hi.ow.tree n b hO L []).ald λ p o v hv=>xy (.inr (.inl ⟨n,b,o,v,hO,hv⟩)) (hi.ow.cell n b hO p o v hv)
 |row n len e s xs hO hl hn=>
  intro x hr;have:=hr.e9 hO hl;subst this;obtain⟨c,⟨j5,h1,dn⟩,h2,h3,h4,h5,h6⟩:=hi.obj n e s xs hO;by_cases hx:xs= []
  ·subst hx;simp at hl;subst hl;exact .me _ _
  ·subst hl;refine(.sl xs (L n).bc 0 (L n).cap s (λ i j=>(c[i*s+j]?).getD undef) h3 hx (λ i x hx=>(h6 i x hx).1) (λ i x j d hx hj=> ?_) λ i x j d hx hj=> ?_)
   ·obtain⟨y,hy,ho,_⟩:=(h6 i x hx).2 j d hj;refine⟨?_,by rw[hy];exact ho⟩;rw[hy,zero_add];exact xy (.inl ⟨n,e,s,xs,hO,rfl⟩) (by rw[dV h1,hy];rfl)
   ·obtain⟨y,hy,ho,lI⟩:=(h6 i x hx).2 j d hj;rw[hy];exact lI.ag hle (fb (a8 hn x (mem_of_getElem? hx)) d (mem_of_getElem? hj))
 |nil n e s hO=>
  intro x hr;obtain⟨rfl,_⟩:=hr.lz hO;exact .me _ _
 |deep n len e s ys xs hO hl hs=>
  intro x hr;have:=hr.e9 hO hl;subst this;obtain⟨S,h1,h2⟩:=hi.asy hO hs;rw[←hl,hs.len];exact h1.read _ _ _ λ b o v hb hv=>xy (h2 b hb) hv
 |agg as bs hl h ih=>
  intro x hr;cases hr with
  |agg _ vs hv hr=>
   refine .agg bs vs (by omega) λ i c y hc hy=> ?_
   have au:=(List.getElem?_eq_some_iff.1 hc).1;obtain⟨a,ha⟩:∃a,as[i]? =some a:=⟨as[i]'(by omega),by simp<;>omega⟩;exact ih i a c ha hc (hr i a y ha hy)
end
theorem js.auE{P:Program}{f:FuncId}{args ib:List AV}{res:AV}{O O1:List ae}(h:js P f ib [] res O1)(hl:args.length=ib.length)(hf:∀(i:Nat) a b,args[i]? =some a->ib[i]? =some b->Frz O a b)
  (mW:res.dj=true) (hO1:O1.all ae.dj=true):js P f args O (res.bO λ n=>O.length+n) (O++O1.map (ae.bO λ n=>O.length+n)):=by
 refine⟨h.1,λ I L w vs hi hr=> ?_⟩
 have nF:RL (rQ I L O w) L [] ib vs:=by
  refine⟨by rw[←hl];exact hr.1,λ i b x hb hx=> ?_⟩;have au:=(List.getElem?_eq_some_iff.1 hb).1;obtain⟨a,ha⟩:∃a,args[i]? =some a:=⟨args[i]'(by omega),by simp<;>omega⟩;exact(hf i a b ha hb).sound hi (hr.2 i a x ha hx)
 refine(h.2 _ _ _ _ (ah7 hi) nF).mono ?_;rintro z w' ⟨y,I',L',rfl,hy,hg⟩;have k8:∀b,b<w.heap.size->w'.heap[b]? =w.heap[b]? :=λ b hb=>hg.mE.block b hb oU
 have aur:∀{b o x},I b o=some x->¬LB L O b:=by
  rintro b o x hx (⟨n,e,s,xs,hn,hb⟩|⟨n,a,o',v,hn,hv⟩|⟨n,g,hn,hb⟩)
  ·rw[←hb,hi.dT n e s xs o hn]at hx;cases hx
  ·rw[hi.ow.iy n a hn b o' v hv o]at hx;cases hx
  ·have h3:=(hi.gh.ok n g hn).no.cell (o:=o);rw[hb,hi.iy _ _ _ hx]at h3;cases h3
 have apU:∀{b},LB L O b->b<w.heap.size:=by
  rintro b (⟨n,e,s,xs,hn,hb⟩|⟨n,a,o',v,hn,hv⟩|⟨n,g,hn,hb⟩)
  ·obtain⟨c,⟨j5,h1,dn⟩,_⟩:=hi.obj n e s xs hn;rw[←hb];exact(Array.getElem?_eq_some_iff.1 h1).1
  ·exact gm (hi.ow.cell n a hn b o' v hv)
  ·rw[←hb];exact(hi.gh.ok n g hn).no.1
 have agI:∀{b},LB L' O1 b->w.heap.size<=b:=λ hb=>by
  rcases hg.lb _ hb with h1|h1
  ·exact(oU h1).elim
  ·exact h1
 open Classical in
 let J:da:=λ b o=>if LB L O b then none else I' b o
 have hJ':∀b o x,J b o=some x->I' b o=some x/\¬LB L O b:=by
  intro b o x hx;simp only[J]at hx
  split at hx
  ·cases hx
  ·exact⟨hx,by assumption⟩
 have hIJ:∀b o x,I b o=some x->J b o=some x:=by
  intro b o x hx;simp only[J];rw[if_neg (aur hx)];exact hg.ext.iy b o x (rP hi b o x hx)
 let s:Nat->Nat:=λ n=>O.length+n
 let O2:=O++O1.map (ae.bO s)
 let L2:Nat->Loc:=λ n=>if n<O.length then L n else L' (n- O.length)
 have v8:∀{n},n<O.length->L2 n=L n:=λ h=>if_pos h
 have L2n:∀n,L2 (s n)=L' n:=λ n=>by
  show(if O.length+n<O.length then _ else L' (O.length+n- O.length))=_;rw[if_neg (by omega),Nat.add_sub_cancel_left]
 have vN:∀{n},n<O.length->O2[n]? =O[n]? :=λ h=>List.getElem?_append_left h
 have O2n:∀n,O2[s n]? =(O1[n]?).map (ae.bO s):=λ n=>by
  show(O++O1.map (ae.bO s))[O.length+n]? =_;rw[List.getElem?_append_right (by omega),Nat.add_sub_cancel_left,getElem?_map]
 have cls:∀n,(n<O.length)∨∃m,n=s m:=λ n=>by
  by_cases h:n<O.length
  ·exact .inl h
  ·exact .inr ⟨n- O.length,by show n=O.length+(n- O.length);omega⟩
 have dp:Ext I L O J L2 O2:=by
  refine⟨hIJ,by simp[O2],λ n hn e k xs hx=> ?_,λ n hn e k hx=> ?_,λ n hn a hx=> ?_,λ n hn a hx=>by
   rw[vN hn]at hx;exact⟨⟨a,hx,rfl⟩,by rw[v8 hn]⟩⟩
  ·rw[vN hn]at hx;exact .inl ⟨xs,hx,le_refl _,λ _=>v8 hn⟩
  ·rw[vN hn]at hx;exact hx
  ·rw[vN hn]at hx;exact⟨⟨a,hx⟩,by rw[v8 hn]⟩
 have fwd:∀{a:AV} {x:Value},a.dj=true->R I' L' O1 a x->R J L2 O2 (a.bO s) x:=λ hm hr=>
  (hr.dj (J:=J) hm).bO (λ n hn=>by show O.length+n<(O++_).length;simp;exact hn) (λ n hn=>O2n n) λ n hn=>L2n n
 have rO:∀{m e k:Nat} {xs:List AV},O2[s m]? =some (.live e k xs)->∃ys,O1[m]? =some (.live e k ys)/\xs=ys.map (AV.bO s):=by
  intro m e k xs hx;rw[O2n,map_eq_some_iff]at hx;obtain⟨ob,q1,q2⟩:=hx;cases ob<;>simp[ae.bO]at q2
  obtain⟨rfl,rfl,rfl⟩:=q2;exact⟨_,q1,rfl⟩
 have xh:∀{m:Nat} {a:AV},O2[s m]? =some (.own a)->O1[m]? =some (.own a):=by
  intro m a hx;rw[O2n,map_eq_some_iff]at hx;obtain⟨ob,q1,q2⟩:=hx;cases ob<;>simp[ae.bO]at q2
  subst q2;exact q1
 have aus:∀{m:Nat} {a:fT},O2[s m]? ≠some (.cN a):=by
  intro m a hx;rw[O2n,map_eq_some_iff]at hx;obtain⟨ob,q1,q2⟩:=hx;cases ob<;>simp[ae.bO]at q2
  have:=List.all_eq_true.1 hO1 _ (mem_of_getElem? q1);simp[ae.dj]at this
 have pP:∀{n e k:Nat} {xs:List AV},O[n]? =some (.live e k xs)->(L n).bc<w.heap.size:=λ hn=>apU (.inl ⟨_,_,_,_,hn,rfl⟩)
 have lV:∀{n:Nat} {a:AV} {b o:Nat} {v:Value},O[n]? =some (.own a)->(L n).mem b o=some v->b<w.heap.size:=λ hn hv=>apU (.inr (.inl ⟨_,_,_,_,hn,hv⟩))
 have akB:∀{n e k:Nat} {xs:List AV},O1[n]? =some (.live e k xs)->w.heap.size<=(L' n).bc:=λ hn=>agI (.inl ⟨_,_,_,_,hn,rfl⟩)
 have ars:∀{n:Nat} {a:AV} {b o:Nat} {v:Value},O1[n]? =some (.own a)->(L' n).mem b o=some v->w.heap.size<=b:=λ hn hv=>agI (.inr (.inl ⟨_,_,_,_,hn,hv⟩))
 have how:Own J L2 O2 w':=by
  refine⟨λ n a hn=> ?_,λ n a hn b o v hv=> ?_,λ n a hn b o v hv o'=> ?_,λ n a hn b o v hv m e k xs hm hb=> ?_,λ n m a c hn hm b o o' v v' hv qX=> ?_,λ n a hn=> ?_⟩
  ·rcases cls n with au|⟨m,rfl⟩
   ·rw[vN au]at hn;rw[v8 au];exact hi.ow.tree n a hn
   ·rw[L2n];exact hg.inv.ow.tree m a (xh hn)
  ·rcases cls n with au|⟨m,rfl⟩
   ·rw[vN au]at hn;rw[v8 au]at hv;rw[←hi.ow.cell n a hn b o v hv];exact World.cell?_of_block (a:=⟨b,o,none⟩) (k8 b (lV hn hv))
   ·rw[L2n]at hv;exact hg.inv.ow.cell m a (xh hn) b o v hv
  ·rcases cls n with au|⟨m,rfl⟩
   ·rw[vN au]at hn;rw[v8 au]at hv;simp only[J];rw[if_pos (.inr (.inl ⟨n,a,o,v,hn,hv⟩))]
   ·rw[L2n]at hv;simp only[J]
    split
    ·rfl
    ·exact hg.inv.ow.iy m a (xh hn) b o v hv o'
  ·rcases cls n with au|⟨n',rfl⟩<;>rcases cls m with gV|⟨m',rfl⟩
   ·rw[vN au]at hn;rw[v8 au]at hv;rw[vN gV]at hm;rw[v8 gV]at hb;exact hi.ow.live n a hn b o v hv m e k xs hm hb
   ·rw[vN au]at hn;rw[v8 au]at hv;rw[L2n]at hb;obtain⟨ys,q1,_⟩:=rO hm;have:=akB q1;have:=lV hn hv;omega
   ·rw[L2n]at hv;rw[vN gV]at hm;rw[v8 gV]at hb;have:=ars (xh hn) hv;have:=pP hm;omega
   ·rw[L2n]at hv hb;obtain⟨ys,q1,_⟩:=rO hm;exact hg.inv.ow.live n' a (xh hn) b o v hv m' _ _ _ q1 hb
  ·rcases cls n with au|⟨n',rfl⟩<;>rcases cls m with gV|⟨m',rfl⟩
   ·rw[vN au]at hn;rw[v8 au]at hv;rw[vN gV]at hm;rw[v8 gV]at qX;exact hi.ow.sep n m a c hn hm b o o' v v' hv qX
   ·rw[vN au]at hn;rw[v8 au]at hv;rw[L2n]at qX;have:=ars (xh hm) qX;have:=lV hn hv;omega
   ·rw[L2n]at hv;rw[vN gV]at hm;rw[v8 gV]at qX;have:=ars (xh hn) hv;have:=lV hm qX;omega
   ·rw[L2n]at hv qX;rw[hg.inv.ow.sep n' m' a c (xh hn) (xh hm) b o o' v v' hv qX]
  ·rcases cls n with au|⟨m,rfl⟩
   ·rw[vN au]at hn;rw[v8 au];obtain⟨S,p1,p2⟩:=hi.ow.deep n a hn;refine⟨S,p1.congr λ b hb=>k8 b ?_,p2⟩;obtain⟨o,v,hv⟩:=(p2 b).1 hb;exact lV hn hv
   ·rw[L2n];exact hg.inv.ow.deep m a (xh hn)
 have acE:∀{n:Nat} {g:fT},O2[n]? =some (.cN g)->O[n]? =some (.cN g)/\L2 n=L n:=by
  intro n g hn;rcases cls n with au|⟨m,rfl⟩
  ·rw[vN au]at hn;exact⟨hn,v8 au⟩
  ·exact(aus hn).elim
 have hgh:Gh J L2 O2 w':=hi.gh.step (λ n g hn=>⟨(acE hn).1,by rw[(acE hn).2]⟩) (λ _ _ hr=>hr.mono dp) λ b hb=>k8 b hb.1
 refine⟨y,J,L2,rfl,fwd mW hy,⟨λ b o x hx=>hg.inv.iy b o x (hJ' b o x hx).1,λ n e k xs hn=> ?_,λ n m e k xs e' k' ys hn hm hb=> ?_,λ n e k xs o hn=> ?_,λ p hp=>hIJ _ _ _ (hi.fix p hp),hi.lM (λ b hb _=>k8 b hb) hIJ,how,hgh⟩,dp,
  ⟨hg.mE.os,hg.mE.tape,hg.mE.output,hg.mE.size,λ b hb _=>k8 b hb⟩,λ b hb=> ?_,λ b o x hx=> ?_⟩
 ·rcases cls n with au|⟨m,rfl⟩
  ·rw[vN au]at hn;rw[v8 au];exact(hi.obj n e k xs hn).congr (k8 _ (pP hn)) λ _ _ h=>h.mono dp
  ·obtain⟨ys,q1,rfl⟩:=rO hn;rw[L2n];obtain⟨c,⟨j5,r1,dn⟩,r2,r3,r4,r5,r6⟩:=hg.inv.obj m _ _ _ q1;refine⟨c,⟨j5,r1,dn⟩,r2,by simpa using r3,r4,r5,λ i x hx=> ?_⟩;obtain⟨z,hz,rfl⟩:=gI hx;rw[du];refine⟨by rw[List.length_map];exact(r6 i z hz).1,λ j a ha=> ?_⟩;obtain⟨b,hb,rfl⟩:=gI ha;obtain⟨v,hv,ho,lI⟩:=(r6 i z hz).2 j b hb;have hm:AV.fF ys=true:=by have:=List.all_eq_true.1 hO1 _ (mem_of_getElem? q1);simpa [ae.dj]using this
   exact⟨v,hv,ho,fwd (yX (gD hm z (mem_of_getElem? hz)) b (mem_of_getElem? hb)) lI⟩
 ·rcases cls n with au|⟨n',rfl⟩<;>rcases cls m with gV|⟨m',rfl⟩
  ·rw[vN au]at hn;rw[v8 au,v8 gV]at hb;rw[vN gV]at hm;exact hi.sep n m _ _ _ _ _ _ hn hm hb
  ·rw[vN au]at hn;rw[v8 au,L2n]at hb;obtain⟨ys,q1,_⟩:=rO hm;have:=akB q1;have:=pP hn;omega
  ·rw[vN gV]at hm;rw[v8 gV,L2n]at hb;obtain⟨ys,q1,_⟩:=rO hn;have:=akB q1;have:=pP hm;omega
  ·rw[L2n,L2n]at hb;obtain⟨ys,q1,_⟩:=rO hn;obtain⟨pV,vl,_⟩:=rO hm;rw[hg.inv.sep n' m' _ _ _ _ _ _ q1 vl hb]
 ·rcases cls n with au|⟨m,rfl⟩
  ·rw[vN au]at hn;rw[v8 au];simp only[J];rw[if_pos (.inl ⟨n,e,k,xs,hn,rfl⟩)]
  ·rw[L2n];obtain⟨ys,q1,_⟩:=rO hn;simp only[J]
   split
   ·rfl
   ·exact hg.inv.dT m _ _ _ o q1
 ·rcases hb with⟨n,e,k,xs,hn,hb⟩|⟨n,a,o,v,hn,hv⟩|⟨n,a,hn,hb⟩
  rotate_right
  ·rw[(acE hn).2]at hb;exact .inl (.inr (.inr ⟨n,a,(acE hn).1,hb⟩))
  ·rcases cls n with au|⟨m,rfl⟩
   ·rw[vN au]at hn;rw[v8 au]at hb;exact .inl (.inl ⟨n,e,k,xs,hn,hb⟩)
   ·rw[L2n]at hb;obtain⟨ys,q1,_⟩:=rO hn;exact .inr (agI (.inl ⟨m,_,_,_,q1,hb⟩))
  ·rcases cls n with au|⟨m,rfl⟩
   ·rw[vN au]at hn;rw[v8 au]at hv;exact .inl (.inr (.inl ⟨n,a,o,v,hn,hv⟩))
   ·rw[L2n]at hv;exact .inr (agI (.inr (.inl ⟨m,a,o,v,xh hn,hv⟩)))
 ·obtain⟨h1,h2⟩:=hJ' b o x hx;rcases hg.iM b o x h1 with h3|h3|h3
  ·unfold rQ at h3;rw[if_neg h2]at h3;exact .inl h3
  ·exact(oU h3).elim
  ·exact .inr (.inr h3)
end Go.Ab
namespace Go.Ab
theorem Good.anr{I0 I I':da}{L0 L:Nat->Loc}{O0 O O':List ae}{w0 w:World}(h:Good I0 L0 O0 w0 I L O w)(hlen:O.length<=O'.length)
  (hI:∀b o x,I b o=some x->I' b o=some x) (hI2:∀b o x,I' b o=some x->I b o=some x∨(w.cell? ⟨b,o,none⟩=some x/\LV L O b))
  (hO:∀(m:Nat) e s hZ,O'[m]? =some (.live e s hZ)->∃xs,O[m]? =some (.live e s xs)/\xs.length=hZ.length/\aaA I' L O' w (L m) e s hZ/\∀o,I' (L m).bc o=none)
  (vG:∀(m:Nat) e s,m<O.length->O'[m]? =some (.nil e s)->O[m]? =some (.nil e s))
  (arP:∀(m:Nat) a,O'[m]? =some (.own a)->O[m]? =some (.own a))
  (ais:∀(m:Nat) g,O'[m]? =some (.cN g)->O[m]? =some (.cN g)/\∀a x,R I L O a x->R I' L O' a x):Good I0 L0 O0 w0 I' L O' w:=by
 refine⟨⟨λ b o x hx=> ?_,λ m e s xs hm=> ?_,λ n m e s xs e' s' ys hn hm hb=> ?_,λ m e s xs o hm=> ?_,λ p hp=>hI _ _ _ (h.inv.fix p hp),h.inv.sC hI,h.inv.ow.same (λ m a hm=>⟨arP m a hm,rfl⟩) (λ b o v hv=>by
  rcases hI2 b o v hv with h1|⟨_,h1⟩
  ·exact .inl ⟨o,v,h1⟩
  ·exact .inr (.inl h1)) (λ m e s xs hm=>by
  obtain⟨ys,h1,_⟩:=hO m e s xs hm;exact .inl ⟨m,_,_,_,h1,rfl⟩) rfl,⟨λ n g hn=>(h.inv.gh.ok n g (ais n g hn).1).mono rfl (ais n g hn).2 rfl,λ n m g k hn hm hb=>h.inv.gh.sep n m g k (ais n g hn).1 (ais m k hm).1 hb⟩⟩,?_,h.mE,?_,λ b o x hx=> ?_⟩
 ·rcases hI2 b o x hx with h1|⟨h1,_⟩
  ·exact h.inv.iy b o x h1
  ·exact h1
 ·obtain⟨_,_,_,h3,_⟩:=hO m e s xs hm;exact h3
 ·obtain⟨_,h1,_⟩:=hO n e s xs hn;obtain⟨_,h2,_⟩:=hO m e' s' ys hm;exact h.inv.sep n m _ _ _ _ _ _ h1 h2 hb
 ·obtain⟨_,_,_,_,h4⟩:=hO m e s xs hm;exact h4 o
 ·refine⟨λ b o x hx=>hI _ _ _ (h.ext.iy _ _ _ hx),Nat.le_trans h.ext.len hlen,λ n hn e s xs hx=> ?_,λ n hn e s hx=>h.ext.nil n hn e s (vG n e s (Nat.lt_of_lt_of_le hn h.ext.len) hx),λ n hn a hx=>h.ext.own n hn a (arP n a hx),λ n hn a hx=>h.ext.cN n hn a (ais n a hx).1⟩;obtain⟨ys,h1,h2,_⟩:=hO n e s xs hx;rcases h.ext.obj n hn e s ys h1 with⟨zs,z1,z2,z3⟩|⟨z1,z2⟩
  ·exact .inl ⟨zs,z1,by omega,λ he=>z3 (by omega)⟩
  ·exact .inr ⟨z1,λ h0=>z2 (List.eq_nil_of_length_eq_zero (by simp[h2,h0]))⟩
 ·rintro b (⟨n,e,s,xs,hn,hb⟩|⟨n,a,o,v,hn,hb⟩|⟨n,a,hn,hb⟩)
  ·obtain⟨ys,h1,_⟩:=hO n e s xs hn;exact h.lb b (.inl ⟨n,e,s,ys,h1,hb⟩)
  ·exact h.lb b (.inr (.inl ⟨n,a,o,v,arP n a hn,hb⟩))
  ·exact h.lb b (.inr (.inr ⟨n,a,(ais n a hn).1,hb⟩))
 ·rcases hI2 b o x hx with h1|⟨_,h1⟩
  ·exact h.iM b o x h1
  ·rcases h.lb b (.inl h1)with h2|h2
   ·exact .inr (.inl h2)
   ·exact .inr (.inr h2)
theorem WK.aa9{n0:Nat}{e e':Env}{O:List ae}(t s:Nat){O':List ae}(hO':O'.length=O.length+1)(fw:O'[O.length]? =some (.nil t s))
  (nV:∀m,m<O.length->O'[m]? =O[m]? ∨∃ee k ys pV,O[m]? =some (.live ee k ys)/\O'[m]? =some (.live ee k pV)/\pV.length=ys.length/\∀(i:Nat) y y',ys[i]? =some y->pV[i]? =some y'->y'.cells.length=y.cells.length/\
   ∀(j:Nat) c c',y.cells[j]? =some c->y'.cells[j]? =some c'->c'=c∨(c= .aQ/\c'= .row O.length 0))
  (he:∀t,e' t=e t∨(e t= .aQ/\e' t= .row O.length 0)):WK n0 e O e' O':=by
 intro I0 L0 O0 w0 I L w f h0 hg hr
 have dp:Ext I L O I L O':=by
  refine⟨λ _ _ _ h=>h,by omega,λ n hn ee k xs hx=> ?_,λ n hn ee k hx=> ?_,λ n hn a hx=> ?_,λ n hn a hx=> ?_⟩;rotate_left 2
  ·rcases nV n hn with h|⟨e1,k1,ys,pV,h1,h2,h3,_⟩
   ·rw[h]at hx;exact⟨⟨a,hx⟩,rfl⟩
   ·rw[h2]at hx;cases hx
  ·rcases nV n hn with h|⟨e1,k1,ys,pV,h1,h2,h3,_⟩
   ·rw[h]at hx;exact⟨⟨a,hx,rfl⟩,rfl⟩
   ·rw[h2]at hx;cases hx
  ·rcases nV n hn with h|⟨e1,k1,ys,pV,h1,h2,h3,_⟩
   ·exact .inl ⟨xs,by rw[←h];exact hx,le_refl _,λ _=>rfl⟩
   ·rw[h2]at hx;cases hx;exact .inl ⟨ys,h1,by omega,λ _=>rfl⟩
  ·rcases nV n hn with h|⟨e1,k1,ys,pV,h1,h2,h3,_⟩
   ·rwa [h]at hx
   ·rw[h2]at hx;cases hx
 have ap4:∀{x:Value},R I L O .aQ x->R I L O' (.row O.length 0) x:=by
  intro x hx;cases hx;exact .eb _ t s fw
 refine⟨I,L,hg.anr (by omega) (λ _ _ _ h=>h) (λ _ _ _ h=> .inl h) (λ m ee k xs hm=> ?_) (λ m ee k hm hx=>dp.nil m hm ee k hx) (λ m a hm=> ?_) (λ m a hm=> ?_),λ t=> ?_⟩;rotate_left;rotate_left
 ·refine⟨?_,λ _ _ h=>h.mono dp⟩;by_cases hml:m<O.length
  ·rcases nV m hml with h|⟨e1,k1,ys,pV,h1,h2,_⟩
   ·rwa [h]at hm
   ·rw[h2]at hm;cases hm
  ·have hl:=(List.getElem?_eq_some_iff.1 hm).1;rw[show m=O.length by omega,fw]at hm;cases hm
 rotate_right
 ·by_cases hml:m<O.length
  ·rcases nV m hml with h|⟨e1,k1,ys,pV,h1,h2,_⟩
   ·rwa [h]at hm
   ·rw[h2]at hm;cases hm
  ·have hl:=(List.getElem?_eq_some_iff.1 hm).1;rw[show m=O.length by omega,fw]at hm;cases hm
 rotate_left
 ·have au:m<O.length:=by
    have:=(List.getElem?_eq_some_iff.1 hm).1;rcases Nat.lt_or_ge m O.length with h|h
    ·exact h
    ·have:m=O.length:=by omega
     subst this;rw[fw]at hm;cases hm
  rcases nV m au with h|⟨e1,k1,ys,pV,h1,h2,h3,h4⟩
  ·rw[h]at hm;exact⟨xs,hm,rfl,(hg.inv.obj m _ _ _ hm).congr rfl λ _ _ h=>h.mono dp,λ o=>hg.inv.dT m _ _ _ o hm⟩
  ·rw[h2]at hm;cases hm;refine⟨ys,h1,h3.symm,?_,λ o=>hg.inv.dT m _ _ _ o h1⟩;obtain⟨c,⟨j5,q1,dn⟩,q2,q3,q4,q5,q6⟩:=hg.inv.obj m _ _ _ h1;refine⟨c,⟨j5,q1,dn⟩,q2,by omega,q4,q5,λ i y' pN=> ?_⟩;have hy:ys[i]? =some (ys[i]'(by have:=(List.getElem?_eq_some_iff.1 pN).1;omega)):=by simp
   obtain⟨p1,p2⟩:=h4 i _ _ hy pN;obtain⟨r1,r2⟩:=q6 i _ hy;refine⟨by rw[p1,r1],λ j a ha=> ?_⟩;have hc:=List.getElem?_eq_getElem (l:=(ys[i]'(by have:=(List.getElem?_eq_some_iff.1 pN).1;omega)).cells) (i:=j) (by have:=(List.getElem?_eq_some_iff.1 ha).1;omega);obtain⟨v,hv,ho,hrv⟩:=r2 j _ hc;refine⟨v,hv,ho,?_⟩;rcases p2 j _ _ hc ha with h|⟨h,h'⟩
   ·rw[h];exact hrv.mono dp
   ·rw[h'];rw[h]at hrv;exact ap4 hrv
 ·rcases he t with h|⟨h,h'⟩
  ·rw[h];exact(hr t).mono dp
  ·rw[h'];have:=hr t;rw[h]at this;exact ap4 this
inductive Fr(n:Nat)(xs:List AV):AV->AV->Prop
 |refl (a:AV):Fr n xs a a
 |row:Fr n xs (.row n xs.length) (.sl xs)
 |agg (cs ds:List AV):cs.length=ds.length->(∀(i:Nat) c d,cs[i]? =some c->ds[i]? =some d->Fr n xs c d)->Fr n xs (.agg cs) (.agg ds)
 |ptr (a:AV) (f:Nat):xs= [a]->Fr n xs (.ptr n 1 0 f) (.bW a f)
theorem Fr.width{n:Nat}{xs:List AV}{a b:AV}(h:Fr n xs a b):b.cells.length=a.cells.length:=by
 cases h with
 |refl=>rfl
 |row=>rfl
 |agg cs ds h _=>simp[AV.cells,h]
 |ptr=>rfl
open Classical in
noncomputable def frI (I:da) (L:Nat->Loc) (O:List ae) (w:World) (n:Nat):da:=λ b o=>
 if(∃e s xs,O[n]? =some (.live e s xs))/\(L n).bc=b then w.cell? ⟨b,o,none⟩else I b o
theorem Fr.sound{I:da}{L:Nat->Loc}{O O':List ae}{w:World}(hi:Inv I L O w){n t s:Nat}{xs:List AV}(hO:O[n]? =some (.live t s xs)∨(O[n]? =some (.nil t s)/\xs= []))(hn:AV.ad xs=true)
  (dp:Ext I L O (frI I L O w n) L O') {a b:AV} (h:Fr n xs a b):∀{x:Value},R I L O a x->R (frI I L O w n) L O' b x:=by
 induction h with
 |refl a=>intro x hr;exact hr.mono dp
 |row=>
  intro x hr;rcases hO with hO|⟨hO,rfl⟩
  ·have:=hr.e9 hO rfl;subst this;obtain⟨c,⟨j5,h1,dn⟩,h2,h3,h4,h5,h6⟩:=hi.obj n t s xs hO;by_cases hx:xs= []
   ·subst hx;exact .me _ _
   ·refine(.sl xs (L n).bc 0 (L n).cap s (λ i j=>(c[i*s+j]?).getD undef) h3 hx (λ i x hx=>(h6 i x hx).1) (λ i x j d hx hj=> ?_) λ i x j d hx hj=> ?_)
    ·obtain⟨y,hy,ho,_⟩:=(h6 i x hx).2 j d hj;unfold frI;rw[if_pos ⟨⟨t,s,xs,hO⟩,rfl⟩,zero_add,dV h1,hy];exact⟨rfl,ho⟩
    ·obtain⟨y,hy,ho,lI⟩:=(h6 i x hx).2 j d hj;rw[hy];exact lI.ag dp.iy (fb (a8 hn x (mem_of_getElem? hx)) d (mem_of_getElem? hj))
  ·obtain⟨rfl,_⟩:=hr.lz hO;exact .me _ _
 |agg cs ds h _ ih=>
  intro x hr;cases hr with
  |agg _ vs hl hr=>
   refine .agg _ _ (by omega) λ i d v hd hv=> ?_
   have hc:cs[i]? =some (cs[i]'(by have:=(List.getElem?_eq_some_iff.1 hd).1;omega)):=by simp
   exact ih i _ _ hc hd (hr i _ v hc hv)
 |ptr a f ha=>
  subst ha;intro x hr;rcases hO with hO|⟨_,h⟩
  ·have:=hr.gP hO rfl;subst this;obtain⟨c,⟨j5,h1,dn⟩,h2,h3,h4,h5,h6⟩:=hi.obj n t s _ hO;obtain⟨q1,q2⟩:=h6 0 a rfl;simp only[zero_mul];refine .bW a f (L n).bc 0 (λ j=>(c[j]?).getD undef) (λ j d hj=> ?_) λ j d hj=> ?_
   ·obtain⟨y,hy,ho,_⟩:=q2 j d hj;rw[zero_mul,zero_add]at hy;unfold frI;rw[if_pos ⟨⟨t,s,_,hO⟩,rfl⟩,zero_add,dV h1,hy];exact⟨rfl,ho⟩
   ·obtain⟨y,hy,ho,lI⟩:=q2 j d hj;rw[zero_mul,zero_add]at hy;rw[hy];exact lI.ag dp.iy (fb (a8 hn a (by simp)) d (mem_of_getElem? hj))
  ·cases h
theorem asj{I:da}{L:Nat->Loc}{O:List ae}{w:World}(hi:Inv I L O w)(n:Nat):∀b o x,I b o=some x->frI I L O w n b o=some x:=by
 intro b o x hx;unfold frI
 split
 ·exact hi.iy b o x hx
 ·exact hx
theorem WK.jl{n0:Nat}{e e':Env}{O O':List ae}{n t s:Nat}{xs:List AV}(hO:O[n]? =some (.live t s xs)∨(O[n]? =some (.nil t s)/\xs= []))(hn:AV.ad xs=true)(hlen:O'.length=O.length)(hd:O'[n]? =some .dead)
  (nV:∀m,m≠n->O'[m]? =O[m]? ∨∃ee k ys pV,O[m]? =some (.live ee k ys)/\O'[m]? =some (.live ee k pV)/\pV.length=ys.length/\∀(i:Nat) y y',ys[i]? =some y->pV[i]? =some y'->y'.cells.length=y.cells.length/\
   ∀(j:Nat) c c',y.cells[j]? =some c->y'.cells[j]? =some c'->Fr n xs c c')
  (he:∀t,Fr n xs (e t) (e' t)):WK n0 e O e' O':=by
 intro I0 L0 O0 w0 I L w f h0 hg hr;have hle:=asj hg.inv n
 have pP:∀{m ee k pV},O'[m]? =some (.live ee k pV)->m≠n/\∃ys,O[m]? =some (.live ee k ys)/\ys.length=pV.length:=by
  intro m ee k pV hm;have l6:m≠n:=by rintro rfl;rw[hd]at hm;cases hm
  refine⟨l6,?_⟩;rcases nV m l6 with h|⟨e1,k1,ys,zs,h1,h2,h3,_⟩
  ·exact⟨pV,by rw[←h];exact hm,rfl⟩
  ·rw[h2]at hm;cases hm;exact⟨ys,h1,h3.symm⟩
 have vG:∀(m ee k:Nat),O'[m]? =some (ae.nil ee k)->O[m]? =some (ae.nil ee k):=by
  intro m ee k hm;have l6:m≠n:=by rintro rfl;rw[hd]at hm;cases hm
  rcases nV m l6 with h|⟨e1,k1,ys,zs,h1,h2,h3,_⟩
  ·rwa [h]at hm
  ·rw[h2]at hm;cases hm
 have au4:∀(m:Nat) (a:AV),O'[m]? =some (ae.own a)->O[m]? =some (ae.own a):=by
  intro m a hm;have l6:m≠n:=by rintro rfl;rw[hd]at hm;cases hm
  rcases nV m l6 with h|⟨e1,k1,ys,zs,h1,h2,_⟩
  ·rwa [h]at hm
  ·rw[h2]at hm;cases hm
 have ap8:∀(m:Nat) (a:fT),O'[m]? =some (ae.cN a)->O[m]? =some (ae.cN a):=by
  intro m a hm;have l6:m≠n:=by rintro rfl;rw[hd]at hm;cases hm
  rcases nV m l6 with h|⟨e1,k1,ys,zs,h1,h2,_⟩
  ·rwa [h]at hm
  ·rw[h2]at hm;cases hm
 have dp:Ext I L O (frI I L O w n) L O':=by
  refine⟨hle,by omega,λ m hm ee k zs hz=> ?_,λ m _ ee k h=>vG m ee k h,λ m _ a h=>⟨⟨a,au4 m a h⟩,rfl⟩,λ m _ a h=>⟨⟨a,ap8 m a h,rfl⟩,rfl⟩⟩;obtain⟨_,ys,h1,h2⟩:=pP hz;exact .inl ⟨ys,h1,by omega,λ _=>rfl⟩
 have hs:∀{a b:AV} {x:Value},Fr n xs a b->R I L O a x->R (frI I L O w n) L O' b x:=λ h hr=>h.sound hg.inv hO hn dp hr
 refine⟨frI I L O w n,L,hg.anr (by omega) hle (λ b o x hx=> ?_) (λ m ee k zs hm=> ?_) (λ m ee k _ hm=>vG m ee k hm) (λ m a hm=>by
  have l6:m≠n:=by rintro rfl;rw[hd]at hm;cases hm
  rcases nV m l6 with h|⟨e1,k1,ys,zs,h1,h2,_⟩
  ·rwa [h]at hm
  ·rw[h2]at hm;cases hm) (λ m a hm=>⟨ap8 m a hm,λ _ _ h=>h.mono dp⟩),λ t=>hs (he t) (hr t)⟩
 ·unfold frI at hx
  split at hx
  ·rename_i h;obtain⟨⟨e1,s1,x1,h1⟩,h2⟩:=h;exact .inr ⟨hx,⟨n,e1,s1,x1,h1,h2⟩⟩
  ·exact .inl hx
 ·obtain⟨l6,ys,h1,h2⟩:=pP hm;refine⟨ys,h1,h2,?_,λ o=> ?_⟩
  ·obtain⟨c,⟨j5,q1,dn⟩,q2,q3,q4,q5,q6⟩:=hg.inv.obj m _ _ _ h1;refine⟨c,⟨j5,q1,dn⟩,q2,by omega,q4,q5,λ i y' pN=> ?_⟩;have hy:ys[i]? =some (ys[i]'(by have:=(List.getElem?_eq_some_iff.1 pN).1;omega)):=by simp
   obtain⟨r1,r2⟩:=q6 i _ hy;rcases nV m l6 with h|⟨e1,k1,us,us',g1,g2,g3,g4⟩
   ·rw[h,h1]at hm;cases hm;have hyy:=pN;rw[hy]at hyy;have hyy:=Option.some.inj hyy;rw[←hyy];refine⟨r1,λ j a ha=> ?_⟩;obtain⟨v,hv,ho,hrv⟩:=r2 j _ ha;exact⟨v,hv,ho,hrv.mono dp⟩
   ·rw[g2]at hm;cases hm;rw[h1]at g1;cases g1;obtain⟨p1,p2⟩:=g4 i _ _ hy pN;refine⟨by rw[p1,r1],λ j a ha=> ?_⟩;have hc:=List.getElem?_eq_getElem (l:=(ys[i]'(by have:=(List.getElem?_eq_some_iff.1 pN).1;omega)).cells) (i:=j) (by have:=(List.getElem?_eq_some_iff.1 ha).1;omega);obtain⟨v,hv,ho,hrv⟩:=r2 j _ hc;exact⟨v,hv,ho,hs (p2 j _ _ hc ha) hrv⟩
  ·cases hx:frI I L O w n (L m).bc o with
   |none=>rfl
   |some x=>
    unfold frI at hx
    split at hx
    ·rename_i h;obtain⟨⟨e1,s1,x1,g1⟩,g2⟩:=h;exact(l6 (hg.inv.sep n m _ _ _ _ _ _ g1 h1 g2).symm).elim
    ·rw[hg.inv.dT m _ _ _ o h1]at hx;cases hx
theorem WK.env{n0:Nat}{e e':Env}{O:List ae}(h:∀t,e' t= .top∨e' t=e t):WK n0 e O e' O:=by
 intro I0 L0 O0 w0 I L w f h0 hg hr;refine⟨I,L,hg,λ t=> ?_⟩;rcases h t with h|h
 ·rw[h];exact .top _
 ·rw[h];exact hr t
end Go.Ab
namespace Go.Ab
def aS:AV->List AV
 | .sl xs=>xs
 |_=>[]
def idxOf:AV->Nat
 | .v (.int _ k)=>k.toNat
 |_=>0
def ajG(a:AV)(j:Nat):AV:=
 match a with
 | .aK vs=>vs.getD j .top
 |_=> .top
mutual
def D.ev(r:List AV):D->AV
 | .x i=>r.getD i .top
 | .c a=>a
 | .cell i j=>(r.getD i .top).cells.getD j .top
 | .ext i j=>ajG (r.getD i .top) j
 | .sl l=> .sl (aS (l.ev r))
 | .agg l=> .agg (D.aY r l)
 | .fn f l=> .fn f (D.aY r l)
 | .ip d f=> .bW (d.ev r) f
def D.aY(r:List AV):List D->List AV
 | []=>[]
 |d::l=>d.ev r::D.aY r l
end
mutual
def D.cl(n:Nat):D->Bool
 | .x i=>decide (i<n)
 | .c a=>a.ag
 | .cell i _=>decide (i<n)
 | .ext i _=>decide (i<n)
 | .sl l=>l.cl n
 | .agg l=>D.cls n l
 | .fn _ l=>D.cls n l
 | .ip d _=>d.cl n
def D.cls(n:Nat):List D->Bool
 | []=>true
 |d::l=>d.cl n&&D.cls n l
end
def AV.ceq:AV->AV->Bool
 | .v (.int k a),.v (.int k' b)=>decide (k=k')&&decide (a=b)
 | .v (.bool a),.v (.bool b)=>decide (a=b)
 | .v (.string a),.v (.string b)=>decide (a=b)
 | .aQ,.aQ=>true
 | .sl [],.sl []=>true
 | .aK [],.aK []=>true
 | .fn f [],.fn g []=>decide (f=g)
 |_,_=>false
mutual
def D.beq:D->D->Bool
 | .x i,.x j=>decide (i=j)
 | .c a,.c b=>a.ceq b
 | .cell i j,.cell k l=>decide (i=k)&&decide (j=l)
 | .ext i j,.ext k l=>decide (i=k)&&decide (j=l)
 | .sl a,.sl b=>a.beq b
 | .agg a,.agg b=>D.ka a b
 | .fn f a,.fn g b=>decide (f=g)&&D.ka a b
 | .ip a f,.ip b g=>a.beq b&&decide (f=g)
 |_,_=>false
def D.ka:List D->List D->Bool
 | [],[]=>true
 |a::as,b::bs=>a.beq b&&D.ka as bs
 |_,_=>false
end
def kG:List AV->AV
 | [c]=>c
 |cs=> .agg cs
mutual
def SV.ev(r:List AV):SV->AV
 | .d x=>x.ev r
 | .row n l=> .row n (aS (l.ev r)).length
 | .ptr n f=> .ptr n 1 0 f
 | .rp n l i f=> .ptr n (aS (l.ev r)).length (idxOf (i.ev r)) f
 | .ip x f=> .bW (x.ev r) f
 | .agg cs=> .agg (SV.aY r cs)
 | .aK cs=> .aK (SV.aY r cs)
 | .top=> .top
def SV.aY(r:List AV):List SV->List AV
 | []=>[]
 |v::l=>v.ev r::SV.aY r l
end
def SO.ev(r:List AV):SO->ae
 | .dead=> .dead
 | .box e cs=> .live e cs.length [kG (SV.aY r cs)]
 | .row true e s l=>if aS (l.ev r)= []then .nil e s else .live e s (aS (l.ev r))
 | .row false e s l=> .live e s (aS (l.ev r))
mutual
def SV.cl(n:Nat):SV->Bool
 | .d x=>x.cl n
 | .row _ l=>l.cl n
 | .ptr _ _=>true
 | .rp _ l i _=>l.cl n&&i.cl n
 | .ip x _=>x.cl n
 | .agg cs=>SV.cls n cs
 | .aK cs=>SV.cls n cs
 | .top=>true
def SV.cls(n:Nat):List SV->Bool
 | []=>true
 |v::l=>v.cl n&&SV.cls n l
end
def SO.cl(n:Nat):SO->Bool
 | .dead=>true
 | .box _ cs=>SV.cls n cs
 | .row _ _ _ l=>l.cl n
mutual
def SV.beq:SV->SV->Bool
 | .d x,.d y=>x.beq y
 | .row n l,.row m k=>decide (n=m)&&l.beq k
 | .ptr n f,.ptr m g=>decide (n=m)&&decide (f=g)
 | .rp n l i f,.rp m k j g=>decide (n=m)&&l.beq k&&i.beq j&&decide (f=g)
 | .ip x f,.ip y g=>x.beq y&&decide (f=g)
 | .agg a,.agg b=>SV.ka a b
 | .aK a,.aK b=>SV.ka a b
 | .top,.top=>true
 |_,_=>false
def SV.ka:List SV->List SV->Bool
 | [],[]=>true
 |a::as,b::bs=>a.beq b&&SV.ka as bs
 |_,_=>false
end
def SO.beq:SO->SO->Bool
 | .dead,.dead=>true
 | .box e cs,.box e' cs'=>decide (e=e')&&SV.ka cs cs'
 | .row n e s l,.row n' e' s' l'=>decide (n=n')&&decide (e=e')&&decide (s=s')&&l.beq l'
 |_,_=>false
mutual
def SV.sc(k:Nat):SV->Bool
 | .d _=>true
 | .row n _=>decide (n<k)
 | .ptr n _=>decide (n<k)
 | .rp n _ _ _=>decide (n<k)
 | .ip _ _=>true
 | .agg cs=>SV.scs k cs
 | .aK cs=>SV.scs k cs
 | .top=>true
def SV.scs(k:Nat):List SV->Bool
 | []=>true
 |v::l=>v.sc k&&SV.scs k l
end
def SO.sc(k:Nat):SO->Bool
 | .dead=>true
 | .box _ cs=>SV.scs k cs
 | .row _ _ _ _=>true
def lk:List (Nat×SV)->Nat->SV
 | [],_=> .top
 |(k,v)::l,t=>if t=k then v else lk l t
structure SS where
 env:List (Nat×SV)
 aj:List SO
 nv:Nat
 kn:List (Nat×Nat)
instance:Inhabited SS:=⟨⟨[],[],0,[]⟩⟩
def SS.cl(s:SS):Bool:=s.env.all (λ p=>p.2.cl s.nv)&&s.aj.all (λ o=>o.cl s.nv)
def bT(s:SS)(r:List AV):Env:=λ t=>(lk s.env t).ev r
def bz(s:SS)(r:List AV):List ae:=s.aj.map (SO.ev r)
def SS.set(s:SS)(t:Nat)(v:SV):SS:={s with env:=(t,v)::s.env.filter (λ p=>p.1 !=t)}
def SS.bI(s:SS)(d:Option Nat)(v:SV):SS:=
 match d with
 |some t=>s.set t v
 |none=>s
def un:SV:= .d (.c (.aK []))
inductive PO where
 |val (x:D)
 |pick (c a b:D)
 |bin (op:BinOp) (a b:D)
 |beq (neg:Bool) (a b:D)
 |un (op:UnOp) (a:D)
 |conv (k:IntKind) (a:D)
 |elem (s:Nat) (l i:D)
 |yg (off:Nat) (n:Option Nat) (a:D)
 |uE (f m:Nat) (a:D)
 |eB (a i:D)
 |cL (a:D) (lo hi:Option D)
 |cw (s:Nat) (a:D) (lo hi:Option D)
 |dI (a:D)
 |cz (a:D)
 |pH (z:AV) (n:Nat) (parts:List (Nat×D))
 |rep (bytes:Nat) (z:AV) (n c:D)
 |app (s bytes:Nat) (l y:D)
 |get (l i:D) (f:Nat) (n:Option Nat)
 |set (l i:D) (f m:Nat) (y:D)
 |call (f:FuncId) (args:List D) (flat:Bool)
 |eJ (g:D) (args:List D) (flat:Bool)
 |ldp (n:Option Nat) (a:D)
 |fap (off:Nat) (a:D)
 |pu (o:PU) (ds:List D)
 |jN (s bytes:Nat) (l y:D)
 |fK (nl:Bool) (e s:Nat) (f:FuncId) (args:List D)
 |ia (f:FuncId) (g:jw) (args:List D)
inductive l4 where
 |cells (a:D) (m:Nat)
 |one (a:D)
 |lt (a:D) (j:Nat)
 |aK (a:D) (j:Nat)
 |idx (l i:D)
 |alb (a:D)
 |ne (l:D)
 |no
 |eql (a b:D)
inductive Node where
 |op (o:PO)
 |aP (c:l4)
inductive T where
 |leaf (x:AX) (s:SS)
 |ret (ds:List D)
 |jump (vs:List D)
 |bn (t:T)
 |op (o:PO) (t:T)
 |aP (c:l4) (t:T)
 |ite (c:D) (t f:T)
 |bind (k:Nat) (a b:T)
 |loop (init:List D) (b:T)
instance:Inhabited T:=⟨.jump []⟩
def D.evo(r:List AV):Option D->Option AV
 |none=>none
 |some d=>some (d.ev r)
def aau(P:Program)(f:FuncId)(args:List AV)(flat:Bool)(K:AV->Prop):Prop:=
 ∃res,aI P f args res/\res.ag=true/\(flat=true->res.flat=true)/\K res
def oR(P:Program)(g:AV)(args:List AV)(flat:Bool)(K:AV->Prop):Prop:=
 match g with
 | .fn f aX=>aau P f (args++aX) flat K
 |_=>False
def bX(nl:Bool)(e s:Nat)(xs:List AV):ae:=if nl=true/\xs= []then .nil e s else .live e s xs
def ay4(P:Program)(f:FuncId)(args:List AV)(nl:Bool)(e s:Nat)(xs:List AV):Prop:=js P f args [] (.row 0 xs.length) [bX nl e s xs]
def al8(P:Program)(nl:Bool)(e s:Nat)(f:FuncId)(args:List AV)(K:AV->Prop):Prop:=
 ∃xs,ay4 P f args nl e s xs/\AV.ad xs=true/\K (.sl xs)
def sF(P:Program)(f:FuncId)(g:jw)(ins outs:List AV):Prop:=js P f (SV.aY ins g.args) (g.aj.map (SO.ev ins)) (g.res.ev outs) (g.cq.map (SO.ev outs))
def ajQ(P:Program)(f:FuncId)(g:jw)(args:List AV)(K:AV->Prop):Prop:=
 ∃outs,sF P f g args outs/\outs.length=g.m/\AV.ad outs=true/\K (.aK outs)
def agc(s bytes:Nat)(xs:List AV)(y:AV)(K:AV->Prop):Prop:=
 jV [] y λ ys=>(∀y∈ys,y.cells.length=s)/\(xs.length+ys.length)*bytes<=140737488355328/\xs.length+ys.length<=maxLen/\K (.sl (xs++ys))
def vI(xs:List AV)(i:Nat)(f:Nat)(n:Option Nat)(K:AV->Prop):Prop:=i<xs.length/\f+n.getD 1<=(xs.getD i .top).cells.length/\K (dH n (xs.getD i .top) f)
def jt(xs:List AV)(i:Nat)(f m:Nat)(y:AV)(K:AV->Prop):Prop:=
 i<xs.length/\y.cells.length=m/\y.storable=true/\f+m<=(xs.getD i .top).cells.length/\K (.sl (xs.set i (lN (xs.getD i .top) f y)))
def lL(s:Nat)(a i:AV)(K:AV->Prop):Prop:=
 match a,i with
 | .sl xs,.v (.int _ i)=>0<=i/\i<xs.length/\(xs.getD i.toNat .top).cells.length=s/\K (xs.getD i.toNat .top)
 |_,_=>False
def acu(bytes:Nat)(z a b:AV)(K:AV->Prop):Prop:=
 match a,b with
 | .v (.int .i64 n),.v (.int .i64 c)=>0<=n/\n<=c/\bytes*c<=281474976710656/\c<=9223372036854775807/\K (.sl (List.replicate n.toNat z))
 |_,_=>False
def eQ(z:List AV):List (Nat×AV)->List AV
 | []=>z
 |(i,y)::r=>eQ (z.set i y) r
def arC(f m:Nat)(a:AV)(K:AV->Prop):Prop:=f+m<=a.cells.length/\K (dH (some m) a f)
def ah9(n:Option Nat)(a:AV)(K:AV->Prop):Prop:=
 match a with
 | .bW y f=>f+n.getD 1<=y.cells.length/\K (dH n y f)
 |_=>False
def aiH(off:Nat)(a:AV)(K:AV->Prop):Prop:=
 match a with
 | .bW y f=>K (.bW y (f+off))
 |_=>False
def yD(s bytes:Nat)(xs:List AV)(y:AV)(K:AV->Prop):Prop:=
 match y with
 | .v (.string b)=>s=1/\(xs.length+b.size)*bytes<=140737488355328/\xs.length+b.size<=maxLen/\K (.sl (xs++cf b))
 |_=>False
def aeb(neg:Bool)(a b:AV)(K:AV->Prop):Prop:=
 match a,b with
 | .v (.bool a),.v (.bool b)=>K (.v (.bool (neg !=(a==b))))
 |_,_=>False
def PO.wp(P:Program)(r:List AV)(o:PO)(K:AV->Prop):Prop:=
 match o with
 | .val x=>K (x.ev r)
 | .pick c a b=>nB (c.ev r) (a.ev r) (b.ev r) [] λ x _=>K x
 | .bin op a b=>eN op (a.ev r) (b.ev r) [] λ x _=>K x
 | .beq neg a b=>aeb neg (a.ev r) (b.ev r) K
 | .un op a=>unK op (a.ev r) [] λ x _=>K x
 | .conv k a=>uV k (a.ev r) [] λ x _=>K x
 | .elem s l i=>lL s (l.ev r) (i.ev r) K
 | .yg off n a=>aiE off n (a.ev r) [] λ x _=>K x
 | .uE f m a=>arC f m (a.ev r) K
 | .eB a i=>uK (a.ev r) (i.ev r) [] λ x _=>K x
 | .cL a lo hi=>km (a.ev r) (D.evo r lo) (D.evo r hi) [] λ x _=>K x
 | .cw s a lo hi=>ko s (a.ev r) (D.evo r lo) (D.evo r hi) [] λ x _=>K x
 | .dI a=>uF (a.ev r) [] λ x _=>K x
 | .cz a=>lH (a.ev r) [] λ x _=>K x
 | .pH z n parts=>K (.sl (eQ (List.replicate n z) (parts.map λ p=>(p.1,p.2.ev r))))
 | .rep bytes z n c=>acu bytes z (n.ev r) (c.ev r) K
 | .app s bytes l y=>agc s bytes (aS (l.ev r)) (y.ev r) K
 | .get l i f n=>vI (aS (l.ev r)) (idxOf (i.ev r)) f n K
 | .set l i f m y=>jt (aS (l.ev r)) (idxOf (i.ev r)) f m (y.ev r) K
 | .call f args flat=>aau P f (D.aY r args) flat K
 | .eJ g args flat=>oR P (g.ev r) (D.aY r args) flat K
 | .ldp n a=>ah9 n (a.ev r) K
 | .fap off a=>aiH off (a.ev r) K
 | .pu o ds=>puK o (D.aY r ds) K
 | .jN s bytes l y=>yD s bytes (aS (l.ev r)) (y.ev r) K
 | .fK nl e s f args=>al8 P nl e s f (D.aY r args) K
 | .ia f g args=>ajQ P f g (D.aY r args) K
def afD(xs:List AV)(i:AV)(K:Prop):Prop:=
 match i with
 | .v (.int _ i)=>0<=i/\i<xs.length/\K
 |_=>False
def ahf(a:AV)(j:Nat)(K:Prop):Prop:=
 match a with
 | .aK vs=>j<vs.length/\K
 |_=>False
def xK(a:AV)(K:Prop):Prop:=
 match a with
 | .fn _ _=>K
 | .bW _ _=>K
 |_=>False
def l4.wp(r:List AV)(c:l4)(K:Prop):Prop:=
 match c with
 | .cells a m=>(a.ev r).isAgg=true/\(a.ev r).cells.length=m/\(a.ev r).storable=true/\K
 | .one a=>(a.ev r).cells.length=1/\(a.ev r).cI=true/\K
 | .lt a j=>j<(a.ev r).cells.length/\K
 | .aK a j=>ahf (a.ev r) j K
 | .idx l i=>afD (aS (l.ev r)) (i.ev r) K
 | .alb a=>xK (a.ev r) K
 | .ne l=>aS (l.ev r)≠[]/\K
 | .no=>False
 | .eql a b=>(aS (a.ev r)).length=(aS (b.ev r)).length/\K
def bD(P:Program)(L:AX->SS->List AV->Prop)(R:AV->Prop):T->List AV->List (List AV->Prop)->Prop
 | .leaf x s,r,_=>L x s r
 | .ret ds,r,_=>R (b4 (D.aY r ds))
 | .jump vs,r,S=>match S with
   |J::_=>J (D.aY r vs)
   | []=>False
 | .bn t,r,S=>match S with
   |_::S=>bD P L R t r S
   | []=>False
 | .op o t,r,S=>o.wp P r λ v=>bD P L R t (r++ [v]) S
 | .aP c t,r,S=>c.wp r (bD P L R t r S)
 | .ite c t f,r,S=>match c.ev r with
   | .v (.bool b)=>(b=true->bD P L R t r S)/\(b=false->bD P L R f r S)
   |_=>False
 | .bind k a b,r,S=>bD P L R a r ((λ vs=>vs.length=k->bD P L R b (r++vs) S)::S)
 | .loop init b,r,S=>∃(J:Nat->List AV->Prop) (n:Nat),J n (D.aY r init)/\∀n vs,J n vs->vs.length=init.length->bD P L R b (r++vs) ((λ l5=>∃m,m<n/\J m l5)::S)
def apj:Nat->T->T
 |0,t=>t
 |n+1,t=> .bn (apj n t)
def T.fill(k:AX->SS->Option T):T->Nat->Option T
 | .leaf x s,d=>(k x s).map (apj d)
 | .ret d,_=>some (.ret d)
 | .jump vs,d=>if d=0 then none else some (.jump vs)
 | .bn t,d=>match d with
   |0=>none
   |d+1=>(t.fill k d).map .bn
 | .op o t,d=>(t.fill k d).map (.op o)
 | .aP c t,d=>(t.fill k d).map (.aP c)
 | .ite c t f,d=>match t.fill k d,f.fill k d with
   |some t,some f=>some (.ite c t f)
   |_,_=>none
 | .bind m a b,d=>match a.fill k (d+1),b.fill k d with
   |some a,some b=>some (.bind m a b)
   |_,_=>none
 | .loop init b,d=>(b.fill k (d+1)).map (.loop init)
def T.leaves:T->List (AX×SS)
 | .leaf x s=>[(x,s)]
 | .ret _=>[]
 | .jump _=>[]
 | .bn t=>t.leaves
 | .op _ t=>t.leaves
 | .aP _ t=>t.leaves
 | .ite _ t f=>t.leaves++f.leaves
 | .bind _ a b=>a.leaves++b.leaves
 | .loop _ b=>b.leaves
def T.zV:T->Bool
 | .leaf _ _=>false
 | .ret _=>false
 | .jump _=>false
 | .bn t=>t.zV
 | .op _ t=>t.zV
 | .aP _ t=>t.zV
 | .ite _ t f=>t.zV||f.zV
 | .bind _ _ _=>true
 | .loop _ _=>true
def wrap:List Node->T->T
 | [],t=>t
 | .op o::r,t=> .op o (wrap r t)
 | .aP c::r,t=> .aP c (wrap r t)
end Go.Ab
namespace Go.Ab
def cE(s:SS):aE->SV
 | .t n=>lk s.env n
 | .c a=> .d (.c a)
def afY:List SV->Option (List D)
 | []=>some []
 | .d x::l=>match afY l with
   |some ds=>some (x::ds)
   |none=>none
 |_::_=>none
def amd(kn:List (Nat×Nat))(ds:List D):Option Nat:=
 match ds with
 | .cell i 0::_::_=>if kn.contains (i,ds.length)=true/\D.ka ds ((List.range ds.length).map λ j=> .cell i j)=true then some i else none
 |_=>none
def asD(kn:List (Nat×Nat)):SV->Option (List Node×D)
 | .d x=>some ([],x)
 | .agg cs=>match afY cs with
   |some ds=>match amd kn ds with
    |some i=>some ([.aP (.cells (.x i) ds.length)],.x i)
    |none=>some ([],.agg ds)
   |none=>none
 | .ip x f=>some ([],.ip x f)
 |_=>none
def cur(s:SS)(n:Nat)(l:D):Option (Bool×Nat×Nat):=
 match s.aj[n]? with
 |some (.row nl e sz l')=>if l'.beq l=true then some (nl,e,sz)else none
 |_=>none
def lf(s:SS)(n:Nat):Option (Nat×List SV):=
 match s.aj[n]? with
 |some (.box e cs)=>some (e,cs)
 |_=>none
def il:Nat->List Node->Nat
 |nv,[]=>nv
 |nv,.op _::r=>il (nv+1) r
 |nv,.aP _::r=>il nv r
def nx(s:SS)(ns:List Node)(o:PO):List Node×SV×SS:=(ns++ [.op o],.d (.x (il s.nv ns)),{s with nv:=il s.nv ns+1})
def done(s:SS)(ns:List Node)(v:SV):List Node×SV×SS:=(ns,v,{s with nv:=il s.nv ns})
def mB(m:Nat)(x:D):Node:=if m=1 then .aP (.one x)else .aP (.cells x m)
def jR:List SV->List Node
 | []=>[]
 | .d x::l=> .aP (.one x)::jR l
 |_::l=>jR l
def lS:List SV->Bool
 | []=>true
 | .top::_=>false
 | .agg _::_=>false
 | .aK _::_=>false
 |_::l=>lS l
def expand(nv m:Nat)(v:SV):Option (List Node×List SV):=
 if m=1 then
  match v with
  | .d x=>some ([.aP (.one x)],[.d x])
  | .agg _=>none
  | .aK _=>none
  | .top=>none
  |v=>some ([],[v])
 else
  match v with
  | .agg cs=>if cs.length=m/\lS cs=true then some (jR cs,cs)else none
  | .d (.x i)=>some ([.aP (.cells (.x i) m)],(List.range m).map λ j=> .d (.cell i j))
  | .d (.agg l)=>if l.length=m then some ([.aP (.cells (.agg l) m)],l.map .d)else none
  | .d (.c (.agg l))=>if l.length=m then some ([.aP (.cells (.c (.agg l)) m)],l.map λ a=> .d (.c a))else none
  | .d x=>some ([.op (.val x),.aP (.cells (.x nv) m)],(List.range m).map λ j=> .d (.cell nv j))
  |_=>none
def aeu(s:SS)(t n:Nat)(z:AV):Option (List Node×SV×SS):=
 if n=1/\z.isAgg=false then some ([],.ptr s.aj.length 0,{s with aj:=s.aj++ [.box t [.d (.c z)]]})
 else match z with
  | .agg cs=>if n≠1/\cs.length=n then some ([],.ptr s.aj.length 0,{s with aj:=s.aj++ [.box t (cs.map λ a=> .d (.c a))]})else none
  |_=>none
def aqy(s:SS)(t n:Nat)(v:SV):Option (List Node×SV×SS):=
 match expand s.nv n v with
 |some (ns,cs)=>if cs.length=n then some (ns,.ptr s.aj.length 0,{s with aj:=s.aj++ [.box t cs],nv:=il s.nv ns})else none
 |none=>none
def wb(s:SS):List Node->List SV->List (Nat×Nat×aE)->Option (List Node×List SV)
 |ns,cs,[]=>some (ns,cs)
 |ns,cs,(off,size,x)::r=>match expand (il s.nv ns) size (cE s x)with
  |some (ms,vs)=>if vs.length=size/\off+size<=cs.length then wb s (ns++ms) (cs.take off++vs++cs.drop (off+size)) r else none
  |none=>none
def norm(s:SS)(ns:List Node)(cs:List SV):List Node×SV×SS:=
 match asD s.kn (.agg cs)with
 |some (ms,x)=>done s (ns++ms) (.d x)
 |none=>done s ns (.agg cs)
def aes(s:SS)(z:List AV)(ps:List (Nat×Nat×aE)):Option (List Node×SV×SS):=
 match wb s [] (z.map λ a=> .d (.c a)) ps with
 |some (ns,cs)=>some (norm s ns cs)
 |none=>none
def n4(s:SS)(m len:Nat):List (Nat×aE)->Option (List Node×List (Nat×D))
 | []=>some ([],[])
 |(i,x)::r=>match asD s.kn (cE s x),n4 s m len r with
  |some (ns,d),some (ms,ps)=>if i<len then some (ns++mB m d::ms,(i,d)::ps)else none
  |_,_=>none
def newRow(s:SS)(t m:Nat)(q:List Node×SV×SS):Option (List Node×SV×SS):=
 match q with
 |(ns,.d l,s')=>some (ns,.row s.aj.length l,{s' with aj:=s'.aj++ [.row false t m l]})
 |_=>none
def rI(s:SS)(nl:Bool)(t m:Nat)(q:List Node×SV×SS):Option (List Node×SV×SS):=
 match q with
 |(ns,.d l,s')=>some (ns,.row s.aj.length l,{s' with aj:=s'.aj++ [.row nl t m l]})
 |_=>none
def n5(s:SS)(t m len:Nat)(z:AV)(ps:List (Nat×aE)):Option (List Node×SV×SS):=
 match n4 s m len ps with
 |some (ns,ps)=>newRow s t m (nx s ns (.pH z len ps))
 |none=>none
def whole(kn:List (Nat×Nat))(y:D)(m:Nat):Bool:=
 match y with
 | .x i=>kn.contains (i,m)
 | .agg l=>decide (l.length=m)
 |_=>false
def ajw(s:SS)(n:Option Nat)(v:SV):Option (List Node×SV×SS):=
 match v with
 | .ptr k f=>match lf s k with
   |some (_,cs)=>match n with
    |none=>match cs[f]? with
     |some v=>if cs.length=1 then(if lS [v]=true then some (jR [v],v,s)else none)else some ([],v,s)
     |none=>none
    |some m=>if cs.length≠1/\f+m<=cs.length then some (norm s [] ((cs.drop f).take m))else none
   |none=>none
 | .ip y f=>match n with
   |none=>match y with
    | .x i=>some ([.aP (.lt y f)],.d (.cell i f),s)
    | .agg l=>match l[f]? with
      |some d=>some ([],.d d,s)
      |none=>none
    |_=>some (.op (.val y):: [.aP (.lt (.x s.nv) f)],.d (.cell s.nv f),{s with nv:=s.nv+1})
   |some m=>if f=0/\whole s.kn y m=true then some ([.aP (.cells y m)],.d y,s)else some (nx s [] (.uE f m y))
 | .rp k l i f=>match cur s k l with
   |some _=>some (nx s [] (.get l i f n))
   |none=>none
 | .d y=>some (nx s [] (.ldp n y))
 |_=>none
def SV.rew(n:Nat)(l l':D):SV->SV
 | .row m k=>if m=n/\k.beq l=true then .row m l' else .row m k
 | .rp m k i f=>if m=n/\k.beq l=true then .rp m l' i f else .rp m k i f
 |v=>v
def aep(s:SS)(m:Nat)(p y:SV):Option (List Node×SV×SS):=
 match p with
 | .ptr k f=>match lf s k,expand s.nv m y with
   |some (e,cs),some (ns,vs)=>
    if vs.length=m/\f+m<=cs.length/\(m=1∨cs.length≠1)/\(cs.length=1->lS cs=true)then
     some ((if cs.length=1 then jR cs else [])++ns,.top,{s with aj:=s.aj.set k (.box e (cs.take f++vs++cs.drop (f+m))),nv:=il s.nv ns})else none
   |_,_=>none
 | .rp k l i f=>match cur s k l,asD s.kn y with
   |some (nl,e,sz),some (ns,d)=>
    let l':D:= .x (il s.nv (ns++ [mB m d]))
    some (ns++ [mB m d]++ [.op (.set l i f m d)],.top,{s with env:=s.env.map (λ p=>(p.1,p.2.rew k l l')),aj:=s.aj.set k (.row nl e sz l'),nv:=il s.nv (ns++ [mB m d])+1})
   |_,_=>none
 |_=>none
def aer(s:SS)(off:Nat)(v:SV):Option (List Node×SV×SS):=
 match v with
 | .ptr k f=>match lf s k with
   |some _=>some ([],.ptr k (f+off),s)
   |none=>none
 | .rp k l i f=>match cur s k l with
   |some (false,_)=>some ([],.rp k l i (f+off),s)
   |some (true,_)=>some ([.aP (.idx l i)],.rp k l i (f+off),s)
   |none=>none
 | .ip y f=>some ([],.ip y (f+off),s)
 | .d y=>some (nx s [] (.fap off y))
 |_=>none
def aqw(s:SS)(off:Nat)(n:Option Nat)(v:SV):Option (List Node×SV×SS):=
 match v with
 | .agg cs=>match n with
   |none=>match cs[off]? with
    |some v=>some ([],v,s)
    |none=>none
   |some m=>if off+m<=cs.length then some (norm s [] ((cs.drop off).take m))else none
 | .d (.agg l)=>match n with
   |none=>match l[off]? with
    |some d=>some ([],.d d,s)
    |none=>none
   |some _=>some (nx s [] (.yg off n (.agg l)))
 | .d x=>some (nx s [] (.yg off n x))
 |_=>none
def aeq(s:SS)(m:Nat)(v i:SV):Option (List Node×SV×SS):=
 match v,i with
 | .d l,.d i=>some (.op (.elem m l i):: [],.ip (.x s.nv) 0,{s with nv:=s.nv+1})
 | .row k l,.d i=>match cur s k l with
   |some (_,_,sz)=>if sz=m then some ([.aP (.idx l i)],.rp k l i 0,s)else none
   |none=>none
 |_,_=>none
def yL(s:SS):Option aE->Option (Option D)
 |none=>some none
 |some x=>match cE s x with
  | .d d=>some (some d)
  |_=>none
def gG(s:SS):List aE->Option (List Node×List D×Bool)
 | []=>some ([],[],false)
 |x::r=>match gG s r with
  |some (ns,ds,b)=>match cE s x with
   | .row k l=>match cur s k l with
     |some _=>some (ns,.sl l::ds,true)
     |none=>none
   |v=>match asD s.kn v with
    |some (ms,d)=>some (ms++ns,d::ds,b)
    |none=>none
  |none=>none
def kept(s:SS)(k t m:Nat):Bool:=
 match s.aj[k]? with
 |some (.row true t' m' (.c (.sl [])))=>decide (t'=t)&&decide (m'=m)
 |_=>false
def we(s:SS)(k t n:Nat)(z:AV):Option (List Node×SV×SS):=
 if kept s k t n=true then
  if n=1/\z.isAgg=false then some ([],.ptr k 0,{s with aj:=s.aj.set k (.box t [.d (.c z)])})
  else match z with
   | .agg cs=>if n≠1/\cs.length=n then some ([],.ptr k 0,{s with aj:=s.aj.set k (.box t (cs.map λ a=> .d (.c a)))})else none
   |_=>none
 else none
def aet(s:SS)(k t n:Nat)(v:SV):Option (List Node×SV×SS):=
 if kept s k t n=true then
  match expand s.nv n v with
  |some (ns,cs)=>if cs.length=n then some (ns,.ptr k 0,{s with aj:=s.aj.set k (.box t cs),nv:=il s.nv ns})else none
  |none=>none
 else none
def wc(s:SS)(k t m len:Nat)(z:AV)(ps:List (Nat×aE)):Option (List Node×SV×SS):=
 if kept s k t m=true then
  match n4 s m len ps with
  |some (ns,ps)=>some (ns++ [.op (.pH z len ps),.aP (.ne (.x s.nv))],.row k (.x s.nv),{s with aj:=s.aj.set k (.row false t m (.x s.nv)),nv:=s.nv+1})
  |none=>none
 else none
def SV.pat(n k:Nat):SV->Bool
 | .d (.x i)=>decide (i<n)
 | .d (.c a)=>a.ag
 | .row m (.x i)=>decide (i<n)&&decide (m<k)
 | .ptr m _=>decide (m<k)
 |_=>false
def SO.pat(n k:Nat):SO->Bool
 | .dead=>true
 | .box _ cs=>cs.all (SV.pat n k)
 | .row _ _ _ (.x i)=>decide (i<n)
 |_=>false
def SV.j0(τ:List D)(σ:Nat->Nat):SV->SV
 | .d (.x i)=> .d (τ.getD i (.c .top))
 | .row m (.x i)=> .row (σ m) (τ.getD i (.c .top))
 | .ptr m f=> .ptr (σ m) f
 |v=>v
def SO.j0(τ:List D)(σ:Nat->Nat):SO->SO
 | .dead=> .dead
 | .box e cs=> .box e (cs.map (SV.j0 τ σ))
 | .row nl e s (.x i)=> .row nl e s (τ.getD i (.c .top))
 |o=>o
def SV.yV(n k:Nat):SV->Bool
 | .aK cs=>cs.all (SV.pat n k)
 | .agg cs=>cs.all (SV.pat n k)
 |v=>v.pat n k
def SV.afB(τ:List D)(σ:Nat->Nat):SV->SV
 | .aK cs=> .aK (cs.map (SV.j0 τ σ))
 | .agg cs=> .agg (cs.map (SV.j0 τ σ))
 |v=>v.j0 τ σ
def jw.ok(g:jw):Bool:=
 g.args.all (SV.pat g.n g.aj.length)&&g.aj.all (SO.pat g.n g.aj.length)&&g.cq.all (SO.pat g.m g.cq.length)&&g.res.yV g.m g.cq.length&&decide (g.aj.length<=g.cq.length)
abbrev Mt:=List (Nat×D)×List (Nat×Nat)
def aeZ:SV->Option D
 | .d x=>some x
 | .agg cs=>(afY cs).map .agg
 | .ip x f=>some (.ip x f)
 |_=>none
def akN(kn:List (Nat×Nat))(p v:SV)(q:Mt):Mt:=
 match p,v with
 | .d (.x i),v=>match asD kn v with
   |some (_,d)=>((i,d)::q.1,q.2)
   |none=>q
 | .row m (.x i),.row k l=>((i,l)::q.1,(m,k)::q.2)
 | .ptr m _,.ptr k _=>(q.1,(m,k)::q.2)
 |_,_=>q
def rJ(kn:List (Nat×Nat)):List SV->List SV->Mt->Mt
 |p::ps,v::vs,q=>rJ kn ps vs (akN kn p v q)
 |_,_,q=>q
def asP(l:List (Nat×Nat))(n:Nat):Option Nat:=(l.find? λ p=>p.1==n).map (·.2)
def awk(l:List (Nat×D))(n:Nat):Option D:=(l.find? λ p=>p.1==n).map (·.2)
def arA(s:SS)(q:Mt)(n:Nat)(p:SO):Mt:=
 match asP q.2 n with
 |none=>q
 |some k=>match p,s.aj[k]? with
  | .box _ cs,some (.box _ ds)=>rJ s.kn cs ds q
  | .row _ _ _ (.x i),some (.row _ _ _ l)=>((i,l)::q.1,q.2)
  |_,_=>q
def rK(s:SS):Nat->List SO->Mt->Mt
 |_,[],q=>q
 |n,p::ps,q=>rK s (n+1) ps (arA s q n p)
def eZ(aj:List SO)(db:List Nat):Nat->Nat:=λ n=>if n<db.length then db.getD n 0 else aj.length+(n- db.length)
def avT(kn:List (Nat×Nat))(τ:List D)(σ:Nat->Nat)(p v:SV):Option (List Node):=
 match p with
 | .d (.x i)=>match asD kn v with
   |some (ns,d)=>if(τ.getD i (.c .top)).beq d=true then some ns else none
   |none=>none
 |p=>if(p.j0 τ σ).beq v=true then some []else none
def aak(kn:List (Nat×Nat))(τ:List D)(σ:Nat->Nat):List SV->List SV->Option (List Node)
 | [],[]=>some []
 |p::ps,v::vs=>match avT kn τ σ p v,aak kn τ σ ps vs with
  |some a,some b=>some (a++b)
  |_,_=>none
 |_,_=>none
def adr(s:SS)(τ:List D)(σ:Nat->Nat):Nat->List SO->Bool
 |_,[]=>true
 |n,p::ps=>(match s.aj[σ n]? with
  |some o=>(p.j0 τ σ).beq o
  |none=>false)&&adr s τ σ (n+1) ps
def posOf(j:Nat):List Nat->Nat->Option Nat
 | [],_=>none
 |x::l,i=>if x=j then some i else posOf j l (i+1)
def tf:List Nat->Bool
 | []=>true
 |x::l=> !l.contains x&&tf l
def nX(nv m:Nat):List D:=(List.range m).map λ j=> .ext nv j
def fy(aj:List SO)(db:List Nat)(ps:List SO):List SO:=
 ((List.range aj.length).map λ j=>match posOf j db 0 with
   |some n=>ps.getD n .dead
   |none=>aj.getD j .dead)++ps.drop db.length
def rZ(g:jw)(τ:List D)(σ:Nat->Nat)(nv:Nat):List (Nat×D×D):=g.aU.filterMap λ (n:Nat)=>match g.aj[n]?,g.cq[n]? with
 |some (SO.row _ _ _ (D.x i)),some (SO.row _ _ _ (D.x j))=>some (σ n,τ.getD i (.c .top),.ext nv j)
 |_,_=>none
def aaS(l:List (Nat×D×D))(v:SV):SV:=l.foldl (λ v q=>v.rew q.1 q.2.1 q.2.2) v
def akO(s:SS)(g:jw)(as:List SV):Option (List D×List Nat):=
 let q:=rK s 0 g.aj (rK s 0 g.aj (rJ s.kn g.args as ([],[])))
 match(List.range g.n).mapM (awk q.1),(List.range g.aj.length).mapM (asP q.2)with
 |some τ,some db=>some (τ,db)
 |_,_=>none
def wR(s:SS)(f:FuncId)(as:List SV)(g:jw):Option (List Node×SV×SS):=
 match akO s g as with
 |some (τ,db)=>
  let σ:=eZ s.aj db
  match aak s.kn τ σ g.args as with
  |some ns=>
   if g.ok=true/\db.length=g.aj.length/\tf db=true/\db.all (·<s.aj.length)=true/\τ.length=g.n/\adr s τ σ 0 g.aj=true/\il s.nv ns=s.nv then
    let e:=nX s.nv g.m
    let ks:=rZ g τ σ s.nv
    some (ns++ .op (.ia f g τ)::ks.map (λ q=> .aP (.eql q.2.1 q.2.2)),g.res.afB e σ,
     {s with env:=s.env.map (λ p=>(p.1,aaS ks p.2)),aj:=fy s.aj db (g.cq.map (SO.j0 e σ)),nv:=s.nv+1})
   else none
  |none=>none
 |none=>none
def SV.isR:SV->Bool
 | .row _ _=>true
 | .ptr _ _=>true
 |_=>false
def jw.one(g:jw):Bool:=decide (g.aj.length=1)&&decide (g.cq.length=1)&&g.aj.all (SO.pat g.n 0)&&g.cq.all (SO.pat g.m 0)&&g.res.yV g.m 0&&decide ((g.args.filter SV.isR).length=1)
def oi(s:SS)(f:FuncId)(as:List SV):List jw->Option (List Node×SV×SS)
 | []=>none
 |g::gs=>match wR s f as g with
  |some q=>some q
  |none=>oi s f as gs
def zh(s:SS):Option aE->Bool
 |none=>true
 |some x=>match cE s x with
  | .d (.c (.v (.int _ n)))=>decide (n=0)
  |_=>false
def aqx(s:SS)(m:Nat)(v:SV)(lo hi:Option aE):Option (List Node×SV×SS):=
 match v with
 | .d (.c .aQ)=>if zh s lo=true/\zh s hi=true then some ([],.d (.c .aQ),s)else none
 | .row k l=>match cur s k l with
   |some (nl,e,sz)=>if sz=m/\zh s lo=true/\hi.isSome=true/\zh s hi=true then
    some (if nl=true then [.aP (.ne l)]else [],.row s.aj.length (.c (.sl [])),{s with aj:=s.aj.set k .dead++ [.row false e m (.c (.sl []))]})else none
   |none=>none
 |_=>none
def xOp(op:dZ)(s:SS):Option (List Node×SV×SS):=
 match op with
 | .abS t m bytes z a b=>match cE s a,cE s b with
   | .d (.c .aQ),.d y=>some ([.op (.rep bytes z y y),.aP (.ne (.x s.nv))],.row s.aj.length (.x s.nv),{s with aj:=s.aj++ [.row false t m (.x s.nv)],nv:=s.nv+1})
   |_,_=>none
 | .cut m a lo hi=>aqx s m (cE s a) lo hi
 | .stuck=>some ([.aP .no],.d (.c .top),s)
 | .ir _ m len z ps=>match n4 s m len ps with
   |some (ns,ps)=>some (nx s ns (.pH z len ps))
   |none=>none
 | .pu o args=>match o,args with
   | .amt,[a]=>match cE s a with
     | .d (.c .aQ)=>some ([],.d (.c (.v (.int .i64 0))),s)
     |_=>none
   |o,args=>match gG s args with
    |some (ns,ds,_)=>some (nx s ns (.pu o ds))
    |none=>none
 | .jN t m bytes a b=>match cE s a,cE s b with
   | .row k l,.d y=>match cur s k l with
     |some (nl,e,sz)=>if e=t/\sz=m then some ([.op (.jN m bytes l y)],.row k (.x s.nv),{s with aj:=s.aj.set k (.row nl e sz (.x s.nv)),nv:=s.nv+1})else none
     |none=>none
   | .d (.c .aQ),.d y=>some ([.op (.jN m bytes (.c (.sl [])) y),.aP (.ne (.x s.nv))],.row s.aj.length (.x s.nv),{s with aj:=s.aj++ [.row false t m (.x s.nv)],nv:=s.nv+1})
   |_,_=>none
 | .bt a=>some ([],cE s a,s)
 | .pick c a b=>match cE s c with
   | .d (.c (.v (.bool t)))=>some ([],if t then cE s a else cE s b,s)
   | .d c=>match asD s.kn (cE s a),asD s.kn (cE s b)with
     |some (na,a),some (nb,b)=>some (nx s (na++nb) (.pick c a b))
     |_,_=>none
   |_=>none
 | .alloc t n z=>aeu s t n z
 | .box t n a=>aqy s t n (cE s a)
 | .build z ps=>aes s z ps
 | .gu k t n z=>we s k t n z
 | .lg k t n a=>aet s k t n (cE s a)
 | .gr k t m len z ps=>wc s k t m len z ps
 | .buildSlice t m len z ps=>n5 s t m len z ps
 | .load n a=>ajw s n (cE s a)
 | .store m a b=>aep s m (cE s a) (cE s b)
 | .bin o a b=>match cE s a,cE s b with
   | .d a,.d b=>some (nx s [] (.bin o a b))
   |_,_=>none
 | .beq neg a b=>match cE s a,cE s b with
   | .d a,.d b=>some (nx s [] (.beq neg a b))
   |_,_=>none
 | .un o a=>match cE s a with
   | .d a=>some (nx s [] (.un o a))
   |_=>none
 | .jo k a=>match cE s a with
   | .d a=>some (nx s [] (.conv k a))
   |_=>none
 | .dz off a=>aer s off (cE s a)
 | .yg off n a=>aqw s off n (cE s a)
 | .kf m a i=>aeq s m (cE s a) (cE s i)
 | .eB a i=>match cE s a,cE s i with
   | .d a,.d i=>some (nx s [] (.eB a i))
   |_,_=>none
 | .cL a lo hi=>match cE s a,yL s lo,yL s hi with
   | .d a,some lo,some hi=>some (nx s [] (.cL a lo hi))
   |_,_,_=>none
 | .cw m a lo hi=>match cE s a,yL s lo,yL s hi with
   | .d a,some lo,some hi=>some (nx s [] (.cw m a lo hi))
   |_,_,_=>none
 | .mk t m bytes z n c=>match cE s n,cE s c with
   | .d n,.d c=>newRow s t m (nx s [] (.rep bytes z n c))
   |_,_=>none
 | .dI a=>match cE s a with
   | .d a=>some (nx s [] (.dI a))
   |_=>none
 | .cz a=>match cE s a with
   | .d (.c .aQ)=>some ([],.d (.c (.v (.int .i64 0))),s)
   | .d a=>some (nx s [] (.cz a))
   | .row k l=>match cur s k l with
     |some _=>some (nx s [] (.cz (.sl l)))
     |none=>none
   |_=>none
 | .app t m bytes a b=>match cE s a with
   | .row k l=>match cur s k l with
     |some (nl,e,sz)=>if e=t/\sz=m then
       match(match cE s b with
        | .d y=>some y
        | .row k' l'=>if(cur s k' l').isSome=true then some (.sl l')else none
        |_=>none)with
       |some y=>some ([.op (.app m bytes l y)],.row k (.x s.nv),{s with aj:=s.aj.set k (.row nl e sz (.x s.nv)),nv:=s.nv+1})
       |none=>none
      else none
     |none=>none
   | .d (.c .aQ)=>
     match(match cE s b with
      | .d y=>some y
      | .row k' l'=>if(cur s k' l').isSome=true then some (.sl l')else none
      |_=>none)with
     |some y=>some ([.op (.app m bytes (.c (.sl [])) y),.aP (.ne (.x s.nv))],.row s.aj.length (.x s.nv),{s with aj:=s.aj++ [.row false t m (.x s.nv)],nv:=s.nv+1})
     |none=>none
   |_=>none
 | .ext a i=>match cE s a with
   | .aK cs=>match cs[i]? with
     |some v=>some ([],v,s)
     |none=>none
   | .d (.x j)=>some ([.aP (.aK (.x j) i)],.d (.ext j i),s)
   |_=>none
 | .ov a=>match cE s a with
   | .ptr k f=>match lf s k with
     |some _=>some ([],.ptr k f,s)
     |none=>none
   | .ip y f=>some ([],.ip y f,s)
   | .d (.fn f l)=>some ([],.d (.fn f l),s)
   | .d x=>some ([.aP (.alb x)],.d x,s)
   |_=>none
 | .tj f aX=>match gG s aX with
   |some (ns,ds,false)=>some (done s ns (.d (.fn f ds)))
   |_=>none
 | .lA f args=>match gG s args with
   |some (ns,ds,b)=>some (nx s ns (.call f ds b))
   |none=>none
 | .jf g args=>match cE s g,gG s args with
   | .d (.c (.fn f [])),some (ns,ds,b)=>some (nx s ns (.call f ds b))
   | .d (.fn f aX),some (ns,ds,b)=>some (nx s ns (.call f (ds++aX) b))
   | .d g,some (ns,ds,b)=>some (nx s ns (.eJ g ds b))
   |_,_=>none
 | .kS f args=>match gG s args with
   |some (ns,ds,_)=>some (nx s ns (.call f ds true))
   |none=>none
 | .fK nl e m f args=>match gG s args with
   |some (ns,ds,false)=>rI s nl e m (nx s ns (.fK nl e m f ds))
   |_=>none
 | .jX f args=>match gG s args with
   |some (ns,ds,false)=>some (nx s ns (.call f ds false))
   |_=>none
 | .jd gs f args=>oi s f (args.map (cE s)) (gs.filter jw.one)
 | .ia gs f args=>match oi s f (args.map (cE s)) gs with
   |some q=>some q
   |none=>match gG s args with
    |some (ns,ds,false)=>some (nx s ns (.call f ds false))
    |_=>none
 | .ik g args=>match cE s g,gG s args with
   | .d (.c (.fn f [])),some (ns,ds,false)=>some (nx s ns (.call f ds false))
   | .d (.fn f aX),some (ns,ds,false)=>some (nx s ns (.call f (ds++aX) false))
   | .d g,some (ns,ds,false)=>some (nx s ns (.eJ g ds false))
   |_,_=>none
 |_=>none
def mO(s:SS)(t m k:Nat):SS:=
 {s with env:=s.env.map (λ p=>(p.1,if p.1=k then .row s.aj.length (.c (.sl []))else p.2)),aj:=s.aj++ [.row true t m (.c (.sl []))]}
def SV.jl(n:Nat)(l:D):SV->SV
 | .row m k=>if m=n/\k.beq l=true then .d (.sl l)else .row m k
 |v=>v
def SV.ase(n:Nat)(l:D):SV->SV
 | .agg cs=> .agg (cs.map (SV.jl n l))
 |v=>v.jl n l
def SO.jl(n:Nat)(l:D):SO->SO
 | .box e cs=> .box e (cs.map (SV.jl n l))
 |o=>o
def abz(s:SS)(n:Nat):SS:=
 match s.aj[n]? with
 |some (.row _ _ _ l)=>if l.cl s.nv=true then{s with env:=s.env.map (λ p=>(p.1,p.2.ase n l)),aj:=(s.aj.map (SO.jl n l)).set n .dead}else s
 |_=>s
def SV.fbx(n:Nat)(a:D):SV->SV
 | .ptr m f=>if m=n then .ip a f else .ptr m f
 |v=>v
def SV.fbc(n:Nat)(a:D):SV->SV
 | .ptr m f=>if m=n then .d (.ip a f)else .ptr m f
 |v=>v
def SO.fbx(n:Nat)(a:D):SO->SO
 | .box e cs=> .box e (cs.map (SV.fbc n a))
 |o=>o
def mkD:List D->D
 | [d]=>d
 |ds=> .agg ds
def yd(s:SS)(n:Nat):SS:=
 match s.aj[n]? with
 |some (.box _ cs)=>match afY cs with
  |some ds=>if D.cls s.nv ds=true then{s with env:=s.env.map (λ p=>(p.1,p.2.fbx n (mkD ds))),aj:=(s.aj.map (SO.fbx n (mkD ds))).set n .dead}else s
  |none=>s
 |_=>s
def SV.rows:SV->List Nat
 | .row n _=>[n]
 | .agg cs=>cs.flatMap λ| .row n _=>[n]|_=>[]
 |_=>[]
def nH(s:SS)(v:SV):SS:=v.rows.foldl abz s
def tQ(s:SS)(l:List aE):SS:=l.foldl (λ s x=>nH s (cE s x)) s
def afT(s:SS)(x:aE):SS:=
 match cE s x with
 | .ptr n _=>match lf s n with
   |some (_,cs)=>yd (cs.foldl nH s) n
   |none=>s
 |v=>nH s v
def su:Nat->SS->Nat->SS
 |0,s,_=>s
 |k+1,s,n=>match lf s n with
  |some (_,cs)=>yd (cs.foldl (λ s v=>match v with
   | .ptr m _=>su k s m
   |v=>nH s v) s) n
  |none=>s
def yc(s:SS)(x:aE):SS:=
 match cE s x with
 | .ptr n _=>su 3 s n
 |_=>s
def sr(s:SS)(l:List aE):SS:=l.foldl yc s
def agU(s:SS)(l:List aE):SS:=l.foldl (λ s x=>match cE s x with
 | .agg cs=>nH s (.agg cs)
 |_=>s) s
def ash(s:SS)(l:List (SV×aE)):SS:=l.foldl (λ s p=>match p.1 with
 | .d _=>yc (nH s (cE s p.2)) p.2
 |_=>s) s
def aq3(fl:List Nat)(op:dZ)(s:SS):SS:=
 match op with
 | .app t m _ (.t k) _=>match lk s.env k with
   | .d (.c .aQ)=>mO s t m k
   |_=>s
 | .jN t m _ (.t k) _=>match lk s.env k with
   | .d (.c .aQ)=>mO s t m k
   |_=>s
 | .cw _ a _ _=>nH s (cE s a)
 | .buildSlice _ _ _ _ ps=>tQ s (ps.map (·.2))
 | .store _ a b=>match cE s a with
   | .rp _ _ _ _=>nH s (cE s b)
   |_=>s
 | .tj _ aX=>aX.foldl afT s
 | .lA f args=>if fl.contains f=true then sr (agU s args) args else sr (tQ s args) args
 | .jf _ args=>sr (tQ s args) args
 | .fK _ _ _ _ args=>sr (tQ s args) args
 | .pick _ a b=>tQ s [a,b]
 | .ia gs f args=>if(oi s f (args.map (cE s)) gs).isSome=true then s else match gs with
   |g::_=>ash s (g.args.zip args)
   | []=>s
 |_=>s
def al0(s:SS)(l:List SV):SS:=l.foldl (λ s v=>match v with
 | .ptr m _=>su 3 s m
 |v=>nH s v) s
def PO.cl(nv:Nat)(o:PO):Bool:=
 match o with
 | .val x=>x.cl nv
 | .pick c a b=>c.cl nv&&a.cl nv&&b.cl nv
 | .bin _ a b=>a.cl nv&&b.cl nv
 | .beq _ a b=>a.cl nv&&b.cl nv
 | .un _ a=>a.cl nv
 | .conv _ a=>a.cl nv
 | .elem _ l i=>l.cl nv&&i.cl nv
 | .yg _ _ a=>a.cl nv
 | .uE _ _ a=>a.cl nv
 | .eB a i=>a.cl nv&&i.cl nv
 | .cL a _ _=>a.cl nv
 | .cw _ a _ _=>a.cl nv
 | .dI a=>a.cl nv
 | .cz a=>a.cl nv
 | .pH z _ ps=>z.ag&&ps.all (λ p=>p.2.cl nv)
 | .rep _ z _ _=>z.ag
 | .app _ _ l y=>l.cl nv&&y.cl nv
 | .get l _ _ _=>l.cl nv
 | .set l _ _ _ y=>l.cl nv&&y.cl nv
 | .call _ as _=>D.cls nv as
 | .eJ g as _=>g.cl nv&&D.cls nv as
 | .ldp _ a=>a.cl nv
 | .fap _ a=>a.cl nv
 | .pu _ ds=>D.cls nv ds
 | .jN _ _ l y=>l.cl nv&&y.cl nv
 | .fK _ _ _ _ ds=>D.cls nv ds
 | .ia _ _ ds=>D.cls nv ds
def cu:Nat->List Node->Bool
 |_,[]=>true
 |nv,.op o::r=>o.cl nv&&cu (nv+1) r
 |nv,.aP _::r=>cu nv r
abbrev uz:aE->Bool:=aE.okc
def dZ.okc:dZ->Bool
 | .box _ _ a=>uz a
 | .lg _ _ _ a=>uz a
 | .gu _ _ _ z=>z.ag
 | .gr _ _ _ _ z ps=>z.ag&&ps.all (λ p=>p.2.okc)
 | .build z ps=>AV.ad z&&ps.all (λ p=>uz p.2.2)
 | .store _ _ a=>uz a
 |_=>true
def kns:Nat->List Node->List (Nat×Nat)
 |_,[]=>[]
 |nv,.aP (.cells (.x i) m)::r=>(i,m)::kns nv r
 |nv,.op (.elem m _ _)::r=>(nv,m)::kns (nv+1) r
 |nv,.op (.uE _ m _)::r=>(nv,m)::kns (nv+1) r
 |nv,.op (.yg _ (some m) _)::r=>(nv,m)::kns (nv+1) r
 |nv,.op _::r=>kns (nv+1) r
 |nv,_::r=>kns nv r
def kb(op:dZ)(s:SS):Option (List Node×SV×SS):=
 if s.cl=true/\op.okc=true then
  match xOp op s with
  |some (ns,v,s')=>if cu s.nv ns=true/\il s.nv ns=s'.nv/\v.cl s'.nv=true/\s'.cl=true then some (ns,v,{s' with kn:=kns s.nv ns++s'.kn})else none
  |none=>none
 else none
def pre(fl:List Nat)(wk:Bool)(op:dZ)(s:SS):SS:=if wk=true then aq3 fl op s else s
def nN(fl:List Nat)(wk:Bool):List aN->SS->Option T
 | [],s=>some (.leaf .normal s)
 |o::r,s=>match o.guard with
  |none=>match kb o.op (pre fl wk o.op s)with
   |some (ns,v,s')=>(nN fl wk r (s'.bI o.dst v)).map (wrap ns)
   |none=>none
  |some (g,want)=>match lk s.env g with
   | .d (.c (.v (.bool b)))=>
     if b=want then
      match lk (pre fl wk o.op s).env g with
      | .d (.c (.v (.bool b')))=>if b'=want then
        match kb o.op (pre fl wk o.op s)with
        |some (ns,v,s')=>(nN fl wk r (s'.bI o.dst v)).map (wrap ns)
        |none=>none
        else none
      |_=>none
     else nN fl wk r (s.bI o.dst un)
   | .d (.c (.aK []))=>nN fl wk r (s.bI o.dst un)
   | .d _=>match lk (pre fl wk o.op s).env g with
     | .d c=>
       match kb o.op ((pre fl wk o.op s).set g (.d (.c (.v (.bool want)))))with
       |some (ns,v,s')=>
        match nN fl wk r (s'.bI o.dst v),nN fl wk r (((pre fl wk o.op s).set g (.d (.c (.v (.bool (!want)))))).bI o.dst un)with
        |some t1,some t2=>some (if want=true then .ite c (wrap ns t1) t2 else .ite c t2 (wrap ns t1))
        |_,_=>none
       |none=>none
     |_=>none
   |_=>none
def atS:SV->List Nat
 | .row n _=>[n]
 | .ptr n _=>[n]
 | .rp n _ _ _=>[n]
 |_=>[]
def rfS(s:SS):aE->List Nat
 | .t n=>atS (lk s.env n)
 | .c a=>refs a
def akZ(op:dZ)(s:SS):ll:=kz op (rfS s) s.aj.length
def kN(rows:List (List Nat))(all:List aN):List aN->List ll->SS->Option T
 | [],acc,s=>if kD rows (all.zip acc)=true then some (.leaf .normal s)else none
 |o::r,acc,s=>match o.guard with
  |none=>match kb o.op s with
   |some (ns,v,s')=>(kN rows all r (acc++ [akZ o.op s]) (s'.bI o.dst v)).map (wrap ns)
   |none=>none
  |some (g,want)=>match lk s.env g with
   | .d (.c (.v (.bool b)))=>
     if b=want then
      match kb o.op s with
      |some (ns,v,s')=>(kN rows all r (acc++ [akZ o.op s]) (s'.bI o.dst v)).map (wrap ns)
      |none=>none
     else kN rows all r (acc++ [⟨[],.ou⟩]) (s.bI o.dst un)
   | .d (.c (.aK []))=>kN rows all r (acc++ [⟨[],.ou⟩]) (s.bI o.dst un)
   | .d c=>
     match kb o.op (s.set g (.d (.c (.v (.bool want)))))with
     |some (ns,v,s')=>
      match kN rows all r (acc++ [akZ o.op (s.set g (.d (.c (.v (.bool want)))))]) (s'.bI o.dst v),kN rows all r (acc++ [⟨[],.ou⟩]) ((s.set g (.d (.c (.v (.bool (!want)))))).bI o.dst un)with
      |some t1,some t2=>some (if want=true then .ite c (wrap ns t1) t2 else .ite c t2 (wrap ns t1))
      |_,_=>none
     |none=>none
   |_=>none
def dZ.handed:dZ->List aE
 | .jX _ l| .kS _ l| .fK _ _ _ _ l| .lA _ l| .tj _ l=>l
 | .ik x l=>x::l
 | .ir _ _ _ _ ps=>ps.map (·.2)
 | .cw _ x _ _=>[x]
 | .pick _ a b=>[a,b]
 | .store _ _ y=>[y]
 |_=>[]
def qO:List aN->SS->List SV
 | [],_=>[]
 |o::r,s=>match o.guard with
  |none=>match kb o.op s with
   |some (_,v,s')=>qO r (s'.bI o.dst v)
   |none=>o.op.handed.map (cE s)
  |some (g,want)=>match lk s.env g with
   | .d (.c (.v (.bool b)))=>if b=want then(match kb o.op s with
    |some (_,v,s')=>qO r (s'.bI o.dst v)
    |none=>o.op.handed.map (cE s))else qO r (s.bI o.dst un)
   | .d (.c (.aK []))=>qO r (s.bI o.dst un)
   | .d _=>match kb o.op (s.set g (.d (.c (.v (.bool want)))))with
     |some (_,v,s')=>match qO r (s'.bI o.dst v)with
      | []=>qO r ((s.set g (.d (.c (.v (.bool (!want)))))).bI o.dst un)
      |l=>l
     |none=>o.op.handed.map (cE s)
   |_=>[]
def iE:List aN->SS->List aN×SS
 | [],s=>([],s)
 |o::r,s=>match o.op with
  | .alloc t m z=>let q:=iE r {s with aj:=s.aj++ [.row true t m (.c (.sl []))]};({o with op:= .gu s.aj.length t m z}::q.1,q.2)
  | .box t m x=>let q:=iE r {s with aj:=s.aj++ [.row true t m (.c (.sl []))]};({o with op:= .lg s.aj.length t m x}::q.1,q.2)
  | .buildSlice t m (len+1) z ps=>let q:=iE r {s with aj:=s.aj++ [.row true t m (.c (.sl []))]};({o with op:= .gr s.aj.length t m (len+1) z ps}::q.1,q.2)
  |_=>let q:=iE r s;(o::q.1,q.2)
def adB(rows:List (List Nat))(ops:List aN):Nat->SS->Option (SS×List aN×T)
 |0,_=>none
 |n+1,s=>match kN rows ops ops [] s with
  |some t=>some (s,ops,t)
  |none=>match qO ops s with
   | []=>match kN rows (iE ops s).1 (iE ops s).1 [] (iE ops s).2 with
     |some t=>some ((iE ops s).2,(iE ops s).1,t)
     |none=>none
   |l=>adB rows ops n (al0 s l)
def D.inst(base:Nat)(vs:List D):D->D
 | .x i=>if i<base then .x i else vs.getD (i- base) (.c .top)
 |d=>if d.cl base=true then d else .c .top
def SV.inst(base:Nat)(vs:List D):SV->SV
 | .d x=> .d (x.inst base vs)
 | .row n l=> .row n (l.inst base vs)
 | .ptr n f=> .ptr n f
 | .rp n l i f=> .rp n (l.inst base vs) (i.inst base vs) f
 | .ip x f=> .ip (x.inst base vs) f
 | .agg cs=>if SV.cls base cs=true then .agg cs else .d (.c .top)
 | .aK cs=>if SV.cls base cs=true then .aK cs else .d (.c .top)
 | .top=> .top
def SO.inst(base:Nat)(vs:List D):SO->SO
 | .dead=> .dead
 | .box e cs=> .box e (cs.map (SV.inst base vs))
 | .row nl e s l=> .row nl e s (l.inst base vs)
def D0:SV->Option D
 | .d x=>some x
 |_=>none
def aal(base j:Nat):List (SV×SV)->Option D
 | []=>none
 |(a,b)::r=>match a with
  | .d (.x i)=>if i=base+j then(match D0 b with|some d=>some d|none=>aal base j r)else aal base j r
  | .row _ (.x i)=>if i=base+j then(match b with| .row _ l=>some l|_=>aal base j r)else aal base j r
  |_=>aal base j r
def aiQ:SO->SO->List (SV×SV)
 | .box _ cs,.box _ ds=>cs.zip ds
 | .row _ _ _ l,.row _ _ _ k=>[(.d l,.d k)]
 |_,_=>[]
def jz:List SV->List SV->List SV
 | .top::ts,_::cs=> .top::jz ts cs
 |_::ts,c::cs=>c::jz ts cs
 |_,cs=>cs
def amF(o:SO):Option SO->SO
 |some .dead=> .dead
 |some (.box _ ts)=>match o with
  | .box e cs=>if 2<=cs.length then .box e (jz ts cs)else .box e cs
  |o=>o
 |_=>o
def eg(t:List SO):Nat->List SO->List SO
 |_,[]=>[]
 |k,o::r=>amF o t[k]? ::eg t (k+1) r
def coerce(n0 base:Nat)(s t:SS):Option (List D):=
 let atZ:=((t.aj.zip s.aj).flatMap λ p=>aiQ p.1 p.2)++t.env.map λ p=>(p.2,lk s.env p.1)
 match(List.range (t.nv- base)).mapM λ j=>aal base j atZ with
 |none=>none
 |some vs=>
  let aj:=eg t.aj 0 s.aj
  if n0<=t.aj.length/\base<=t.nv/\base<=s.nv/\t.aj.length<=aj.length/\D.cls s.nv vs=true/\t.cl=true/\
   (t.env.all λ p=>(p.2.inst base vs).beq (lk s.env p.1)&&p.2.sc t.aj.length)=true/\
   ((t.aj.zip aj).all λ p=>(p.1.inst base vs).beq p.2&&p.1.sc t.aj.length)=true then some vs else none
def abU(v:SV):List SV->Bool
 | []=>true
 |w::l=>v.beq w&&abU v l
def asS:List SV->Bool
 | []=>true
 | .d _::l=>asS l
 |_::_=>false
def amW(n:Nat):List SS->List SV->Bool
 |s::ss,.row m l::vs=>decide (m=n)&&(cur s m l).isSome&&amW n ss vs
 | [],[]=>true
 |_,_=>false
def ayI(L:List SS)(base next:Nat)(vs:List SV):SV×Nat:=
 match vs with
 | .row n l::_=>if amW n L vs=true then(.row n (.c .top),next)else(.top,next)
 |v::r=>
  if abU v r=true/\v.cl base=true then(v,next)
  else if asS vs=true then(.d (.x next),next+1)
  else(.top,next)
 | []=>(.top,next)
def ayG(base next:Nat)(vs:List SV):SV×Nat:=
 match vs with
 | []=>(.top,next)
 |v::r=>
  if abU v r=true/\v.cl base=true then(v,next)
  else if asS vs=true then(.d (.x next),next+1)
  else(.top,next)
def aqc(L:List SS)(base:Nat):Nat->List (List SV)->List SV×Nat
 |next,[]=>([],next)
 |next,vs::r=>
  let(v,n1):=ayI L base next vs
  let(l,n2):=aqc L base n1 r
  (v::l,n2)
def akx(k:Nat)(l:List SO):List SV:=l.map λ| .box _ cs=>cs.getD k .top|_=> .top
def ayH(L:List SS)(base next:Nat)(os:List SO):SO×Nat:=
 match os with
 | .box e cs::r=>if r.all (λ| .box e' ds=>decide (e=e')&&decide (ds.length=cs.length)|_=>false)=true then
  let(l,n):=aqc L base next ((List.range cs.length).map λ k=>akx k os)
  (.box e l,n)else(.dead,next)
 | .row nl e s l::r=>if r.all (λ| .row nl' e' s' _=>decide (nl=nl')&&decide (e=e')&&decide (s=s')|_=>false)=true then
  (if r.all (λ| .row _ _ _ k=>l.beq k|_=>false)=true/\l.cl base=true then(.row nl e s l,next)else(.row nl e s (.x next),next+1))else(.dead,next)
 |_=>(.dead,next)
def aqd(L:List SS)(base:Nat):Nat->List (List SO)->List SO×Nat
 |next,[]=>([],next)
 |next,os::r=>
  let(o,n1):=ayH L base next os
  let(l,n2):=aqd L base n1 r
  (o::l,n2)
def akK:List SS->Nat
 | []=>0
 | [s]=>s.aj.length
 |s::r=>min s.aj.length (akK r)
def auM(s:SS):SV->Bool
 | .row n l=>(cur s n l).isSome
 |_=>false
def avN(base:Nat)(aj:List SO)(L:List SS):Nat->List Nat->List (Nat×SV)×Nat
 |next,[]=>([],next)
 |next,t::r=>
  let vs:=L.map λ s=>lk s.env t
  let q:SV×Nat:=match vs with
   | .row n _::_=>
     if(L.all λ s=>match lk s.env t with| .row m l=>decide (m=n)&&(cur s m l).isSome|_=>false)=true then
      (match aj[n]? with|some (.row _ _ _ l)=>(.row n l,next)|_=>(.top,next))else(.top,next)
   |_=>ayG base next vs
  let q:SV×Nat:=if q.1.sc aj.length=true then q else(.top,q.2)
  let(l,n2):=avN base aj L q.2 r
  match q.1 with
  | .top=>(l,n2)
  |v=>((t,v)::l,n2)
def fixC(aj:List SO):SV->SV
 | .row n (.c .top)=>match aj[n]? with|some (.row _ _ _ l)=> .row n l|_=> .top
 |v=>v
def ayJ(aj:List SO):SO->SO
 | .box e cs=> .box e (cs.map (fixC aj))
 |o=>o
def gen(base:Nat)(L:List SS):SS:=
 match L with
 | []=>default
 |s::_=>
  let(apN,n1):=aqd L base base ((List.range (akK L)).map λ k=>L.map λ s=>s.aj.getD k .dead)
  let aj:=apN.map (ayJ apN)
  let(env,n2):=avN base aj L n1 (s.env.map (·.1))
  ⟨env,aj,n2,s.kn.filter λ p=>decide (p.1<base)⟩
def apo(s:SS)(t:SS):Option (Nat×Nat×Nat):=
 s.env.findSome? λ p=>match p.2 with
   | .d (.c .aQ)=>match lk t.env p.1 with
     | .row n l=>match cur t n l with
       |some (_,e,m)=>some (p.1,e,m)
       |none=>none
     |_=>none
   |_=>none
def sy(t:SS)(k:Nat):Nat->List SV->Option (Nat×Nat×Nat×Nat)
 |_,[]=>none
 |j,v::r=>match v with
  | .d (.c .aQ)=>match lf t k with
    |some (_,ds)=>match ds.getD j .top with
     | .row n l=>match cur t n l with
       |some (_,e,m)=>some (k,j,e,m)
       |none=>sy t k (j+1) r
     |_=>sy t k (j+1) r
    |none=>none
  |_=>sy t k (j+1) r
def yu(t:SS):Nat->List SO->Option (Nat×Nat×Nat×Nat)
 |_,[]=>none
 |k,o::r=>match o with
  | .box _ cs=>match sy t k 0 cs with
    |some q=>some q
    |none=>yu t (k+1) r
  |_=>yu t (k+1) r
def jP(s:SS)(k j t m:Nat):SS:=
 match lf s k with
 |some (e,cs)=>{s with aj:=s.aj.set k (.box e (cs.set j (.row s.aj.length (.c (.sl [])))))++ [.row true t m (.c (.sl []))]}
 |none=>s
inductive Conv where
 |slot (k t m:Nat)
 |cell (k j t m:Nat)
 |fbx (n:Nat)
 |asi (n:Nat)
def apn(s:SS)(t:SS):Option Conv:=
 s.env.findSome? λ p=>match p.2 with
   | .ptr n _=>match lk t.env p.1 with
     | .ip _ _=>some (.fbx n)
     |_=>none
   | .row n l=>match lk t.env p.1 with
     | .d _=>if(cur s n l).isSome=true then some (.asi n)else none
     |_=>none
   |_=>none
def amm(s:SS)(L:List SS):Option Conv:=
 match L.findSome? (apo s)with
 |some (k,t,m)=>some (.slot k t m)
 |none=>match L.findSome? (λ t=>yu t 0 s.aj)with
  |some (k,j,t,m)=>some (.cell k j t m)
  |none=>L.findSome? (apn s)
def Conv.run(s:SS):Conv->SS
 | .slot k t m=>match lk s.env k with
   | .d (.c .aQ)=>mO s t m k
   |_=>s
 | .cell k j t m=>match lf s k with
   |some (_,cs)=>match cs[j]? with
    |some (.d (.c .aQ))=>jP s k j t m
    |_=>s
   |none=>s
 | .fbx n=>match lf s n with
   |some (_,cs)=>yd (cs.foldl nH s) n
   |none=>s
 | .asi n=>abz s n
def o8(t:T):List SS:=t.leaves.filterMap λ p=>match p.1 with| .normal=>some p.2|_=>none
def ajS(a b:SS):Bool:=
 decide (a.nv=b.nv)&&decide (a.env.length=b.env.length)&&decide (a.aj.length=b.aj.length)&&
 ((a.env.zip b.env).all λ p=>decide (p.1.1=p.2.1)&&p.1.2.beq p.2.2)&&((a.aj.zip b.aj).all λ p=>p.1.beq p.2)
def ak4(live:List Nat)(s:SS):SS:={s with env:=live.filterMap λ t=>match lk s.env t with| .top=>none|v=>some (t,v)}
def tP(body:SS->Option T):Nat->SS->SS->Option (SS×SS×T)
 |0,_,_=>none
 |n+1,s,h=>match body h with
  |none=>none
  |some t=>
   match amm s (o8 t)with
   |some c=>if ajS (c.run s) s=true then none else tP body n (c.run s) (c.run s)
   |none=>
    if ajS h (gen s.nv (s::o8 t))=true then some (s,h,t)else tP body n s (gen s.nv (s::o8 t))
def aO.afu:aO->Bool
 | .j6 _=>true
 |_=>false
def aO.drawn:aO->Option (List (List Nat)×List aN)
 | .region (some rows) ops=>some (rows,ops)
 |_=>none
def aO.arI:aO->Bool
 | .cond _ _ _=>true
 |_=>false
def oN(body:SS->Option T):Nat->SS->Option (SS×T)
 |0,_=>none
 |n+1,s=>match body s with
  |none=>none
  |some t=>
   if 2<=(o8 t).length then
    match amm s (o8 t)with
    |some c=>oN body n (c.run s)
    |none=>some (s,t)
   else some (s,t)
def SV.apX:SV->Bool
 | .top=>true
 |_=>false
def SV.auL:SV->Bool
 | .row _ _=>true
 |_=>false
def arB(L:List SS)(h:SS):Bool:=(List.range h.aj.length).any λ n=>match h.aj[n]? with
 |some (.box _ cs)=>(List.range cs.length).any λ j=>(cs[j]?.getD .top).apX&&(L.all λ s=>match s.aj[n]? with
  |some (.box _ ds)=> !(ds[j]?.getD .top).apX
  |_=>false)&&(L.any λ s=>match s.aj[n]? with
  |some (.box _ ds)=>(ds[j]?.getD .top).auL
  |_=>false)
 |_=>false
def auC(L:List SS)(h:SS):Bool:=
 match L with
 |s::_::_=>(s.env.any λ p=>(match lk h.env p.1 with| .top=>true|_=>false)&&L.all λ s'=>auM s' (lk s'.env p.1))||arB L h
 |_=>false
def xC(n0:Nat)(fl:List Nat):aO->SS->Option T
 | .skip,s=>some (.leaf .normal s)
 | .region none ops,s=>nN fl false ops s
 | .region (some rows) ops,s=>kN rows ops ops [] s
 | .hD ops,s=>nN fl true ops s
 | .seq a b,s=>match xC n0 fl a s with
   |none=>none
   |some t0=>
    let L:=o8 t0
    if b.afu=true/\((t0.zV=true/\1<=L.length)∨2<=L.length)/\auC L (gen s.nv L)=false then
     let h:=gen s.nv L
     match t0.fill (λ x s'=>match x with
      | .normal=>(coerce n0 s.nv s' h).map .jump
      |x=>some (.bn (.leaf x s'))) 0,xC n0 fl b h with
     |some t1,some t2=>some (.bind (h.nv- s.nv) t1 t2)
     |_,_=>none
    else t0.fill (λ x s'=>match x with| .normal=>xC n0 fl b s'|x=>some (.leaf x s')) 0
 | .cond c t f,s=>match cE s c with
   | .d (.c (.v (.bool b)))=>if b=true then xC n0 fl t s else xC n0 fl f s
   | .d c=>match xC n0 fl t s,xC n0 fl f s with
     |some t1,some t2=>if s.cl=true then some (.ite c t1 t2)else none
     |_,_=>none
   |_=>none
 | .block id b,s=>match xC n0 fl b s with
   |none=>none
   |some t=>t.fill (λ x s'=>match x with
    | .exit i=>some (if i=id then .leaf .normal s' else .leaf (.exit i) s')
    |x=>some (.leaf x s')) 0
 | .loop b,s=>match tP (xC n0 fl b) 8 s s with
   |none=>none
   |some (s1,h,t)=>match coerce n0 s1.nv s1 h with
    |some init=>match t.fill (λ x s'=>match x with
      | .normal=>(coerce n0 s1.nv s' h).map .jump
      |x=>some (.bn (.leaf x s'))) 0 with
     |some t1=>some (.loop init t1)
     |none=>none
    |none=>none
 | .exit id,s=>some (.leaf (.exit id) s)
 | .ret,s=>some (.leaf .ret s)
 | .aU live c,s=>match xC n0 fl c s with
   |none=>none
   |some t=>t.fill (λ x s'=>match x with
    | .normal=>some (.leaf .normal (ak4 live s'))
    |x=>some (.leaf x s')) 0
 | .j6 c,s=>if c.arI=true then(match oN (xC n0 fl c) 6 s with
  |some q=>some q.2
  |none=>none)else match c.drawn with
   |some q=>(adB q.1 q.2 6 s).map (·.2.2)
   |none=>xC n0 fl c s
def aO.weaken:aO->aO
 | .region none ops=> .hD ops
 | .region (some rows) ops=> .j6 (.region (some rows) ops)
 | .seq a b=> .seq a.weaken (.j6 b.weaken)
 | .cond c t f=> .j6 (.cond c t.weaken f.weaken)
 | .block id b=> .block id b.weaken
 | .loop b=> .loop b.weaken
 | .aU l c=> .aU l c.weaken
 | .j6 c=> .j6 c.weaken
 |c=>c
def zx(s:SS):ff->Option SV
 | .tmp t=>some (lk s.env t)
 | .cell t n=>match lk s.env t with
   | .ptr k 0=>match lf s k with
     |some (_,cs)=>match n with
      |none=>none
      |some m=>if cs.length=m/\m≠1 then some (.agg cs)else none
     |none=>none
   |_=>none
def apf(s:SS):SV->Option D
 | .d x=>some x
 | .row n l=>if(cur s n l).isSome=true then some (.sl l)else none
 |_=>none
def ads(s:SS):List SV->Option (List D)
 | []=>some []
 |v::r=>match apf s v,ads s r with
  |some d,some ds=>some (d::ds)
  |_,_=>none
def aso(s:SS):SV->Option D
 | .agg cs=>(ads s cs).map .agg
 |v=>apf s v
def yj(s:SS):List ff->Option (List D)
 | []=>some []
 |r::rs=>match zx s r with
  |some v=>match aso s v,yj s rs with
   |some d,some ds=>some (d::ds)
   |_,_=>none
  |none=>none
def j3(g:jw):SS:=⟨(List.range g.args.length).map λ i=>(i,g.args.getD i .top),g.aj,g.n,[]⟩
def wV(s:SS):List ff->Option (List SV)
 | []=>some []
 |r::rs=>match zx s r,wV s rs with
  |some v,some vs=>some (v::vs)
  |_,_=>none
def uy:List SV->SV
 | [v]=>v
 |vs=> .aK vs
def xa(p v:SV):SV:=
 match p with
 | .d _=>match aeZ v with
   |some d=> .d d
   |none=>v
 |_=>v
def aaY(p v:SV):SV:=
 match p,v with
 | .aK ps,.aK vs=> .aK ((List.range vs.length).map λ i=>xa (ps.getD i .top) (vs.getD i .top))
 | .agg ps,.agg vs=> .agg ((List.range vs.length).map λ i=>xa (ps.getD i .top) (vs.getD i .top))
 |p,v=>xa p v
def apg(g:jw)(s:SS)(v:SV):Option (List D×List Nat):=
 let q0:Mt:=([],(List.range g.aj.length).map λ n=>(n,n))
 let q1:=match g.res,v with
  | .aK ps,.aK ws=>rJ [] ps ws q0
  | .agg ps,.agg ws=>rJ [] ps ws q0
  |p,v=>akN [] p v q0
 let q:=rK s 0 g.cq (rK s 0 g.cq q1)
 match(List.range g.m).mapM (awk q.1),(List.range g.cq.length).mapM (asP q.2)with
 |some τ,some db=>some (τ,db)
 |_,_=>none
def yk(s:SS)(db:List Nat):Nat->Nat:=λ n=>if n<db.length then db.getD n 0 else s.aj.length+n
def oK(g:jw)(rs:List ff)(s:SS):Option (List D×List Nat):=
 match wV s rs with
 |none=>none
 |some vs=>match apg g s (aaY g.res (uy vs))with
  |none=>none
  |some (τ,db)=>
   if s.cl=true/\g.ok=true/\(g.res.afB τ (yk s db)).beq (aaY g.res (uy vs))=true/\db.length=g.cq.length/\tf db=true/\(List.range g.aj.length).all (λ n=>decide (yk s db n=n))=true/\
    adr s τ (yk s db) 0 g.cq=true/\τ.length=g.m/\D.cls s.nv τ=true then some (τ,db)else none
end Go.Ab
