/- Part of a proof: the functions that the law reaches, walked by the abstract logic of the texts Ab. -/
import Derived.Test.YtfebhekplhjigaaAbM2
import Derived.Deep.LoopGhost
import Derived.Laws.Strings
import Derived.WideKeyArgs
import Derived.ChangeSame
import Derived.OpenShut
import Derived.JoinedCond
import Derived.ChangeArms
open Nat(zero_mul le_refl zero_add)
open Option(bind_eq_bind pure_def bind_eq_some_iff bind_some map_eq_some_iff)
open List(mapM_cons map_cons getElem?_map length_zip getElem?_take mem_of_getElem? mem_append_left)
set_option linter.unusedVariables false
set_option linter.unusedSimpArgs false
namespace Go.Ab
structure Sat(I0:dv)(L0:Nat->Loc)(O0:List ae)(w0:World)(nt:Nat)(e:Env)(O:List ae)(a:Act)(w:World)(I:dv)(L:Nat->Loc):Prop where
 dB:Good I0 L0 O0 w0 I L O w
 env:∀t,R I L O (e t) (a.tmps.getD t undef)
 size:nt<=a.tmps.size
 defers:a.defers= []
section
variable {P:Program} {I0:dv} {L0:Nat->Loc} {O0:List ae} {w0:World} {nt:Nat}
theorem amN(tmps:Array Value)(d:Nat)(v:Value)(hd:d<tmps.size)(t:Nat):(tmps.setIfInBounds d v).getD t undef=if t=d then v else tmps.getD t undef:=by
 simp only[Array.getD_eq_getD_getElem?,Array.getElem?_setIfInBounds];by_cases h:d=t
 ·subst h;simp[hd]
 ·rw[if_neg h,if_neg (λ k=>h k.symm)]
theorem Sat.put{e:Env}{O O':List ae}{a:Act}{w w':World}{I I':dv}{L L':Nat->Loc}(h:Sat I0 L0 O0 w0 nt e O a w I L){d:Option Nat}(hd:d.all (·<nt)=true){x:AV}{y:Value}
  (hg:Good I L O w I' L' O' w') (hr:R I' L' O' x y):Sat I0 L0 O0 w0 nt (bT e d x) O' (a.put d y) w' I' L':=by
 refine⟨h.dB.trans hg,λ t=> ?_,?_,?_⟩
 ·cases d with
  |none=>exact(h.env t).mono hg.ext
  |some d=>
   have aF:d<a.tmps.size:=by have:=h.size;simp at hd;omega
   simp only[bT,Env.set,Act.put];rw[amN _ _ _ aF]
   split
   ·exact hr
   ·exact(h.env t).mono hg.ext
 ·cases d<;>simp[Act.put];exact h.size;exact h.size
 ·cases d<;>simp[Act.put];exact h.defers;exact h.defers
theorem Sat.agw{e e':Env}{O:List ae}{a:Act}{w:World}{I:dv}{L:Nat->Loc}(h:Sat I0 L0 O0 w0 nt e O a w I L)(he:∀t,R I L O (e' t) (a.tmps.getD t undef)):Sat I0 L0 O0 w0 nt e' O a w I L:=
 ⟨h.dB,he,h.size,h.defers⟩
theorem aaj{ops:Array Oper}{K:Env->List ae->Prop}{Q:Exit->Act->World->Prop}(hq:∀e O a w I L,K e O->Sat I0 L0 O0 w0 nt e O a w I L->Q .normal a w):
  ∀(l:List Oper) (al:List aP),l.mapM (oV P nt ops)=some (al.map aP.strip)->∀e O a w I L,wpOps P al e O K->Sat I0 L0 O0 w0 nt e O a w I L->wpList P ops Q l a w
 | [],al,h,e,O,a,w,I,L,hk,hs=>by
   simp at h;subst h;exact hq _ _ _ _ _ _ hk hs
 |o::l,al,h,e,O,a,w,I,L,hk,hs=>by
  simp only[mapM_cons,bind_eq_bind,pure_def,bind_eq_some_iff,Option.some.injEq]at h;obtain⟨b,hb,bs,hbs,h⟩:=h;cases al with
  |nil=>simp at h
  |cons ao al=>
   simp only[map_cons,List.cons.injEq]at h;obtain⟨rfl,rfl⟩:=h;have ih:=aaj hq l al hbs;unfold oV at hb
   split at hb
   case h_2=>cases hb
   case h_1 op g hop hg=>
    split at hb
    case isFalse=>cases hb
    case isTrue hd=>
     simp only[Option.some.injEq,aP.strip,aP.mk.injEq]at hb;obtain⟨hgu,yt,ami⟩:=hb;subst ami;rw[yt]at hd
     have step:∀e1 I1 L1,Sat I0 L0 O0 w0 nt e1 O a w I1 L1->(wpOp P ao.op e1 O λ x O'=>wpOps P al (bT e1 ao.dst x) O' K)->o.wp P a w (wpList P ops Q l) Q:=by
      intro e1 I1 L1 vO uY;refine xw hop vO.dB.inv vO.env uY λ x O' y I' L' w' ot nL o7=> ?_
      rw[yt];exact ih _ _ _ _ _ _ ot (vO.put hd nL o7)
     have skip:∀e1 I1 L1,Sat I0 L0 O0 w0 nt e1 O a w I1 L1->wpOps P al (bT e1 ao.dst (.ba [])) O K->wpList P ops Q l (a.put o.dst undef) w:=by
      intro e1 I1 L1 vO uY;rw[yt];exact ih _ _ _ _ _ _ uY (vO.put hd (.refl vO.dB.inv) (.ba [] #[] rfl (by simp)))
     simp only[wpOps]at hk;unfold wpList;cases hog:o.guard with
     |none=>
      rw[hog]at hg;simp only[pU,Option.some.injEq]at hg;subst hg;rw[←hgu]at hk;rw[if_pos (by simp[Region.wanted,hog])];exact .inl (step _ _ _ hs hk)
     |some jb=>
      obtain⟨j,want⟩:=jb;rw[hog]at hg;simp only[pU]at hg
      split at hg
      case h_2=>cases hg
      case h_1 t ht=>
       split at hg
       case isFalse=>cases hg
       case isTrue htn=>
        simp only[Option.some.injEq]at hg;subst hg;rw[←hgu]at hk;simp only at hk;have aF:t<a.tmps.size:=Nat.lt_of_lt_of_le htn hs.size;have cz:a.tmps[t]? =some (a.tmps.getD t undef):=by simp[Array.getD,aF]
        have hr:=hs.env t;have hw:Region.wanted o (yielded ops a.tmps)=(yielded ops a.tmps j==some want):=by simp[Region.wanted,hog]
        have hy:yielded ops a.tmps j=match some (a.tmps.getD t undef)with|some (.bool b)=>some b|_=>none:=by
         unfold yielded;rw[ht];simp only[bind_some];rw[cz];cases a.tmps.getD t undef<;>rfl
        split at hk
        ·rename_i b hb;rw[hb]at hr;have hv:=hr.bool;rw[hv]at hy;simp only at hy;rw[hw,hy]
         have pF:∀c,b=c->Sat I0 L0 O0 w0 nt (e.set t (.v (.bool c))) O a w I L:=by
          intro c hc;refine hs.agw λ t'=> ?_
          unfold Env.set
          split
          ·rename_i htt;subst htt;rw[hv,hc];exact .v _ rfl
          ·exact hs.env t'
         by_cases lA:b=want
         ·rw[if_pos (by simp[lA])];exact .inl (step _ _ _ (pF want lA) (hk.1 lA))
         ·rw[if_neg (by simpa using lA)];have kV:b= !want:=by cases b<;>cases want<;>simp_all
          exact skip _ _ _ (pF (!want) kV) (hk.2 kV)
        ·rename_i hb;rw[hb]at hr
         have hv:a.tmps.getD t undef= .tuple #[]:=by
          generalize a.tmps.getD t undef=X at hr;cases hr with
          |ba _ vs h1 _=>congr 1;exact Array.eq_empty_of_size_eq_zero h1.symm
         rw[hv]at hy;simp only at hy;rw[hw,hy,if_neg (by simp)];exact skip _ _ _ hs hk
        ·exact hk.elim
def AX.to:AX->Exit
 | .normal=> .normal
 | .exit id=> .exit id
 | .ret=> .ret
theorem aps{I:dv}{L:Nat->Loc}{O:List ae}{e:Env}{f:Nat->Value}(h:∀t,R I L O (e t) (f t))(live:List Nat):∀t,R I L O (sK live e t) (f t):=by
 intro t;unfold sK
 split
 ·exact h t
 ·exact .top _
theorem Sat.wk{e e':Env}{O O':List ae}{a:Act}{w:World}{I:dv}{L:Nat->Loc}(h:Sat I0 L0 O0 w0 nt e O a w I L)(hw:WK O0.length e O e' O'):∃I' L',Sat I0 L0 O0 w0 nt e' O' a w I' L':=by
 obtain⟨I',L',hg,hr⟩:=hw I0 L0 O0 w0 I L w _ rfl h.dB h.env;exact⟨I',L',hg,hr,h.size,h.defers⟩
theorem xv{ops:Array Oper}{K:Env->List ae->Prop}{Q:Exit->Act->World->Prop}(hq:∀e O a w I L,K e O->Sat I0 L0 O0 w0 nt e O a w I L->Q .normal a w):
  ∀(l:List Oper) (al:List aP),l.mapM (oV P nt ops)=some (al.map aP.strip)->∀e O a w I L,gD P O0.length al e O K->Sat I0 L0 O0 w0 nt e O a w I L->wpList P ops Q l a w
 | [],al,h,e,O,a,w,I,L,hk,hs=>by
   simp at h;subst h;obtain⟨e',O',hw,hk⟩:=hk;obtain⟨I',L',hs'⟩:=hs.wk hw;exact hq _ _ _ _ _ _ hk hs'
 |o::l,al,h,e00,O00,a,w,I00,L00,hk,azu=>by
  simp only[mapM_cons,bind_eq_bind,pure_def,bind_eq_some_iff,Option.some.injEq]at h;obtain⟨b,hb,bs,hbs,h⟩:=h;cases al with
  |nil=>simp at h
  |cons ao al=>
   simp only[map_cons,List.cons.injEq]at h;obtain⟨rfl,rfl⟩:=h;simp only[gD]at hk;obtain⟨e,O,vN,hk⟩:=hk;obtain⟨I,L,hs⟩:=azu.wk vN;have ih:=xv hq l al hbs;unfold oV at hb
   split at hb
   case h_2=>cases hb
   case h_1 op g hop hg=>
    split at hb
    case isFalse=>cases hb
    case isTrue hd=>
     simp only[Option.some.injEq,aP.strip,aP.mk.injEq]at hb;obtain⟨hgu,yt,ami⟩:=hb;subst ami;rw[yt]at hd
     have step:∀e1 I1 L1,Sat I0 L0 O0 w0 nt e1 O a w I1 L1->(wpOp P ao.op e1 O λ x O'=>gD P O0.length al (bT e1 ao.dst x) O' K)->o.wp P a w (wpList P ops Q l) Q:=by
      intro e1 I1 L1 vO uY;refine xw hop vO.dB.inv vO.env uY λ x O' y I' L' w' ot nL o7=> ?_
      rw[yt];exact ih _ _ _ _ _ _ ot (vO.put hd nL o7)
     have skip:∀e1 I1 L1,Sat I0 L0 O0 w0 nt e1 O a w I1 L1->gD P O0.length al (bT e1 ao.dst (.ba [])) O K->wpList P ops Q l (a.put o.dst undef) w:=by
      intro e1 I1 L1 vO uY;rw[yt];exact ih _ _ _ _ _ _ uY (vO.put hd (.refl vO.dB.inv) (.ba [] #[] rfl (by simp)))
     unfold wpList;cases hog:o.guard with
     |none=>
      rw[hog]at hg;simp only[pU,Option.some.injEq]at hg;subst hg;rw[←hgu]at hk;rw[if_pos (by simp[Region.wanted,hog])];exact .inl (step _ _ _ hs hk)
     |some jb=>
      obtain⟨j,want⟩:=jb;rw[hog]at hg;simp only[pU]at hg
      split at hg
      case h_2=>cases hg
      case h_1 t ht=>
       split at hg
       case isFalse=>cases hg
       case isTrue htn=>
        simp only[Option.some.injEq]at hg;subst hg;rw[←hgu]at hk;simp only at hk;have aF:t<a.tmps.size:=Nat.lt_of_lt_of_le htn hs.size;have cz:a.tmps[t]? =some (a.tmps.getD t undef):=by simp[Array.getD,aF]
        have hr:=hs.env t;have hw:Region.wanted o (yielded ops a.tmps)=(yielded ops a.tmps j==some want):=by simp[Region.wanted,hog]
        have hy:yielded ops a.tmps j=match some (a.tmps.getD t undef)with|some (.bool b)=>some b|_=>none:=by
         unfold yielded;rw[ht];simp only[bind_some];rw[cz];cases a.tmps.getD t undef<;>rfl
        split at hk
        ·rename_i b hb;rw[hb]at hr;have hv:=hr.bool;rw[hv]at hy;simp only at hy;rw[hw,hy]
         have pF:∀c,b=c->Sat I0 L0 O0 w0 nt (e.set t (.v (.bool c))) O a w I L:=by
          intro c hc;refine hs.agw λ t'=> ?_
          unfold Env.set
          split
          ·rename_i htt;subst htt;rw[hv,hc];exact .v _ rfl
          ·exact hs.env t'
         by_cases lA:b=want
         ·rw[if_pos (by simp[lA])];exact .inl (step _ _ _ (pF want lA) (hk.1 lA))
         ·rw[if_neg (by simpa using lA)];have kV:b= !want:=by cases b<;>cases want<;>simp_all
          exact skip _ _ _ (pF (!want) kV) (hk.2 kV)
        ·rename_i hb;rw[hb]at hr
         have hv:a.tmps.getD t undef= .tuple #[]:=by
          generalize a.tmps.getD t undef=X at hr;cases hr with
          |ba _ vs h1 _=>congr 1;exact Array.eq_empty_of_size_eq_zero h1.symm
         rw[hv]at hy;simp only at hy;rw[hw,hy,if_neg (by simp)];exact skip _ _ _ hs hk
        ·exact hk.elim
theorem Sat.drawn{e:Env}{O:List ae}{a:Act}{w:World}{I:dv}{L:Nat->Loc}(h:Sat I0 L0 O0 w0 nt e O a w I L)(k:Nat):Sat I0 L0 O0 w0 nt e O a {w with drawn:=k} I L:=
 ⟨h.dB.trans (Good.drawn h.dB.inv k),h.env,h.size,h.defers⟩
theorem afi{ops:Array Oper}{o:Oper}{ao:aP}(hb:oV P nt ops o=some ao.strip){e e':Env}{O O':List ae}(om:Step P ao e O e' O'){a:Act}{w:World}{I:dv}{L:Nat->Loc}(hs:Sat I0 L0 O0 w0 nt e O a w I L)
  {next:Act->World->Prop} {Q:Exit->Act->World->Prop} (hn:∀a w I L,Sat I0 L0 O0 w0 nt e' O' a w I L->next a w):
  if Region.wanted o (yielded ops a.tmps)=true then o.wp P a w next Q else next (a.put o.dst undef) w:=by
 unfold oV at hb
 split at hb
 case h_2=>cases hb
 case h_1 op g hop hg=>
  split at hb
  case isFalse=>cases hb
  case isTrue hd=>
   simp only[Option.some.injEq,aP.strip,aP.mk.injEq]at hb;obtain⟨hgu,yt,ami⟩:=hb;subst ami;rw[yt]at hd
   have amw:∀t want,ao.guard=some (t,want)->∃j,o.guard=some (j,want)/\((ops[j]?).bind (·.dst))=some t/\t<nt:=by
    intro t want h;rw[h]at hgu;subst hgu;cases hog:o.guard with
    |none=>rw[hog]at hg;simp[pU]at hg
    |some jb=>
     obtain⟨j,b⟩:=jb;rw[hog]at hg;simp only[pU]at hg
     split at hg
     case h_2=>cases hg
     case h_1 t' ht'=>
      split at hg
      case isFalse=>cases hg
      case isTrue htn=>
       simp only[Option.some.injEq,Prod.mk.injEq]at hg;obtain⟨rfl,rfl⟩:=hg;exact⟨j,rfl,ht',htn⟩
   have al7:∀{j t},((ops[j]?).bind (·.dst))=some t->t<nt->yielded ops a.tmps j=match some (a.tmps.getD t undef)with|some (.bool b)=>some b|_=>none:=by
    intro j t ht htn;have aF:t<a.tmps.size:=Nat.lt_of_lt_of_le htn hs.size;have cz:a.tmps[t]? =some (a.tmps.getD t undef):=by simp[Array.getD,aF]
    unfold yielded;rw[ht];simp only[bind_some];rw[cz];cases a.tmps.getD t undef<;>rfl
   cases om with
   |run x _ hq hx=>
    have hw:Region.wanted o (yielded ops a.tmps)=true:=by
     cases hag:ao.guard with
     |none=>
      have:o.guard=none:=by
       rw[hag]at hgu;subst hgu;cases hog:o.guard with
       |none=>rfl
       |some jb=>
        obtain⟨j,b⟩:=jb;rw[hog]at hg;simp only[pU]at hg
        split at hg
        ·split at hg<;>simp at hg
        ·cases hg
      simp[Region.wanted,this]
     |some tw=>
      obtain⟨t,want⟩:=tw;obtain⟨j,h1,h2,h3⟩:=amw t want hag;have hr:=hs.env t;rw[hq t want hag]at hr;have hy:=al7 h2 h3;rw[hr.bool]at hy;simp only at hy;simp[Region.wanted,h1,hy]
    rw[if_pos hw];refine xw hop hs.dB.inv hs.env (hx (λ x' oY=>x'=x/\oY=O') ⟨rfl,rfl⟩) λ x' oY y I' L' w' ot nL o7=> ?_
    obtain⟨rfl,rfl⟩:=ot;rw[yt];exact hn _ _ _ _ (hs.put hd nL o7)
   |skip t want hgt hb=>
    obtain⟨j,h1,h2,h3⟩:=amw t want hgt;have hr:=hs.env t;have hy:=al7 h2 h3
    have hw:Region.wanted o (yielded ops a.tmps)=false:=by
     rcases hb with hb|hb
     ·rw[hb]at hr;rw[hr.bool]at hy;simp only at hy;simp[Region.wanted,h1,hy]
     ·rw[hb]at hr
      have hv:a.tmps.getD t undef= .tuple #[]:=by
       generalize a.tmps.getD t undef=X at hr;cases hr with
       |ba _ vs h1 _=>congr 1;exact Array.eq_empty_of_size_eq_zero h1.symm
      rw[hv]at hy;simp only at hy;simp[Region.wanted,h1,hy]
    rw[if_neg (by simp[hw])];rw[yt];exact hn _ _ _ _ (hs.put hd (.refl hs.dB.inv) (.ba [] #[] rfl (by simp)))
theorem zZ{ops:Array Oper}{al:List aP}(hm:ops.toList.mapM (oV P nt ops)=some (al.map aP.strip))(hlen:al.length=ops.size){e2:Env}{O2:List ae}{Q:Exit->Act->World->Prop}
  (hq:∀a w I L,Sat I0 L0 O0 w0 nt e2 O2 a w I L->Q .normal a w):
  ∀(l:List Nat),(∀i∈l,i<ops.size)->∀e O a w I L,Run P (l.map λ i=>al.getD i ⟨none,none,.bc (.c .top)⟩) e O e2 O2->Sat I0 L0 O0 w0 nt e O a w I L->Go.wpOps P ops Q l a w
 | [],_,e,O,a,w,I,L,hr,hs=>by
   cases hr;exact hq _ _ _ _ hs
 |i::l,hl,e,O,a,w,I,L,hr,hs=>by
  cases hr with
  |cons om hr=>
   have hi:=hl i (by simp);have ho:ops[i]? =some ops[i]:=by simp[hi]
   have ha:al[i]? =some (al.getD i ⟨none,none,.bc (.c .top)⟩):=by simp[List.getD,show i<al.length by omega]
   have hc:=(mapM_some hm).2 i ops[i] ((al.getD i ⟨none,none,.bc (.c .top)⟩).strip) (by simp) (by rw[getElem?_map,ha];rfl);have:=afi (Q:=Q) hc om hs (next:=Go.wpOps P ops Q l) λ a w I L hs'=>zZ hm hlen hq l (λ j hj=>hl j (by simp[hj])) _ _ a w I L hr hs'
   simp only[Go.wpOps,ho]
   split
   ·rename_i hw;rw[if_pos hw]at this;exact .inl this
   ·rename_i hw;rw[if_neg hw]at this;exact this
theorem cn{code:Code}{c:aU}(h:fJ P nt code=some c):
  (code= .skip/\c= .skip)∨(∃id ops draw rows acz,code= .region id ops draw/\c= .region rows acz/\ops.toList.mapM (oV P nt ops)=some acz/\((draw=false/\rows=none)∨(draw=true/\rows=some (rowsOf ops)/\(Region.departs ops=false∨P.follows .mixedOrders=true))))∨
  (∃x y ax ay,code= .seq x y/\c= .seq ax ay/\fJ P nt x=some ax/\fJ P nt y=some ay)∨
  (∃o x y ao ax ay,code= .cond o x y/\c= .cond ao ax ay/\bL o=some ao/\fJ P nt x=some ax/\fJ P nt y=some ay)∨
  (∃id b ab,code= .block id b/\c= .block id ab/\fJ P nt b=some ab)∨(∃b ab,code= .loop b/\c= .loop ab/\fJ P nt b=some ab)∨
  (∃id,code= .exit id/\c= .exit id)∨(code= .ret/\c= .ret):=by
 cases code with
 |skip=>simp only[fJ,Option.some.injEq]at h;exact .inl ⟨rfl,h.symm⟩
 |region id ops draw=>
  cases draw
  ·simp only[fJ,map_eq_some_iff]at h;obtain⟨acz,h1,h2⟩:=h;exact .inr (.inl ⟨id,ops,false,_,acz,rfl,h2.symm,h1,.inl ⟨rfl,rfl⟩⟩)
  ·simp only[fJ]at h
   split at h
   ·cases h
   ·rename_i hd;simp only[map_eq_some_iff]at h;obtain⟨acz,h1,h2⟩:=h
    exact .inr (.inl ⟨id,ops,true,_,acz,rfl,h2.symm,h1,.inr ⟨rfl,rfl,by
     by_cases h:Region.departs ops=true
     ·exact .inr (by simpa [h]using hd)
     ·exact .inl (by simpa using h)⟩⟩)
 |seq x y=>
  simp only[fJ]at h
  split at h
  ·rename_i ax ay h1 h2;simp only[Option.some.injEq]at h;exact .inr (.inr (.inl ⟨x,y,ax,ay,rfl,h.symm,h1,h2⟩))
  ·cases h
 |cond o x y=>
  simp only[fJ]at h
  split at h
  ·rename_i ao ax ay h0 h1 h2;simp only[Option.some.injEq]at h;exact .inr (.inr (.inr (.inl ⟨o,x,y,ao,ax,ay,rfl,h.symm,h0,h1,h2⟩)))
  ·cases h
 |block id b=>
  simp only[fJ,map_eq_some_iff]at h;obtain⟨ab,h1,h2⟩:=h;exact .inr (.inr (.inr (.inr (.inl ⟨id,b,ab,rfl,h2.symm,h1⟩))))
 |loop b=>
  simp only[fJ,map_eq_some_iff]at h;obtain⟨ab,h1,h2⟩:=h;exact .inr (.inr (.inr (.inr (.inr (.inl ⟨b,ab,rfl,h2.symm,h1⟩)))))
 |exit id=>simp only[fJ,Option.some.injEq]at h;exact .inr (.inr (.inr (.inr (.inr (.inr (.inl ⟨id,rfl,h.symm⟩))))))
 |ret=>simp only[fJ,Option.some.injEq]at h;exact .inr (.inr (.inr (.inr (.inr (.inr (.inr ⟨rfl,h.symm⟩))))))
 |_=>simp[fJ]at h
theorem agD(c:aU):∀(code:Code),fJ P nt code=some c.strip->∀(Q:AX->Env->List ae->Prop) (QM:Exit->Act->World->Prop),
  (∀x e O a w I L,Q x e O->Sat I0 L0 O0 w0 nt e O a w I L->QM x.to a w)->∀e O a w I L,jR P O0.length c Q e O->Sat I0 L0 O0 w0 nt e O a w I L->code.wp P QM a w:=by
 induction c with
 |skip=>
  intro code hc Q QM hq e O a w I L hk hs;rcases cn hc with⟨rfl,h⟩|⟨_,_,_,_,_,_,h,_⟩|⟨_,_,_,_,_,h,_⟩|⟨_,_,_,_,_,_,_,h,_⟩|⟨_,_,_,_,h,_⟩|⟨_,_,_,h,_⟩|⟨_,_,h⟩|⟨_,h⟩<;>simp only[aU.strip]at h<;>first|(cases h;done)|skip
  exact wp_skip (hq .normal _ _ _ _ _ _ hk hs)
 |region d ops=>
  intro code hc Q QM hq e O a w I L hk hs;rcases cn hc with⟨_,h⟩|⟨id,alp,draw,rows,acz,rfl,h,hm,hdr⟩|⟨_,_,_,_,_,h,_⟩|⟨_,_,_,_,_,_,_,h,_⟩|⟨_,_,_,_,h,_⟩|⟨_,_,_,h,_⟩|⟨_,_,h⟩|⟨_,h⟩<;>simp only[aU.strip]at h<;>first|(cases h;done)|skip
  simp only[aU.region.injEq]at h;obtain⟨rfl,rfl⟩:=h;rcases hdr with⟨rfl,rfl⟩|⟨rfl,rfl,axe⟩
  case inr=>
   obtain⟨al,hal,hk⟩:=hk;rw[←hal]at hm;obtain⟨ic,e2,O2,hll,bK,mr,hK⟩:=lS al hk;rw[List.nil_append]at mr;refine wp_region_draw λ t=> ?_
   have hlen:al.length=alp.size:=by have:=(mapM_some hm).1;simpa using this
   obtain⟨h1,h2⟩:=abt axe (by rw[length_zip,hll];omega) mr bK t;have h3:=h1.run;rw[List.map_map]at h3
   have cz:((λ x:aP×g9=>x.1)∘λ i=>(al.zip ic).getD i (⟨none,none,.bc (.c .top)⟩,⟨[],.any⟩))=λ i=>al.getD i ⟨none,none,.bc (.c .top)⟩:=by
    funext i
    simp only[Function.comp,List.getD];by_cases hi:i<al.length
    ·have eE:i<ic.length:=by omega
     have hz:i<(al.zip ic).length:=by rw[length_zip];omega
     rw[List.getElem?_eq_getElem hz,List.getElem?_eq_getElem hi];simp
    ·rw[List.getElem?_eq_none (by rw[length_zip];omega),List.getElem?_eq_none (by omega)]
     rfl
   rw[cz]at h3;exact zZ hm hlen (λ a w I L hs=>hq .normal _ _ _ _ _ _ hK hs) _ h2 e O a _ I L h3 (hs.drawn _)
  exact wp_region_list (aaj (λ e O a w I L h hs=>hq .normal e O a w I L h hs) alp.toList ops hm e O a w I L hk hs)
 |seq x y ihx ihy=>
  intro code hc Q QM hq e O a w I L hk hs;rcases cn hc with⟨_,h⟩|⟨_,_,_,_,_,_,h,_⟩|⟨cx,cy,ax,ay,rfl,h,hx,hy⟩|⟨_,_,_,_,_,_,_,h,_⟩|⟨_,_,_,_,h,_⟩|⟨_,_,_,h,_⟩|⟨_,_,h⟩|⟨_,h⟩<;>simp only[aU.strip]at h<;>first|(cases h;done)|skip
  simp only[aU.seq.injEq]at h;obtain⟨rfl,rfl⟩:=h;refine wp_seq (ihx cx hx _ _ ?_ e O a w I L hk hs);intro z e O a w I L hz hs;cases z
  case normal=>exact ihy cy hy Q QM hq e O a w I L hz hs
  case exit id=>exact hq (.exit id) _ _ _ _ _ _ hz hs
  case ret=>exact hq .ret _ _ _ _ _ _ hz hs
 |cond c t f iht ihf=>
  intro code hc Q QM hq e O a w I L hk hs;rcases cn hc with⟨_,h⟩|⟨_,_,_,_,_,_,h,_⟩|⟨_,_,_,_,_,h,_⟩|⟨o,x,y,ao,ax,ay,rfl,h,h0,h1,h2⟩|⟨_,_,_,_,h,_⟩|⟨_,_,_,h,_⟩|⟨_,_,h⟩|⟨_,h⟩<;>simp only[aU.strip]at h<;>first|(cases h;done)|skip
  simp only[aU.cond.injEq]at h;obtain⟨rfl,rfl,rfl⟩:=h;have rc:=an h0 hs.env;simp only[jR]at hk
  split at hk
  ·rename_i b hb;rw[hb]at rc;refine wp_cond (t:=b) rc.bool ?_;cases b
   ·exact ihf y h2 Q QM hq e O a w I L (hk.2 rfl) hs
   ·exact iht x h1 Q QM hq e O a w I L (hk.1 rfl) hs
  ·exact hk.elim
 |block id b ih=>
  intro code hc Q QM hq e O a w I L hk hs;rcases cn hc with⟨_,h⟩|⟨_,_,_,_,_,_,h,_⟩|⟨_,_,_,_,_,h,_⟩|⟨_,_,_,_,_,_,_,h,_⟩|⟨id',cb,ab,rfl,h,hb⟩|⟨_,_,_,h,_⟩|⟨_,_,h⟩|⟨_,h⟩<;>simp only[aU.strip]at h<;>first|(cases h;done)|skip
  simp only[aU.block.injEq]at h;obtain⟨rfl,rfl⟩:=h;refine wp_block (ih cb hb _ _ ?_ e O a w I L hk hs);intro z e O a w I L hz hs;cases z
  case normal=>exact hq .normal _ _ _ _ _ _ hz hs
  case exit i=>
   simp only[AX.to,Exit.inBlock];simp only at hz;by_cases hi:i=id
   ·rw[if_pos hi]at hz⊢;exact hq .normal _ _ _ _ _ _ hz hs
   ·rw[if_neg hi]at hz⊢;exact hq (.exit i) _ _ _ _ _ _ hz hs
  case ret=>exact hq .ret _ _ _ _ _ _ hz hs
 |loop b ih=>
  intro code hc Q QM hq e O a w I L hk hs;rcases cn hc with⟨_,h⟩|⟨_,_,_,_,_,_,h,_⟩|⟨_,_,_,_,_,h,_⟩|⟨_,_,_,_,_,_,_,h,_⟩|⟨_,_,_,_,h,_⟩|⟨cb,ab,rfl,h,hb⟩|⟨_,_,h⟩|⟨_,h⟩<;>simp only[aU.strip]at h<;>first|(cases h;done)|skip
  simp only[aU.loop.injEq]at h;subst h;obtain⟨J,n,⟨e',O',hw,hJ⟩,agm⟩:=hk;obtain⟨I',L',hs'⟩:=hs.wk hw;refine wp_loop_ghost (λ m a w=>∃e O I L,J m e O/\Sat I0 L0 O0 w0 nt e O a w I L) n ⟨e',O',I',L',hJ,hs'⟩ ?_;rintro m a w ⟨e1,O1,I1,L1,hJ1,vO⟩;refine ih cb hb _ _ ?_ e1 O1 a w I1 L1 (agm m e1 O1 hJ1) vO;intro z e2 O2 a2 w2 I2 L2 hz hs2;cases z
  case normal=>
   obtain⟨m',e3,O3,aF,hw3,hJ3⟩:=hz;obtain⟨I3,L3,hs3⟩:=hs2.wk hw3;exact⟨m',aF,e3,O3,I3,L3,hJ3,hs3⟩
  case exit id=>exact hq (.exit id) _ _ _ _ _ _ hz hs2
  case ret=>exact hq .ret _ _ _ _ _ _ hz hs2
 |exit id=>
  intro code hc Q QM hq e O a w I L hk hs;rcases cn hc with⟨_,h⟩|⟨_,_,_,_,_,_,h,_⟩|⟨_,_,_,_,_,h,_⟩|⟨_,_,_,_,_,_,_,h,_⟩|⟨_,_,_,_,h,_⟩|⟨_,_,_,h,_⟩|⟨i,rfl,h⟩|⟨_,h⟩<;>simp only[aU.strip]at h<;>first|(cases h;done)|skip
  simp only[aU.exit.injEq]at h;subst h;exact wp_exit (hq (.exit id) _ _ _ _ _ _ hk hs)
 |ret=>
  intro code hc Q QM hq e O a w I L hk hs;rcases cn hc with⟨_,h⟩|⟨_,_,_,_,_,_,h,_⟩|⟨_,_,_,_,_,h,_⟩|⟨_,_,_,_,_,_,_,h,_⟩|⟨_,_,_,_,h,_⟩|⟨_,_,_,h,_⟩|⟨_,_,h⟩|⟨rfl,h⟩<;>simp only[aU.strip]at h<;>first|(cases h;done)|skip
  exact wp_ret (hq .ret _ _ _ _ _ _ hk hs)
 |aL live c ih=>
  intro code hc Q QM hq e O a w I L hk hs;refine ih code hc _ QM ?_ e O a w I L hk hs;intro x e O a w I L hx hs;cases x
  case normal=>exact hq .normal _ _ _ _ _ _ hx (hs.agw (aps hs.env live))
  all_goals exact hq _ _ _ _ _ _ _ hx hs
 |gJ ops=>
  intro code hc Q QM hq e O a w I L hk hs;rcases cn hc with⟨_,h⟩|⟨id,alp,draw,rows,acz,rfl,h,hm,hdr⟩|⟨_,_,_,_,_,h,_⟩|⟨_,_,_,_,_,_,_,h,_⟩|⟨_,_,_,_,h,_⟩|⟨_,_,_,h,_⟩|⟨_,_,h⟩|⟨_,h⟩<;>simp only[aU.strip]at h<;>first|(cases h;done)|skip
  simp only[aU.region.injEq]at h;obtain⟨rfl,rfl⟩:=h;rcases hdr with⟨rfl,h0⟩|⟨rfl,h0,axe⟩
  case inr=>cases h0
  exact wp_region_list (xv (λ e O a w I L h hs=>hq .normal e O a w I L h hs) alp.toList ops hm e O a w I L hk hs)
 |ku c ih=>
  intro code hc Q QM hq e O a w I L hk hs;obtain⟨e',O',hw,hk⟩:=hk;obtain⟨I',L',hs'⟩:=hs.wk hw;exact ih code hc Q QM hq e' O' a w I' L' hk hs'
def amM(a:Act)(r:ResultVar):Sem Value:=
 match r with
 | .tmp t=>pure (a.tmps.getD t undef)
 | .cell b t=>do loadVar t (←asAddr (a.tmps.getD b undef))
theorem ac9{e:Env}{O:List ae}{a:Act}{w:World}{I:dv}{L:Nat->Loc}(hi:Inv I L O w)(he:∀t,R I L O (e t) (a.tmps.getD t undef)):
  ∀(l:List ResultVar) (al:List dO) (acc:List AV) (M:List AV->Prop),l.mapM (ajB P)=some al->dQ e O al acc M->
   ∃xs vs,M (acc.reverse++xs)/\xs.length=vs.length/\(∀(i:Nat) x v,xs[i]? =some x->vs[i]? =some v->R I L O x v)/\
    (l.mapM (amM a)).run P w= .ok vs w
 | [],al,acc,M,h,hk=>by
   simp at h;subst h;exact⟨[],[],by simpa [dQ]using hk,rfl,by simp,by simp⟩
 |r::l,al,acc,M,h,hk=>by
  simp only[mapM_cons,bind_eq_bind,pure_def,bind_eq_some_iff,Option.some.injEq]at h;obtain⟨b,hb,bs,hbs,rfl⟩:=h
  have key:∃x v,dQ e O bs (x::acc) M/\R I L O x v/\(amM a r).run P w= .ok v w:=by
   cases r with
   |tmp t=>
    simp only[ajB,Option.some.injEq]at hb;subst hb;exact⟨_,_,hk,he t,rfl⟩
   |cell t ty=>
    simp only[ajB,map_eq_some_iff]at hb;obtain⟨n,hn,rfl⟩:=hb;simp only[dQ,dO.get]at hk
    split at hk
    ·rename_i k hk0;have hr:=he t;rw[hk0]at hr
     split at hk
     ·rename_i t' s x hO;obtain⟨hl,hk⟩:=hk;have hv:=hr.gQ hO rfl;obtain⟨c,⟨kR,g1,dE⟩,g2,g3,g4,g5,g6⟩:=hi.obj k _ _ _ hO;obtain⟨g7,g8⟩:=g6 0 x rfl
      have hex:∀j,∃u,j<n.getD 1->c[0*s+j]? =some u/\∀c',x.cells[j]? =some c'->R I L O c' u:=by
       intro j;by_cases hj:j<n.getD 1
       ·have fT:x.cells[j]? =some (x.cells[j]'(by omega)):=by simp
        obtain⟨u,hu,_,hr⟩:=g8 j _ fT;exact⟨u,λ _=>⟨hu,λ c'' h''=>by rw[fT]at h'';cases h'';exact hr⟩⟩
       ·exact⟨undef,λ h=>(hj h).elim⟩
      let bA:Nat->Value:=λ j=>(hex j).choose
      have adP:∀j,j<n.getD 1->c[0*s+j]? =some (bA j)/\∀c',x.cells[j]? =some c'->R I L O c' (bA j):=λ j hj=>(hex j).choose_spec hj
      have bK:=ru (P:=P) (t:=ty) hn (L k).bh 0 bA w (λ j hj=>by
       rw[eN g1];have:=(adP j hj).1;rwa [zero_mul]at this)
      refine⟨_,_,hk,mL (bA:=bA) (by omega) λ j c' hj oq=>(adP j oq).2 c' (by simpa using hj),?_⟩;simp only[amM,hv];simp[Instr.loadAt,Instr.sureAddr]at bK;simpa [asAddr]using bK
     ·exact hk.elim
    ·exact hk.elim
  obtain⟨x,v,ot,hr,bK⟩:=key;obtain⟨xs,vs,h1,h2,h3,h4⟩:=ac9 hi he l bs (x::acc) M hbs ot;refine⟨x::xs,v::vs,by simpa using h1,by simp[h2],λ i y u hy hu=> ?_,?_⟩
  ·cases i with
   |zero=>simp at hy hu;subst hy;subst hu;exact hr
   |succ i=>simp at hy hu;exact h3 i y u hy hu
  ·rw[mapM_cons,Sem.run_bind,bK,Result.andThen_ok,Sem.run_bind,h4]
   rfl
theorem ac6{fn:Func}{e:Env}{O O':List ae}{a:Act}{w:World}{I:dv}{L:Nat->Loc}{rs:List dO}{res:AV}{x:AX}(hm:fn.results.toList.mapM (ajB P)=some rs)(hs:Sat I0 L0 O0 w0 nt e O a w I L)
  (hk:n7 O0.length rs res O' x e O):∃y I' L',(results fn a.tmps).run P w= .ok y w/\R I' L' O' res y/\Good I0 L0 O0 w0 I' L' O' w:=by
 have ot:dQ e O rs [] λ xs=>∃e',WK O0.length (λ t=>if t=0 then bz xs else .top) O e' O'/\e' 0=res:=by
  cases x<;>first|exact hk|exact hk.elim
 obtain⟨xs,vs,⟨e',hw,he0⟩,h2,h3,h4⟩:=ac9 hs.dB.inv hs.env _ _ _ _ hm ot;simp only[List.reverse_nil,List.nil_append]at hw
 let y:Value:=if h:vs.toArray.size=1 then vs.toArray[0]else .tuple vs.toArray
 have hy:R I L O (bz xs) y:=by
  unfold bz
  split
  ·rename_i x;have hv:vs.length=1:=by rw[←h2];rfl
   have:y=vs[0]'(by omega):=by simp[y,hv]
   rw[this];exact h3 0 x _ rfl (by simp[hv])
  ·rename_i bB
   have hv:vs.length≠1:=by
    rw[←h2];intro h1;obtain⟨x,hx⟩:=List.length_eq_one_iff.1 h1;exact bB x hx
   have:y= .tuple vs.toArray:=by simp[y,hv]
   rw[this];exact .ba _ _ (by simpa using h2) λ i c v hc hv=>h3 i c v hc (by simpa using hv)
 obtain⟨I',L',hg,hr⟩:=hw I0 L0 O0 w0 I L w (λ t=>if t=0 then y else undef) rfl hs.dB (λ t=>by
  by_cases ht:t=0
  ·subst ht;simpa using hy
  ·simp only[if_neg ht];exact .top _)
 refine⟨y,I',L',?_,?_,hg⟩
 ·have bK:(fn.results.mapM (amM a)).run P w= .ok vs.toArray w:=by
    simp[Array.mapM_eq_mapM_toList,h4]
  have sT:results fn a.tmps=(do let vs ←fn.results.mapM (amM a);pure (if h:vs.size=1 then vs[0]else .tuple vs)):=rfl;rw[sT,Sem.run_bind,bK]
  rfl
 ·have:=hr 0;rw[he0]at this;simpa using this
def vf(P:Program)(f:FuncId)(a:nT):Prop:=
 ∃fn code,P.funcs[f]? =some fn/\fn.body=some code/\(fn.name== "runtime.NumGoroutine")=false/\fn.ntmps=a.nt/\a.dX<=a.nt/\
  fJ P a.nt code=some a.code.strip/\fn.results.toList.mapM (ajB P)=some a.res
theorem ik{f:FuncId}{A:nT}(hf:vf P f A){args:List AV}{O O':List ae}{res:AV}(hl:args.length=A.dX)
  (h:jR P O.length A.code (n7 O.length A.res res O') (mg args) O):hD P f args O res O':=by
 obtain⟨fn,code,h1,h2,h3,h4,h5,h6,h7⟩:=hf;refine⟨⟨fn,h1,by rw[h2];rfl,h3⟩,?_⟩;intro I L w vs hi hr;refine calls_of_wp h1 h2 ?_;have sd:vs.size=A.dX:=by rw[←hr.1,hl]
 have azt:Sat I L O w A.nt (mg args) O {tmps:=vs++Array.replicate (fn.ntmps- vs.size) undef,defers:=[]} w I L:=by
  refine⟨.refl hi,λ t=> ?_,?_,rfl⟩
  ·unfold mg;by_cases ht:t<vs.size
   ·have ha:args[t]? =some (args.getD t (.ba [])):=by simp[List.getD,show t<args.length by rw[hr.1];exact ht]
    have hv:vs[t]? =some ((vs++Array.replicate (fn.ntmps- vs.size) undef).getD t undef):=by
     rw[Array.getD_eq_getD_getElem?,Array.getElem?_append_left ht];simp[ht]
    exact hr.2 t _ _ ha hv
   ·have ha:args.getD t (.ba [])= .ba []:=by simp[List.getD,List.getElem?_eq_none (show args.length<=t by rw[hr.1];omega)]
    have hv:(vs++Array.replicate (fn.ntmps- vs.size) undef).getD t undef= .tuple #[]:=by
     rw[Array.getD_eq_getD_getElem?,Array.getElem?_append_right (by omega)];by_cases h8:t- vs.size<fn.ntmps- vs.size
     ·simp[h8];rfl
     ·simp[h8];rfl
    rw[ha,hv];exact .ba [] #[] rfl (by simp)
  ·simp;omega
 refine agD A.code code h6 _ _ ?_ (mg args) O _ w I L h azt;intro x e O1 a w' I' L' hq hs;obtain⟨y,I2,L2,r1,r2,r3⟩:=ac6 h7 hs hq;cases x with
 |normal=>exact⟨hs.defers,y,r1,y,I2,L2,rfl,r2,r3⟩
 |ret=>exact⟨hs.defers,y,r1,y,I2,L2,rfl,r2,r3⟩
 |exit id=>exact hq.elim
end
end Go.Ab
namespace Go.Ab
universe u
theorem nr{α:Sort u}{a b:α}(h:a=b):a=b:=h
def pc:List (Nat×AV)->Env
 | [],_=> .top
 |(k,a)::l,t=>if t=k then a else pc l t
theorem arU(e:Env)(t:Nat)(a:AV)(k:Nat):(e.set t a) k=if k=t then a else e k:=nr rfl
theorem aaM(k:Nat)(a:AV)(l:List (Nat×AV))(t:Nat):pc ((k,a)::l) t=if t=k then a else pc l t:=nr rfl
theorem am3(args:List AV)(t:Nat):mg args t=args.getD t (.ba []):=nr rfl
theorem alT(live:List Nat)(e:Env):sK live e=pc (live.map λ t=>(t,e t)):=by
 funext t
 induction live with
 |nil=>rfl
 |cons k l ih=>
  simp only[map_cons,aaM];unfold sK at ih⊢;by_cases h:t=k
  ·subst h;simp
  ·rw[if_neg h,←ih];simp[h]
theorem R.take{I:dv}{L:Nat->Loc}{O:List ae}{k:Nat}(hk:k<=O.length){a:AV}{x:Value}(hr:R I L O a x)(h:a.inScope k=true):R I L (O.take k) a x:=by
 have cz:∀{n:Nat},n<k->(O.take k)[n]? =O[n]? :=λ {n} hn=>by rw[getElem?_take,if_pos hn]
 have hlen:(O.take k).length=k:=by simp;omega
 induction hr with
 |top x=>exact .top x
 |v x hx=>exact .v x hx
 |aw=>exact .aw
 |uU t x=>exact .uU t x
 |lG a cap=>exact .lG a cap
 |sl xs bh off cap s bA h1 h2 h3 h4 _ ih=>
  refine .sl xs bh off cap s bA h1 h2 h3 h4 λ i x j c hi hj=>ih i x j c hi hj ?_
  exact cp (bZ (by simpa [AV.inScope]using h) x (mem_of_getElem? hi)) c (mem_of_getElem? hj)
 |ct x f bh base bA h1 _ ih=>
  refine .ct x f bh base bA h1 λ j c hj=>ih j c hj ?_
  exact cp (by simpa [AV.inScope]using h) c (mem_of_getElem? hj)
 |cq n len e s xs hn hl=>
  have lz:n<k:=by simpa [AV.inScope]using h
  exact .cq n len e s xs (by rw[cz lz];exact hn) hl
 |fY n e s hn=>
  have lz:n<k:=by simpa [AV.inScope]using h
  exact .fY n e s (by rw[cz lz];exact hn)
 |eP n len x hn wj hs hx=>
  have lz:n<k:=by simpa [AV.inScope]using h
  exact .eP n len x (by omega) (λ e s he=>wj e s (by rwa [cz lz]at he)) (λ e s xs nU=>hs e s xs (by rwa [cz lz]at nU)) hx
 |dU n len i f e s xs hn hl=>
  have lz:n<k:=by simpa [AV.inScope]using h
  exact .dU n len i f e s xs (by rw[cz lz];exact hn) hl
 |fZ n len i f x hn wj hs hx=>
  have lz:n<k:=by simpa [AV.inScope]using h
  exact .fZ n len i f x (by omega) (λ e s he=>wj e s (by rwa [cz lz]at he)) (λ e s xs nU=>hs e s xs (by rwa [cz lz]at nU)) hx
 |fn f a6 vs h1 _ ih=>exact .fn f a6 vs h1 λ i c x hi hx=>ih i c x hi hx (bZ (by simpa [AV.inScope]using h) c (mem_of_getElem? hi))
 |agg cs vs h1 _ ih=>exact .agg cs vs h1 λ i c x hi hx=>ih i c x hi hx (bZ (by simpa [AV.inScope]using h) c (mem_of_getElem? hi))
 |ba cs vs h1 _ ih=>exact .ba cs vs h1 λ i c x hi hx=>ih i c x hi hx (bZ (by simpa [AV.inScope]using h) c (mem_of_getElem? hi))
 |dV n a hn h1=>
  have lz:n<k:=by simpa [AV.inScope]using h
  exact .dV n a (by rw[cz lz];exact hn) h1
 |gF n g hn=>
  have lz:n<k:=by simpa [AV.inScope]using h
  exact .gF n g (by rw[cz lz];exact hn)
 |eQ n x hn cE hng h1=>
  have lz:n<k:=by simpa [AV.inScope]using h
  exact .eQ n x (by omega) (λ a ha=>cE a (by rwa [cz lz]at ha)) (λ a ha=>hng a (by rwa [cz lz]at ha)) h1
theorem Good.take{I0 I:dv}{L0 L:Nat->Loc}{O0 O:List ae}{w0 w:World}(h:Good I0 L0 O0 w0 I L O w){k:Nat}(h0:O0.length<=k)(hk:k<=O.length)(hb:∀ob∈O.take k,ob.inScope k=true):
  Good I0 L0 O0 w0 I L (O.take k) w:=by
 have cz:∀{n e s xs},(O.take k)[n]? =some (.live e s xs)->O[n]? =some (.live e s xs)/\n<k:=by
  intro n e s xs hn;rw[getElem?_take]at hn
  split at hn
  ·exact⟨hn,by assumption⟩
  ·cases hn
 have aw8:∀{n e s:Nat},(O.take k)[n]? =some (ae.nil e s)->O[n]? =some (ae.nil e s):=by
  intro n e s hn;rw[getElem?_take]at hn
  split at hn
  ·exact hn
  ·cases hn
 have yr:∀{n:Nat} {a:AV},(O.take k)[n]? =some (ae.own a)->O[n]? =some (ae.own a):=by
  intro n a hn;rw[getElem?_take]at hn
  split at hn
  ·exact hn
  ·cases hn
 have qS:∀{n:Nat} {a:gr},(O.take k)[n]? =some (ae.dc a)->O[n]? =some (ae.dc a):=by
  intro n a hn;rw[getElem?_take]at hn
  split at hn
  ·exact hn
  ·cases hn
 refine⟨⟨h.inv.j4,λ n e s xs hn=> ?_,λ n m _ _ _ _ _ _ hn hm=>h.inv.sep n m _ _ _ _ _ _ (cz hn).1 (cz hm).1,λ n e s xs o hn=>h.inv.dS n e s xs o (cz hn).1,h.inv.fix,h.inv.bh,h.inv.ow.same (λ n a hn=>⟨yr hn,rfl⟩) (λ b o v hv=> .inl ⟨o,v,hv⟩) (λ m e s xs hm=> .inl ⟨m,_,_,_,(cz hm).1,rfl⟩) rfl,⟨λ n g hn=> ?_,λ n m g g' hn hm hb=>h.inv.gh.sep n m g g' (qS hn) (qS hm) hb⟩⟩,⟨h.ext.j4,by simp;omega,λ n hn e s xs hx=>h.ext.obj n hn e s xs (cz hx).1,λ n hn e s hx=>h.ext.nil n hn e s (aw8 hx),λ n hn a hx=>h.ext.own n hn a (yr hx),λ n hn a hx=>h.ext.dc n hn a (qS hx)⟩,h.pa,?_,h.iz⟩
 ·obtain⟨c,⟨kR,h1,dE⟩,h2,h3,h4,h5,h6⟩:=h.inv.obj n e s xs (cz hn).1;refine⟨c,⟨kR,h1,dE⟩,h2,h3,h4,h5,λ i x hx=>⟨(h6 i x hx).1,λ j a ha=> ?_⟩⟩;obtain⟨y,hy,ho,hr⟩:=(h6 i x hx).2 j a ha;have hbo:=hb _ (mem_of_getElem? hn);exact⟨y,hy,ho,hr.take hk (cp (bZ hbo x (mem_of_getElem? hx)) a (mem_of_getElem? ha))⟩
 ·have h1:=h.inv.gh.ok n g (qS hn);have hbo:=hb _ (mem_of_getElem? hn);cases g with
  |it s p=>exact h1
  |mp es=>
   obtain⟨en,c,h2,h3,h4⟩:=h1;refine⟨en,c,h2,h3,λ i a v hi=> ?_⟩;obtain⟨e,h5,h6,h7⟩:=h4 i a v hi;have hs:=List.all_eq_true.1 (show es.all (λ p=>p.1.inScope k&&p.2.inScope k)=true from hbo) (a,v) (mem_of_getElem? hi);simp only[Bool.and_eq_true]at hs;exact⟨e,h5,h6.take hk hs.1,h7.take hk hs.2⟩
 ·rintro b (⟨n,e,s,xs,hn,hb⟩|⟨n,a,o,v,hn,hb⟩|⟨n,g,hn,hb⟩)
  ·exact h.lb b (.inl ⟨n,e,s,xs,(cz hn).1,hb⟩)
  ·exact h.lb b (.inr (.inl ⟨n,a,o,v,yr hn,hb⟩))
  ·exact h.lb b (.inr (.inr ⟨n,g,qS hn,hb⟩))
theorem WK.forget{n0:Nat}{e e':Env}{O O':List ae}{k:Nat}(hO:O.take k=O')(h0:n0<=k)(hk:k<=O.length)(hb:∀ob∈O',ob.inScope k=true)(he:∀t,e' t= .top∨(e' t=e t/\(e' t).inScope k=true)):WK n0 e O e' O':=by
 subst hO;intro I0 L0 O0 w0 I L w f hl hg hr;subst hl;refine⟨I,L,hg.take h0 hk hb,λ t=> ?_⟩;rcases he t with h|⟨h,h'⟩
 ·rw[h];exact .top _
 ·rw[h]at h'⊢;exact(hr t).take hk h'
theorem wpOp_mono{P:Program}{o:ew}{e:Env}{O:List ae}{K K':AV->List ae->Prop}(hk:∀x O,K x O->K' x O)(h:wpOp P o e O K):wpOp P o e O K':=by
 obtain⟨x,O',h1,h2⟩:=u9 h;exact h2 K' (hk x O' h1)
theorem lP{P:Program}:∀(l:List aP) {e:Env} {O:List ae} {K K':Env->List ae->Prop},(∀e O,K e O->K' e O)->wpOps P l e O K->wpOps P l e O K'
 | [],_,_,_,_,hk,h=>hk _ _ h
 |o::l,e,O,K,K',hk,h=>by
  simp only[wpOps]at h⊢
  split at h
  ·exact wpOp_mono (λ x O' h=>lP l hk h) h
  ·split at h
   ·exact⟨λ hb=>wpOp_mono (λ x O' h=>lP l hk h) (h.1 hb),λ hb=>lP l hk (h.2 hb)⟩
   ·exact lP l hk h
   ·exact h.elim
theorem ko{P:Program}:∀(l:List aP) {acc:List g9} {e:Env} {O:List ae} {K K':List g9->Env->List ae->Prop},(∀a e O,K a e O->K' a e O)->cI P l acc e O K->cI P l acc e O K'
 | [],_,_,_,_,_,hk,h=>hk _ _ _ h
 |o::l,acc,e,O,K,K',hk,h=>by
  simp only[cI]at h⊢
  split at h
  ·exact wpOp_mono (λ x O' h=>ko l hk h) h
  ·split at h
   ·exact⟨λ hb=>wpOp_mono (λ x O' h=>ko l hk h) (h.1 hb),λ hb=>ko l hk (h.2 hb)⟩
   ·exact ko l hk h
   ·exact h.elim
theorem km{P:Program}{n0:Nat}:∀(l:List aP) {e:Env} {O:List ae} {K K':Env->List ae->Prop},(∀e O,K e O->K' e O)->gD P n0 l e O K->gD P n0 l e O K'
 | [],_,_,_,_,hk,⟨e',O',hw,h⟩=>⟨e',O',hw,hk _ _ h⟩
 |o::l,e,O,K,K',hk,h=>by
  simp only[gD]at h⊢;obtain⟨e',O',hw,h⟩:=h;refine⟨e',O',hw,?_⟩
  split at h
  ·exact wpOp_mono (λ x O' h=>km l hk h) h
  ·split at h
   ·exact⟨λ hb=>wpOp_mono (λ x O' h=>km l hk h) (h.1 hb),λ hb=>km l hk (h.2 hb)⟩
   ·exact km l hk h
   ·exact h.elim
theorem acQ{P:Program}{n0:Nat}(c:aU):∀{Q Q':AX->Env->List ae->Prop} {e:Env} {O:List ae},(∀x e O,Q x e O->Q' x e O)->jR P n0 c Q e O->jR P n0 c Q' e O:=by
 induction c with
 |skip=>intro Q Q' e O hq h;exact hq _ _ _ h
 |region r ops=>
  intro Q Q' e O hq h;cases r with
  |none=>exact lP ops (λ e O h=>hq _ _ _ h) h
  |some rows=>obtain⟨al,h1,h2⟩:=h;exact⟨al,h1,ko al (λ ic e O h=>⟨h.1,hq _ _ _ h.2⟩) h2⟩
 |gJ ops=>intro Q Q' e O hq h;exact km ops (λ e O h=>hq _ _ _ h) h
 |seq a b iha ihb=>
  intro Q Q' e O hq h;refine iha (λ x e O h=> ?_) h;cases x
  ·exact ihb hq h
  ·exact hq _ _ _ h
  ·exact hq _ _ _ h
 |cond c t f iht ihf=>
  intro Q Q' e O hq h;simp only[jR]at h⊢
  split at h
  ·exact⟨λ hb=>iht hq (h.1 hb),λ hb=>ihf hq (h.2 hb)⟩
  ·exact h.elim
 |block id b ih=>
  intro Q Q' e O hq h;refine ih (λ x e O h=> ?_) h;cases x
  ·exact hq _ _ _ h
  ·simp only at h⊢
   split
   ·rename_i hi;rw[if_pos hi]at h;exact hq _ _ _ h
   ·rename_i hi;rw[if_neg hi]at h;exact hq _ _ _ h
  ·exact hq _ _ _ h
 |loop b ih=>
  intro Q Q' e O hq h;obtain⟨J,n,h0,hr⟩:=h;refine⟨J,n,h0,λ n e O hJ=>ih (λ x e O h=> ?_) (hr n e O hJ)⟩;cases x
  ·exact h
  ·exact hq _ _ _ h
  ·exact hq _ _ _ h
 |exit id=>intro Q Q' e O hq h;exact hq _ _ _ h
 |ret=>intro Q Q' e O hq h;exact hq _ _ _ h
 |aL l c ih=>
  intro Q Q' e O hq h;refine ih (λ x e O h=> ?_) h;cases x<;>exact hq _ _ _ h
 |ku c ih=>
  intro Q Q' e O hq h;obtain⟨e',O',hw,h⟩:=h;exact⟨e',O',hw,ih hq h⟩
def xc(n0:Nat){ι:Type}(D:ι->Prop)(σ:ι->Env)(τ:ι->List ae)(μ:ι->Nat)(i:ι)(Q:AX->Env->List ae->Prop):AX->Env->List ae->Prop:=
 λ x e O=>match x with| .normal=>∃j,D j/\μ j<μ i/\WK n0 e O (σ j) (τ j)|x=>Q x e O
theorem akk{P:Program}{n0:Nat}{b:aU}{Q:AX->Env->List ae->Prop}{e:Env}{O:List ae}{ι:Type}(D:ι->Prop)(σ:ι->Env)(τ:ι->List ae)(μ:ι->Nat)(i0:ι)
  (hd:D i0) (h0:WK n0 e O (σ i0) (τ i0)) (hr:∀i,D i->jR P n0 b (xc n0 D σ τ μ i Q) (σ i) (τ i)):jR P n0 (.loop b) Q e O:=by
 refine⟨λ n e O=>∃i,D i/\μ i=n/\e=σ i/\O=τ i,μ i0,⟨_,_,h0,i0,hd,rfl,rfl,rfl⟩,?_⟩;rintro n e O ⟨i,hi,rfl,rfl,rfl⟩;refine acQ b (λ x e O h=> ?_) (hr i hi);cases x
 ·obtain⟨j,hj,h1,h2⟩:=h;exact⟨μ j,_,_,h1,h2,j,hj,rfl,rfl,rfl⟩
 ·exact h
 ·exact h
theorem WK.of_eq{n0:Nat}{e e':Env}{O O':List ae}(he:e=e')(hO:O=O'):WK n0 e O e' O':=by subst he;subst hO;exact .refl _ _ _
section
variable (P:Program) (n0:Nat) (Q:AX->Env->List ae->Prop) (e:Env) (O:List ae)
theorem akj:jR P n0 .skip Q e O=Q .normal e O:=nr rfl
theorem afd(ops:List aP):jR P n0 (.region none ops) Q e O=Go.Ab.wpOps P ops e O (Q .normal):=nr rfl
theorem au7(c:aI)(t f:aU):jR P n0 (.cond c t f) Q e O=match c.ev e with
 | .v (.bool b)=>(b=true->jR P n0 t Q e O)/\(b=false->jR P n0 f Q e O)
 |_=>False:=nr rfl
theorem akl(id:Nat):jR P n0 (.exit id) Q e O=Q (.exit id) e O:=nr rfl
theorem an7:jR P n0 .ret Q e O=Q .ret e O:=nr rfl
theorem ahY(K:Env->List ae->Prop):Go.Ab.wpOps P [] e O K=K e O:=nr rfl
theorem acO(K:Env->List ae->Prop)(t:Nat)(want:Bool)(d:Option Nat)(op:ew)(r:List aP):
 Go.Ab.wpOps P (⟨some (t,want),d,op⟩::r) e O K=match e t with
   | .v (.bool b)=>
     (b=want->wpOp P op (e.set t (.v (.bool want))) O λ x O'=>Go.Ab.wpOps P r (bT (e.set t (.v (.bool want))) d x) O' K)/\
     (b= !want->Go.Ab.wpOps P r (bT (e.set t (.v (.bool (!want)))) d (.ba [])) O K)
   | .ba []=>Go.Ab.wpOps P r (bT e d (.ba [])) O K
   |_=>False:=nr rfl
theorem aic(t:Nat)(a:AV):bT e (some t) a=e.set t a:=nr rfl
theorem aid(a:AV):bT e none a=e:=nr rfl
theorem aAJ(n:Nat):(aI.t n).ev e=e n:=nr rfl
theorem aAK(a:AV):(aI.c a).ev e=a:=nr rfl
end
end Go.Ab
namespace Go.Ab
theorem va(a:ByteArray):a.toList=a.data.toList:=ByteArray.toList_eq a
abbrev KT:=AV->List ae->Prop
def k1(a:AV)(O:List ae)(K:KT):Prop:=K a O
theorem aqO(a:AV)(O:List ae)(K:KT):k1 a O K=K a O:=nr rfl
def oQ(c a b:AV)(O:List ae)(K:KT):Prop:=match c with
 | .v (.bool t)=>K (if t then a else b) O
 |_=>False
theorem xm(a b:AV)(O:List ae)(K:KT):oQ (.v (.bool true)) a b O K=k1 a O K:=nr rfl
theorem uE(a b:AV)(O:List ae)(K:KT):oQ (.v (.bool false)) a b O K=k1 b O K:=nr rfl
theorem xn(t x y:Bool)(O:List ae)(K:KT):oQ (.v (.bool t)) (.v (.bool x)) (.v (.bool y)) O K=k1 (.v (.bool (if t=true then x else y))) O K:=by cases t<;>rfl
def axO(t s:Nat)(a:AV)(O:List ae)(K:KT):Prop:=a.cells.length=s/\a.storable=true/\K (.ptr O.length 1 0 0) (O++ [.live t s [a]])
theorem aqf(t s:Nat)(a:AV)(O:List ae)(K:KT):axO t s a O K=(a.cells.length=s/\a.storable=true/\k1 (.ptr O.length 1 0 0) (O++ [.live t s [a]]) K):=nr rfl
def zN(z:List AV)(ps:List (Nat×Nat×AV))(O:List ae)(K:KT):Prop:=match ps with
 | []=>K (.agg z) O
 |(off,size,x)::r=>x.cells.length=size/\(x.cg||x.isAgg)=true/\off+size<=z.length/\zN (z.take off++x.cells++z.drop (off+size)) r O K
theorem anx(z:List AV)(O:List ae)(K:KT):zN z [] O K=k1 (.agg z) O K:=by simp[zN,k1]
theorem ajQ(z:List AV)(off size:Nat)(x:AV)(r:List (Nat×Nat×AV))(O:List ae)(K:KT):
 zN z ((off,size,x)::r) O K=(x.cells.length=size/\(x.cg||x.isAgg)=true/\off+size<=z.length/\zN (z.take off++x.cells++z.drop (off+size)) r O K):=by rw[zN]
theorem yO{e:Env}{O:List ae}{K:KT}:∀(ps:List (Nat×Nat×aI)) (z:List AV),jd e z ps (λ a=>K a O)=zN z (ps.map λ p=>(p.1,p.2.1,p.2.2.ev e)) O K
 | [],z=>by simp[jd,zN]
 |(off,size,x)::r,z=>by simp only[jd,map_cons,zN,yO r]
def zM(t s:Nat)(len:Nat)(xs:List AV)(ps:List (Nat×AV))(O:List ae)(K:KT):Prop:=match ps with
 | []=>K (.row O.length len) (O++ [.live t s xs])
 |(i,x)::r=>x.cells.length=s/\x.storable=true/\i<xs.length/\zM t s len (xs.set i x) r O K
theorem anq(t s len:Nat)(z:List AV)(O:List ae)(K:KT):zM t s len z [] O K=k1 (.row O.length len) (O++ [.live t s z]) K:=by simp[zM,k1]
theorem ajP(t s len:Nat)(z:List AV)(i:Nat)(x:AV)(r:List (Nat×AV))(O:List ae)(K:KT):
 zM t s len z ((i,x)::r) O K=(x.cells.length=s/\x.storable=true/\i<z.length/\zM t s len (z.set i x) r O K):=by rw[zM]
theorem ac5{e:Env}{O:List ae}{K:KT}(t s len:Nat):∀(ps:List (Nat×aI)) (z:List AV),mV e s z ps (λ xs=>K (.row O.length len) (O++ [.live t s xs]))=zM t s len z (ps.map λ p=>(p.1,p.2.ev e)) O K
 | [],z=>by simp[mV,zM]
 |(i,x)::r,z=>by simp only[mV,map_cons,zM,ac5 t s len r]
def o4(o:Option ae)(M:Nat->Nat->List AV->Prop):Prop:=match o with
 |some (.live t s xs)=>M t s xs
 |_=>False
def tH(o:Option ae)(N:Nat->Nat->Prop)(M:Nat->Nat->List AV->Prop):Prop:=match o with
 |some (.live t s xs)=>M t s xs
 |some (.nil t s)=>N t s
 |_=>False
theorem j0(t s:Nat)(xs:List AV)(N:Nat->Nat->Prop)(M:Nat->Nat->List AV->Prop):tH (some (.live t s xs)) N M=M t s xs:=nr rfl
theorem nG(t s:Nat)(N:Nat->Nat->Prop)(M:Nat->Nat->List AV->Prop):tH (some (.nil t s)) N M=N t s:=nr rfl
theorem fE(t s:Nat)(xs:List AV)(M:Nat->Nat->List AV->Prop):o4 (some (.live t s xs)) M=M t s xs:=nr rfl
def ahp(n:Option Nat)(a:AV)(O:List ae)(K:KT):Prop:=match a with
    | .ct y f=>f+n.getD 1<=y.cells.length/\K (dG n y f) O
    | .ptr k len i f=>o4 O[k]? λ _ _ xs=>xs.length=len/\i<len/\f+n.getD 1<=(xs.getD i .top).cells.length/\K (dG n (xs.getD i .top) f) O
    |_=>False
theorem rL(n:Option Nat)(y:AV)(f:Nat)(O:List ae)(K:KT):ahp n (.ct y f) O K=(f+n.getD 1<=y.cells.length/\k1 (dG n y f) O K):=nr rfl
theorem tL(n:Option Nat)(k len i f:Nat)(O:List ae)(K:KT):ahp n (.ptr k len i f) O K=o4 O[k]? λ _ _ xs=>xs.length=len/\i<len/\f+n.getD 1<=(xs.getD i .top).cells.length/\k1 (dG n (xs.getD i .top) f) O K:=nr rfl
def afh(m:Nat)(a b:AV)(O:List ae)(K:KT):Prop:=match a with
    | .ptr k len i f=>o4 O[k]? λ t s xs=>xs.length=len/\i<len/\b.cells.length=m/\b.storable=true/\f+m<=(xs.getD i .top).cells.length/\K .top (O.set k (.live t s (xs.set i (qC (xs.getD i .top) f b))))
    |_=>False
theorem ra(m k len i f:Nat)(b:AV)(O:List ae)(K:KT):afh m (.ptr k len i f) b O K=o4 O[k]? λ t s xs=>xs.length=len/\i<len/\b.cells.length=m/\b.storable=true/\f+m<=(xs.getD i .top).cells.length/\k1 .top (O.set k (.live t s (xs.set i (qC (xs.getD i .top) f b)))) K:=nr rfl
def eS(op:BinOp)(a b:AV)(O:List ae)(K:KT):Prop:=match a,b with
    | .v x,.v y=>match kQ op x y with
      |some z=>K (.v z) O
      |none=>False
    |_,_=>False
section
variable (k:IntKind) (a b:Int) (O:List ae) (K:KT)
theorem aeJ:eS .add (.v (.int k a)) (.v (.int k b)) O K=k1 (.v (.int k (k.wrap (a+b)))) O K:=by simp[eS,kQ,qz,BinOp.eC,k1]
theorem aew:eS .sub (.v (.int k a)) (.v (.int k b)) O K=k1 (.v (.int k (k.wrap (a- b)))) O K:=by simp[eS,kQ,qz,BinOp.eC,k1]
theorem aeC:eS .mul (.v (.int k a)) (.v (.int k b)) O K=k1 (.v (.int k (k.wrap (a*b)))) O K:=by simp[eS,kQ,qz,BinOp.eC,k1]
theorem aeI:eS .and (.v (.int k a)) (.v (.int k b)) O K=k1 (.v (.int k (k.wrap (BitVec.ofInt k.bits a&&&BitVec.ofInt k.bits b).toNat))) O K:=by simp[eS,kQ,qz,BinOp.eC,k1]
theorem ahR:eS .or (.v (.int k a)) (.v (.int k b)) O K=k1 (.v (.int k (k.wrap (BitVec.ofInt k.bits a|||BitVec.ofInt k.bits b).toNat))) O K:=by simp[eS,kQ,qz,BinOp.eC,k1]
theorem aev:eS .xor (.v (.int k a)) (.v (.int k b)) O K=k1 (.v (.int k (k.wrap (BitVec.ofInt k.bits a^^^BitVec.ofInt k.bits b).toNat))) O K:=by simp[eS,kQ,qz,BinOp.eC,k1]
theorem aeA:eS .quo (.v (.int k a)) (.v (.int k b)) O K=(b≠0/\k1 (.v (.int k (k.wrap (a.tdiv b)))) O K):=by
 by_cases h:b=0<;>simp[eS,kQ,qz,BinOp.eC,k1,h]
theorem aez:eS .rem (.v (.int k a)) (.v (.int k b)) O K=(b≠0/\k1 (.v (.int k (a.tmod b))) O K):=by
 by_cases h:b=0<;>simp[eS,kQ,qz,BinOp.eC,k1,h]
theorem aeH:eS .eql (.v (.int k a)) (.v (.int k b)) O K=k1 (.v (.bool (decide (a=b)))) O K:=by
 have:(a==b)=decide (a=b):=by by_cases h:a=b<;>simp[h]
 simp[eS,kQ,qz,BinOp.eC,k1,this]
theorem aeB:eS .neq (.v (.int k a)) (.v (.int k b)) O K=k1 (.v (.bool (!decide (a=b)))) O K:=by
 have:(a !=b)= !decide (a=b):=by by_cases h:a=b<;>simp[h]
 simp[eS,kQ,qz,BinOp.eC,k1,this]
theorem aeD:eS .lss (.v (.int k a)) (.v (.int k b)) O K=k1 (.v (.bool (decide (a<b)))) O K:=by simp[eS,kQ,qz,BinOp.eC,k1]
theorem aeE:eS .leq (.v (.int k a)) (.v (.int k b)) O K=k1 (.v (.bool (decide (a<=b)))) O K:=by simp[eS,kQ,qz,BinOp.eC,k1]
theorem aeF:eS .gtr (.v (.int k a)) (.v (.int k b)) O K=k1 (.v (.bool (decide (b<a)))) O K:=by simp[eS,kQ,qz,BinOp.eC,k1]
theorem aeG:eS .geq (.v (.int k a)) (.v (.int k b)) O K=k1 (.v (.bool (decide (b<=a)))) O K:=by simp[eS,kQ,qz,BinOp.eC,k1]
theorem aey(k':IntKind):eS .shl (.v (.int k a)) (.v (.int k' b)) O K=(0<=b/\k1 (.v (.int k (k.wrap (a*2^(min b.toNat k.bits))))) O K):=by
 by_cases h:0<=b<;>simp[eS,kQ,ag8,BinOp.eC,k1,h]
theorem aex(k':IntKind):eS .shr (.v (.int k a)) (.v (.int k' b)) O K=(0<=b/\k1 (.v (.int k (a.fdiv (2^(min b.toNat k.bits))))) O K):=by
 by_cases h:0<=b<;>simp[eS,kQ,ag8,BinOp.eC,k1,h]
end
theorem wI(a b:ByteArray):(a.toList==b.toList)=decide (a=b):=by
 rw[va,va];by_cases h:a=b
 ·simp[h]
 ·have:¬a.data=b.data:=λ h'=>h (by cases a;cases b;simpa using h')
  simp[h,this]
section
variable (a b:ByteArray) (O:List ae) (K:KT)
theorem aaW:eS .add (.v (.string a)) (.v (.string b)) O K=(((a.size+b.size:Nat):Int)<=9223372036854775807/\k1 (.v (.string (a++b))) O K):=by
 have h3:IntKind.i64.max=9223372036854775807:=by decide
 by_cases h:((a.size+b.size:Nat):Int)<=9223372036854775807
 ·simp only[eS,kQ,zT,k1,h3,if_pos h,h,if_true,true_and]
 ·simp only[eS,kQ,zT,k1,h3,if_neg h,h,if_false,false_and]
theorem aaV:eS .eql (.v (.string a)) (.v (.string b)) O K=k1 (.v (.bool (decide (a=b)))) O K:=by simp[eS,kQ,zT,k1,wI]
theorem aaU:eS .neq (.v (.string a)) (.v (.string b)) O K=k1 (.v (.bool (!decide (a=b)))) O K:=by simp[eS,kQ,zT,k1,wI]
end
def unK(op:UnOp)(a:AV)(O:List ae)(K:KT):Prop:=match a with
    | .v x=>match sun op x with
      |some z=>K (.v z) O
      |none=>False
    |_=>False
theorem agW(b:Bool)(O:List ae)(K:KT):unK .not (.v (.bool b)) O K=k1 (.v (.bool (!b))) O K:=nr rfl
theorem agX(k:IntKind)(n:Int)(O:List ae)(K:KT):unK .neg (.v (.int k n)) O K=k1 (.v (.int k (k.wrap (-n)))) O K:=by simp[unK,sun,k1]
def vb(k:IntKind)(a:AV)(O:List ae)(K:KT):Prop:=match a with
    | .v (.int _ n)=>K (.v (.int k (k.wrap n))) O
    |_=>False
theorem aec(k k':IntKind)(n:Int)(O:List ae)(K:KT):vb k (.v (.int k' n)) O K=k1 (.v (.int k (k.wrap n))) O K:=nr rfl
def aco(off:Nat)(a:AV)(O:List ae)(K:KT):Prop:=match a with
    | .ct y f=>K (.ct y (f+off)) O
    | .ptr n len i f=>o4 O[n]? λ _ _ xs=>xs.length=len/\K (.ptr n len i (f+off)) O
    |_=>False
theorem pM(off:Nat)(y:AV)(f:Nat)(O:List ae)(K:KT):aco off (.ct y f) O K=k1 (.ct y (f+off)) O K:=nr rfl
theorem oD(off n len i f:Nat)(O:List ae)(K:KT):aco off (.ptr n len i f) O K=o4 O[n]? λ _ _ xs=>xs.length=len/\k1 (.ptr n len i (f+off)) O K:=nr rfl
def ajp(off:Nat)(n:Option Nat)(a:AV)(O:List ae)(K:KT):Prop:=a.isAgg=true/\off+n.getD 1<=a.cells.length/\K (dG n a off) O
theorem ahH(off:Nat)(n:Option Nat)(a:AV)(O:List ae)(K:KT):ajp off n a O K=(a.isAgg=true/\off+n.getD 1<=a.cells.length/\k1 (dG n a off) O K):=nr rfl
def yi(s:Nat)(a i:AV)(O:List ae)(K:KT):Prop:=match a,i with
    | .sl xs,.v (.int _ i)=>0<=i/\i<xs.length/\(xs.getD i.toNat .top).cells.length=s/\K (.ct (xs.getD i.toNat .top) 0) O
    | .row n len,.v (.int _ i)=>o4 O[n]? λ _ s' xs=>s'=s/\xs.length=len/\0<=i/\i<len/\K (.ptr n len i.toNat 0) O
    |_,_=>False
theorem aay(s:Nat)(xs:List AV)(k:IntKind)(i:Int)(O:List ae)(K:KT):yi s (.sl xs) (.v (.int k i)) O K=(0<=i/\i<xs.length/\(xs.getD i.toNat .top).cells.length=s/\k1 (.ct (xs.getD i.toNat .top) 0) O K):=nr rfl
theorem rQ(s n len:Nat)(k:IntKind)(i:Int)(O:List ae)(K:KT):yi s (.row n len) (.v (.int k i)) O K=o4 O[n]? λ _ s' xs=>s'=s/\xs.length=len/\0<=i/\i<len/\k1 (.ptr n len i.toNat 0) O K:=nr rfl
def uV(a i:AV)(O:List ae)(K:KT):Prop:=match a,i with
    | .v (.string s),.v (.int _ i)=>0<=i/\i<s.size/\K (.v (.int .u8 (s.data.toList.getD i.toNat 0).toNat)) O
    |_,_=>False
theorem adN(s:ByteArray)(k:IntKind)(i:Int)(O:List ae)(K:KT):uV (.v (.string s)) (.v (.int k i)) O K=(0<=i/\i<s.size/\k1 (.v (.int .u8 (s.data.toList.getD i.toNat 0).toNat)) O K):=nr rfl
def y8(d:Int)(x:Option AV)(M:Int->Prop):Prop:=match x with
 |none=>M d
 |some (.v (.int _ i))=>M i
 |_=>False
theorem aet(d:Int)(M:Int->Prop):y8 d none M=M d:=nr rfl
theorem aes(d:Int)(k:IntKind)(i:Int)(M:Int->Prop):y8 d (some (.v (.int k i))) M=M i:=nr rfl
theorem yP(d:Int)(e:Env)(x:Option aI)(M:Int->Prop):ft d e x M=y8 d (x.map (aI.ev e)) M:=by
 cases x with
 |none=>rfl
 |some o=>
  simp only[ft,y8,Option.map_some];cases o.ev e<;>try rfl
  rename_i v;cases v<;>rfl
def lq(a:AV)(lo hi:Option AV)(O:List ae)(K:KT):Prop:=match a with
    | .v (.string s)=>y8 0 lo λ l=>y8 s.size hi λ h=>0<=l/\l<=h/\h<=s.size/\K (.v (.string (s.extract l.toNat h.toNat))) O
    |_=>False
theorem wV(s:ByteArray)(lo hi:Option AV)(O:List ae)(K:KT):lq (.v (.string s)) lo hi O K=y8 0 lo λ l=>y8 s.size hi λ h=>0<=l/\l<=h/\h<=s.size/\k1 (.v (.string (s.extract l.toNat h.toNat))) O K:=nr rfl
def lu(s:Nat)(a:AV)(lo hi:Option AV)(O:List ae)(K:KT):Prop:=match a with
    | .sl xs=>y8 0 lo λ l=>y8 xs.length hi λ h=>0<=l/\l<=h/\h<=xs.length/\(∀y∈xs,y.cells.length=s)/\K (.sl ((xs.take h.toNat).drop l.toNat)) O
    |_=>False
theorem wW(s:Nat)(xs:List AV)(lo hi:Option AV)(O:List ae)(K:KT):lu s (.sl xs) lo hi O K=y8 0 lo λ l=>y8 xs.length hi λ h=>0<=l/\l<=h/\h<=xs.length/\(∀y∈xs,y.cells.length=s)/\k1 (.sl ((xs.take h.toNat).drop l.toNat)) O K:=nr rfl
def mkK(t s bytes:Nat)(z a b:AV)(O:List ae)(K:KT):Prop:=match a,b with
    | .v (.int .i64 n),.v (.int .i64 c)=>0<=n/\n<=c/\bytes*c<=2^48/\c<=maxLen/\K (.row O.length n.toNat) (O++ [.live t s (List.replicate n.toNat z)])
    |_,_=>False
theorem alq(t s bytes:Nat)(z:AV)(n c:Int)(O:List ae)(K:KT):mkK t s bytes z (.v (.int .i64 n)) (.v (.int .i64 c)) O K=(0<=n/\n<=c/\bytes*c<=281474976710656/\c<=9223372036854775807/\k1 (.row O.length n.toNat) (O++ [.live t s (List.replicate n.toNat z)]) K):=by
 have h1:((2:Int)^48)=281474976710656:=by decide
 have h2:((maxLen:Nat):Int)=9223372036854775807:=by decide
 simp only[mkK,h1,h2,k1]
def uN(a:AV)(O:List ae)(K:KT):Prop:=match a with
    | .v (.string s)=>K (.v (.int .i64 s.size)) O
    |_=>False
theorem adz(s:ByteArray)(O:List ae)(K:KT):uN (.v (.string s)) O K=k1 (.v (.int .i64 s.size)) O K:=nr rfl
def lV(a:AV)(O:List ae)(K:KT):Prop:=match a with
    | .aw=>K (.v (.int .i64 0)) O
    | .sl xs=>K (.v (.int .i64 xs.length)) O
    | .row n len=>tH O[n]? (λ _ _=>len=0/\K (.v (.int .i64 0)) O) λ _ _ xs=>xs.length=len/\K (.v (.int .i64 len)) O
    |_=>False
theorem rM(O:List ae)(K:KT):lV .aw O K=k1 (.v (.int .i64 0)) O K:=nr rfl
theorem xN(xs:List AV)(O:List ae)(K:KT):lV (.sl xs) O K=k1 (.v (.int .i64 xs.length)) O K:=nr rfl
theorem aao(n len:Nat)(O:List ae)(K:KT):lV (.row n len) O K=tH O[n]? (λ _ _=>len=0/\k1 (.v (.int .i64 0)) O K) λ _ _ xs=>xs.length=len/\k1 (.v (.int .i64 len)) O K:=nr rfl
def kx(O:List ae)(y:AV)(M:List AV->Prop):Prop:=match y with
 | .aw=>M []
 | .sl ys=>M ys
 | .row n len=>tH O[n]? (λ _ _=>len=0/\M []) λ _ _ xs=>xs.length=len/\M xs
 |_=>False
theorem afk(O:List ae)(M:List AV->Prop):kx O .aw M=M []:=nr rfl
theorem wL(O:List ae)(ys:List AV)(M:List AV->Prop):kx O (.sl ys) M=M ys:=nr rfl
theorem tm(O:List ae)(n len:Nat)(M:List AV->Prop):kx O (.row n len) M=tH O[n]? (λ _ _=>len=0/\M []) λ _ _ xs=>xs.length=len/\M xs:=nr rfl
def mH(O:List ae)(x:AV)(t s bytes:Nat)(ys:List AV)(K:KT):Prop:=match x with
 | .aw=>ys.length*bytes<=140737488355328/\ys.length<=maxLen/\(ys= []->K .aw O)/\(ys≠[]->K (.row O.length ys.length) (O++ [.live t s ys]))
 | .row n len=>tH O[n]? (λ t' s'=>t'=t/\s'=s/\len=0/\ys.length*bytes<=140737488355328/\ys.length<=maxLen/\(ys= []->K (.row n 0) O)/\(ys≠[]->K (.row n ys.length) (O.set n (.live t s ys)))) λ t' s' xs=>t'=t/\s'=s/\xs.length=len/\(len+ys.length)*bytes<=140737488355328/\len+ys.length<=maxLen/\
  K (.row n (len+ys.length)) (O.set n (.live t s (xs++ys)))
 |_=>False
theorem uI(O:List ae)(t s bytes:Nat)(y:AV)(ys:List AV)(K:KT):mH O .aw t s bytes (y::ys) K=((y::ys).length*bytes<=140737488355328/\(y::ys).length<=maxLen/\k1 (.row O.length (y::ys).length) (O++ [.live t s (y::ys)]) K):=by
 simp[mH,k1]
theorem rG(O:List ae)(t s bytes:Nat)(ys:List AV)(K:KT):mH O .aw t s bytes ys K=(ys.length*bytes<=140737488355328/\ys.length<=maxLen/\(ys= []->k1 .aw O K)/\(ys≠[]->k1 (.row O.length ys.length) (O++ [.live t s ys]) K)):=nr rfl
theorem tG(O:List ae)(n len t s bytes:Nat)(ys:List AV)(K:KT):mH O (.row n len) t s bytes ys K=tH O[n]? (λ t' s'=>t'=t/\s'=s/\len=0/\ys.length*bytes<=140737488355328/\ys.length<=maxLen/\(ys= []->k1 (.row n 0) O K)/\(ys≠[]->k1 (.row n ys.length) (O.set n (.live t s ys)) K)) λ t' s' xs=>t'=t/\s'=s/\xs.length=len/\(len+ys.length)*bytes<=140737488355328/\len+ys.length<=maxLen/\
        k1 (.row n (len+ys.length)) (O.set n (.live t s (xs++ys))) K:=nr rfl
def axB(a:AV)(i:Nat)(O:List ae)(K:KT):Prop:=match a with
    | .ba vs=>i<vs.length/\K (vs.getD i .top) O
    |_=>False
theorem ahJ(vs:List AV)(i:Nat)(O:List ae)(K:KT):axB (.ba vs) i O K=(i<vs.length/\k1 (vs.getD i .top) O K):=nr rfl
def adq(a:AV)(O:List ae)(K:KT):Prop:=match a with
    | .ct y f=>K (.ct y f) O
    | .fn f a6=>K (.fn f a6) O
    | .ptr n len i f=>o4 O[n]? λ _ _ xs=>xs.length=len/\K (.ptr n len i f) O
    |_=>False
theorem rJ(y:AV)(f:Nat)(O:List ae)(K:KT):adq (.ct y f) O K=k1 (.ct y f) O K:=nr rfl
theorem xD(f:FuncId)(cs:List AV)(O:List ae)(K:KT):adq (.fn f cs) O K=k1 (.fn f cs) O K:=nr rfl
theorem aak(n len i f:Nat)(O:List ae)(K:KT):adq (.ptr n len i f) O K=o4 O[n]? λ _ _ xs=>xs.length=len/\k1 (.ptr n len i f) O K:=nr rfl
def ahQ(P:Program)(f:FuncId)(args:List AV)(O:List ae)(K:KT):Prop:=∃res O',hD P f args O res O'/\K res O'
theorem bj{P:Program}{f:FuncId}{args:List AV}{O:List ae}{K:KT}(res:AV)(O':List ae)(h:hD P f args O res O')(k:k1 res O' K):ahQ P f args O K:=⟨res,O',h,k⟩
def abz(P:Program)(f:FuncId)(args:List AV)(O:List ae)(K:KT):Prop:=∃res,AV.ad args=true/\a7 P f args res/\K res O
theorem n8{P:Program}{f:FuncId}{args:List AV}{O:List ae}{K:KT}(res:AV)(h:a7 P f args res)(hn:AV.ad args=true)(k:k1 res O K):abz P f args O K:=⟨res,hn,h,k⟩
def xr(P:Program)(f:FuncId)(pL args:List AV)(O:List ae)(K:KT):Prop:=∃res,AV.ad pL=true/\a7 P f pL res/\K res (vW O args res)
theorem oc{P:Program}{f:FuncId}{pL args:List AV}{O:List ae}{K:KT}(res:AV)(h:a7 P f pL res)(hn:AV.ad pL=true)(k:k1 res (vW O args res) K):xr P f pL args O K:=⟨res,hn,h,k⟩
def ani(P:Program)(x:AV)(args:List AV)(O:List ae)(K:KT):Prop:=match x with
 | .fn f a6=>ahQ P f (args++a6) O K
 |_=>False
theorem ajA(P:Program)(f:FuncId)(a6 args:List AV)(O:List ae)(K:KT):ani P (.fn f a6) args O K=ahQ P f (args++a6) O K:=nr rfl
def ahc(P:Program)(x:AV)(args:List AV)(O:List ae)(K:KT):Prop:=match x with
 | .fn f a6=>abz P f (args++a6) O K
 |_=>False
theorem rC(P:Program)(f:FuncId)(a6 args:List AV)(O:List ae)(K:KT):ahc P (.fn f a6) args O K=abz P f (args++a6) O K:=nr rfl
def ahf(P:Program)(x:AV)(pL args:List AV)(O:List ae)(K:KT):Prop:=match x with
 | .fn f a6=>xr P f (pL++a6) args O K
 |_=>False
theorem rF(P:Program)(f:FuncId)(a6 pL args:List AV)(O:List ae)(K:KT):ahf P (.fn f a6) pL args O K=xr P f (pL++a6) args O K:=nr rfl
section
variable (P:Program) (e:Env) (O:List ae) (K:KT)
theorem avY(x:aI):wpOp P (.bc x) e O K=k1 (x.ev e) O K:=nr rfl
theorem afJ(c a b:aI):wpOp P (.pick c a b) e O K=oQ (c.ev e) (a.ev e) (b.ev e) O K:=nr rfl
theorem ao4(t s:Nat)(z:AV):wpOp P (.alloc t s z) e O K=k1 (.ptr O.length 1 0 0) (O++ [.live t s [z]]) K:=nr rfl
theorem av1(t s:Nat)(x:aI):wpOp P (.box t s x) e O K=axO t s (x.ev e) O K:=nr rfl
theorem ao3(z:List AV)(ps:List (Nat×Nat×aI)):wpOp P (.build z ps) e O K=zN z (ps.map λ p=>(p.1,p.2.1,p.2.2.ev e)) O K:=yO ps z
theorem abG(t s len:Nat)(z:AV)(ps:List (Nat×aI)):wpOp P (.buildSlice t s len z ps) e O K=zM t s len (List.replicate len z) (ps.map λ p=>(p.1,p.2.ev e)) O K:=ac5 t s len ps _
theorem xz(n:Option Nat)(x:aI):wpOp P (.load n x) e O K=ahp n (x.ev e) O K:=by
 simp only[wpOp,ahp];cases x.ev e<;>first|rfl|(rename_i k l i f;cases O[k]? with|none=>rfl|some o=>cases o<;>rfl)
theorem abE(m:Nat)(x y:aI):wpOp P (.store m x y) e O K=afh m (x.ev e) (y.ev e) O K:=by
 simp only[wpOp,afh];cases x.ev e<;>first|rfl|(rename_i k l i f;cases O[k]? with|none=>rfl|some o=>cases o<;>rfl)
theorem aqG(op:BinOp)(x y:aI):wpOp P (.bin op x y) e O K=eS op (x.ev e) (y.ev e) O K:=nr rfl
theorem avV(op:UnOp)(x:aI):wpOp P (.un op x) e O K=unK op (x.ev e) O K:=nr rfl
theorem ali(k:IntKind)(x:aI):wpOp P (.jK k x) e O K=vb k (x.ev e) O K:=nr rfl
theorem qg(off:Nat)(x:aI):wpOp P (.bX off x) e O K=aco off (x.ev e) O K:=by
 simp only[wpOp,aco];cases x.ev e<;>first|rfl|(rename_i k l i f;cases O[k]? with|none=>rfl|some o=>cases o<;>rfl)
theorem aqE(off:Nat)(n:Option Nat)(x:aI):wpOp P (.yC off n x) e O K=ajp off n (x.ev e) O K:=nr rfl
def acC(m s:Nat)(a i:AV)(O:List ae)(K:KT):Prop:=match a,i with
 | .ct y f,.v (.int _ i)=>0<=i/\i<m/\K (.ct y (f+i.toNat*s)) O
 | .ptr n len j f,.v (.int _ i)=>o4 O[n]? λ _ _ xs=>xs.length=len/\0<=i/\i<m/\K (.ptr n len j (f+i.toNat*s)) O
 |_,_=>False
theorem aeS(m s:Nat)(y:AV)(f:Nat)(k:IntKind)(i:Int)(O:List ae)(K:KT):acC m s (.ct y f) (.v (.int k i)) O K=(0<=i/\i<m/\k1 (.ct y (f+i.toNat*s)) O K):=nr rfl
theorem agR(m s n len j f:Nat)(k:IntKind)(i:Int)(O:List ae)(K:KT):acC m s (.ptr n len j f) (.v (.int k i)) O K=o4 O[n]? λ _ _ xs=>xs.length=len/\0<=i/\i<m/\k1 (.ptr n len j (f+i.toNat*s)) O K:=nr rfl
theorem ao5(m s:Nat)(x y:aI):wpOp P (.vi m s x y) e O K=acC m s (x.ev e) (y.ev e) O K:=by
 simp only[wpOp,acC];cases x.ev e<;>cases y.ev e<;>first|rfl|(rename_i v;cases v<;>first|rfl|(rename_i n len _ _ _ _;cases O[n]? with|none=>rfl|some o=>cases o<;>rfl))
theorem abF(s:Nat)(x y:aI):wpOp P (.fS s x y) e O K=yi s (x.ev e) (y.ev e) O K:=by
 simp only[wpOp,yi];cases x.ev e<;>cases y.ev e<;>first|rfl|(rename_i v;cases v<;>first|rfl|(rename_i n len _ _;cases O[n]? with|none=>rfl|some o=>cases o<;>rfl))
theorem alh(x y:aI):wpOp P (.kU x y) e O K=uV (x.ev e) (y.ev e) O K:=nr rfl
theorem adn(x:aI)(lo hi:Option aI):wpOp P (.fC x lo hi) e O K=lq (x.ev e) (lo.map (aI.ev e)) (hi.map (aI.ev e)) O K:=by simp only[wpOp,lq,yP];cases x.ev e<;>first|rfl|(rename_i v;cases v<;>rfl)
theorem ado(s:Nat)(x:aI)(lo hi:Option aI):wpOp P (.db s x lo hi) e O K=lu s (x.ev e) (lo.map (aI.ev e)) (hi.map (aI.ev e)) O K:=by simp only[wpOp,lu,yP];cases x.ev e<;>rfl
theorem av0(t s b:Nat)(z:AV)(x y:aI):wpOp P (.mk t s b z x y) e O K=mkK t s b z (x.ev e) (y.ev e) O K:=nr rfl
theorem alg(x:aI):wpOp P (.kC x) e O K=uN (x.ev e) O K:=nr rfl
theorem afK(x:aI):wpOp P (.bM x) e O K=lV (x.ev e) O K:=by
 simp only[wpOp,lV];cases x.ev e<;>first|rfl|(rename_i k l;cases O[k]? with|none=>rfl|some o=>cases o<;>rfl)
theorem alj(t s b:Nat)(x y:aI):wpOp P (.app t s b x y) e O K=kx O (y.ev e) λ ys=>(∀y∈ys,y.cells.length=s)/\mH O (x.ev e) t s b ys K:=by
 have h:∀ys,gY O (x.ev e) t s b ys K=mH O (x.ev e) t s b ys K:=by
  intro ys;unfold gY mH;cases x.ev e<;>first|rfl|(rename_i k l;cases O[k]? with|none=>rfl|some o=>cases o<;>rfl)
 simp only[wpOp,h];unfold rh kx;cases y.ev e<;>first|rfl|(rename_i k l;cases O[k]? with|none=>rfl|some o=>cases o<;>rfl)
theorem aqF(x:aI)(i:Nat):wpOp P (.ext x i) e O K=axB (x.ev e) i O K:=nr rfl
theorem ale(x:aI):wpOp P (.ef x) e O K=adq (x.ev e) O K:=by
 simp only[wpOp,adq];cases x.ev e<;>first|rfl|(rename_i k l i f;cases O[k]? with|none=>rfl|some o=>cases o<;>rfl)
theorem alf(f:FuncId)(cs:List aI):wpOp P (.rK f cs) e O K=k1 (.fn f (cs.map (aI.ev e))) O K:=nr rfl
theorem asq(f:FuncId)(as:List aI):wpOp P (.call f as) e O K=ahQ P f (as.map (aI.ev e)) O K:=nr rfl
theorem ao2(x:aI)(as:List aI):wpOp P (.eu x as) e O K=ani P (x.ev e) (as.map (aI.ev e)) O K:=nr rfl
theorem ahm(f:FuncId)(as:List aI):wpOp P (.mG f as) e O K=xr P f (as.map λ x=>iF O (x.ev e)) (as.map (aI.ev e)) O K:=nr rfl
theorem xy(x:aI)(as:List aI):wpOp P (.jD x as) e O K=ahf P (x.ev e) (as.map λ x=>iF O (x.ev e)) (as.map (aI.ev e)) O K:=nr rfl
theorem ahl(f:FuncId)(as:List aI):wpOp P (.k7 f as) e O K=abz P f (as.map (aI.ev e)) O K:=nr rfl
theorem xx(x:aI)(as:List aI):wpOp P (.iv x as) e O K=ahc P (x.ev e) (as.map (aI.ev e)) O K:=nr rfl
end
def alN(P:Program)(d:Option Nat)(e:Env)(r:List aP)(Q:Env->List ae->Prop):KT:=λ x O'=>Go.Ab.wpOps P r (bT e d x) O' Q
theorem apt(P:Program)(d:Option Nat)(e:Env)(r:List aP)(Q:Env->List ae->Prop)(a:AV)(O:List ae):k1 a O (alN P d e r Q)=Go.Ab.wpOps P r (bT e d a) O Q:=nr rfl
theorem afa(P:Program)(d:Option Nat)(op:ew)(e:Env)(O:List ae)(r:List aP)(Q:Env->List ae->Prop):Go.Ab.wpOps P (⟨none,d,op⟩::r) e O Q=wpOp P op e O (alN P d e r Q):=nr rfl
def vR(P:Program)(a:AV)(want:Bool)(t:Nat)(d:Option Nat)(op:ew)(r:List aP)(e:Env)(O:List ae)(Q:Env->List ae->Prop):Prop:=match a with
 | .v (.bool b)=>
   (b=want->wpOp P op (e.set t (.v (.bool want))) O (alN P d (e.set t (.v (.bool want))) r Q))/\
   (b= !want->Go.Ab.wpOps P r (bT (e.set t (.v (.bool (!want)))) d (.ba [])) O Q)
 | .ba []=>Go.Ab.wpOps P r (bT e d (.ba [])) O Q
 |_=>False
section
variable (P:Program) (t:Nat) (d:Option Nat) (op:ew) (r:List aP) (e:Env) (O:List ae) (Q:Env->List ae->Prop)
theorem aqc(want:Bool):Go.Ab.wpOps P (⟨some (t,want),d,op⟩::r) e O Q=vR P (e t) want t d op r e O Q:=by
 rw[acO];unfold vR;cases e t<;>try rfl
theorem apP:vR P (.v (.bool true)) true t d op r e O Q=wpOp P op (e.set t (.v (.bool true))) O (alN P d (e.set t (.v (.bool true))) r Q):=by simp[vR]
theorem apS:vR P (.v (.bool false)) false t d op r e O Q=wpOp P op (e.set t (.v (.bool false))) O (alN P d (e.set t (.v (.bool false))) r Q):=by simp[vR]
theorem apQ:vR P (.v (.bool true)) false t d op r e O Q=Go.Ab.wpOps P r (bT (e.set t (.v (.bool true))) d (.ba [])) O Q:=by simp[vR]
theorem apR:vR P (.v (.bool false)) true t d op r e O Q=Go.Ab.wpOps P r (bT (e.set t (.v (.bool false))) d (.ba [])) O Q:=by simp[vR]
theorem aji(want:Bool):vR P (.ba []) want t d op r e O Q=Go.Ab.wpOps P r (bT e d (.ba [])) O Q:=by simp[vR]
variable {P t d op r e O Q}
end
def aaQ(P:Program)(n0:Nat)(a:AV)(t f:aU)(Q:AX->Env->List ae->Prop)(e:Env)(O:List ae):Prop:=match a with
 | .v (.bool b)=>(b=true->jR P n0 t Q e O)/\(b=false->jR P n0 f Q e O)
 |_=>False
def aor(P:Program)(n0:Nat)(b:aU)(Q:AX->Env->List ae->Prop):AX->Env->List ae->Prop:=λ x e O=>match x with| .normal=>jR P n0 b Q e O|x=>Q x e O
def acx(id:Nat)(Q:AX->Env->List ae->Prop):AX->Env->List ae->Prop:=λ x e O=>match x with| .exit i=>if i=id then Q .normal e O else Q (.exit i) e O|x=>Q x e O
def ahs(l:List Nat)(Q:AX->Env->List ae->Prop):AX->Env->List ae->Prop:=λ x e O=>match x with| .normal=>Q .normal (sK l e) O|x=>Q x e O
section
variable (P:Program) (n0:Nat) (Q:AX->Env->List ae->Prop) (e:Env) (O:List ae)
theorem aud(c:aI)(t f:aU):jR P n0 (.cond c t f) Q e O=aaQ P n0 (c.ev e) t f Q e O:=nr rfl
theorem agC(t f:aU):aaQ P n0 (.v (.bool true)) t f Q e O=jR P n0 t Q e O:=by simp[aaQ]
theorem aee(t f:aU):aaQ P n0 (.v (.bool false)) t f Q e O=jR P n0 f Q e O:=by simp[aaQ]
theorem axM(a b:aU):jR P n0 (.seq a b) Q e O=jR P n0 a (aor P n0 b Q) e O:=nr rfl
theorem aqd(id:Nat)(b:aU):jR P n0 (.block id b) Q e O=jR P n0 b (acx id Q) e O:=nr rfl
theorem aub(l:List Nat)(c:aU):jR P n0 (.aL l c) Q e O=jR P n0 c (ahs l Q) e O:=nr rfl
theorem arX(b:aU):aor P n0 b Q .normal e O=jR P n0 b Q e O:=nr rfl
theorem arY(b:aU)(i:Nat):aor P n0 b Q (.exit i) e O=Q (.exit i) e O:=nr rfl
theorem arW(b:aU):aor P n0 b Q .ret e O=Q .ret e O:=nr rfl
theorem anv(id:Nat):acx id Q .normal e O=Q .normal e O:=nr rfl
theorem anw(id i:Nat):acx id Q (.exit i) e O=if i=id then Q .normal e O else Q (.exit i) e O:=nr rfl
theorem anu(id:Nat):acx id Q .ret e O=Q .ret e O:=nr rfl
theorem apq(l:List Nat):ahs l Q .normal e O=Q .normal (sK l e) O:=nr rfl
theorem apr(l:List Nat)(i:Nat):ahs l Q (.exit i) e O=Q (.exit i) e O:=nr rfl
theorem apo(l:List Nat):ahs l Q .ret e O=Q .ret e O:=nr rfl
variable {P n0 Q e O}
theorem aed{b:Bool}{t f:aU}(h:b=true->jR P n0 t Q e O)(h':b=false->jR P n0 f Q e O):aaQ P n0 (.v (.bool b)) t f Q e O:=⟨h,h'⟩
end
section
variable {ι:Type} (n0:Nat) (D:ι->Prop) (σ:ι->Env) (τ:ι->List ae) (μ:ι->Nat) (i:ι) (Q:AX->Env->List ae->Prop) (e:Env) (O:List ae)
theorem akG(k:Nat):xc n0 D σ τ μ i Q (.exit k) e O=Q (.exit k) e O:=nr rfl
theorem akF:xc n0 D σ τ μ i Q .ret e O=Q .ret e O:=nr rfl
variable {n0 D σ τ μ i Q e O}
theorem b6(j:ι)(h:D j)(h1:μ j<μ i)(h2:WK n0 e O (σ j) (τ j)):xc n0 D σ τ μ i Q .normal e O:=⟨j,h,h1,h2⟩
end
def aqL(P:Program)(n0:Nat)(Q:AX->Env->List ae->Prop)(e:Env)(O:List ae)(b:aU):Prop:=jR P n0 (.loop b) Q e O
theorem aua(P:Program)(n0:Nat)(Q:AX->Env->List ae->Prop)(e:Env)(O:List ae)(b:aU):jR P n0 (.loop b) Q e O=aqL P n0 Q e O b:=nr rfl
theorem cR{P:Program}{n0:Nat}{b:aU}{Q:AX->Env->List ae->Prop}{e:Env}{O:List ae}{ι:Type}(D:ι->Prop)(σ:ι->Env)(τ:ι->List ae)(μ:ι->Nat)(i0:ι)
 (hd:D i0) (h0:WK n0 e O (σ i0) (τ i0)) (hr:∀i,D i->jR P n0 b (xc n0 D σ τ μ i Q) (σ i) (τ i)):aqL P n0 Q e O b:=akk D σ τ μ i0 hd h0 hr
theorem pC{m:Nat}{x:AV}(h:x.isAgg=true)(h':x.cells.length=m):dG (some m) x 0=x:=by simp[dG,h,h']
theorem ga(x:AV)(f:Nat):dG none x f=x.cells.getD f .top:=nr rfl
theorem ah1{x y:AV}(h:y.cells.length=x.cells.length):qC x 0 y=y:=by simp[qC,h]
theorem aaR(cs:List AV):(AV.agg cs).cells=cs:=nr rfl
theorem aq(x:Value):(AV.v x).cells= [.v x]:=nr rfl
theorem yN:AV.aw.cells= [.aw]:=nr rfl
theorem aei(xs:List AV):(AV.sl xs).cells= [.sl xs]:=nr rfl
theorem aju(n l:Nat):(AV.row n l).cells= [.row n l]:=nr rfl
theorem ajv(n l i f:Nat):(AV.ptr n l i f).cells= [.ptr n l i f]:=nr rfl
theorem aej(f:FuncId)(cs:List AV):(AV.fn f cs).cells= [.fn f cs]:=nr rfl
theorem aax(cs:List AV):(AV.agg cs).isAgg=true:=nr rfl
theorem nI(x:Value):(AV.v x).cg=true:=nr rfl
theorem uS:AV.aw.cg=true:=nr rfl
theorem aav(xs:List AV):(AV.sl xs).cg=true:=nr rfl
theorem af6(n l:Nat):(AV.row n l).cg=true:=nr rfl
theorem af7(n l i f:Nat):(AV.ptr n l i f).cg=true:=nr rfl
theorem aaw(f:FuncId)(cs:List AV):(AV.fn f cs).cg=true:=nr rfl
theorem si(cs:List AV):(AV.agg cs).storable=cs.all AV.cg:=nr rfl
theorem wK(x:Value):(AV.v x).storable=true:=nr rfl
theorem qF:AV.aw.storable=true:=nr rfl
theorem uy(xs:List AV):(AV.sl xs).storable=true:=nr rfl
theorem aa5(n l:Nat):(AV.row n l).storable=true:=nr rfl
theorem aa6(n l i f:Nat):(AV.ptr n l i f).storable=true:=nr rfl
theorem uz(f:FuncId)(cs:List AV):(AV.fn f cs).storable=true:=nr rfl
theorem aaE{O:List ae}{a:AV}(h:a.ag=true):iF O a=a:=by
 cases a<;>first|rfl|(simp[AV.ag]at h;done)
theorem td{O:List ae}{args:List AV}{res:AV}(h:res.flat=true):vW O args res=O:=by simp[vW,h]
theorem r9{O:List ae}{args:List AV}{res:AV}(h:AV.ad args=true):vW O args res=O:=by
 unfold vW
 split
 ·rfl
 ·induction args with
  |nil=>rfl
  |cons a as ih=>
   simp only[AV.ad,Bool.and_eq_true]at h;have:eA O a=O:=by cases a<;>first|rfl|(simp[AV.ag]at h;done)
   simp only[List.foldl_cons,this];exact ih h.2
theorem atO(x:Value):(AV.v x).flat=true:=nr rfl
theorem afN:AV.ad []=true:=nr rfl
theorem adp(x:AV)(xs:List AV):AV.ad (x::xs)=(x.ag&&AV.ad xs):=nr rfl
theorem ao7(x:Value):(AV.v x).ag=true:=nr rfl
theorem alm(xs:List AV):(AV.sl xs).ag=AV.ad xs:=nr rfl
theorem aiK(xs:List AV):(AV.agg xs).ag=AV.ad xs:=nr rfl
theorem aiI(xs:List AV):(AV.ba xs).ag=AV.ad xs:=nr rfl
theorem afP:AV.aw.ag=true:=nr rfl
theorem aln(f:FuncId)(cs:List AV):(AV.fn f cs).ag=AV.ad cs:=nr rfl
theorem an6{n:Int}(h: -9223372036854775808<=n)(h':n<=9223372036854775807):IntKind.i64.wrap n=n:=by
 rw[IntKind.wrap_i64];omega
section
variable (n0:Nat) (rs:List dO) (res:AV) (O':List ae) (e:Env) (O:List ae)
end
end Go.Ab
namespace Go.Ab
def fz(O:List ae):Nat->AV->AV
 |0,a=>a
 |k+1,.row n len=>match O[n]? with
  |some (.live _ _ xs)=>if xs.length=len then .sl (xs.map (fz O k))else .row n len
  |some (.nil _ _)=>if len=0 then .sl []else .row n len
  |_=> .row n len
 |_+1,.aw=> .sl []
 |k+1,.agg cs=> .agg (cs.map (fz O k))
 |k+1,.ba vs=> .ba (vs.map (fz O k))
 |_+1,a=>a
open Classical in
noncomputable def allI (I:dv) (L:Nat->Loc) (O:List ae) (w:World):dv:=λ b o=>if LB L O b then w.cell? ⟨b,o,none⟩else I b o
theorem tc{I:dv}{L:Nat->Loc}{O:List ae}{w:World}(hi:Inv I L O w):∀b o x,I b o=some x->allI I L O w b o=some x:=by
 intro b o x hx;unfold allI
 split
 ·exact hi.j4 b o x hx
 ·exact hx
theorem Good.all{I0 I:dv}{L0 L:Nat->Loc}{O:List ae}{w0 w:World}(h:Good I0 L0 [] w0 I L O w):Good I0 L0 [] w0 (allI I L O w) L [] w:=by
 refine⟨⟨λ b o x hx=> ?_,by simp,by simp,by simp,λ p hp=>tc h.inv _ _ _ (h.inv.fix p hp),h.inv.wx (tc h.inv),.no (by simp),.no (by simp)⟩,⟨λ b o x hx=>tc h.inv _ _ _ (h.ext.j4 _ _ _ hx),by simp,by simp,by simp,by simp,by simp⟩,h.pa,?_,λ b o x hx=> ?_⟩
 ·unfold allI at hx
  split at hx
  ·exact hx
  ·exact h.inv.j4 b o x hx
 ·exact λ b hb=>(yZ hb).elim
 ·unfold allI at hx
  split at hx
  ·rename_i hlb;rcases h.lb b hlb with h1|h1
   ·exact(yZ h1).elim
   ·exact .inr (.inr h1)
  ·exact h.iz b o x hx
theorem ada(e:Env)(O:List ae)(acc:List AV)(M:List AV->Prop):dQ e O [] acc M=M acc.reverse:=nr rfl
theorem ac8(e:Env)(O:List ae)(t:Nat)(rs:List dO)(acc:List AV)(M:List AV->Prop):dQ e O (.tmp t::rs) acc M=dQ e O rs (e t::acc) M:=nr rfl
def agF(o:Option ae)(n:Option Nat)(K:AV->Prop):Prop:=match o with
 |some (.live _ _ [x])=>n.getD 1<=x.cells.length/\K (dG n x 0)
 |_=>False
def ari(a:AV)(O:List ae)(n:Option Nat)(K:AV->Prop):Prop:=match a with
 | .ptr k 1 0 0=>agF O[k]? n K
 |_=>False
theorem aim(e:Env)(O:List ae)(t:Nat)(n:Option Nat)(rs:List dO)(acc:List AV)(M:List AV->Prop):dQ e O (.cell t n::rs) acc M=ari (e t) O n λ x=>dQ e O rs (x::acc) M:=nr rfl
theorem ajz(k:Nat)(O:List ae)(n:Option Nat)(K:AV->Prop):ari (.ptr k 1 0 0) O n K=agF O[k]? n K:=nr rfl
theorem aek(t s:Nat)(x:AV)(n:Option Nat)(K:AV->Prop):agF (some (.live t s [x])) n K=(n.getD 1<=x.cells.length/\K (dG n x 0)):=nr rfl
theorem aiB(x:AV):bz [x]=x:=nr rfl
theorem afG(x y:AV)(l:List AV):bz (x::y::l)= .ba (x::y::l):=nr rfl
theorem axy(O:List ae)(x:Value):iF O (.v x)= .v x:=nr rfl
theorem atG(O:List ae)(xs:List AV):iF O (.sl xs)= .sl xs:=nr rfl
theorem amP(O:List ae):iF O .aw= .aw:=nr rfl
theorem apU(O:List ae)(xs:List AV):iF O (.agg xs)= .agg xs:=nr rfl
theorem atH(O:List ae)(f:FuncId)(xs:List AV):iF O (.fn f xs)= .fn f xs:=nr rfl
theorem nW{a b y:AV}{cs:List AV}{i:Nat}(hy:y.cells= [y])(h:i<(a::b::cs).length):qC (.agg (a::b::cs)) i y= .agg ((a::b::cs).set i y):=by
 unfold qC;rw[hy,if_neg (by simp[AV.cells])];simp only[AV.cells,List.length_singleton,List.append_assoc,List.singleton_append];rw[List.set_eq_take_append_cons_drop,if_pos h]
theorem avf{a b:AV}{cs:List AV}{i:Nat}(x:Value)(h:i<(a::b::cs).length):qC (.agg (a::b::cs)) i (.v x)= .agg ((a::b::cs).set i (.v x)):=nW rfl h
theorem arE{a b:AV}{cs:List AV}{i:Nat}(x:List AV)(h:i<(a::b::cs).length):qC (.agg (a::b::cs)) i (.sl x)= .agg ((a::b::cs).set i (.sl x)):=nW rfl h
theorem ako{a b:AV}{cs:List AV}{i:Nat}(h:i<(a::b::cs).length):qC (.agg (a::b::cs)) i .aw= .agg ((a::b::cs).set i .aw):=nW rfl h
theorem aoa{a b:AV}{cs:List AV}{i:Nat}(n l:Nat)(h:i<(a::b::cs).length):qC (.agg (a::b::cs)) i (.row n l)= .agg ((a::b::cs).set i (.row n l)):=nW rfl h
theorem aob{a b:AV}{cs:List AV}{i:Nat}(n l j f:Nat)(h:i<(a::b::cs).length):qC (.agg (a::b::cs)) i (.ptr n l j f)= .agg ((a::b::cs).set i (.ptr n l j f)):=nW rfl h
theorem arF{a b:AV}{cs:List AV}{i:Nat}(f:FuncId)(l:List AV)(h:i<(a::b::cs).length):qC (.agg (a::b::cs)) i (.fn f l)= .agg ((a::b::cs).set i (.fn f l)):=nW rfl h
theorem aod{cs ds:List AV}{i:Nat}(h:i≠0):qC (.agg cs) i (.agg ds)= .agg (cs.take i++(ds++cs.drop (i+ds.length))):=by
 unfold qC;rw[if_neg (by simp[h])];simp[AV.cells]
theorem akp{cs ds:List AV}(h:ds.length<cs.length):qC (.agg cs) 0 (.agg ds)= .agg (ds++cs.drop ds.length):=by
 unfold qC;rw[if_neg (by simp[AV.cells];omega)];simp[AV.cells]
theorem aAU(n:Nat):decide ((n:Int)<0)=false:=by simp
end Go.Ab
namespace Go.Ab
theorem WK.select{e e':Env}{O O1:List ae}(s:Nat->Nat)(hg:∀i,i<O1.length->O[s i]? =(O1[i]?).map (ae.bU s))(vQ:∀i j,i<O1.length->j<O1.length->s i=s j->i=j)
  (hsO:∀ob∈O1,ob.inScope O1.length=true) (he:∀t,e' t= .top∨(e t=(e' t).bU s/\(e' t).inScope O1.length=true)):WK 0 e O e' O1:=by
 intro I0 L0 O0 w0 I L w f hl iA hr;obtain rfl:O0= []:=List.eq_nil_of_length_eq_zero hl;have hi:=iA.inv
 have gv:∀{n e k ys},O1[n]? =some (.live e k ys)->O[s n]? =some (.live e k (ys.map (AV.bU s))):=by
  intro n e k ys hn;rw[hg n (List.getElem?_eq_some_iff.1 hn).1,hn];rfl
 have iT:∀{n:Nat} {a:AV},O1[n]? =some (.own a)->O[s n]? =some (.own a):=by
  intro n a hn;rw[hg n (List.getElem?_eq_some_iff.1 hn).1,hn];rfl
 have oz:∀{n:Nat} {g:gr},O1[n]? =some (.dc g)->O[s n]? =some (.dc (g.bU s)):=by
  intro n a hn;rw[hg n (List.getElem?_eq_some_iff.1 hn).1,hn];rfl
 have un:∀{a:AV} {x:Value},R I L O (a.bU s) x->a.inScope O1.length=true->R I (λ n=>L (s n)) O1 a x:=λ hr hsc=>R.akr hg (λ _ _=>rfl) hr _ rfl hsc
 refine⟨I,λ n=>L (s n),⟨⟨hi.j4,λ n e k ys hn=> ?_,λ n n' e k ys e' k' ux hn lz hb=> ?_,λ n e k ys o hn=>hi.dS _ _ _ _ o (gv hn),hi.fix,hi.bh,
  ⟨λ n a hn=>hi.ow.tree _ a (iT hn),λ n a hn=>hi.ow.cell _ a (iT hn),λ n a hn=>hi.ow.j4 _ a (iT hn),λ n a hn b o v hv m e k xs hm=>hi.ow.live _ a (iT hn) b o v hv _ _ _ _ (gv hm),
   λ n m a c hn hm b o o' v v' hv jO=>vQ _ _ (List.getElem?_eq_some_iff.1 hn).1 (List.getElem?_eq_some_iff.1 hm).1 (hi.ow.sep _ _ a c (iT hn) (iT hm) b o o' v v' hv jO),λ n a hn=>hi.ow.deep _ a (iT hn)⟩,
  ⟨λ n g hn=>(hi.gh.ok _ _ (oz hn)).un (λ _ _ hr hsc=>un hr hsc) (hsO _ (mem_of_getElem? hn)),λ n m a c hn hm hb=>vQ _ _ (List.getElem?_eq_some_iff.1 hn).1 (List.getElem?_eq_some_iff.1 hm).1 (hi.gh.sep _ _ _ _ (oz hn) (oz hm) hb)⟩⟩,⟨iA.ext.j4,by simp,by simp,by simp,by simp,by simp⟩,iA.pa,?_,iA.iz⟩,λ t=> ?_⟩
 ·obtain⟨c,⟨kR,q1,dE⟩,q2,q3,q4,q5,q6⟩:=hi.obj _ _ _ _ (gv hn);refine⟨c,⟨kR,q1,dE⟩,q2,by simpa using q3,q4,q5,λ i x hx=> ?_⟩;have jH:(ys.map (AV.bU s))[i]? =some (x.bU s):=by rw[getElem?_map,hx];rfl
  obtain⟨r1,r2⟩:=q6 i _ jH;rw[ea,List.length_map]at r1;refine⟨r1,λ j a ha=> ?_⟩;obtain⟨y,hy,ho,o7⟩:=r2 j (a.bU s) (by rw[ea,getElem?_map,ha];rfl);have hbo:=hsO _ (mem_of_getElem? hn);exact⟨y,hy,ho,un o7 (cp (bZ hbo x (mem_of_getElem? hx)) a (mem_of_getElem? ha))⟩
 ·exact vQ _ _ (List.getElem?_eq_some_iff.1 hn).1 (List.getElem?_eq_some_iff.1 lz).1 (hi.sep _ _ _ _ _ _ _ _ (gv hn) (gv lz) hb)
 ·rintro b (⟨n,e,k,xs,hn,hb⟩|⟨n,a,o,v,hn,hb⟩|⟨n,a,hn,hb⟩)
  ·exact iA.lb b (.inl ⟨s n,_,_,_,gv hn,hb⟩)
  ·exact iA.lb b (.inr (.inl ⟨s n,a,o,v,iT hn,hb⟩))
  ·exact iA.lb b (.inr (.inr ⟨s n,_,oz hn,hb⟩))
 ·rcases he t with h|⟨h,h'⟩
  ·rw[h];exact .top _
  ·have:=hr t;rw[h]at this;exact un this h'
end Go.Ab
namespace Go.Ab
open Go.ChangeShapes Go.WideShapes
section
variable {H:Type} {enc:TypeId×Value->H} {P:Program}
theorem qE(hl:laidOutB P=true){W W':World}{sp':Nat->Bool}:∀{ts:List TypeId} {vs:List Value} {ds:List (DataW H)} {ps:List MemPlace},(∀t∈ts,P.readableRec t=true/\t<P.types.size)->
  DataW.TrodAll enc P W 0 (λ _=>true) true ts vs ds ps->(∀p∈ps,W.sameAt W' p)->(∀p∈ps,sp' p.block=true)->DataW.TrodAll enc P W' 0 sp' true ts vs ds ps
 | [],_,_,_,_,h,_,_=>by
   obtain⟨rfl,rfl,rfl⟩:=trodAll_nil h;exact trodAll_mk0
 |t::ts,_,_,_,ht,h,hs,hp=>by
  obtain⟨v,vs,d,ds,p,q,rfl,rfl,rfl,h0,h1⟩:=trodAll_cons h;obtain⟨a,b⟩:=ht t List.mem_cons_self
  exact⟨p,q,WideElems.Trod_stays hl a b h0 (λ x hx=>hs x (mem_append_left _ hx)) (λ x hx=>hp x (mem_append_left _ hx)),
   qE hl (λ t' h'=>ht t' (List.mem_cons_of_mem _ h')) h1 (λ x hx=>hs x (List.mem_append_right _ hx)) (λ x hx=>hp x (List.mem_append_right _ hx)),rfl⟩
theorem alL{f:Func}{s:ChangeSpec}{apart fresh handsOn again:Bool}{W W':World}{args:Array Value}{ds gs:List (DataW H)}{before:List MemPlace}(hl:laidOutB P=true)
  (sa:∀t∈f.params.toList,P.readableRec t=true/\t<P.types.size) (hv:s.vars= []) (hW:DataW.Whole enc P f.params.toList s.vars apart W args.toList ds gs before) (hb:RowKit.Below W.heap.size W W')
  {t:TypeId} (hr:f.resultTypes= #[t]) (ht:P.underlying t=some .bool) (hfn:s.fn H (ds++gs)={results:=[.lit (.bool true)],args:=ds}):
  s.post enc P f apart fresh handsOn again W args (.bool true) W':=by
 have aF:=hW.lt;have hold:∀p∈before,(λ b=>decide (b<W.heap.size)) p.block=true:=λ p hp=>by simpa using aF p hp
 have hW0:=hW;obtain⟨p,q,hA,hV,rfl,hz,hn⟩:=hW0;rw[hv]at hV;obtain⟨rfl,rfl⟩:=trodVars_none hV
 have om:∀sp:Nat->Bool,(∀x∈p,sp x.block=true)->DataW.TrodAll enc P W' 0 sp true f.params.toList args.toList ds p:=λ sp hsp=>
  qE hl sa hA (λ x hx=>hb.same (aF x (mem_append_left _ hx))) hsp
 have sT:∀(b:Nat) (sp:Nat->Bool) (hd:Bool),DataW.TrodAll enc P W' b sp hd f.resultTypes.toList ((Value.bool true).resultList f.resultTypes.size) [.lit (.bool true)] []:=by
  intro b sp hd;rw[hr];refine trodAll_mk1 ⟨1,?_⟩;simp[DataW.trod,ht,Value.cells]
 have aqQ:∀sp:Nat->Bool,DataW.TrodVars enc P W' sp s.vars [] []:=by
  intro sp;rw[hv];exact rfl
 refine⟨ds,[],p++ [],[],p,[],hW,by rw[hfn];exact sT _ _ _,by rw[hfn];exact om _ (λ x hx=>hold x (mem_append_left _ hx)),by rw[hfn];exact aqQ _,World.keptBut_mono (λ x hx=>hx) (hb.frame _),λ _=> ?_⟩;refine⟨?_,[.lit (.bool true)]++ds,[],([]++p)++ [],⟨[]++p,[],trodAll_append (om _ (λ _ _=>rfl)) (sT _ _ _),aqQ _,rfl,?_,?_⟩,?_⟩
 ·intro j t' r h1 h2;rw[hr]at h1 h2;cases j with
  |zero=>
   simp[Value.resultList]at h1 h2;subst h1;subst h2;exact RowKit.okWide_bool_mk ht true
  |succ j=>simp at h1
 ·intro b off hp;have hp':MemPlace.cell b off∈p++ []:=by simpa using hp
  rw[hb.frozen (aF _ hp')];exact hz b off hp'
 ·intro ha;have:=hn ha;simpa using this
 ·intro x hx _;simpa using hx
mutual
def rZ:DataW H->Nat
 | .lit (.string bytes)=>bytes.length+1
 | .lit _=>1
 | .nil=>1
 | .ptr d=>rZ d+1
 | .slice elems spare=>lD elems+lD spare+1
 | .agg parts=>lD parts+1
 | .iface _ d=>rZ d+1
 | .map _=>1
 | .held _=>1
def lD:List (DataW H)->Nat
 | []=>0
 |d::r=>rZ d+lD r
end
def adv(w:World):dv:=λ b o=>w.cell? ⟨b,o,none⟩
theorem alv(L:Nat->Loc)(w:World)(hf:∀p∈oC,w.cell? ⟨p.1,p.2.1,none⟩=some p.2.2)(hq:∀q∈lK,kl w q.1=some q.2/\∃v,adv w q.1 0=some v/\ad2 q.1 v=true):Inv (adv w) L [] w:=⟨λ _ _ _ h=>h,by simp,by simp,by simp,hf,hq,.no (by simp),.no (by simp)⟩
theorem av5(h:lK= [])(w:World):∀q∈lK,kl w q.1=some q.2/\∃v,adv w q.1 0=some v/\ad2 q.1 v=true:=by rw[h];simp
theorem av4(h:oC= [])(w:World):∀p∈oC,w.cell? ⟨p.1,p.2.1,none⟩=some p.2.2:=by rw[h];simp
def RdC(w:World)(as:List AV)(cs:List Value):Prop:=
 as.length=cs.length/\∀(j:Nat) c y,as[j]? =some c->cs[j]? =some y->y.oneCell'=true/\∀L,R (adv w) L [] c y
theorem RdC.one{w:World}{a:AV}{y:Value}(h:y.oneCell'=true)(hr:∀L,R (adv w) L [] a y):RdC w [a] [y]:=by
 refine⟨rfl,λ j c z hc hz=> ?_⟩;cases j with
 |zero=>simp at hc hz;subst hc;subst hz;exact⟨h,hr⟩
 |succ j=>simp at hc
theorem RdC.append{w:World}{as bs:List AV}{cs ds:List Value}(h:RdC w as cs)(k:RdC w bs ds):RdC w (as++bs) (cs++ds):=by
 refine⟨by simp[h.1,k.1],λ j c y hc hy=> ?_⟩;by_cases hj:j<as.length
 ·rw[List.getElem?_append_left hj]at hc;rw[List.getElem?_append_left (by rw[←h.1];exact hj)]at hy;exact h.2 j c y hc hy
 ·rw[List.getElem?_append_right (by omega)]at hc;rw[List.getElem?_append_right (by rw[←h.1];omega),←h.1]at hy;exact k.2 _ c y hc hy
theorem RdC.part{w:World}{as bs:List AV}{cs:List Value}(o n:Nat)(h:RdC w as ((cs.drop o).take n))(k:RdC w bs (cs.drop (o+n))):RdC w (as++bs) (cs.drop o):=by
 have:=h.append k;rwa [←List.drop_drop,List.take_append_drop]at this
def Rd(enc:TypeId×Value->H)(P:Program)(w:World)(f:Nat)(t:TypeId){α:Type}(cells:α->List AV)(wt:α->Nat)(ok:α->Prop):Prop:=
 ∀cs x,DataW.trod enc P w 0 (λ _=>true) true f t cs=some x->∃y:α,RdC w (cells y) cs/\wt y<=rZ x.1/\ok y
theorem ar1{w:World}{f:Nat}{t:TypeId}{k:IntKind}(ht:P.underlying t=some (.int k)):Rd enc P w f t (λ n:Int=>[.v (.int k n)]) (λ _=>1) (λ n=>k.min<=n/\n<=k.max):=by
 intro cs x h;obtain⟨n,rfl,rfl,hw⟩:=DataW.trod_int ht h;exact⟨n,.one rfl λ L=> .v _ rfl,le_refl _,by simpa [Lit.wf]using hw⟩
theorem aer{α:Type}{wt:α->Nat}:∀{l:List α} {ds:List (DataW H)},l.length=ds.length->(∀(i:Nat) a d,l[i]? =some a->ds[i]? =some d->wt a<=rZ d)->(l.map wt).sum<=lD ds
 | [],[],_,_=>le_refl _
 |a::l,d::ds,hl,h=>by
  have h0:=h 0 a d rfl rfl;have h1:=aer (l:=l) (ds:=ds) (by simpa using hl) λ i a d ha hd=>h (i+1) a d ha hd
  simp only[map_cons,List.sum_cons,lD];omega
 | [],_::_,hl,_=>by simp at hl
 |_::_,[],hl,_=>by simp at hl
theorem aeg{α:Type}{n:Nat}{p:Nat->α->Prop}(h:∀i,i<n->∃a,p i a):∃l:List α,l.length=n/\∀(i:Nat) a,l[i]? =some a->p i a:=by
 induction n with
 |zero=>exact⟨[],rfl,by simp⟩
 |succ n ih=>
  obtain⟨l,hl,hp⟩:=ih λ i hi=>h i (Nat.lt_succ_of_lt hi)
  obtain⟨a,ha⟩:=h n (Nat.lt_succ_self n);refine⟨l++ [a],by simp[hl],λ i b hb=> ?_⟩;by_cases hi:i<l.length
  ·rw[List.getElem?_append_left hi]at hb;exact hp i b hb
  ·rw[List.getElem?_append_right (by omega)]at hb
   have:i=n:=by
    have:=(List.getElem?_eq_some_iff.1 hb).1;simp at this;omega
   subst this;simp[hl]at hb;subst hb;exact ha
theorem akJ{w:World}{f:Nat}{t e:TypeId}{α:Type}{av:α->AV}{wt:α->Nat}{ok:α->Prop}(ht:P.underlying t=some (.slice e))(hs:0<P.cellsOf e)(he:∀n,f=n+1->Rd enc P w n e (λ a=>(av a).cells) wt ok):
  Rd enc P w f t (λ l:List α=>[.sl (l.map av)]) (λ l=>(l.map wt).sum+1) (λ l=>∀a∈l,ok a):=by
 intro cs x h;rcases DataW.trod_slice ht h with⟨rfl,rfl⟩|⟨a,len,cap,elems,rest,n,rfl,rfl,rfl,hb,hl,hc,hn,fw,_,_⟩
 ·exact⟨[],.one rfl λ L=> .lG _ _,by simp[rZ],by simp⟩
 ·replace he:=he n rfl
  have key:∀i,i<len->∃y:α,∃cs d,w.cells? 0 (a.add (i*P.cellsOf e)) (P.cellsOf e)=some cs/\elems[i]? =some d/\RdC w (av y).cells cs/\wt y<=rZ d.1/\ok y:=by
   intro i hi;have h1:=fw i hi;have h2:elems[i]? =some elems[i]:=by simp[hn,hi]
   rw[h2,bind_eq_some_iff]at h1;obtain⟨cs,y6,ht⟩:=h1;obtain⟨y,q1,q2,q3⟩:=he cs _ ht;exact⟨y,cs,_,y6,h2,q1,q2,q3⟩
  obtain⟨l,hll,hp⟩:=aeg key;refine⟨l,.one rfl λ L=> ?_,?_,λ y hy=> ?_⟩
  ·by_cases h0:l= []
   ·subst h0;simp at hll;subst hll;exact .lG _ _
   ·obtain⟨b,off,spot⟩:=a
    have rR:0<len:=by
     rw[←hll];exact List.length_pos_iff.2 h0
    have awC:spot=none:=by
     obtain⟨y,cs,d,y6,_,hr,_⟩:=key 0 rR;obtain⟨_,hlen,lg⟩:=World.cells?_some y6;have h1:=lg 0 hs;have h2:cs[0]? =some cs[0]:=by simp[hlen,hs]
     rw[h2]at h1;simpa [Addr.add]using World.cell?_spot h1
    subst awC
    have cz:∀{i:Nat} {x:AV},(l.map av)[i]? =some x->∃y,l[i]? =some y/\x=av y:=by
     intro i x hx;simp only[getElem?_map,map_eq_some_iff]at hx;obtain⟨y,hy,rfl⟩:=hx;exact⟨y,hy,rfl⟩
    have kk:∀(i:Nat) (y:α),l[i]? =some y->(av y).cells.length=P.cellsOf e/\∀(j:Nat) (c:AV),(av y).cells[j]? =some c->∃z,w.cell? ⟨b,off+i*P.cellsOf e+j,none⟩=some z/\z.oneCell'=true/\∀L,R (adv w) L [] c z:=by
     intro i y hy;obtain⟨cs,d,y6,_,hr,_⟩:=hp i y hy;obtain⟨_,hlen,lg⟩:=World.cells?_some y6;refine⟨by rw[hr.1,hlen],λ j c hc=> ?_⟩;have hj:j<cs.length:=by rw[←hr.1];exact(List.getElem?_eq_some_iff.1 hc).1
     have h1:=lg j (by omega);have h2:cs[j]? =some cs[j]:=by simp[hj]
     rw[h2]at h1;obtain⟨q1,q2⟩:=hr.2 j c _ hc h2;refine⟨_,?_,q1,q2⟩;rw[add_plain,add_plain]at h1;exact h1
    rw[show len=(l.map av).length by simp[hll]];refine .sl (l.map av) b off cap (P.cellsOf e) (λ i j=>(w.cell? ⟨b,off+i*P.cellsOf e+j,none⟩).getD undef) (by simp[hll];exact hl) (by simpa using h0) (λ i x hx=> ?_) (λ i x j c hx hc=> ?_) (λ i x j c hx hc=> ?_)
    ·obtain⟨y,hy,rfl⟩:=cz hx;exact(kk i y hy).1
    ·obtain⟨y,hy,rfl⟩:=cz hx;obtain⟨z,hz,ho,_⟩:=(kk i y hy).2 j c hc;unfold adv;rw[hz];exact⟨rfl,ho⟩
    ·obtain⟨y,hy,rfl⟩:=cz hx;obtain⟨z,hz,ho,hr⟩:=(kk i y hy).2 j c hc;rw[hz];exact hr L
  ·have:(l.map wt).sum<=lD (elems.map (·.1)):=aer (by simp[hll,hn]) λ i a d ha hd=>by
     obtain⟨cs,d',_,hd',_,hw,_⟩:=hp i a ha;simp[hd']at hd;subst hd;exact hw
   simp only[rZ];omega
  ·obtain⟨i,hi⟩:=List.getElem?_of_mem hy;obtain⟨_,_,_,_,_,_,h⟩:=hp i y hi;exact h
theorem yC{w:World}{n:Nat}{cs:List Value}{fs:Array Field}{xs:List (DataW H×List MemPlace)}
  (hf:∀(i:Nat) (f:Field),fs[i]? =some f->DataW.trod enc P w 0 (λ _=>true) true n f.type ((cs.drop f.offset).take (P.cellsOf f.type))=xs[i]?)
  (i:Nat) {f:Field} (h:fs[i]? =some f) {t:TypeId} {o s:Nat} (ht:f.type=t) (ho:f.offset=o) (hs:P.cellsOf t=s):DataW.trod enc P w 0 (λ _=>true) true n t ((cs.drop o).take s)=xs[i]? :=by
 have:=hf i f h;rwa [ht,ho,hs]at this
end
end Go.Ab
namespace Go.Ab
def sp(n:Nat):List AV->List AV×List ae
 | []=>([],[])
 | .v x::r=>(.v x::(sp n r).1,(sp n r).2)
 |a::r=>(.own n::(sp (n+1) r).1,.own a::(sp (n+1) r).2)
def aA2(O:List ae)(c d:AV):Prop:=(c=d/\∃v,d= .v v)∨∃k,c= .own k/\O[k]? =some (.own d)
structure Split(O:List ae)(ys xs:List AV):Prop where
 len:ys.length=xs.length
 cells:∀(i:Nat) y x,ys[i]? =some y->xs[i]? =some x->y.cells.length=x.cells.length
 half:∀(i:Nat) y x (j:Nat) c d,ys[i]? =some y->xs[i]? =some x->y.cells[j]? =some c->x.cells[j]? =some d->aA2 O c d
 inj:∀(i:Nat) y (j:Nat) i' y' j' k,ys[i]? =some y->y.cells[j]? =some (.own k)->ys[i']? =some y'->y'.cells[j']? =some (.own k)->i=i'/\j=j'
section
variable {P:Program} {I:dv} {L:Nat->Loc} {O:List ae} {w:World}
theorem xu(hi:Inv I L O w){k:Nat}{d:AV}(hk:O[k]? =some (.own d)){y:Value}(hr:R I L O (.own k) y):y=(L k).val:=by
 cases hr with
 |dV=>rfl
 |gF _ g h=>rw[hk]at h;cases h
 |eQ _ _ _ h=>exact(h _ hk).elim
open Classical in
theorem Inv.at2(hi:Inv I L O w){k e s:Nat}{ys xs:List AV}(hk:O[k]? =some (.live e s ys))(hs:Split O ys xs):
  ∃S:Nat->Prop,OT w (.sl xs) (.slice (some ⟨(L k).bh,0,none⟩) xs.length (L k).cap) S/\∀b,S b->LB L O b:=by
 obtain⟨c,⟨kR,h1,dE⟩,h2,h3,h4,h5,h6⟩:=hi.obj k e s ys hk;by_cases hx:xs= []
 ·subst hx;exact⟨_,.lG _ _,λ b h=>h.elim⟩
 let bA:Nat->Nat->Value:=λ i j=>(c[i*s+j]?).getD undef
 let nm:Nat->Nat->Option Nat:=λ i j=>match ys[i]? with
  |some y=>match y.cells[j]? with
   |some (.own m)=>some m
   |_=>none
  |none=>none
 let S:Nat->Nat->Nat->Prop:=λ i j b=>∃m,nm i j=some m/\∃o v,(L m).mem b o=some v
 have nm1:∀{i j m:Nat},nm i j=some m->∃y,ys[i]? =some y/\y.cells[j]? =some (.own m):=by
  intro i j m h;simp only[nm]at h;cases hy:ys[i]? with
  |none=>simp[hy]at h
  |some y=>
   simp only[hy]at h;cases hc:y.cells[j]? with
   |none=>simp[hc]at h
   |some a=>
    simp only[hc]at h;cases a<;>simp at h
    subst h;exact⟨y,rfl,hc⟩
 have pair:∀{i:Nat} {x:AV},xs[i]? =some x->∃y,ys[i]? =some y:=by
  intro i x h;have:=(List.getElem?_eq_some_iff.1 h).1;exact⟨ys[i]'(by rw[hs.len];exact this),by simp[hs.len,this]⟩
 have ak6:∀{i:Nat} {x y:AV} {j:Nat} {a:AV},xs[i]? =some x->ys[i]? =some y->x.cells[j]? =some a->∃b,y.cells[j]? =some b:=by
  intro i x y j a h h' ha;have:=(List.getElem?_eq_some_iff.1 ha).1;have hl:=hs.cells i y x h' h;exact⟨y.cells[j]'(by rw[hl];exact this),by simp[hl,this]⟩
 have ak7:∀{i:Nat} {y:AV},ys[i]? =some y->∃x,xs[i]? =some x:=by
  intro i x h;have:=(List.getElem?_eq_some_iff.1 h).1;exact⟨xs[i]'(by rw[←hs.len];exact this),by simp[←hs.len,this]⟩
 have afE:∀{i:Nat} {x y:AV} {j:Nat} {a:AV},xs[i]? =some x->ys[i]? =some y->y.cells[j]? =some a->∃b,x.cells[j]? =some b:=by
  intro i x y j a h h' ha;have:=(List.getElem?_eq_some_iff.1 ha).1;have hl:=hs.cells i y x h' h;exact⟨x.cells[j]'(by rw[←hl];exact this),by simp[←hl,this]⟩
 have half:∀{i:Nat} {x:AV} {j:Nat} {a:AV},xs[i]? =some x->x.cells[j]? =some a->c[i*s+j]? =some (bA i j)/\(bA i j).oneCell'=true/\
   ((nm i j=none/\∃v,a= .v v/\v=bA i j)∨∃m,nm i j=some m/\O[m]? =some (.own a)/\bA i j=(L m).val):=by
  intro i x j a sS ha;obtain⟨y,hy⟩:=pair sS;obtain⟨b,hb⟩:=ak6 sS hy ha;obtain⟨z,hz,ho,hr⟩:=(h6 i y hy).2 j b hb;have hv:bA i j=z:=by simp[bA,hz]
  rw[hv];refine⟨hz,ho,?_⟩;rcases hs.half i y x j b a hy sS hb ha with⟨rfl,v,rfl⟩|⟨m,rfl,hm⟩
  ·refine .inl ⟨by simp only[nm,hy,hb],v,rfl,?_⟩;cases hr;rfl
  ·exact .inr ⟨m,by simp only[nm,hy,hb],hm,xu hi hm hr⟩
 have sep:∀{i j m:Nat} {x a:AV},xs[i]? =some x->x.cells[j]? =some a->nm i j=some m->O[m]? =some (.own a):=by
  intro i j m x a sS ha hm;rcases(half sS ha).2.2 with⟨h,_⟩|⟨m',h,h',_⟩
  ·rw[hm]at h;cases h
  ·rw[hm]at h;cases h;exact h'
 have deep:∀{i j m:Nat},nm i j=some m->∃x a:AV,xs[i]? =some x/\x.cells[j]? =some a/\O[m]? =some (.own a):=by
  intro i j m hm;obtain⟨y,hy,hc⟩:=nm1 hm;obtain⟨x,hx⟩:=ak7 hy;obtain⟨a,ha⟩:=afE hx hy hc;exact⟨x,a,hx,ha,sep hx ha hm⟩
 refine⟨λ b=>b=(L k).bh∨∃i j,S i j b,.sl xs (L k).bh (L k).cap s e c bA S kR h1 dE h2 (by rw[←hs.len];exact h3) h4 h5 hx (λ i x sS=> ?_) (λ i x j a sS ha=>⟨(half sS ha).1,(half sS ha).2.1⟩) (λ i x j a sS ha=> ?_)
  (λ i j b hb=> ?_) (λ i j hb=> ?_) (λ i j i' j' b hb lh=> ?_),?_⟩
 ·obtain⟨y,hy⟩:=pair sS;rw[←hs.cells i y x hy sS];exact(h6 i y hy).1
 ·rcases(half sS ha).2.2 with⟨hn,v,rfl,hv⟩|⟨m,hm,hO,hv⟩
  ·have:S i j=λ _=>False:=by
     funext b;simp only[S,hn];simp
   rw[this,←hv];exact .v v (by have:=(half sS ha).2.1;rw[←hv]at this;exact this)
  ·obtain⟨T,t1,t2⟩:=hi.ow.deep m a hO
   have:S i j=T:=by
    funext b
    simp only[S,hm,Option.some.injEq,exists_eq_left'];exact propext (t2 b).symm
   rw[this,hv];exact t1
 ·obtain⟨m,hm,_⟩:=hb;obtain⟨x,a,h1,h2,_⟩:=deep hm;exact⟨x,a,h1,h2⟩
 ·obtain⟨m,hm,o,v,hv⟩:=hb;obtain⟨x,a,_,_,hO⟩:=deep hm;exact hi.ow.live m a hO _ o v hv k _ _ _ hk rfl
 ·obtain⟨m,hm,o,v,hv⟩:=hb;obtain⟨m',uX,o',v',jO⟩:=lh;obtain⟨x,a,_,_,hO⟩:=deep hm;obtain⟨x',a',_,_,o9⟩:=deep uX;have:=hi.ow.sep m m' a a' hO o9 b o o' v v' hv jO;subst this;obtain⟨y,hy,hc⟩:=nm1 hm;obtain⟨y',lf,fT⟩:=nm1 uX;exact hs.inj i y j i' y' j' m hy hc lf fT
 ·rintro b (rfl|⟨i,j,m,hm,o,v,hv⟩)
  ·exact .inl ⟨k,e,s,ys,hk,rfl⟩
  ·obtain⟨x,a,_,_,hO⟩:=deep hm;exact .inr (.inl ⟨m,a,o,v,hO,hv⟩)
end
end Go.Ab
namespace Go.Ab
inductive Frz(O:List ae):AV->AV->Prop
 |same (a:AV):a.ag=true->Frz O a a
 |own (n:Nat) (b:AV):O[n]? =some (.own b)->Frz O (.own n) b
 |row (n len e s:Nat) (xs:List AV):O[n]? =some (.live e s xs)->xs.length=len->AV.ad xs=true->Frz O (.row n len) (.sl xs)
 |nil (n e s:Nat):O[n]? =some (.nil e s)->Frz O (.row n 0) (.sl [])
 |deep (n len e s:Nat) (ys xs:List AV):O[n]? =some (.live e s ys)->ys.length=len->Split O ys xs->Frz O (.row n len) (.sl xs)
 |agg (as bs:List AV):as.length=bs.length->(∀(i:Nat) a b,as[i]? =some a->bs[i]? =some b->Frz O a b)->Frz O (.agg as) (.agg bs)
section
variable {P:Program} {I J:dv} {L:Nat->Loc} {O:List ae} {w:World}
theorem R.al0(h:∀b o x,I b o=some x->J b o=some x){a:AV}{x:Value}(hr:R I L O a x):R J L O a x:=
 R.mono ⟨h,le_refl _,λ _ _ _ _ xs h=> .inl ⟨xs,h,le_refl _,λ _=>rfl⟩,λ _ _ _ _ h=>h,λ _ _ a h=>⟨⟨a,h⟩,rfl⟩,λ _ _ a h=>⟨⟨a,h,rfl⟩,rfl⟩⟩ hr
open Classical in
noncomputable def xM (I:dv) (L:Nat->Loc) (O:List ae) (w:World):dv:=λ b o=>if LB L O b then w.cell? ⟨b,o,none⟩else I b o
theorem alF(hi:Inv I L O w):∀b o x,I b o=some x->xM I L O w b o=some x:=by
 intro b o x hx;unfold xM
 split
 ·exact hi.j4 b o x hx
 ·exact hx
theorem xL{b o:Nat}{v:Value}(hb:LB L O b)(hv:w.cell? ⟨b,o,none⟩=some v):xM I L O w b o=some v:=by
 unfold xM;rw[if_pos hb];exact hv
theorem Frz.sound(hi:Inv I L O w){a b:AV}(hf:Frz O a b):∀{x:Value},R I L O a x->R (xM I L O w) L [] b x:=by
 have hle:=alF hi
 induction hf with
 |same a hn=>intro x hr;exact hr.ag hle hn
 |own n b hO=>
  intro x hr;rw[xu hi hO hr];exact(hi.ow.tree n b hO L []).al0 λ p o v hv=>xL (.inr (.inl ⟨n,b,o,v,hO,hv⟩)) (hi.ow.cell n b hO p o v hv)
 |row n len e s xs hO hl hn=>
  intro x hr;have:=hr.ep hO hl;subst this;obtain⟨c,⟨kR,h1,dE⟩,h2,h3,h4,h5,h6⟩:=hi.obj n e s xs hO;by_cases hx:xs= []
  ·subst hx;simp at hl;subst hl;exact .lG _ _
  ·subst hl;refine(.sl xs (L n).bh 0 (L n).cap s (λ i j=>(c[i*s+j]?).getD undef) h3 hx (λ i x hx=>(h6 i x hx).1) (λ i x j d hx hj=> ?_) λ i x j d hx hj=> ?_)
   ·obtain⟨y,hy,ho,_⟩:=(h6 i x hx).2 j d hj;refine⟨?_,by rw[hy];exact ho⟩;rw[hy,zero_add];exact xL (.inl ⟨n,e,s,xs,hO,rfl⟩) (by rw[eN h1,hy];rfl)
   ·obtain⟨y,hy,ho,o7⟩:=(h6 i x hx).2 j d hj;rw[hy];exact o7.ag hle (fg (bf hn x (mem_of_getElem? hx)) d (mem_of_getElem? hj))
 |nil n e s hO=>
  intro x hr;obtain⟨rfl,_⟩:=hr.kf hO;exact .lG _ _
 |deep n len e s ys xs hO hl hs=>
  intro x hr;have:=hr.ep hO hl;subst this;obtain⟨S,h1,h2⟩:=hi.at2 hO hs;rw[←hl,hs.len];exact h1.read _ _ _ λ b o v hb hv=>xL (h2 b hb) hv
 |agg as bs hl h ih=>
  intro x hr;cases hr with
  |agg _ vs hv hr=>
   refine .agg bs vs (by omega) λ i c y hc hy=> ?_
   have aF:=(List.getElem?_eq_some_iff.1 hc).1;obtain⟨a,ha⟩:∃a,as[i]? =some a:=⟨as[i]'(by omega),by simp<;>omega⟩;exact ih i a c ha hc (hr i a y ha hy)
end
end Go.Ab
namespace Go.Ab
theorem Good.aku{I0 I I':dv}{L0 L:Nat->Loc}{O0 O O':List ae}{w0 w:World}(h:Good I0 L0 O0 w0 I L O w)(hlen:O.length<=O'.length)
  (hI:∀b o x,I b o=some x->I' b o=some x) (hI2:∀b o x,I' b o=some x->I b o=some x∨(w.cell? ⟨b,o,none⟩=some x/\LV L O b))
  (hO:∀(m:Nat) e s gZ,O'[m]? =some (.live e s gZ)->∃xs,O[m]? =some (.live e s xs)/\xs.length=gZ.length/\aaY I' L O' w (L m) e s gZ/\∀o,I' (L m).bh o=none)
  (vP:∀(m:Nat) e s,m<O.length->O'[m]? =some (.nil e s)->O[m]? =some (.nil e s))
  (zI:∀(m:Nat) a,O'[m]? =some (.own a)->O[m]? =some (.own a))
  (ajd:∀(m:Nat) g,O'[m]? =some (.dc g)->O[m]? =some (.dc g)/\∀a x,R I L O a x->R I' L O' a x):Good I0 L0 O0 w0 I' L O' w:=by
 refine⟨⟨λ b o x hx=> ?_,λ m e s xs hm=> ?_,λ n m e s xs e' s' ys hn hm hb=> ?_,λ m e s xs o hm=> ?_,λ p hp=>hI _ _ _ (h.inv.fix p hp),h.inv.wx hI,h.inv.ow.same (λ m a hm=>⟨zI m a hm,rfl⟩) (λ b o v hv=>by
  rcases hI2 b o v hv with h1|⟨_,h1⟩
  ·exact .inl ⟨o,v,h1⟩
  ·exact .inr (.inl h1)) (λ m e s xs hm=>by
  obtain⟨ys,h1,_⟩:=hO m e s xs hm;exact .inl ⟨m,_,_,_,h1,rfl⟩) rfl,⟨λ n g hn=>(h.inv.gh.ok n g (ajd n g hn).1).mono rfl (ajd n g hn).2 rfl,λ n m g k hn hm hb=>h.inv.gh.sep n m g k (ajd n g hn).1 (ajd m k hm).1 hb⟩⟩,?_,h.pa,?_,λ b o x hx=> ?_⟩
 ·rcases hI2 b o x hx with h1|⟨h1,_⟩
  ·exact h.inv.j4 b o x h1
  ·exact h1
 ·obtain⟨_,_,_,h3,_⟩:=hO m e s xs hm;exact h3
 ·obtain⟨_,h1,_⟩:=hO n e s xs hn;obtain⟨_,h2,_⟩:=hO m e' s' ys hm;exact h.inv.sep n m _ _ _ _ _ _ h1 h2 hb
 ·obtain⟨_,_,_,_,h4⟩:=hO m e s xs hm;exact h4 o
 ·refine⟨λ b o x hx=>hI _ _ _ (h.ext.j4 _ _ _ hx),Nat.le_trans h.ext.len hlen,λ n hn e s xs hx=> ?_,λ n hn e s hx=>h.ext.nil n hn e s (vP n e s (Nat.lt_of_lt_of_le hn h.ext.len) hx),λ n hn a hx=>h.ext.own n hn a (zI n a hx),λ n hn a hx=>h.ext.dc n hn a (ajd n a hx).1⟩;obtain⟨ys,h1,h2,_⟩:=hO n e s xs hx;rcases h.ext.obj n hn e s ys h1 with⟨zs,z1,z2,z3⟩|⟨z1,z2⟩
  ·exact .inl ⟨zs,z1,by omega,λ he=>z3 (by omega)⟩
  ·exact .inr ⟨z1,λ h0=>z2 (List.eq_nil_of_length_eq_zero (by simp[h2,h0]))⟩
 ·rintro b (⟨n,e,s,xs,hn,hb⟩|⟨n,a,o,v,hn,hb⟩|⟨n,a,hn,hb⟩)
  ·obtain⟨ys,h1,_⟩:=hO n e s xs hn;exact h.lb b (.inl ⟨n,e,s,ys,h1,hb⟩)
  ·exact h.lb b (.inr (.inl ⟨n,a,o,v,zI n a hn,hb⟩))
  ·exact h.lb b (.inr (.inr ⟨n,a,(ajd n a hn).1,hb⟩))
 ·rcases hI2 b o x hx with h1|⟨_,h1⟩
  ·exact h.iz b o x h1
  ·rcases h.lb b (.inl h1)with h2|h2
   ·exact .inr (.inl h2)
   ·exact .inr (.inr h2)
theorem WK.xB{n0:Nat}{e e':Env}{O:List ae}(t s:Nat){O':List ae}(o9:O'.length=O.length+1)(dL:O'[O.length]? =some (.nil t s))
  (mf:∀m,m<O.length->O'[m]? =O[m]? ∨∃ee k ys ux,O[m]? =some (.live ee k ys)/\O'[m]? =some (.live ee k ux)/\ux.length=ys.length/\∀(i:Nat) y y',ys[i]? =some y->ux[i]? =some y'->y'.cells.length=y.cells.length/\
   ∀(j:Nat) c c',y.cells[j]? =some c->y'.cells[j]? =some c'->c'=c∨(c= .aw/\c'= .row O.length 0))
  (he:∀t,e' t=e t∨(e t= .aw/\e' t= .row O.length 0)):WK n0 e O e' O':=by
 intro I0 L0 O0 w0 I L w f h0 hg hr
 have du:Ext I L O I L O':=by
  refine⟨λ _ _ _ h=>h,by omega,λ n hn ee k xs hx=> ?_,λ n hn ee k hx=> ?_,λ n hn a hx=> ?_,λ n hn a hx=> ?_⟩;rotate_left 2
  ·rcases mf n hn with h|⟨e1,k1,ys,ux,h1,h2,h3,_⟩
   ·rw[h]at hx;exact⟨⟨a,hx⟩,rfl⟩
   ·rw[h2]at hx;cases hx
  ·rcases mf n hn with h|⟨e1,k1,ys,ux,h1,h2,h3,_⟩
   ·rw[h]at hx;exact⟨⟨a,hx,rfl⟩,rfl⟩
   ·rw[h2]at hx;cases hx
  ·rcases mf n hn with h|⟨e1,k1,ys,ux,h1,h2,h3,_⟩
   ·exact .inl ⟨xs,by rw[←h];exact hx,le_refl _,λ _=>rfl⟩
   ·rw[h2]at hx;cases hx;exact .inl ⟨ys,h1,by omega,λ _=>rfl⟩
  ·rcases mf n hn with h|⟨e1,k1,ys,ux,h1,h2,h3,_⟩
   ·rwa [h]at hx
   ·rw[h2]at hx;cases hx
 have aqZ:∀{x:Value},R I L O .aw x->R I L O' (.row O.length 0) x:=by
  intro x hx;cases hx;exact .fY _ t s dL
 refine⟨I,L,hg.aku (by omega) (λ _ _ _ h=>h) (λ _ _ _ h=> .inl h) (λ m ee k xs hm=> ?_) (λ m ee k hm hx=>du.nil m hm ee k hx) (λ m a hm=> ?_) (λ m a hm=> ?_),λ t=> ?_⟩;rotate_left;rotate_left
 ·refine⟨?_,λ _ _ h=>h.mono du⟩;by_cases o8:m<O.length
  ·rcases mf m o8 with h|⟨e1,k1,ys,ux,h1,h2,_⟩
   ·rwa [h]at hm
   ·rw[h2]at hm;cases hm
  ·have hl:=(List.getElem?_eq_some_iff.1 hm).1;rw[show m=O.length by omega,dL]at hm;cases hm
 rotate_right
 ·by_cases o8:m<O.length
  ·rcases mf m o8 with h|⟨e1,k1,ys,ux,h1,h2,_⟩
   ·rwa [h]at hm
   ·rw[h2]at hm;cases hm
  ·have hl:=(List.getElem?_eq_some_iff.1 hm).1;rw[show m=O.length by omega,dL]at hm;cases hm
 rotate_left
 ·have aF:m<O.length:=by
    have:=(List.getElem?_eq_some_iff.1 hm).1;rcases Nat.lt_or_ge m O.length with h|h
    ·exact h
    ·have:m=O.length:=by omega
     subst this;rw[dL]at hm;cases hm
  rcases mf m aF with h|⟨e1,k1,ys,ux,h1,h2,h3,h4⟩
  ·rw[h]at hm;exact⟨xs,hm,rfl,(hg.inv.obj m _ _ _ hm).congr rfl λ _ _ h=>h.mono du,λ o=>hg.inv.dS m _ _ _ o hm⟩
  ·rw[h2]at hm;cases hm;refine⟨ys,h1,h3.symm,?_,λ o=>hg.inv.dS m _ _ _ o h1⟩;obtain⟨c,⟨kR,q1,dE⟩,q2,q3,q4,q5,q6⟩:=hg.inv.obj m _ _ _ h1;refine⟨c,⟨kR,q1,dE⟩,q2,by omega,q4,q5,λ i y' lf=> ?_⟩;have hy:ys[i]? =some (ys[i]'(by have:=(List.getElem?_eq_some_iff.1 lf).1;omega)):=by simp
   obtain⟨p1,p2⟩:=h4 i _ _ hy lf;obtain⟨r1,r2⟩:=q6 i _ hy;refine⟨by rw[p1,r1],λ j a ha=> ?_⟩;have hc:=List.getElem?_eq_getElem (l:=(ys[i]'(by have:=(List.getElem?_eq_some_iff.1 lf).1;omega)).cells) (i:=j) (by have:=(List.getElem?_eq_some_iff.1 ha).1;omega);obtain⟨v,hv,ho,hrv⟩:=r2 j _ hc;refine⟨v,hv,ho,?_⟩;rcases p2 j _ _ hc ha with h|⟨h,h'⟩
   ·rw[h];exact hrv.mono du
   ·rw[h'];rw[h]at hrv;exact aqZ hrv
 ·rcases he t with h|⟨h,h'⟩
  ·rw[h];exact(hr t).mono du
  ·rw[h'];have:=hr t;rw[h]at this;exact aqZ this
inductive Fr(n:Nat)(xs:List AV):AV->AV->Prop
 |refl (a:AV):Fr n xs a a
 |row:Fr n xs (.row n xs.length) (.sl xs)
 |agg (cs ds:List AV):cs.length=ds.length->(∀(i:Nat) c d,cs[i]? =some c->ds[i]? =some d->Fr n xs c d)->Fr n xs (.agg cs) (.agg ds)
 |ptr (a:AV) (f:Nat):xs= [a]->Fr n xs (.ptr n 1 0 f) (.ct a f)
theorem Fr.width{n:Nat}{xs:List AV}{a b:AV}(h:Fr n xs a b):b.cells.length=a.cells.length:=by
 cases h with
 |refl=>rfl
 |row=>rfl
 |agg cs ds h _=>simp[AV.cells,h]
 |ptr=>rfl
open Classical in
noncomputable def frI (I:dv) (L:Nat->Loc) (O:List ae) (w:World) (n:Nat):dv:=λ b o=>
 if(∃e s xs,O[n]? =some (.live e s xs))/\(L n).bh=b then w.cell? ⟨b,o,none⟩else I b o
theorem Fr.sound{I:dv}{L:Nat->Loc}{O O':List ae}{w:World}(hi:Inv I L O w){n t s:Nat}{xs:List AV}(hO:O[n]? =some (.live t s xs)∨(O[n]? =some (.nil t s)/\xs= []))(hn:AV.ad xs=true)
  (du:Ext I L O (frI I L O w n) L O') {a b:AV} (h:Fr n xs a b):∀{x:Value},R I L O a x->R (frI I L O w n) L O' b x:=by
 induction h with
 |refl a=>intro x hr;exact hr.mono du
 |row=>
  intro x hr;rcases hO with hO|⟨hO,rfl⟩
  ·have:=hr.ep hO rfl;subst this;obtain⟨c,⟨kR,h1,dE⟩,h2,h3,h4,h5,h6⟩:=hi.obj n t s xs hO;by_cases hx:xs= []
   ·subst hx;exact .lG _ _
   ·refine(.sl xs (L n).bh 0 (L n).cap s (λ i j=>(c[i*s+j]?).getD undef) h3 hx (λ i x hx=>(h6 i x hx).1) (λ i x j d hx hj=> ?_) λ i x j d hx hj=> ?_)
    ·obtain⟨y,hy,ho,_⟩:=(h6 i x hx).2 j d hj;unfold frI;rw[if_pos ⟨⟨t,s,xs,hO⟩,rfl⟩,zero_add,eN h1,hy];exact⟨rfl,ho⟩
    ·obtain⟨y,hy,ho,o7⟩:=(h6 i x hx).2 j d hj;rw[hy];exact o7.ag du.j4 (fg (bf hn x (mem_of_getElem? hx)) d (mem_of_getElem? hj))
  ·obtain⟨rfl,_⟩:=hr.kf hO;exact .lG _ _
 |agg cs ds h _ ih=>
  intro x hr;cases hr with
  |agg _ vs hl hr=>
   refine .agg _ _ (by omega) λ i d v hd hv=> ?_
   have hc:cs[i]? =some (cs[i]'(by have:=(List.getElem?_eq_some_iff.1 hd).1;omega)):=by simp
   exact ih i _ _ hc hd (hr i _ v hc hv)
 |ptr a f ha=>
  subst ha;intro x hr;rcases hO with hO|⟨_,h⟩
  ·have:=hr.gQ hO rfl;subst this;obtain⟨c,⟨kR,h1,dE⟩,h2,h3,h4,h5,h6⟩:=hi.obj n t s _ hO;obtain⟨q1,q2⟩:=h6 0 a rfl;simp only[zero_mul];refine .ct a f (L n).bh 0 (λ j=>(c[j]?).getD undef) (λ j d hj=> ?_) λ j d hj=> ?_
   ·obtain⟨y,hy,ho,_⟩:=q2 j d hj;rw[zero_mul,zero_add]at hy;unfold frI;rw[if_pos ⟨⟨t,s,_,hO⟩,rfl⟩,zero_add,eN h1,hy];exact⟨rfl,ho⟩
   ·obtain⟨y,hy,ho,o7⟩:=q2 j d hj;rw[zero_mul,zero_add]at hy;rw[hy];exact o7.ag du.j4 (fg (bf hn a (by simp)) d (mem_of_getElem? hj))
  ·cases h
theorem atK{I:dv}{L:Nat->Loc}{O:List ae}{w:World}(hi:Inv I L O w)(n:Nat):∀b o x,I b o=some x->frI I L O w n b o=some x:=by
 intro b o x hx;unfold frI
 split
 ·exact hi.j4 b o x hx
 ·exact hx
theorem WK.iF{n0:Nat}{e e':Env}{O O':List ae}{n t s:Nat}{xs:List AV}(hO:O[n]? =some (.live t s xs)∨(O[n]? =some (.nil t s)/\xs= []))(hn:AV.ad xs=true)(hlen:O'.length=O.length)(hd:O'[n]? =some .dead)
  (mf:∀m,m≠n->O'[m]? =O[m]? ∨∃ee k ys ux,O[m]? =some (.live ee k ys)/\O'[m]? =some (.live ee k ux)/\ux.length=ys.length/\∀(i:Nat) y y',ys[i]? =some y->ux[i]? =some y'->y'.cells.length=y.cells.length/\
   ∀(j:Nat) c c',y.cells[j]? =some c->y'.cells[j]? =some c'->Fr n xs c c')
  (he:∀t,Fr n xs (e t) (e' t)):WK n0 e O e' O':=by
 intro I0 L0 O0 w0 I L w f h0 hg hr;have hle:=atK hg.inv n
 have adV:∀{m ee k ux},O'[m]? =some (.live ee k ux)->m≠n/\∃ys,O[m]? =some (.live ee k ys)/\ys.length=ux.length:=by
  intro m ee k ux hm;have oo:m≠n:=by rintro rfl;rw[hd]at hm;cases hm
  refine⟨oo,?_⟩;rcases mf m oo with h|⟨e1,k1,ys,zs,h1,h2,h3,_⟩
  ·exact⟨ux,by rw[←h];exact hm,rfl⟩
  ·rw[h2]at hm;cases hm;exact⟨ys,h1,h3.symm⟩
 have vP:∀(m ee k:Nat),O'[m]? =some (ae.nil ee k)->O[m]? =some (ae.nil ee k):=by
  intro m ee k hm;have oo:m≠n:=by rintro rfl;rw[hd]at hm;cases hm
  rcases mf m oo with h|⟨e1,k1,ys,zs,h1,h2,h3,_⟩
  ·rwa [h]at hm
  ·rw[h2]at hm;cases hm
 have awM:∀(m:Nat) (a:AV),O'[m]? =some (ae.own a)->O[m]? =some (ae.own a):=by
  intro m a hm;have oo:m≠n:=by rintro rfl;rw[hd]at hm;cases hm
  rcases mf m oo with h|⟨e1,k1,ys,zs,h1,h2,_⟩
  ·rwa [h]at hm
  ·rw[h2]at hm;cases hm
 have aq3:∀(m:Nat) (a:gr),O'[m]? =some (ae.dc a)->O[m]? =some (ae.dc a):=by
  intro m a hm;have oo:m≠n:=by rintro rfl;rw[hd]at hm;cases hm
  rcases mf m oo with h|⟨e1,k1,ys,zs,h1,h2,_⟩
  ·rwa [h]at hm
  ·rw[h2]at hm;cases hm
 have du:Ext I L O (frI I L O w n) L O':=by
  refine⟨hle,by omega,λ m hm ee k zs hz=> ?_,λ m _ ee k h=>vP m ee k h,λ m _ a h=>⟨⟨a,awM m a h⟩,rfl⟩,λ m _ a h=>⟨⟨a,aq3 m a h,rfl⟩,rfl⟩⟩;obtain⟨_,ys,h1,h2⟩:=adV hz;exact .inl ⟨ys,h1,by omega,λ _=>rfl⟩
 have hs:∀{a b:AV} {x:Value},Fr n xs a b->R I L O a x->R (frI I L O w n) L O' b x:=λ h hr=>h.sound hg.inv hO hn du hr
 refine⟨frI I L O w n,L,hg.aku (by omega) hle (λ b o x hx=> ?_) (λ m ee k zs hm=> ?_) (λ m ee k _ hm=>vP m ee k hm) (λ m a hm=>by
  have oo:m≠n:=by rintro rfl;rw[hd]at hm;cases hm
  rcases mf m oo with h|⟨e1,k1,ys,zs,h1,h2,_⟩
  ·rwa [h]at hm
  ·rw[h2]at hm;cases hm) (λ m a hm=>⟨aq3 m a hm,λ _ _ h=>h.mono du⟩),λ t=>hs (he t) (hr t)⟩
 ·unfold frI at hx
  split at hx
  ·rename_i h;obtain⟨⟨e1,s1,x1,h1⟩,h2⟩:=h;exact .inr ⟨hx,⟨n,e1,s1,x1,h1,h2⟩⟩
  ·exact .inl hx
 ·obtain⟨oo,ys,h1,h2⟩:=adV hm;refine⟨ys,h1,h2,?_,λ o=> ?_⟩
  ·obtain⟨c,⟨kR,q1,dE⟩,q2,q3,q4,q5,q6⟩:=hg.inv.obj m _ _ _ h1;refine⟨c,⟨kR,q1,dE⟩,q2,by omega,q4,q5,λ i y' lf=> ?_⟩;have hy:ys[i]? =some (ys[i]'(by have:=(List.getElem?_eq_some_iff.1 lf).1;omega)):=by simp
   obtain⟨r1,r2⟩:=q6 i _ hy;rcases mf m oo with h|⟨e1,k1,us,us',g1,g2,g3,g4⟩
   ·rw[h,h1]at hm;cases hm;have hyy:=lf;rw[hy]at hyy;have hyy:=Option.some.inj hyy;rw[←hyy];refine⟨r1,λ j a ha=> ?_⟩;obtain⟨v,hv,ho,hrv⟩:=r2 j _ ha;exact⟨v,hv,ho,hrv.mono du⟩
   ·rw[g2]at hm;cases hm;rw[h1]at g1;cases g1;obtain⟨p1,p2⟩:=g4 i _ _ hy lf;refine⟨by rw[p1,r1],λ j a ha=> ?_⟩;have hc:=List.getElem?_eq_getElem (l:=(ys[i]'(by have:=(List.getElem?_eq_some_iff.1 lf).1;omega)).cells) (i:=j) (by have:=(List.getElem?_eq_some_iff.1 ha).1;omega);obtain⟨v,hv,ho,hrv⟩:=r2 j _ hc;exact⟨v,hv,ho,hs (p2 j _ _ hc ha) hrv⟩
  ·cases hx:frI I L O w n (L m).bh o with
   |none=>rfl
   |some x=>
    unfold frI at hx
    split at hx
    ·rename_i h;obtain⟨⟨e1,s1,x1,g1⟩,g2⟩:=h;exact(oo (hg.inv.sep n m _ _ _ _ _ _ g1 h1 g2).symm).elim
    ·rw[hg.inv.dS m _ _ _ o h1]at hx;cases hx
theorem WK.env{n0:Nat}{e e':Env}{O:List ae}(h:∀t,e' t= .top∨e' t=e t):WK n0 e O e' O:=by
 intro I0 L0 O0 w0 I L w f h0 hg hr;refine⟨I,L,hg,λ t=> ?_⟩;rcases h t with h|h
 ·rw[h];exact .top _
 ·rw[h];exact hr t
end Go.Ab
namespace Go.Ab
def aY:AV->List AV
 | .sl xs=>xs
 |_=>[]
def idxOf:AV->Nat
 | .v (.int _ k)=>k.toNat
 |_=>0
def akv(a:AV)(j:Nat):AV:=
 match a with
 | .ba vs=>vs.getD j .top
 |_=> .top
mutual
def D.ev(r:List AV):D->AV
 | .x i=>r.getD i .top
 | .c a=>a
 | .cell i j=>(r.getD i .top).cells.getD j .top
 | .ext i j=>akv (r.getD i .top) j
 | .sl l=> .sl (aY (l.ev r))
 | .agg l=> .agg (D.a9 r l)
 | .fn f l=> .fn f (D.a9 r l)
 | .ip d f=> .ct (d.ev r) f
def D.a9(r:List AV):List D->List AV
 | []=>[]
 |d::l=>d.ev r::D.a9 r l
end
mutual
def D.cl(n:Nat):D->Bool
 | .x i=>decide (i<n)
 | .c a=>a.ag
 | .cell i _=>decide (i<n)
 | .ext i _=>decide (i<n)
 | .sl l=>l.cl n
 | .agg l=>D.cls n l
 | .fn _ l=>D.cls n l
 | .ip d _=>d.cl n
def D.cls(n:Nat):List D->Bool
 | []=>true
 |d::l=>d.cl n&&D.cls n l
end
def AV.ceq:AV->AV->Bool
 | .v (.int k a),.v (.int k' b)=>decide (k=k')&&decide (a=b)
 | .v (.bool a),.v (.bool b)=>decide (a=b)
 | .v (.string a),.v (.string b)=>decide (a=b)
 | .aw,.aw=>true
 | .sl [],.sl []=>true
 | .ba [],.ba []=>true
 | .fn f [],.fn g []=>decide (f=g)
 |_,_=>false
mutual
def D.beq:D->D->Bool
 | .x i,.x j=>decide (i=j)
 | .c a,.c b=>a.ceq b
 | .cell i j,.cell k l=>decide (i=k)&&decide (j=l)
 | .ext i j,.ext k l=>decide (i=k)&&decide (j=l)
 | .sl a,.sl b=>a.beq b
 | .agg a,.agg b=>D.kW a b
 | .fn f a,.fn g b=>decide (f=g)&&D.kW a b
 | .ip a f,.ip b g=>a.beq b&&decide (f=g)
 |_,_=>false
def D.kW:List D->List D->Bool
 | [],[]=>true
 |a::as,b::bs=>a.beq b&&D.kW as bs
 |_,_=>false
end
def lH:List AV->AV
 | [c]=>c
 |cs=> .agg cs
mutual
def SV.ev(r:List AV):SV->AV
 | .d x=>x.ev r
 | .row n l=> .row n (aY (l.ev r)).length
 | .ptr n f=> .ptr n 1 0 f
 | .rp n l i f=> .ptr n (aY (l.ev r)).length (idxOf (i.ev r)) f
 | .ip x f=> .ct (x.ev r) f
 | .agg cs=> .agg (SV.a9 r cs)
 | .ba cs=> .ba (SV.a9 r cs)
 | .top=> .top
def SV.a9(r:List AV):List SV->List AV
 | []=>[]
 |v::l=>v.ev r::SV.a9 r l
end
def SO.ev(r:List AV):SO->ae
 | .dead=> .dead
 | .box e cs=> .live e cs.length [lH (SV.a9 r cs)]
 | .row true e s l=>if aY (l.ev r)= []then .nil e s else .live e s (aY (l.ev r))
 | .row false e s l=> .live e s (aY (l.ev r))
mutual
def SV.cl(n:Nat):SV->Bool
 | .d x=>x.cl n
 | .row _ l=>l.cl n
 | .ptr _ _=>true
 | .rp _ l i _=>l.cl n&&i.cl n
 | .ip x _=>x.cl n
 | .agg cs=>SV.cls n cs
 | .ba cs=>SV.cls n cs
 | .top=>true
def SV.cls(n:Nat):List SV->Bool
 | []=>true
 |v::l=>v.cl n&&SV.cls n l
end
def SO.cl(n:Nat):SO->Bool
 | .dead=>true
 | .box _ cs=>SV.cls n cs
 | .row _ _ _ l=>l.cl n
mutual
def SV.beq:SV->SV->Bool
 | .d x,.d y=>x.beq y
 | .row n l,.row m k=>decide (n=m)&&l.beq k
 | .ptr n f,.ptr m g=>decide (n=m)&&decide (f=g)
 | .rp n l i f,.rp m k j g=>decide (n=m)&&l.beq k&&i.beq j&&decide (f=g)
 | .ip x f,.ip y g=>x.beq y&&decide (f=g)
 | .agg a,.agg b=>SV.kW a b
 | .ba a,.ba b=>SV.kW a b
 | .top,.top=>true
 |_,_=>false
def SV.kW:List SV->List SV->Bool
 | [],[]=>true
 |a::as,b::bs=>a.beq b&&SV.kW as bs
 |_,_=>false
end
def SO.beq:SO->SO->Bool
 | .dead,.dead=>true
 | .box e cs,.box e' cs'=>decide (e=e')&&SV.kW cs cs'
 | .row n e s l,.row n' e' s' l'=>decide (n=n')&&decide (e=e')&&decide (s=s')&&l.beq l'
 |_,_=>false
mutual
def SV.sc(k:Nat):SV->Bool
 | .d _=>true
 | .row n _=>decide (n<k)
 | .ptr n _=>decide (n<k)
 | .rp n _ _ _=>decide (n<k)
 | .ip _ _=>true
 | .agg cs=>SV.scs k cs
 | .ba cs=>SV.scs k cs
 | .top=>true
def SV.scs(k:Nat):List SV->Bool
 | []=>true
 |v::l=>v.sc k&&SV.scs k l
end
def SO.sc(k:Nat):SO->Bool
 | .dead=>true
 | .box _ cs=>SV.scs k cs
 | .row _ _ _ _=>true
def lk:List (Nat×SV)->Nat->SV
 | [],_=> .top
 |(k,v)::l,t=>if t=k then v else lk l t
structure SS where
 env:List (Nat×SV)
 ai:List SO
 nv:Nat
 kn:List (Nat×Nat)
instance:Inhabited SS:=⟨⟨[],[],0,[]⟩⟩
def SS.cl(s:SS):Bool:=s.env.all (λ p=>p.2.cl s.nv)&&s.ai.all (λ o=>o.cl s.nv)
def b7(s:SS)(r:List AV):Env:=λ t=>(lk s.env t).ev r
def bI(s:SS)(r:List AV):List ae:=s.ai.map (SO.ev r)
def SS.set(s:SS)(t:Nat)(v:SV):SS:={s with env:=(t,v)::s.env.filter (λ p=>p.1 !=t)}
def SS.bT(s:SS)(d:Option Nat)(v:SV):SS:=
 match d with
 |some t=>s.set t v
 |none=>s
def un:SV:= .d (.c (.ba []))
inductive PO where
 |val (x:D)
 |pick (c a b:D)
 |bin (op:BinOp) (a b:D)
 |beq (neg:Bool) (a b:D)
 |un (op:UnOp) (a:D)
 |conv (k:IntKind) (a:D)
 |elem (s:Nat) (l i:D)
 |yC (off:Nat) (n:Option Nat) (a:D)
 |uM (f m:Nat) (a:D)
 |kU (a i:D)
 |fC (a:D) (lo hi:Option D)
 |db (s:Nat) (a:D) (lo hi:Option D)
 |kC (a:D)
 |bM (a:D)
 |kB (z:AV) (n:Nat) (parts:List (Nat×D))
 |rep (bytes:Nat) (z:AV) (n c:D)
 |app (s bytes:Nat) (l y:D)
 |get (l i:D) (f:Nat) (n:Option Nat)
 |set (l i:D) (f m:Nat) (y:D)
 |call (f:FuncId) (args:List D) (flat:Bool)
 |eu (g:D) (args:List D) (flat:Bool)
 |ldp (n:Option Nat) (a:D)
 |fap (off:Nat) (a:D)
 |pu (o:PU) (ds:List D)
 |j7 (s bytes:Nat) (l y:D)
 |eV (nl:Bool) (e s:Nat) (f:FuncId) (args:List D)
 |bp (f:FuncId) (g:gK) (args:List D)
inductive nf where
 |cells (a:D) (m:Nat)
 |one (a:D)
 |lt (a:D) (j:Nat)
 |ba (a:D) (j:Nat)
 |idx (l i:D)
 |alY (a:D)
 |ne (l:D)
 |no
 |eql (a b:D)
inductive Node where
 |op (o:PO)
 |aJ (c:nf)
inductive T where
 |leaf (x:AX) (s:SS)
 |ret (ds:List D)
 |jump (vs:List D)
 |dM (t:T)
 |op (o:PO) (t:T)
 |aJ (c:nf) (t:T)
 |ite (c:D) (t f:T)
 |bind (k:Nat) (a b:T)
 |loop (init:List D) (b:T)
instance:Inhabited T:=⟨.jump []⟩
def D.evo(r:List AV):Option D->Option AV
 |none=>none
 |some d=>some (d.ev r)
def aaS(P:Program)(f:FuncId)(args:List AV)(flat:Bool)(K:AV->Prop):Prop:=
 ∃res,a7 P f args res/\res.ag=true/\(flat=true->res.flat=true)/\K res
def pT(P:Program)(g:AV)(args:List AV)(flat:Bool)(K:AV->Prop):Prop:=
 match g with
 | .fn f a6=>aaS P f (args++a6) flat K
 |_=>False
def cK(nl:Bool)(e s:Nat)(xs:List AV):ae:=if nl=true/\xs= []then .nil e s else .live e s xs
def tf(P:Program)(f:FuncId)(args:List AV)(nl:Bool)(e s:Nat)(xs:List AV):Prop:=hD P f args [] (.row 0 xs.length) [cK nl e s xs]
def agv(P:Program)(nl:Bool)(e s:Nat)(f:FuncId)(args:List AV)(K:AV->Prop):Prop:=
 ∃xs,tf P f args nl e s xs/\AV.ad xs=true/\K (.sl xs)
def gA(P:Program)(f:FuncId)(g:gK)(ins outs:List AV):Prop:=hD P f (SV.a9 ins g.args) (g.ai.map (SO.ev ins)) (g.res.ev outs) (g.cG.map (SO.ev outs))
def kP(P:Program)(f:FuncId)(g:gK)(args:List AV)(K:AV->Prop):Prop:=
 ∃outs,gA P f g args outs/\outs.length=g.m/\AV.ad outs=true/\K (.ba outs)
def agM(s bytes:Nat)(xs:List AV)(y:AV)(K:AV->Prop):Prop:=
 kx [] y λ ys=>(∀y∈ys,y.cells.length=s)/\(xs.length+ys.length)*bytes<=140737488355328/\xs.length+ys.length<=maxLen/\K (.sl (xs++ys))
def atE(xs:List AV)(i:Nat)(f:Nat)(n:Option Nat)(K:AV->Prop):Prop:=i<xs.length/\f+n.getD 1<=(xs.getD i .top).cells.length/\K (dG n (xs.getD i .top) f)
def aoq(xs:List AV)(i:Nat)(f m:Nat)(y:AV)(K:AV->Prop):Prop:=
 i<xs.length/\y.cells.length=m/\y.storable=true/\f+m<=(xs.getD i .top).cells.length/\K (.sl (xs.set i (qC (xs.getD i .top) f y)))
def kK(s:Nat)(a i:AV)(K:AV->Prop):Prop:=
 match a,i with
 | .sl xs,.v (.int _ i)=>0<=i/\i<xs.length/\(xs.getD i.toNat .top).cells.length=s/\K (xs.getD i.toNat .top)
 |_,_=>False
def adb(bytes:Nat)(z a b:AV)(K:AV->Prop):Prop:=
 match a,b with
 | .v (.int .i64 n),.v (.int .i64 c)=>0<=n/\n<=c/\bytes*c<=281474976710656/\c<=9223372036854775807/\K (.sl (List.replicate n.toNat z))
 |_,_=>False
def eX(z:List AV):List (Nat×AV)->List AV
 | []=>z
 |(i,y)::r=>eX (z.set i y) r
def asG(f m:Nat)(a:AV)(K:AV->Prop):Prop:=f+m<=a.cells.length/\K (dG (some m) a f)
def aiX(n:Option Nat)(a:AV)(K:AV->Prop):Prop:=
 match a with
 | .ct y f=>f+n.getD 1<=y.cells.length/\K (dG n y f)
 |_=>False
def ajr(off:Nat)(a:AV)(K:AV->Prop):Prop:=
 match a with
 | .ct y f=>K (.ct y (f+off))
 |_=>False
def yS(s bytes:Nat)(xs:List AV)(y:AV)(K:AV->Prop):Prop:=
 match y with
 | .v (.string b)=>s=1/\(xs.length+b.size)*bytes<=140737488355328/\xs.length+b.size<=maxLen/\K (.sl (xs++dt b))
 |_=>False
def aeL(neg:Bool)(a b:AV)(K:AV->Prop):Prop:=
 match a,b with
 | .v (.bool a),.v (.bool b)=>K (.v (.bool (neg !=(a==b))))
 |_,_=>False
def PO.wp(P:Program)(r:List AV)(o:PO)(K:AV->Prop):Prop:=
 match o with
 | .val x=>K (x.ev r)
 | .pick c a b=>oQ (c.ev r) (a.ev r) (b.ev r) [] λ x _=>K x
 | .bin op a b=>eS op (a.ev r) (b.ev r) [] λ x _=>K x
 | .beq neg a b=>aeL neg (a.ev r) (b.ev r) K
 | .un op a=>unK op (a.ev r) [] λ x _=>K x
 | .conv k a=>vb k (a.ev r) [] λ x _=>K x
 | .elem s l i=>kK s (l.ev r) (i.ev r) K
 | .yC off n a=>ajp off n (a.ev r) [] λ x _=>K x
 | .uM f m a=>asG f m (a.ev r) K
 | .kU a i=>uV (a.ev r) (i.ev r) [] λ x _=>K x
 | .fC a lo hi=>lq (a.ev r) (D.evo r lo) (D.evo r hi) [] λ x _=>K x
 | .db s a lo hi=>lu s (a.ev r) (D.evo r lo) (D.evo r hi) [] λ x _=>K x
 | .kC a=>uN (a.ev r) [] λ x _=>K x
 | .bM a=>lV (a.ev r) [] λ x _=>K x
 | .kB z n parts=>K (.sl (eX (List.replicate n z) (parts.map λ p=>(p.1,p.2.ev r))))
 | .rep bytes z n c=>adb bytes z (n.ev r) (c.ev r) K
 | .app s bytes l y=>agM s bytes (aY (l.ev r)) (y.ev r) K
 | .get l i f n=>atE (aY (l.ev r)) (idxOf (i.ev r)) f n K
 | .set l i f m y=>aoq (aY (l.ev r)) (idxOf (i.ev r)) f m (y.ev r) K
 | .call f args flat=>aaS P f (D.a9 r args) flat K
 | .eu g args flat=>pT P (g.ev r) (D.a9 r args) flat K
 | .ldp n a=>aiX n (a.ev r) K
 | .fap off a=>ajr off (a.ev r) K
 | .pu o ds=>puK o (D.a9 r ds) K
 | .j7 s bytes l y=>yS s bytes (aY (l.ev r)) (y.ev r) K
 | .eV nl e s f args=>agv P nl e s f (D.a9 r args) K
 | .bp f g args=>kP P f g (D.a9 r args) K
def agh(xs:List AV)(i:AV)(K:Prop):Prop:=
 match i with
 | .v (.int _ i)=>0<=i/\i<xs.length/\K
 |_=>False
def ah4(a:AV)(j:Nat)(K:Prop):Prop:=
 match a with
 | .ba vs=>j<vs.length/\K
 |_=>False
def xV(a:AV)(K:Prop):Prop:=
 match a with
 | .fn _ _=>K
 | .ct _ _=>K
 |_=>False
def nf.wp(r:List AV)(c:nf)(K:Prop):Prop:=
 match c with
 | .cells a m=>(a.ev r).isAgg=true/\(a.ev r).cells.length=m/\(a.ev r).storable=true/\K
 | .one a=>(a.ev r).cells.length=1/\(a.ev r).cg=true/\K
 | .lt a j=>j<(a.ev r).cells.length/\K
 | .ba a j=>ah4 (a.ev r) j K
 | .idx l i=>agh (aY (l.ev r)) (i.ev r) K
 | .alY a=>xV (a.ev r) K
 | .ne l=>aY (l.ev r)≠[]/\K
 | .no=>False
 | .eql a b=>(aY (a.ev r)).length=(aY (b.ev r)).length/\K
def bF(P:Program)(L:AX->SS->List AV->Prop)(R:AV->Prop):T->List AV->List (List AV->Prop)->Prop
 | .leaf x s,r,_=>L x s r
 | .ret ds,r,_=>R (bz (D.a9 r ds))
 | .jump vs,r,S=>match S with
   |J::_=>J (D.a9 r vs)
   | []=>False
 | .dM t,r,S=>match S with
   |_::S=>bF P L R t r S
   | []=>False
 | .op o t,r,S=>o.wp P r λ v=>bF P L R t (r++ [v]) S
 | .aJ c t,r,S=>c.wp r (bF P L R t r S)
 | .ite c t f,r,S=>match c.ev r with
   | .v (.bool b)=>(b=true->bF P L R t r S)/\(b=false->bF P L R f r S)
   |_=>False
 | .bind k a b,r,S=>bF P L R a r ((λ vs=>vs.length=k->bF P L R b (r++vs) S)::S)
 | .loop init b,r,S=>∃(J:Nat->List AV->Prop) (n:Nat),J n (D.a9 r init)/\∀n vs,J n vs->vs.length=init.length->bF P L R b (r++vs) ((λ ng=>∃m,m<n/\J m ng)::S)
def ap2:Nat->T->T
 |0,t=>t
 |n+1,t=> .dM (ap2 n t)
def T.fill(k:AX->SS->Option T):T->Nat->Option T
 | .leaf x s,d=>(k x s).map (ap2 d)
 | .ret d,_=>some (.ret d)
 | .jump vs,d=>if d=0 then none else some (.jump vs)
 | .dM t,d=>match d with
   |0=>none
   |d+1=>(t.fill k d).map .dM
 | .op o t,d=>(t.fill k d).map (.op o)
 | .aJ c t,d=>(t.fill k d).map (.aJ c)
 | .ite c t f,d=>match t.fill k d,f.fill k d with
   |some t,some f=>some (.ite c t f)
   |_,_=>none
 | .bind m a b,d=>match a.fill k (d+1),b.fill k d with
   |some a,some b=>some (.bind m a b)
   |_,_=>none
 | .loop init b,d=>(b.fill k (d+1)).map (.loop init)
def T.leaves:T->List (AX×SS)
 | .leaf x s=>[(x,s)]
 | .ret _=>[]
 | .jump _=>[]
 | .dM t=>t.leaves
 | .op _ t=>t.leaves
 | .aJ _ t=>t.leaves
 | .ite _ t f=>t.leaves++f.leaves
 | .bind _ a b=>a.leaves++b.leaves
 | .loop _ b=>b.leaves
def T.aas:T->Bool
 | .leaf _ _=>false
 | .ret _=>false
 | .jump _=>false
 | .dM t=>t.aas
 | .op _ t=>t.aas
 | .aJ _ t=>t.aas
 | .ite _ t f=>t.aas||f.aas
 | .bind _ _ _=>true
 | .loop _ _=>true
def wrap:List Node->T->T
 | [],t=>t
 | .op o::r,t=> .op o (wrap r t)
 | .aJ c::r,t=> .aJ c (wrap r t)
end Go.Ab
namespace Go.Ab
def cU(s:SS):aI->SV
 | .t n=>lk s.env n
 | .c a=> .d (.c a)
def agA:List SV->Option (List D)
 | []=>some []
 | .d x::l=>match agA l with
   |some ds=>some (x::ds)
   |none=>none
 |_::_=>none
def am2(kn:List (Nat×Nat))(ds:List D):Option Nat:=
 match ds with
 | .cell i 0::_::_=>if kn.contains (i,ds.length)=true/\D.kW ds ((List.range ds.length).map λ j=> .cell i j)=true then some i else none
 |_=>none
def asD(kn:List (Nat×Nat)):SV->Option (List Node×D)
 | .d x=>some ([],x)
 | .agg cs=>match agA cs with
   |some ds=>match am2 kn ds with
    |some i=>some ([.aJ (.cells (.x i) ds.length)],.x i)
    |none=>some ([],.agg ds)
   |none=>none
 | .ip x f=>some ([],.ip x f)
 |_=>none
def cur(s:SS)(n:Nat)(l:D):Option (Bool×Nat×Nat):=
 match s.ai[n]? with
 |some (.row nl e sz l')=>if l'.beq l=true then some (nl,e,sz)else none
 |_=>none
def mn(s:SS)(n:Nat):Option (Nat×List SV):=
 match s.ai[n]? with
 |some (.box e cs)=>some (e,cs)
 |_=>none
def iy:Nat->List Node->Nat
 |nv,[]=>nv
 |nv,.op _::r=>iy (nv+1) r
 |nv,.aJ _::r=>iy nv r
def nx(s:SS)(ns:List Node)(o:PO):List Node×SV×SS:=(ns++ [.op o],.d (.x (iy s.nv ns)),{s with nv:=iy s.nv ns+1})
def done(s:SS)(ns:List Node)(v:SV):List Node×SV×SS:=(ns,v,{s with nv:=iy s.nv ns})
def nR(m:Nat)(x:D):Node:=if m=1 then .aJ (.one x)else .aJ (.cells x m)
def kj:List SV->List Node
 | []=>[]
 | .d x::l=> .aJ (.one x)::kj l
 |_::l=>kj l
def mW:List SV->Bool
 | []=>true
 | .top::_=>false
 | .agg _::_=>false
 | .ba _::_=>false
 |_::l=>mW l
def expand(nv m:Nat)(v:SV):Option (List Node×List SV):=
 if m=1 then
  match v with
  | .d x=>some ([.aJ (.one x)],[.d x])
  | .agg _=>none
  | .ba _=>none
  | .top=>none
  |v=>some ([],[v])
 else
  match v with
  | .agg cs=>if cs.length=m/\mW cs=true then some (kj cs,cs)else none
  | .d (.x i)=>some ([.aJ (.cells (.x i) m)],(List.range m).map λ j=> .d (.cell i j))
  | .d (.agg l)=>if l.length=m then some ([.aJ (.cells (.agg l) m)],l.map .d)else none
  | .d (.c (.agg l))=>if l.length=m then some ([.aJ (.cells (.c (.agg l)) m)],l.map λ a=> .d (.c a))else none
  | .d x=>some ([.op (.val x),.aJ (.cells (.x nv) m)],(List.range m).map λ j=> .d (.cell nv j))
  |_=>none
def ae9(s:SS)(t n:Nat)(z:AV):Option (List Node×SV×SS):=
 if n=1/\z.isAgg=false then some ([],.ptr s.ai.length 0,{s with ai:=s.ai++ [.box t [.d (.c z)]]})
 else match z with
  | .agg cs=>if n≠1/\cs.length=n then some ([],.ptr s.ai.length 0,{s with ai:=s.ai++ [.box t (cs.map λ a=> .d (.c a))]})else none
  |_=>none
def ary(s:SS)(t n:Nat)(v:SV):Option (List Node×SV×SS):=
 match expand s.nv n v with
 |some (ns,cs)=>if cs.length=n then some (ns,.ptr s.ai.length 0,{s with ai:=s.ai++ [.box t cs],nv:=iy s.nv ns})else none
 |none=>none
def wB(s:SS):List Node->List SV->List (Nat×Nat×aI)->Option (List Node×List SV)
 |ns,cs,[]=>some (ns,cs)
 |ns,cs,(off,size,x)::r=>match expand (iy s.nv ns) size (cU s x)with
  |some (ms,vs)=>if vs.length=size/\off+size<=cs.length then wB s (ns++ms) (cs.take off++vs++cs.drop (off+size)) r else none
  |none=>none
def norm(s:SS)(ns:List Node)(cs:List SV):List Node×SV×SS:=
 match asD s.kn (.agg cs)with
 |some (ms,x)=>done s (ns++ms) (.d x)
 |none=>done s ns (.agg cs)
def ae7(s:SS)(z:List AV)(ps:List (Nat×Nat×aI)):Option (List Node×SV×SS):=
 match wB s [] (z.map λ a=> .d (.c a)) ps with
 |some (ns,cs)=>some (norm s ns cs)
 |none=>none
def pg(s:SS)(m len:Nat):List (Nat×aI)->Option (List Node×List (Nat×D))
 | []=>some ([],[])
 |(i,x)::r=>match asD s.kn (cU s x),pg s m len r with
  |some (ns,d),some (ms,ps)=>if i<len then some (ns++nR m d::ms,(i,d)::ps)else none
  |_,_=>none
def newRow(s:SS)(t m:Nat)(q:List Node×SV×SS):Option (List Node×SV×SS):=
 match q with
 |(ns,.d l,s')=>some (ns,.row s.ai.length l,{s' with ai:=s'.ai++ [.row false t m l]})
 |_=>none
def sA(s:SS)(nl:Bool)(t m:Nat)(q:List Node×SV×SS):Option (List Node×SV×SS):=
 match q with
 |(ns,.d l,s')=>some (ns,.row s.ai.length l,{s' with ai:=s'.ai++ [.row nl t m l]})
 |_=>none
def ph(s:SS)(t m len:Nat)(z:AV)(ps:List (Nat×aI)):Option (List Node×SV×SS):=
 match pg s m len ps with
 |some (ns,ps)=>newRow s t m (nx s ns (.kB z len ps))
 |none=>none
def whole(kn:List (Nat×Nat))(y:D)(m:Nat):Bool:=
 match y with
 | .x i=>kn.contains (i,m)
 | .agg l=>decide (l.length=m)
 |_=>false
def akh(s:SS)(n:Option Nat)(v:SV):Option (List Node×SV×SS):=
 match v with
 | .ptr k f=>match mn s k with
   |some (_,cs)=>match n with
    |none=>match cs[f]? with
     |some v=>if cs.length=1 then(if mW [v]=true then some (kj [v],v,s)else none)else some ([],v,s)
     |none=>none
    |some m=>if cs.length≠1/\f+m<=cs.length then some (norm s [] ((cs.drop f).take m))else none
   |none=>none
 | .ip y f=>match n with
   |none=>match y with
    | .x i=>some ([.aJ (.lt y f)],.d (.cell i f),s)
    | .agg l=>match l[f]? with
      |some d=>some ([],.d d,s)
      |none=>none
    |_=>some (.op (.val y):: [.aJ (.lt (.x s.nv) f)],.d (.cell s.nv f),{s with nv:=s.nv+1})
   |some m=>if f=0/\whole s.kn y m=true then some ([.aJ (.cells y m)],.d y,s)else some (nx s [] (.uM f m y))
 | .rp k l i f=>match cur s k l with
   |some _=>some (nx s [] (.get l i f n))
   |none=>none
 | .d y=>some (nx s [] (.ldp n y))
 |_=>none
def SV.rew(n:Nat)(l l':D):SV->SV
 | .row m k=>if m=n/\k.beq l=true then .row m l' else .row m k
 | .rp m k i f=>if m=n/\k.beq l=true then .rp m l' i f else .rp m k i f
 |v=>v
def ae4(s:SS)(m:Nat)(p y:SV):Option (List Node×SV×SS):=
 match p with
 | .ptr k f=>match mn s k,expand s.nv m y with
   |some (e,cs),some (ns,vs)=>
    if vs.length=m/\f+m<=cs.length/\(m=1∨cs.length≠1)/\(cs.length=1->mW cs=true)then
     some ((if cs.length=1 then kj cs else [])++ns,.top,{s with ai:=s.ai.set k (.box e (cs.take f++vs++cs.drop (f+m))),nv:=iy s.nv ns})else none
   |_,_=>none
 | .rp k l i f=>match cur s k l,asD s.kn y with
   |some (nl,e,sz),some (ns,d)=>
    let l':D:= .x (iy s.nv (ns++ [nR m d]))
    some (ns++ [nR m d]++ [.op (.set l i f m d)],.top,{s with env:=s.env.map (λ p=>(p.1,p.2.rew k l l')),ai:=s.ai.set k (.row nl e sz l'),nv:=iy s.nv (ns++ [nR m d])+1})
   |_,_=>none
 |_=>none
def ae6(s:SS)(off:Nat)(v:SV):Option (List Node×SV×SS):=
 match v with
 | .ptr k f=>match mn s k with
   |some _=>some ([],.ptr k (f+off),s)
   |none=>none
 | .rp k l i f=>match cur s k l with
   |some (false,_)=>some ([],.rp k l i (f+off),s)
   |some (true,_)=>some ([.aJ (.idx l i)],.rp k l i (f+off),s)
   |none=>none
 | .ip y f=>some ([],.ip y (f+off),s)
 | .d y=>some (nx s [] (.fap off y))
 |_=>none
def arw(s:SS)(off:Nat)(n:Option Nat)(v:SV):Option (List Node×SV×SS):=
 match v with
 | .agg cs=>match n with
   |none=>match cs[off]? with
    |some v=>some ([],v,s)
    |none=>none
   |some m=>if off+m<=cs.length then some (norm s [] ((cs.drop off).take m))else none
 | .d (.agg l)=>match n with
   |none=>match l[off]? with
    |some d=>some ([],.d d,s)
    |none=>none
   |some _=>some (nx s [] (.yC off n (.agg l)))
 | .d x=>some (nx s [] (.yC off n x))
 |_=>none
def ae5(s:SS)(m:Nat)(v i:SV):Option (List Node×SV×SS):=
 match v,i with
 | .d l,.d i=>some (.op (.elem m l i):: [],.ip (.x s.nv) 0,{s with nv:=s.nv+1})
 | .row k l,.d i=>match cur s k l with
   |some (_,_,sz)=>if sz=m then some ([.aJ (.idx l i)],.rp k l i 0,s)else none
   |none=>none
 |_,_=>none
def y9(s:SS):Option aI->Option (Option D)
 |none=>some none
 |some x=>match cU s x with
  | .d d=>some (some d)
  |_=>none
def gI(s:SS):List aI->Option (List Node×List D×Bool)
 | []=>some ([],[],false)
 |x::r=>match gI s r with
  |some (ns,ds,b)=>match cU s x with
   | .row k l=>match cur s k l with
     |some _=>some (ns,.sl l::ds,true)
     |none=>none
   |v=>match asD s.kn v with
    |some (ms,d)=>some (ms++ns,d::ds,b)
    |none=>none
  |none=>none
def kept(s:SS)(k t m:Nat):Bool:=
 match s.ai[k]? with
 |some (.row true t' m' (.c (.sl [])))=>decide (t'=t)&&decide (m'=m)
 |_=>false
def wE(s:SS)(k t n:Nat)(z:AV):Option (List Node×SV×SS):=
 if kept s k t n=true then
  if n=1/\z.isAgg=false then some ([],.ptr k 0,{s with ai:=s.ai.set k (.box t [.d (.c z)])})
  else match z with
   | .agg cs=>if n≠1/\cs.length=n then some ([],.ptr k 0,{s with ai:=s.ai.set k (.box t (cs.map λ a=> .d (.c a)))})else none
   |_=>none
 else none
def ae8(s:SS)(k t n:Nat)(v:SV):Option (List Node×SV×SS):=
 if kept s k t n=true then
  match expand s.nv n v with
  |some (ns,cs)=>if cs.length=n then some (ns,.ptr k 0,{s with ai:=s.ai.set k (.box t cs),nv:=iy s.nv ns})else none
  |none=>none
 else none
def wD(s:SS)(k t m len:Nat)(z:AV)(ps:List (Nat×aI)):Option (List Node×SV×SS):=
 if kept s k t m=true then
  match pg s m len ps with
  |some (ns,ps)=>some (ns++ [.op (.kB z len ps),.aJ (.ne (.x s.nv))],.row k (.x s.nv),{s with ai:=s.ai.set k (.row false t m (.x s.nv)),nv:=s.nv+1})
  |none=>none
 else none
def SV.pat(n k:Nat):SV->Bool
 | .d (.x i)=>decide (i<n)
 | .d (.c a)=>a.ag
 | .row m (.x i)=>decide (i<n)&&decide (m<k)
 | .ptr m _=>decide (m<k)
 |_=>false
def SO.pat(n k:Nat):SO->Bool
 | .dead=>true
 | .box _ cs=>cs.all (SV.pat n k)
 | .row _ _ _ (.x i)=>decide (i<n)
 |_=>false
def SV.kD(τ:List D)(σ:Nat->Nat):SV->SV
 | .d (.x i)=> .d (τ.getD i (.c .top))
 | .row m (.x i)=> .row (σ m) (τ.getD i (.c .top))
 | .ptr m f=> .ptr (σ m) f
 |v=>v
def SO.kD(τ:List D)(σ:Nat->Nat):SO->SO
 | .dead=> .dead
 | .box e cs=> .box e (cs.map (SV.kD τ σ))
 | .row nl e s (.x i)=> .row nl e s (τ.getD i (.c .top))
 |o=>o
def SV.zu(n k:Nat):SV->Bool
 | .ba cs=>cs.all (SV.pat n k)
 | .agg cs=>cs.all (SV.pat n k)
 |v=>v.pat n k
def SV.af9(τ:List D)(σ:Nat->Nat):SV->SV
 | .ba cs=> .ba (cs.map (SV.kD τ σ))
 | .agg cs=> .agg (cs.map (SV.kD τ σ))
 |v=>v.kD τ σ
def gK.ok(g:gK):Bool:=
 g.args.all (SV.pat g.n g.ai.length)&&g.ai.all (SO.pat g.n g.ai.length)&&g.cG.all (SO.pat g.m g.cG.length)&&g.res.zu g.m g.cG.length&&decide (g.ai.length<=g.cG.length)
abbrev Mt:=List (Nat×D)×List (Nat×Nat)
def afB:SV->Option D
 | .d x=>some x
 | .agg cs=>(agA cs).map .agg
 | .ip x f=>some (.ip x f)
 |_=>none
def alw(kn:List (Nat×Nat))(p v:SV)(q:Mt):Mt:=
 match p,v with
 | .d (.x i),v=>match asD kn v with
   |some (_,d)=>((i,d)::q.1,q.2)
   |none=>q
 | .row m (.x i),.row k l=>((i,l)::q.1,(m,k)::q.2)
 | .ptr m _,.ptr k _=>(q.1,(m,k)::q.2)
 |_,_=>q
def sC(kn:List (Nat×Nat)):List SV->List SV->Mt->Mt
 |p::ps,v::vs,q=>sC kn ps vs (alw kn p v q)
 |_,_,q=>q
def aun(l:List (Nat×Nat))(n:Nat):Option Nat:=(l.find? λ p=>p.1==n).map (·.2)
def ax9(l:List (Nat×D))(n:Nat):Option D:=(l.find? λ p=>p.1==n).map (·.2)
def asB(s:SS)(q:Mt)(n:Nat)(p:SO):Mt:=
 match aun q.2 n with
 |none=>q
 |some k=>match p,s.ai[k]? with
  | .box _ cs,some (.box _ ds)=>sC s.kn cs ds q
  | .row _ _ _ (.x i),some (.row _ _ _ l)=>((i,l)::q.1,q.2)
  |_,_=>q
def sD(s:SS):Nat->List SO->Mt->Mt
 |_,[],q=>q
 |n,p::ps,q=>sD s (n+1) ps (asB s q n p)
def fc(ai:List SO)(dr:List Nat):Nat->Nat:=λ n=>if n<dr.length then dr.getD n 0 else ai.length+(n- dr.length)
def axA(kn:List (Nat×Nat))(τ:List D)(σ:Nat->Nat)(p v:SV):Option (List Node):=
 match p with
 | .d (.x i)=>match asD kn v with
   |some (ns,d)=>if(τ.getD i (.c .top)).beq d=true then some ns else none
   |none=>none
 |p=>if(p.kD τ σ).beq v=true then some []else none
def aaI(kn:List (Nat×Nat))(τ:List D)(σ:Nat->Nat):List SV->List SV->Option (List Node)
 | [],[]=>some []
 |p::ps,v::vs=>match axA kn τ σ p v,aaI kn τ σ ps vs with
  |some a,some b=>some (a++b)
  |_,_=>none
 |_,_=>none
def ad3(s:SS)(τ:List D)(σ:Nat->Nat):Nat->List SO->Bool
 |_,[]=>true
 |n,p::ps=>(match s.ai[σ n]? with
  |some o=>(p.kD τ σ).beq o
  |none=>false)&&ad3 s τ σ (n+1) ps
def posOf(j:Nat):List Nat->Nat->Option Nat
 | [],_=>none
 |x::l,i=>if x=j then some i else posOf j l (i+1)
def tI:List Nat->Bool
 | []=>true
 |x::l=> !l.contains x&&tI l
def pb(nv m:Nat):List D:=(List.range m).map λ j=> .ext nv j
def fA(ai:List SO)(dr:List Nat)(ps:List SO):List SO:=
 ((List.range ai.length).map λ j=>match posOf j dr 0 with
   |some n=>ps.getD n .dead
   |none=>ai.getD j .dead)++ps.drop dr.length
def sJ(g:gK)(τ:List D)(σ:Nat->Nat)(nv:Nat):List (Nat×D×D):=g.aL.filterMap λ (n:Nat)=>match g.ai[n]?,g.cG[n]? with
 |some (SO.row _ _ _ (D.x i)),some (SO.row _ _ _ (D.x j))=>some (σ n,τ.getD i (.c .top),.ext nv j)
 |_,_=>none
def aby(l:List (Nat×D×D))(v:SV):SV:=l.foldl (λ v q=>v.rew q.1 q.2.1 q.2.2) v
def alx(s:SS)(g:gK)(as:List SV):Option (List D×List Nat):=
 let q:=sD s 0 g.ai (sD s 0 g.ai (sC s.kn g.args as ([],[])))
 match(List.range g.n).mapM (ax9 q.1),(List.range g.ai.length).mapM (aun q.2)with
 |some τ,some dr=>some (τ,dr)
 |_,_=>none
def wZ(s:SS)(f:FuncId)(as:List SV)(g:gK):Option (List Node×SV×SS):=
 match alx s g as with
 |some (τ,dr)=>
  let σ:=fc s.ai dr
  match aaI s.kn τ σ g.args as with
  |some ns=>
   if g.ok=true/\dr.length=g.ai.length/\tI dr=true/\dr.all (·<s.ai.length)=true/\τ.length=g.n/\ad3 s τ σ 0 g.ai=true/\iy s.nv ns=s.nv then
    let e:=pb s.nv g.m
    let ks:=sJ g τ σ s.nv
    some (ns++ .op (.bp f g τ)::ks.map (λ q=> .aJ (.eql q.2.1 q.2.2)),g.res.af9 e σ,
     {s with env:=s.env.map (λ p=>(p.1,aby ks p.2)),ai:=fA s.ai dr (g.cG.map (SO.kD e σ)),nv:=s.nv+1})
   else none
  |none=>none
 |none=>none
def SV.isR:SV->Bool
 | .row _ _=>true
 | .ptr _ _=>true
 |_=>false
def gK.one(g:gK):Bool:=decide (g.ai.length=1)&&decide (g.cG.length=1)&&g.ai.all (SO.pat g.n 0)&&g.cG.all (SO.pat g.m 0)&&g.res.zu g.m 0&&decide ((g.args.filter SV.isR).length=1)
def pA(s:SS)(f:FuncId)(as:List SV):List gK->Option (List Node×SV×SS)
 | []=>none
 |g::gs=>match wZ s f as g with
  |some q=>some q
  |none=>pA s f as gs
def zP(s:SS):Option aI->Bool
 |none=>true
 |some x=>match cU s x with
  | .d (.c (.v (.int _ n)))=>decide (n=0)
  |_=>false
def arx(s:SS)(m:Nat)(v:SV)(lo hi:Option aI):Option (List Node×SV×SS):=
 match v with
 | .d (.c .aw)=>if zP s lo=true/\zP s hi=true then some ([],.d (.c .aw),s)else none
 | .row k l=>match cur s k l with
   |some (nl,e,sz)=>if sz=m/\zP s lo=true/\hi.isSome=true/\zP s hi=true then
    some (if nl=true then [.aJ (.ne l)]else [],.row s.ai.length (.c (.sl [])),{s with ai:=s.ai.set k .dead++ [.row false e m (.c (.sl []))]})else none
   |none=>none
 |_=>none
def xOp(op:ew)(s:SS):Option (List Node×SV×SS):=
 match op with
 | .acy t m bytes z a b=>match cU s a,cU s b with
   | .d (.c .aw),.d y=>some ([.op (.rep bytes z y y),.aJ (.ne (.x s.nv))],.row s.ai.length (.x s.nv),{s with ai:=s.ai++ [.row false t m (.x s.nv)],nv:=s.nv+1})
   |_,_=>none
 | .cut m a lo hi=>arx s m (cU s a) lo hi
 | .stuck=>some ([.aJ .no],.d (.c .top),s)
 | .iB _ m len z ps=>match pg s m len ps with
   |some (ns,ps)=>some (nx s ns (.kB z len ps))
   |none=>none
 | .pu o args=>match o,args with
   | .jc,[a]=>match cU s a with
     | .d (.c .aw)=>some ([],.d (.c (.v (.int .i64 0))),s)
     |_=>none
   |o,args=>match gI s args with
    |some (ns,ds,_)=>some (nx s ns (.pu o ds))
    |none=>none
 | .j7 t m bytes a b=>match cU s a,cU s b with
   | .row k l,.d y=>match cur s k l with
     |some (nl,e,sz)=>if e=t/\sz=m then some ([.op (.j7 m bytes l y)],.row k (.x s.nv),{s with ai:=s.ai.set k (.row nl e sz (.x s.nv)),nv:=s.nv+1})else none
     |none=>none
   | .d (.c .aw),.d y=>some ([.op (.j7 m bytes (.c (.sl [])) y),.aJ (.ne (.x s.nv))],.row s.ai.length (.x s.nv),{s with ai:=s.ai++ [.row false t m (.x s.nv)],nv:=s.nv+1})
   |_,_=>none
 | .bc a=>some ([],cU s a,s)
 | .pick c a b=>match cU s c with
   | .d (.c (.v (.bool t)))=>some ([],if t then cU s a else cU s b,s)
   | .d c=>match asD s.kn (cU s a),asD s.kn (cU s b)with
     |some (na,a),some (nb,b)=>some (nx s (na++nb) (.pick c a b))
     |_,_=>none
   |_=>none
 | .alloc t n z=>ae9 s t n z
 | .box t n a=>ary s t n (cU s a)
 | .build z ps=>ae7 s z ps
 | .gq k t n z=>wE s k t n z
 | .mo k t n a=>ae8 s k t n (cU s a)
 | .gn k t m len z ps=>wD s k t m len z ps
 | .buildSlice t m len z ps=>ph s t m len z ps
 | .load n a=>akh s n (cU s a)
 | .store m a b=>ae4 s m (cU s a) (cU s b)
 | .bin o a b=>match cU s a,cU s b with
   | .d a,.d b=>some (nx s [] (.bin o a b))
   |_,_=>none
 | .beq neg a b=>match cU s a,cU s b with
   | .d a,.d b=>some (nx s [] (.beq neg a b))
   |_,_=>none
 | .un o a=>match cU s a with
   | .d a=>some (nx s [] (.un o a))
   |_=>none
 | .jK k a=>match cU s a with
   | .d a=>some (nx s [] (.conv k a))
   |_=>none
 | .bX off a=>ae6 s off (cU s a)
 | .yC off n a=>arw s off n (cU s a)
 | .fS m a i=>ae5 s m (cU s a) (cU s i)
 | .kU a i=>match cU s a,cU s i with
   | .d a,.d i=>some (nx s [] (.kU a i))
   |_,_=>none
 | .fC a lo hi=>match cU s a,y9 s lo,y9 s hi with
   | .d a,some lo,some hi=>some (nx s [] (.fC a lo hi))
   |_,_,_=>none
 | .db m a lo hi=>match cU s a,y9 s lo,y9 s hi with
   | .d a,some lo,some hi=>some (nx s [] (.db m a lo hi))
   |_,_,_=>none
 | .mk t m bytes z n c=>match cU s n,cU s c with
   | .d n,.d c=>newRow s t m (nx s [] (.rep bytes z n c))
   |_,_=>none
 | .kC a=>match cU s a with
   | .d a=>some (nx s [] (.kC a))
   |_=>none
 | .bM a=>match cU s a with
   | .d (.c .aw)=>some ([],.d (.c (.v (.int .i64 0))),s)
   | .d a=>some (nx s [] (.bM a))
   | .row k l=>match cur s k l with
     |some _=>some (nx s [] (.bM (.sl l)))
     |none=>none
   |_=>none
 | .app t m bytes a b=>match cU s a with
   | .row k l=>match cur s k l with
     |some (nl,e,sz)=>if e=t/\sz=m then
       match(match cU s b with
        | .d y=>some y
        | .row k' l'=>if(cur s k' l').isSome=true then some (.sl l')else none
        |_=>none)with
       |some y=>some ([.op (.app m bytes l y)],.row k (.x s.nv),{s with ai:=s.ai.set k (.row nl e sz (.x s.nv)),nv:=s.nv+1})
       |none=>none
      else none
     |none=>none
   | .d (.c .aw)=>
     match(match cU s b with
      | .d y=>some y
      | .row k' l'=>if(cur s k' l').isSome=true then some (.sl l')else none
      |_=>none)with
     |some y=>some ([.op (.app m bytes (.c (.sl [])) y),.aJ (.ne (.x s.nv))],.row s.ai.length (.x s.nv),{s with ai:=s.ai++ [.row false t m (.x s.nv)],nv:=s.nv+1})
     |none=>none
   |_=>none
 | .ext a i=>match cU s a with
   | .ba cs=>match cs[i]? with
     |some v=>some ([],v,s)
     |none=>none
   | .d (.x j)=>some ([.aJ (.ba (.x j) i)],.d (.ext j i),s)
   |_=>none
 | .ef a=>match cU s a with
   | .ptr k f=>match mn s k with
     |some _=>some ([],.ptr k f,s)
     |none=>none
   | .ip y f=>some ([],.ip y f,s)
   | .d (.fn f l)=>some ([],.d (.fn f l),s)
   | .d x=>some ([.aJ (.alY x)],.d x,s)
   |_=>none
 | .rK f a6=>match gI s a6 with
   |some (ns,ds,false)=>some (done s ns (.d (.fn f ds)))
   |_=>none
 | .mG f args=>match gI s args with
   |some (ns,ds,b)=>some (nx s ns (.call f ds b))
   |none=>none
 | .jD g args=>match cU s g,gI s args with
   | .d (.c (.fn f [])),some (ns,ds,b)=>some (nx s ns (.call f ds b))
   | .d (.fn f a6),some (ns,ds,b)=>some (nx s ns (.call f (ds++a6) b))
   | .d g,some (ns,ds,b)=>some (nx s ns (.eu g ds b))
   |_,_=>none
 | .lT f args=>match gI s args with
   |some (ns,ds,_)=>some (nx s ns (.call f ds true))
   |none=>none
 | .eV nl e m f args=>match gI s args with
   |some (ns,ds,false)=>sA s nl e m (nx s ns (.eV nl e m f ds))
   |_=>none
 | .k7 f args=>match gI s args with
   |some (ns,ds,false)=>some (nx s ns (.call f ds false))
   |_=>none
 | .jC gs f args=>pA s f (args.map (cU s)) (gs.filter gK.one)
 | .bp gs f args=>match pA s f (args.map (cU s)) gs with
   |some q=>some q
   |none=>match gI s args with
    |some (ns,ds,false)=>some (nx s ns (.call f ds false))
    |_=>none
 | .iv g args=>match cU s g,gI s args with
   | .d (.c (.fn f [])),some (ns,ds,false)=>some (nx s ns (.call f ds false))
   | .d (.fn f a6),some (ns,ds,false)=>some (nx s ns (.call f (ds++a6) false))
   | .d g,some (ns,ds,false)=>some (nx s ns (.eu g ds false))
   |_,_=>none
 |_=>none
def og(s:SS)(t m k:Nat):SS:=
 {s with env:=s.env.map (λ p=>(p.1,if p.1=k then .row s.ai.length (.c (.sl []))else p.2)),ai:=s.ai++ [.row true t m (.c (.sl []))]}
def SV.iF(n:Nat)(l:D):SV->SV
 | .row m k=>if m=n/\k.beq l=true then .d (.sl l)else .row m k
 |v=>v
def SV.atF(n:Nat)(l:D):SV->SV
 | .agg cs=> .agg (cs.map (SV.iF n l))
 |v=>v.iF n l
def SO.iF(n:Nat)(l:D):SO->SO
 | .box e cs=> .box e (cs.map (SV.iF n l))
 |o=>o
def ach(s:SS)(n:Nat):SS:=
 match s.ai[n]? with
 |some (.row _ _ _ l)=>if l.cl s.nv=true then{s with env:=s.env.map (λ p=>(p.1,p.2.atF n l)),ai:=(s.ai.map (SO.iF n l)).set n .dead}else s
 |_=>s
def SV.fbx(n:Nat)(a:D):SV->SV
 | .ptr m f=>if m=n then .ip a f else .ptr m f
 |v=>v
def SV.fbc(n:Nat)(a:D):SV->SV
 | .ptr m f=>if m=n then .d (.ip a f)else .ptr m f
 |v=>v
def SO.fbx(n:Nat)(a:D):SO->SO
 | .box e cs=> .box e (cs.map (SV.fbc n a))
 |o=>o
def mkD:List D->D
 | [d]=>d
 |ds=> .agg ds
def yz(s:SS)(n:Nat):SS:=
 match s.ai[n]? with
 |some (.box _ cs)=>match agA cs with
  |some ds=>if D.cls s.nv ds=true then{s with env:=s.env.map (λ p=>(p.1,p.2.fbx n (mkD ds))),ai:=(s.ai.map (SO.fbx n (mkD ds))).set n .dead}else s
  |none=>s
 |_=>s
def SV.rows:SV->List Nat
 | .row n _=>[n]
 | .agg cs=>cs.flatMap λ| .row n _=>[n]|_=>[]
 |_=>[]
def oU(s:SS)(v:SV):SS:=v.rows.foldl ach s
def uc(s:SS)(l:List aI):SS:=l.foldl (λ s x=>oU s (cU s x)) s
def ags(s:SS)(x:aI):SS:=
 match cU s x with
 | .ptr n _=>match mn s n with
   |some (_,cs)=>yz (cs.foldl oU s) n
   |none=>s
 |v=>oU s v
def sZ:Nat->SS->Nat->SS
 |0,s,_=>s
 |k+1,s,n=>match mn s n with
  |some (_,cs)=>yz (cs.foldl (λ s v=>match v with
   | .ptr m _=>sZ k s m
   |v=>oU s v) s) n
  |none=>s
def yy(s:SS)(x:aI):SS:=
 match cU s x with
 | .ptr n _=>sZ 3 s n
 |_=>s
def sY(s:SS)(l:List aI):SS:=l.foldl yy s
def ahG(s:SS)(l:List aI):SS:=l.foldl (λ s x=>match cU s x with
 | .agg cs=>oU s (.agg cs)
 |_=>s) s
def atI(s:SS)(l:List (SV×aI)):SS:=l.foldl (λ s p=>match p.1 with
 | .d _=>yy (oU s (cU s p.2)) p.2
 |_=>s) s
def ar3(fl:List Nat)(op:ew)(s:SS):SS:=
 match op with
 | .app t m _ (.t k) _=>match lk s.env k with
   | .d (.c .aw)=>og s t m k
   |_=>s
 | .j7 t m _ (.t k) _=>match lk s.env k with
   | .d (.c .aw)=>og s t m k
   |_=>s
 | .db _ a _ _=>oU s (cU s a)
 | .buildSlice _ _ _ _ ps=>uc s (ps.map (·.2))
 | .store _ a b=>match cU s a with
   | .rp _ _ _ _=>oU s (cU s b)
   |_=>s
 | .rK _ a6=>a6.foldl ags s
 | .mG f args=>if fl.contains f=true then sY (ahG s args) args else sY (uc s args) args
 | .jD _ args=>sY (uc s args) args
 | .eV _ _ _ _ args=>sY (uc s args) args
 | .pick _ a b=>uc s [a,b]
 | .bp gs f args=>if(pA s f (args.map (cU s)) gs).isSome=true then s else match gs with
   |g::_=>atI s (g.args.zip args)
   | []=>s
 |_=>s
def amR(s:SS)(l:List SV):SS:=l.foldl (λ s v=>match v with
 | .ptr m _=>sZ 3 s m
 |v=>oU s v) s
def PO.cl(nv:Nat)(o:PO):Bool:=
 match o with
 | .val x=>x.cl nv
 | .pick c a b=>c.cl nv&&a.cl nv&&b.cl nv
 | .bin _ a b=>a.cl nv&&b.cl nv
 | .beq _ a b=>a.cl nv&&b.cl nv
 | .un _ a=>a.cl nv
 | .conv _ a=>a.cl nv
 | .elem _ l i=>l.cl nv&&i.cl nv
 | .yC _ _ a=>a.cl nv
 | .uM _ _ a=>a.cl nv
 | .kU a i=>a.cl nv&&i.cl nv
 | .fC a _ _=>a.cl nv
 | .db _ a _ _=>a.cl nv
 | .kC a=>a.cl nv
 | .bM a=>a.cl nv
 | .kB z _ ps=>z.ag&&ps.all (λ p=>p.2.cl nv)
 | .rep _ z _ _=>z.ag
 | .app _ _ l y=>l.cl nv&&y.cl nv
 | .get l _ _ _=>l.cl nv
 | .set l _ _ _ y=>l.cl nv&&y.cl nv
 | .call _ as _=>D.cls nv as
 | .eu g as _=>g.cl nv&&D.cls nv as
 | .ldp _ a=>a.cl nv
 | .fap _ a=>a.cl nv
 | .pu _ ds=>D.cls nv ds
 | .j7 _ _ l y=>l.cl nv&&y.cl nv
 | .eV _ _ _ _ ds=>D.cls nv ds
 | .bp _ _ ds=>D.cls nv ds
def cO:Nat->List Node->Bool
 |_,[]=>true
 |nv,.op o::r=>o.cl nv&&cO (nv+1) r
 |nv,.aJ _::r=>cO nv r
abbrev uH:aI->Bool:=aI.okc
def ew.okc:ew->Bool
 | .box _ _ a=>uH a
 | .mo _ _ _ a=>uH a
 | .gq _ _ _ z=>z.ag
 | .gn _ _ _ _ z ps=>z.ag&&ps.all (λ p=>p.2.okc)
 | .build z ps=>AV.ad z&&ps.all (λ p=>uH p.2.2)
 | .store _ _ a=>uH a
 |_=>true
def kns:Nat->List Node->List (Nat×Nat)
 |_,[]=>[]
 |nv,.aJ (.cells (.x i) m)::r=>(i,m)::kns nv r
 |nv,.op (.elem m _ _)::r=>(nv,m)::kns (nv+1) r
 |nv,.op (.uM _ m _)::r=>(nv,m)::kns (nv+1) r
 |nv,.op (.yC _ (some m) _)::r=>(nv,m)::kns (nv+1) r
 |nv,.op _::r=>kns (nv+1) r
 |nv,_::r=>kns nv r
def kY(op:ew)(s:SS):Option (List Node×SV×SS):=
 if s.cl=true/\op.okc=true then
  match xOp op s with
  |some (ns,v,s')=>if cO s.nv ns=true/\iy s.nv ns=s'.nv/\v.cl s'.nv=true/\s'.cl=true then some (ns,v,{s' with kn:=kns s.nv ns++s'.kn})else none
  |none=>none
 else none
def pre(fl:List Nat)(wk:Bool)(op:ew)(s:SS):SS:=if wk=true then ar3 fl op s else s
def o0(fl:List Nat)(wk:Bool):List aP->SS->Option T
 | [],s=>some (.leaf .normal s)
 |o::r,s=>match o.guard with
  |none=>match kY o.op (pre fl wk o.op s)with
   |some (ns,v,s')=>(o0 fl wk r (s'.bT o.dst v)).map (wrap ns)
   |none=>none
  |some (g,want)=>match lk s.env g with
   | .d (.c (.v (.bool b)))=>
     if b=want then
      match lk (pre fl wk o.op s).env g with
      | .d (.c (.v (.bool b')))=>if b'=want then
        match kY o.op (pre fl wk o.op s)with
        |some (ns,v,s')=>(o0 fl wk r (s'.bT o.dst v)).map (wrap ns)
        |none=>none
        else none
      |_=>none
     else o0 fl wk r (s.bT o.dst un)
   | .d (.c (.ba []))=>o0 fl wk r (s.bT o.dst un)
   | .d _=>match lk (pre fl wk o.op s).env g with
     | .d c=>
       match kY o.op ((pre fl wk o.op s).set g (.d (.c (.v (.bool want)))))with
       |some (ns,v,s')=>
        match o0 fl wk r (s'.bT o.dst v),o0 fl wk r (((pre fl wk o.op s).set g (.d (.c (.v (.bool (!want)))))).bT o.dst un)with
        |some t1,some t2=>some (if want=true then .ite c (wrap ns t1) t2 else .ite c t2 (wrap ns t1))
        |_,_=>none
       |none=>none
     |_=>none
   |_=>none
def avx:SV->List Nat
 | .row n _=>[n]
 | .ptr n _=>[n]
 | .rp n _ _ _=>[n]
 |_=>[]
def rfS(s:SS):aI->List Nat
 | .t n=>avx (lk s.env n)
 | .c a=>refs a
def alM(op:ew)(s:SS):g9:=ly op (rfS s) s.ai.length
def lO(rows:List (List Nat))(all:List aP):List aP->List g9->SS->Option T
 | [],acc,s=>if ij rows (all.zip acc)=true then some (.leaf .normal s)else none
 |o::r,acc,s=>match o.guard with
  |none=>match kY o.op s with
   |some (ns,v,s')=>(lO rows all r (acc++ [alM o.op s]) (s'.bT o.dst v)).map (wrap ns)
   |none=>none
  |some (g,want)=>match lk s.env g with
   | .d (.c (.v (.bool b)))=>
     if b=want then
      match kY o.op s with
      |some (ns,v,s')=>(lO rows all r (acc++ [alM o.op s]) (s'.bT o.dst v)).map (wrap ns)
      |none=>none
     else lO rows all r (acc++ [⟨[],.fP⟩]) (s.bT o.dst un)
   | .d (.c (.ba []))=>lO rows all r (acc++ [⟨[],.fP⟩]) (s.bT o.dst un)
   | .d c=>
     match kY o.op (s.set g (.d (.c (.v (.bool want)))))with
     |some (ns,v,s')=>
      match lO rows all r (acc++ [alM o.op (s.set g (.d (.c (.v (.bool want)))))]) (s'.bT o.dst v),lO rows all r (acc++ [⟨[],.fP⟩]) ((s.set g (.d (.c (.v (.bool (!want)))))).bT o.dst un)with
      |some t1,some t2=>some (if want=true then .ite c (wrap ns t1) t2 else .ite c t2 (wrap ns t1))
      |_,_=>none
     |none=>none
   |_=>none
def ew.agq:ew->List aI
 | .k7 _ l| .lT _ l| .eV _ _ _ _ l| .mG _ l| .rK _ l=>l
 | .iv x l=>x::l
 | .iB _ _ _ _ ps=>ps.map (·.2)
 | .db _ x _ _=>[x]
 | .pick _ a b=>[a,b]
 | .store _ _ y=>[y]
 |_=>[]
def rV:List aP->SS->List SV
 | [],_=>[]
 |o::r,s=>match o.guard with
  |none=>match kY o.op s with
   |some (_,v,s')=>rV r (s'.bT o.dst v)
   |none=>o.op.agq.map (cU s)
  |some (g,want)=>match lk s.env g with
   | .d (.c (.v (.bool b)))=>if b=want then(match kY o.op s with
    |some (_,v,s')=>rV r (s'.bT o.dst v)
    |none=>o.op.agq.map (cU s))else rV r (s.bT o.dst un)
   | .d (.c (.ba []))=>rV r (s.bT o.dst un)
   | .d _=>match kY o.op (s.set g (.d (.c (.v (.bool want)))))with
     |some (_,v,s')=>match rV r (s'.bT o.dst v)with
      | []=>rV r ((s.set g (.d (.c (.v (.bool (!want)))))).bT o.dst un)
      |l=>l
     |none=>o.op.agq.map (cU s)
   |_=>[]
def iK:List aP->SS->List aP×SS
 | [],s=>([],s)
 |o::r,s=>match o.op with
  | .alloc t m z=>let q:=iK r {s with ai:=s.ai++ [.row true t m (.c (.sl []))]};({o with op:= .gq s.ai.length t m z}::q.1,q.2)
  | .box t m x=>let q:=iK r {s with ai:=s.ai++ [.row true t m (.c (.sl []))]};({o with op:= .mo s.ai.length t m x}::q.1,q.2)
  | .buildSlice t m (len+1) z ps=>let q:=iK r {s with ai:=s.ai++ [.row true t m (.c (.sl []))]};({o with op:= .gn s.ai.length t m (len+1) z ps}::q.1,q.2)
  |_=>let q:=iK r s;(o::q.1,q.2)
def ad9(rows:List (List Nat))(ops:List aP):Nat->SS->Option (SS×List aP×T)
 |0,_=>none
 |n+1,s=>match lO rows ops ops [] s with
  |some t=>some (s,ops,t)
  |none=>match rV ops s with
   | []=>match lO rows (iK ops s).1 (iK ops s).1 [] (iK ops s).2 with
     |some t=>some ((iK ops s).2,(iK ops s).1,t)
     |none=>none
   |l=>ad9 rows ops n (amR s l)
def D.inst(base:Nat)(vs:List D):D->D
 | .x i=>if i<base then .x i else vs.getD (i- base) (.c .top)
 |d=>if d.cl base=true then d else .c .top
def SV.inst(base:Nat)(vs:List D):SV->SV
 | .d x=> .d (x.inst base vs)
 | .row n l=> .row n (l.inst base vs)
 | .ptr n f=> .ptr n f
 | .rp n l i f=> .rp n (l.inst base vs) (i.inst base vs) f
 | .ip x f=> .ip (x.inst base vs) f
 | .agg cs=>if SV.cls base cs=true then .agg cs else .d (.c .top)
 | .ba cs=>if SV.cls base cs=true then .ba cs else .d (.c .top)
 | .top=> .top
def SO.inst(base:Nat)(vs:List D):SO->SO
 | .dead=> .dead
 | .box e cs=> .box e (cs.map (SV.inst base vs))
 | .row nl e s l=> .row nl e s (l.inst base vs)
def D0:SV->Option D
 | .d x=>some x
 |_=>none
def aaJ(base j:Nat):List (SV×SV)->Option D
 | []=>none
 |(a,b)::r=>match a with
  | .d (.x i)=>if i=base+j then(match D0 b with|some d=>some d|none=>aaJ base j r)else aaJ base j r
  | .row _ (.x i)=>if i=base+j then(match b with| .row _ l=>some l|_=>aaJ base j r)else aaJ base j r
  |_=>aaJ base j r
def ajy:SO->SO->List (SV×SV)
 | .box _ cs,.box _ ds=>cs.zip ds
 | .row _ _ _ l,.row _ _ _ k=>[(.d l,.d k)]
 |_,_=>[]
def jT:List SV->List SV->List SV
 | .top::ts,_::cs=> .top::jT ts cs
 |_::ts,c::cs=>c::jT ts cs
 |_,cs=>cs
def ant(o:SO):Option SO->SO
 |some .dead=> .dead
 |some (.box _ ts)=>match o with
  | .box e cs=>if 2<=cs.length then .box e (jT ts cs)else .box e cs
  |o=>o
 |_=>o
def eB(t:List SO):Nat->List SO->List SO
 |_,[]=>[]
 |k,o::r=>ant o t[k]? ::eB t (k+1) r
def coerce(n0 base:Nat)(s t:SS):Option (List D):=
 let avE:=((t.ai.zip s.ai).flatMap λ p=>ajy p.1 p.2)++t.env.map λ p=>(p.2,lk s.env p.1)
 match(List.range (t.nv- base)).mapM λ j=>aaJ base j avE with
 |none=>none
 |some vs=>
  let ai:=eB t.ai 0 s.ai
  if n0<=t.ai.length/\base<=t.nv/\base<=s.nv/\t.ai.length<=ai.length/\D.cls s.nv vs=true/\t.cl=true/\
   (t.env.all λ p=>(p.2.inst base vs).beq (lk s.env p.1)&&p.2.sc t.ai.length)=true/\
   ((t.ai.zip ai).all λ p=>(p.1.inst base vs).beq p.2&&p.1.sc t.ai.length)=true then some vs else none
def acA(v:SV):List SV->Bool
 | []=>true
 |w::l=>v.beq w&&acA v l
def auq:List SV->Bool
 | []=>true
 | .d _::l=>auq l
 |_::_=>false
def anK(n:Nat):List SS->List SV->Bool
 |s::ss,.row m l::vs=>decide (m=n)&&(cur s m l).isSome&&anK n ss vs
 | [],[]=>true
 |_,_=>false
def aAG(L:List SS)(base next:Nat)(vs:List SV):SV×Nat:=
 match vs with
 | .row n l::_=>if anK n L vs=true then(.row n (.c .top),next)else(.top,next)
 |v::r=>
  if acA v r=true/\v.cl base=true then(v,next)
  else if auq vs=true then(.d (.x next),next+1)
  else(.top,next)
 | []=>(.top,next)
def aAE(base next:Nat)(vs:List SV):SV×Nat:=
 match vs with
 | []=>(.top,next)
 |v::r=>
  if acA v r=true/\v.cl base=true then(v,next)
  else if auq vs=true then(.d (.x next),next+1)
  else(.top,next)
def arc(L:List SS)(base:Nat):Nat->List (List SV)->List SV×Nat
 |next,[]=>([],next)
 |next,vs::r=>
  let(v,n1):=aAG L base next vs
  let(l,n2):=arc L base n1 r
  (v::l,n2)
def alk(k:Nat)(l:List SO):List SV:=l.map λ| .box _ cs=>cs.getD k .top|_=> .top
def aAF(L:List SS)(base next:Nat)(os:List SO):SO×Nat:=
 match os with
 | .box e cs::r=>if r.all (λ| .box e' ds=>decide (e=e')&&decide (ds.length=cs.length)|_=>false)=true then
  let(l,n):=arc L base next ((List.range cs.length).map λ k=>alk k os)
  (.box e l,n)else(.dead,next)
 | .row nl e s l::r=>if r.all (λ| .row nl' e' s' _=>decide (nl=nl')&&decide (e=e')&&decide (s=s')|_=>false)=true then
  (if r.all (λ| .row _ _ _ k=>l.beq k|_=>false)=true/\l.cl base=true then(.row nl e s l,next)else(.row nl e s (.x next),next+1))else(.dead,next)
 |_=>(.dead,next)
def ard(L:List SS)(base:Nat):Nat->List (List SO)->List SO×Nat
 |next,[]=>([],next)
 |next,os::r=>
  let(o,n1):=aAF L base next os
  let(l,n2):=ard L base n1 r
  (o::l,n2)
def alu:List SS->Nat
 | []=>0
 | [s]=>s.ai.length
 |s::r=>min s.ai.length (alu r)
def awp(s:SS):SV->Bool
 | .row n l=>(cur s n l).isSome
 |_=>false
def axu(base:Nat)(ai:List SO)(L:List SS):Nat->List Nat->List (Nat×SV)×Nat
 |next,[]=>([],next)
 |next,t::r=>
  let vs:=L.map λ s=>lk s.env t
  let q:SV×Nat:=match vs with
   | .row n _::_=>
     if(L.all λ s=>match lk s.env t with| .row m l=>decide (m=n)&&(cur s m l).isSome|_=>false)=true then
      (match ai[n]? with|some (.row _ _ _ l)=>(.row n l,next)|_=>(.top,next))else(.top,next)
   |_=>aAE base next vs
  let q:SV×Nat:=if q.1.sc ai.length=true then q else(.top,q.2)
  let(l,n2):=axu base ai L q.2 r
  match q.1 with
  | .top=>(l,n2)
  |v=>((t,v)::l,n2)
def fixC(ai:List SO):SV->SV
 | .row n (.c .top)=>match ai[n]? with|some (.row _ _ _ l)=> .row n l|_=> .top
 |v=>v
def aAI(ai:List SO):SO->SO
 | .box e cs=> .box e (cs.map (fixC ai))
 |o=>o
def gen(base:Nat)(L:List SS):SS:=
 match L with
 | []=>default
 |s::_=>
  let(aqD,n1):=ard L base base ((List.range (alu L)).map λ k=>L.map λ s=>s.ai.getD k .dead)
  let ai:=aqD.map (aAI aqD)
  let(env,n2):=axu base ai L n1 (s.env.map (·.1))
  ⟨env,ai,n2,s.kn.filter λ p=>decide (p.1<base)⟩
def ap6(s:SS)(t:SS):Option (Nat×Nat×Nat):=
 s.env.findSome? λ p=>match p.2 with
   | .d (.c .aw)=>match lk t.env p.1 with
     | .row n l=>match cur t n l with
       |some (_,e,m)=>some (p.1,e,m)
       |none=>none
     |_=>none
   |_=>none
def s8(t:SS)(k:Nat):Nat->List SV->Option (Nat×Nat×Nat×Nat)
 |_,[]=>none
 |j,v::r=>match v with
  | .d (.c .aw)=>match mn t k with
    |some (_,ds)=>match ds.getD j .top with
     | .row n l=>match cur t n l with
       |some (_,e,m)=>some (k,j,e,m)
       |none=>s8 t k (j+1) r
     |_=>s8 t k (j+1) r
    |none=>none
  |_=>s8 t k (j+1) r
def yK(t:SS):Nat->List SO->Option (Nat×Nat×Nat×Nat)
 |_,[]=>none
 |k,o::r=>match o with
  | .box _ cs=>match s8 t k 0 cs with
    |some q=>some q
    |none=>yK t (k+1) r
  |_=>yK t (k+1) r
def oh(s:SS)(k j t m:Nat):SS:=
 match mn s k with
 |some (e,cs)=>{s with ai:=s.ai.set k (.box e (cs.set j (.row s.ai.length (.c (.sl [])))))++ [.row true t m (.c (.sl []))]}
 |none=>s
inductive Conv where
 |slot (k t m:Nat)
 |cell (k j t m:Nat)
 |fbx (n:Nat)
 |atJ (n:Nat)
def ap5(s:SS)(t:SS):Option Conv:=
 s.env.findSome? λ p=>match p.2 with
   | .ptr n _=>match lk t.env p.1 with
     | .ip _ _=>some (.fbx n)
     |_=>none
   | .row n l=>match lk t.env p.1 with
     | .d _=>if(cur s n l).isSome=true then some (.atJ n)else none
     |_=>none
   |_=>none
def anb(s:SS)(L:List SS):Option Conv:=
 match L.findSome? (ap6 s)with
 |some (k,t,m)=>some (.slot k t m)
 |none=>match L.findSome? (λ t=>yK t 0 s.ai)with
  |some (k,j,t,m)=>some (.cell k j t m)
  |none=>L.findSome? (ap5 s)
def Conv.run(s:SS):Conv->SS
 | .slot k t m=>match lk s.env k with
   | .d (.c .aw)=>og s t m k
   |_=>s
 | .cell k j t m=>match mn s k with
   |some (_,cs)=>match cs[j]? with
    |some (.d (.c .aw))=>oh s k j t m
    |_=>s
   |none=>s
 | .fbx n=>match mn s n with
   |some (_,cs)=>yz (cs.foldl oU s) n
   |none=>s
 | .atJ n=>ach s n
def qi(t:T):List SS:=t.leaves.filterMap λ p=>match p.1 with| .normal=>some p.2|_=>none
def akE(a b:SS):Bool:=
 decide (a.nv=b.nv)&&decide (a.env.length=b.env.length)&&decide (a.ai.length=b.ai.length)&&
 ((a.env.zip b.env).all λ p=>decide (p.1.1=p.2.1)&&p.1.2.beq p.2.2)&&((a.ai.zip b.ai).all λ p=>p.1.beq p.2)
def alS(live:List Nat)(s:SS):SS:={s with env:=live.filterMap λ t=>match lk s.env t with| .top=>none|v=>some (t,v)}
def ua(body:SS->Option T):Nat->SS->SS->Option (SS×SS×T)
 |0,_,_=>none
 |n+1,s,h=>match body h with
  |none=>none
  |some t=>
   match anb s (qi t)with
   |some c=>if akE (c.run s) s=true then none else ua body n (c.run s) (c.run s)
   |none=>
    if akE h (gen s.nv (s::qi t))=true then some (s,h,t)else ua body n s (gen s.nv (s::qi t))
def aU.af2:aU->Bool
 | .ku _=>true
 |_=>false
def aU.drawn:aU->Option (List (List Nat)×List aP)
 | .region (some rows) ops=>some (rows,ops)
 |_=>none
def aU.asU:aU->Bool
 | .cond _ _ _=>true
 |_=>false
def pP(body:SS->Option T):Nat->SS->Option (SS×T)
 |0,_=>none
 |n+1,s=>match body s with
  |none=>none
  |some t=>
   if 2<=(qi t).length then
    match anb s (qi t)with
    |some c=>pP body n (c.run s)
    |none=>some (s,t)
   else some (s,t)
def SV.aqP:SV->Bool
 | .top=>true
 |_=>false
def SV.awo:SV->Bool
 | .row _ _=>true
 |_=>false
def asF(L:List SS)(h:SS):Bool:=(List.range h.ai.length).any λ n=>match h.ai[n]? with
 |some (.box _ cs)=>(List.range cs.length).any λ j=>(cs[j]?.getD .top).aqP&&(L.all λ s=>match s.ai[n]? with
  |some (.box _ ds)=> !(ds[j]?.getD .top).aqP
  |_=>false)&&(L.any λ s=>match s.ai[n]? with
  |some (.box _ ds)=>(ds[j]?.getD .top).awo
  |_=>false)
 |_=>false
def awg(L:List SS)(h:SS):Bool:=
 match L with
 |s::_::_=>(s.env.any λ p=>(match lk h.env p.1 with| .top=>true|_=>false)&&L.all λ s'=>awp s' (lk s'.env p.1))||asF L h
 |_=>false
def xC(n0:Nat)(fl:List Nat):aU->SS->Option T
 | .skip,s=>some (.leaf .normal s)
 | .region none ops,s=>o0 fl false ops s
 | .region (some rows) ops,s=>lO rows ops ops [] s
 | .gJ ops,s=>o0 fl true ops s
 | .seq a b,s=>match xC n0 fl a s with
   |none=>none
   |some t0=>
    let L:=qi t0
    if b.af2=true/\((t0.aas=true/\1<=L.length)∨2<=L.length)/\awg L (gen s.nv L)=false then
     let h:=gen s.nv L
     match t0.fill (λ x s'=>match x with
      | .normal=>(coerce n0 s.nv s' h).map .jump
      |x=>some (.dM (.leaf x s'))) 0,xC n0 fl b h with
     |some t1,some t2=>some (.bind (h.nv- s.nv) t1 t2)
     |_,_=>none
    else t0.fill (λ x s'=>match x with| .normal=>xC n0 fl b s'|x=>some (.leaf x s')) 0
 | .cond c t f,s=>match cU s c with
   | .d (.c (.v (.bool b)))=>if b=true then xC n0 fl t s else xC n0 fl f s
   | .d c=>match xC n0 fl t s,xC n0 fl f s with
     |some t1,some t2=>if s.cl=true then some (.ite c t1 t2)else none
     |_,_=>none
   |_=>none
 | .block id b,s=>match xC n0 fl b s with
   |none=>none
   |some t=>t.fill (λ x s'=>match x with
    | .exit i=>some (if i=id then .leaf .normal s' else .leaf (.exit i) s')
    |x=>some (.leaf x s')) 0
 | .loop b,s=>match ua (xC n0 fl b) 8 s s with
   |none=>none
   |some (s1,h,t)=>match coerce n0 s1.nv s1 h with
    |some init=>match t.fill (λ x s'=>match x with
      | .normal=>(coerce n0 s1.nv s' h).map .jump
      |x=>some (.dM (.leaf x s'))) 0 with
     |some t1=>some (.loop init t1)
     |none=>none
    |none=>none
 | .exit id,s=>some (.leaf (.exit id) s)
 | .ret,s=>some (.leaf .ret s)
 | .aL live c,s=>match xC n0 fl c s with
   |none=>none
   |some t=>t.fill (λ x s'=>match x with
    | .normal=>some (.leaf .normal (alS live s'))
    |x=>some (.leaf x s')) 0
 | .ku c,s=>if c.asU=true then(match pP (xC n0 fl c) 6 s with
  |some q=>some q.2
  |none=>none)else match c.drawn with
   |some q=>(ad9 q.1 q.2 6 s).map (·.2.2)
   |none=>xC n0 fl c s
def aU.weaken:aU->aU
 | .region none ops=> .gJ ops
 | .region (some rows) ops=> .ku (.region (some rows) ops)
 | .seq a b=> .seq a.weaken (.ku b.weaken)
 | .cond c t f=> .ku (.cond c t.weaken f.weaken)
 | .block id b=> .block id b.weaken
 | .loop b=> .loop b.weaken
 | .aL l c=> .aL l c.weaken
 | .ku c=> .ku c.weaken
 |c=>c
def aac(s:SS):dO->Option SV
 | .tmp t=>some (lk s.env t)
 | .cell t n=>match lk s.env t with
   | .ptr k 0=>match mn s k with
     |some (_,cs)=>match n with
      |none=>none
      |some m=>if cs.length=m/\m≠1 then some (.agg cs)else none
     |none=>none
   |_=>none
def apY(s:SS):SV->Option D
 | .d x=>some x
 | .row n l=>if(cur s n l).isSome=true then some (.sl l)else none
 |_=>none
def ad4(s:SS):List SV->Option (List D)
 | []=>some []
 |v::r=>match apY s v,ad4 s r with
  |some d,some ds=>some (d::ds)
  |_,_=>none
def atQ(s:SS):SV->Option D
 | .agg cs=>(ad4 s cs).map .agg
 |v=>apY s v
def yF(s:SS):List dO->Option (List D)
 | []=>some []
 |r::rs=>match aac s r with
  |some v=>match atQ s v,yF s rs with
   |some d,some ds=>some (d::ds)
   |_,_=>none
  |none=>none
def kJ(g:gK):SS:=⟨(List.range g.args.length).map λ i=>(i,g.args.getD i .top),g.ai,g.n,[]⟩
def xe(s:SS):List dO->Option (List SV)
 | []=>some []
 |r::rs=>match aac s r,xe s rs with
  |some v,some vs=>some (v::vs)
  |_,_=>none
def uG:List SV->SV
 | [v]=>v
 |vs=> .ba vs
def xl(p v:SV):SV:=
 match p with
 | .d _=>match afB v with
   |some d=> .d d
   |none=>v
 |_=>v
def abA(p v:SV):SV:=
 match p,v with
 | .ba ps,.ba vs=> .ba ((List.range vs.length).map λ i=>xl (ps.getD i .top) (vs.getD i .top))
 | .agg ps,.agg vs=> .agg ((List.range vs.length).map λ i=>xl (ps.getD i .top) (vs.getD i .top))
 |p,v=>xl p v
def apZ(g:gK)(s:SS)(v:SV):Option (List D×List Nat):=
 let q0:Mt:=([],(List.range g.ai.length).map λ n=>(n,n))
 let q1:=match g.res,v with
  | .ba ps,.ba ws=>sC [] ps ws q0
  | .agg ps,.agg ws=>sC [] ps ws q0
  |p,v=>alw [] p v q0
 let q:=sD s 0 g.cG (sD s 0 g.cG q1)
 match(List.range g.m).mapM (ax9 q.1),(List.range g.cG.length).mapM (aun q.2)with
 |some τ,some dr=>some (τ,dr)
 |_,_=>none
def yG(s:SS)(dr:List Nat):Nat->Nat:=λ n=>if n<dr.length then dr.getD n 0 else s.ai.length+n
def pK(g:gK)(rs:List dO)(s:SS):Option (List D×List Nat):=
 match xe s rs with
 |none=>none
 |some vs=>match apZ g s (abA g.res (uG vs))with
  |none=>none
  |some (τ,dr)=>
   if s.cl=true/\g.ok=true/\(g.res.af9 τ (yG s dr)).beq (abA g.res (uG vs))=true/\dr.length=g.cG.length/\tI dr=true/\(List.range g.ai.length).all (λ n=>decide (yG s dr n=n))=true/\
    ad3 s τ (yG s dr) 0 g.cG=true/\τ.length=g.m/\D.cls s.nv τ=true then some (τ,dr)else none
end Go.Ab
