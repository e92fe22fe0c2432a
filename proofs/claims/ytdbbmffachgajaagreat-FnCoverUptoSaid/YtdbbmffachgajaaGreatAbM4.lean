/- Part of a proof: the functions that the law reaches, walked by the abstract logic of the texts Ab. -/
import Derived.Test.YtdbbmffachgajaaGreatAbM3
open Nat(le_refl zero_add add_zero)
open Bool(and_eq_true false_eq_true)
open Option(map_eq_some_iff map_some getD_some getD_none)
open List(getElem?_append_left all_cons map_congr_left mem_of_getElem? map_cons mem_of_mem_drop mem_of_mem_take cons_append ext_getElem getElem_map getElem_range getElem?_eq_getElem map_map mem_cons map_id append_nil map_append map_nil length_map map_set mem_map map_take map_drop getElem?_map nil_append getElem?_append_right foldl_cons getElem?_set_ne length_nil reverse_nil reverse_cons)
set_option linter.unusedVariables false
set_option linter.unusedSimpArgs false
namespace Go.Ab
theorem su{r r':List AV}{i:Nat}(h:i<r.length):(r++r').getD i .top=r.getD i .top:=by
 simp[List.getD,getElem?_append_left h]
mutual
theorem D.dP{r r':List AV}:∀(d:D),d.cl r.length=true->d.ev (r++r')=d.ev r
 | .x i,h=>by simp only[D.cl,decide_eq_true_eq]at h;simp only[D.ev,su h]
 | .c a,h=>rfl
 | .cell i j,h=>by simp only[D.cl,decide_eq_true_eq]at h;simp only[D.ev,su h]
 | .ext i j,h=>by simp only[D.cl,decide_eq_true_eq]at h;simp only[D.ev,su h]
 | .sl l,h=>by simp only[D.cl]at h;simp only[D.ev,D.dP l h]
 | .agg l,h=>by simp only[D.cl]at h;simp only[D.ev,D.iQ l h]
 | .fn f l,h=>by simp only[D.cl]at h;simp only[D.ev,D.iQ l h]
 | .ip d f,h=>by simp only[D.cl]at h;simp only[D.ev,D.dP d h]
theorem D.iQ{r r':List AV}:∀(l:List D),D.cls r.length l=true->D.bn (r++r') l=D.bn r l
 | [],_=>rfl
 |d::l,h=>by
  simp only[D.cls,and_eq_true]at h;simp only[D.bn,D.dP d h.1,D.iQ l h.2]
end
mutual
theorem SV.dP{r r':List AV}:∀(v:SV),v.cl r.length=true->v.ev (r++r')=v.ev r
 | .d x,h=>D.dP x h
 | .row n l,h=>by simp only[SV.cl]at h;simp only[SV.ev,D.dP l h]
 | .ptr n f,h=>rfl
 | .rp n l i f,h=>by simp only[SV.cl,and_eq_true]at h;simp only[SV.ev,D.dP l h.1,D.dP i h.2]
 | .ip x f,h=>by simp only[SV.cl]at h;simp only[SV.ev,D.dP x h]
 | .agg cs,h=>by simp only[SV.cl]at h;simp only[SV.ev,SV.iQ cs h]
 | .aZ cs,h=>by simp only[SV.cl]at h;simp only[SV.ev,SV.iQ cs h]
 | .top,h=>rfl
theorem SV.iQ{r r':List AV}:∀(l:List SV),SV.cls r.length l=true->SV.bn (r++r') l=SV.bn r l
 | [],_=>rfl
 |v::l,h=>by
  simp only[SV.cls,and_eq_true]at h;simp only[SV.bn,SV.dP v h.1,SV.iQ l h.2]
end
theorem SO.dP{r r':List AV}(o:SO)(h:o.cl r.length=true):o.ev (r++r')=o.ev r:=by
 cases o with
 |dead=>rfl
 |box e cs=>simp only[SO.ev,SV.iQ cs h]
 |row nl e s l=>cases nl<;>simp only[SO.ev,D.dP l h]
theorem aFx{n:Nat}:∀{l:List (Nat×SV)},l.all (λ p=>p.2.cl n)=true->∀t,(lk l t).cl n=true
 | [],_,_=>rfl
 |(k,v)::l,h,t=>by
  simp only[all_cons,and_eq_true]at h;simp only[lk]
  split
  ·exact h.1
  ·exact aFx h.2 t
theorem SS.tm{s:SS}(h:s.cl=true)(t:Nat):(lk s.env t).cl s.nv=true:=aFx (and_eq_true _ _▸h).1 t
theorem SS.xV{s:SS}(h:s.cl=true){o:SO}(ho:o∈s.aE):o.cl s.nv=true:=by
 have:=(and_eq_true _ _▸h:_/\_).2;exact List.all_eq_true.1 this o ho
theorem jt{s:SS}{r r':List AV}(hl:r.length=s.nv)(h:s.cl=true):cG s (r++r')=cG s r:=by
 funext t
 exact SV.dP _ (by rw[hl];exact SS.tm h t)
theorem j8{s:SS}{r r':List AV}(hl:r.length=s.nv)(h:s.cl=true):cr s (r++r')=cr s r:=by
 unfold cr;exact map_congr_left λ o ho=>SO.dP o (by rw[hl];exact SS.xV h ho)
theorem jl{l:List AV}(h:AV.ae l=true)(i:Nat):(l.getD i .top).ag=true:=by
 rw[List.getD];cases hi:l[i]? with
 |none=>rfl
 |some a=>exact bm h a (mem_of_getElem? hi)
theorem kU{a:AV}(h:a.ag=true):AV.ae a.cells=true:=by
 cases a<;>first|exact h|(simp only[AV.cells,AV.ae,h];rfl)
theorem dT{a:AV}(h:a.ag=true):AV.ae (aU a)=true:=by
 cases a<;>first|rfl|exact h
theorem aoV{a:AV}(h:a.ag=true)(j:Nat):(aw8 a j).ag=true:=by
 cases a<;>first|rfl|exact jl (by exact h) j
mutual
theorem D.cC{r:List AV}(hr:AV.ae r=true):∀(d:D),d.cl r.length=true->(d.ev r).ag=true
 | .x i,_=>jl hr i
 | .c a,h=>h
 | .cell i j,_=>jl (kU (jl hr i)) j
 | .ext i j,_=>aoV (jl hr i) j
 | .sl l,h=>by simp only[D.cl]at h;exact dT (D.cC hr l h)
 | .agg l,h=>by simp only[D.cl]at h;exact D.eN hr l h
 | .fn f l,h=>by simp only[D.cl]at h;exact D.eN hr l h
 | .ip d f,h=>by simp only[D.cl]at h;exact D.cC hr d h
theorem D.eN{r:List AV}(hr:AV.ae r=true):∀(l:List D),D.cls r.length l=true->AV.ae (D.bn r l)=true
 | [],_=>rfl
 |d::l,h=>by
  simp only[D.cls,and_eq_true]at h;simp only[D.bn,AV.ae,D.cC hr d h.1,D.eN hr l h.2];rfl
end
theorem b9{a b:List AV}:AV.ae (a++b)=(AV.ae a&&AV.ae b):=by
 induction a with
 |nil=>simp[AV.ae]
 |cons x a ih=>simp[AV.ae,ih,Bool.and_assoc]
theorem jL{l:List AV}(h:∀a∈l,a.ag=true):AV.ae l=true:=by
 induction l with
 |nil=>rfl
 |cons x l ih=>simp only[AV.ae,h x (by simp),ih λ a ha=>h a (by simp[ha])];rfl
theorem AV.aH8{a b:AV}(h:a.ceq b=true):a=b:=by
 unfold AV.ceq at h
 split at h<;>simp_all
mutual
theorem D.beq_eq:∀(a b:D),a.beq b=true->a=b
 | .x i,b,h=>by cases b<;>simp_all [D.beq]
 | .c a,b,h=>by
   cases b<;>simp_all only[D.beq,false_eq_true]
   rw[AV.aH8 h]
 | .cell i j,b,h=>by cases b<;>simp_all [D.beq]
 | .ext i j,b,h=>by cases b<;>simp_all [D.beq]
 | .sl l,b,h=>by
   cases b<;>simp_all only[D.beq,false_eq_true]
   rw[D.beq_eq l _ h]
 | .agg l,b,h=>by
   cases b<;>simp_all only[D.beq,false_eq_true]
   rw[D.pB l _ h]
 | .fn f l,b,h=>by
   cases b<;>simp_all only[D.beq,false_eq_true,and_eq_true,decide_eq_true_eq]
   rw[D.pB l _ h.2]
 | .ip d f,b,h=>by
   cases b<;>simp_all only[D.beq,false_eq_true,and_eq_true,decide_eq_true_eq]
   rw[D.beq_eq d _ h.1]
theorem D.pB:∀(a b:List D),D.oQ a b=true->a=b
 | [],[],_=>rfl
 |a::as,b::bs,h=>by
  simp only[D.oQ,and_eq_true]at h;rw[D.beq_eq a b h.1,D.pB as bs h.2]
 | [],_::_,h=>by simp[D.oQ]at h
 |_::_,[],h=>by simp[D.oQ]at h
end
mutual
theorem SV.beq_eq:∀(a b:SV),a.beq b=true->a=b
 | .d x,b,h=>by
   cases b<;>simp_all only[SV.beq,false_eq_true]
   rw[D.beq_eq x _ h]
 | .row n l,b,h=>by
   cases b<;>simp_all only[SV.beq,false_eq_true,and_eq_true,decide_eq_true_eq]
   rw[D.beq_eq l _ h.2]
 | .ptr n f,b,h=>by cases b<;>simp_all [SV.beq]
 | .rp n l i f,b,h=>by
   cases b<;>simp_all only[SV.beq,false_eq_true,and_eq_true,decide_eq_true_eq]
   rw[D.beq_eq l _ h.1.1.2,D.beq_eq i _ h.1.2]
 | .ip x f,b,h=>by
   cases b<;>simp_all only[SV.beq,false_eq_true,and_eq_true,decide_eq_true_eq]
   rw[D.beq_eq x _ h.1]
 | .agg l,b,h=>by
   cases b<;>simp_all only[SV.beq,false_eq_true]
   rw[SV.pB l _ h]
 | .aZ l,b,h=>by
   cases b<;>simp_all only[SV.beq,false_eq_true]
   rw[SV.pB l _ h]
 | .top,b,h=>by cases b<;>simp_all [SV.beq]
theorem SV.pB:∀(a b:List SV),SV.oQ a b=true->a=b
 | [],[],_=>rfl
 |a::as,b::bs,h=>by
  simp only[SV.oQ,and_eq_true]at h;rw[SV.beq_eq a b h.1,SV.pB as bs h.2]
 | [],_::_,h=>by simp[SV.oQ]at h
 |_::_,[],h=>by simp[SV.oQ]at h
end
theorem SO.beq_eq{a b:SO}(h:a.beq b=true):a=b:=by
 cases a<;>cases b<;>simp_all only[SO.beq,false_eq_true,and_eq_true,decide_eq_true_eq]
 ·rw[SV.pB _ _ h.2]
 ·rw[D.beq_eq _ _ h.2]
theorem atG{l:List (Nat×SV)}{t k:Nat}(h:k≠t):lk (l.filter λ p=>p.1 !=t) k=lk l k:=by
 induction l with
 |nil=>rfl
 |cons p l ih=>
  obtain⟨q,v⟩:=p;simp only[List.filter_cons];by_cases hq:q=t
  ·subst hq;simp only[bne_self_eq_false,false_eq_true,if_false,lk,if_neg h,ih]
  ·simp only[bne_iff_ne,ne_eq,hq,not_false_eq_true,if_true,lk,ih]
theorem acW(s:SS)(t:Nat)(v:SV)(r:List AV):cG (s.set t v) r=(cG s r).set t (v.ev r):=by
 funext k
 simp only[cG,SS.set,lk,Env.set]
 split
 ·rfl
 ·rename_i h;rw[atG h]
theorem r8(s:SS)(d:Option Nat)(v:SV)(r:List AV):cG (s.cq d v) r=cq (cG s r) d (v.ev r):=by
 cases d with
 |none=>rfl
 |some t=>exact acW s t v r
theorem r7(s:SS)(d:Option Nat)(v:SV)(r:List AV):cr (s.cq d v) r=cr s r:=by cases d<;>rfl
theorem vJ(s:SS)(d:Option Nat)(v:SV):(s.cq d v).nv=s.nv:=by cases d<;>rfl
theorem bq(s:SS)(x:bj)(r:List AV):(ey s x).ev r=x.ev (cG s r):=by cases x<;>rfl
theorem aay{f:SV->SV}(hf:f .top= .top):∀(l:List (Nat×SV)) (t:Nat),lk (l.map λ p=>(p.1,f p.2)) t=f (lk l t)
 | [],t=>hf.symm
 |(k,v)::l,t=>by
  simp only[map_cons,lk]
  split
  ·rfl
  ·exact aay hf l t
def mX(P:Program):List Node->List AV->(List AV->Prop)->Prop
 | [],r,K=>K r
 | .op o::ns,r,K=>o.wp P r λ v=>mX P ns (r++ [v]) K
 | .aq c::ns,r,K=>c.wp r (mX P ns r K)
section
variable {P:Program}
theorem ux{L:AX->SS->List AV->Prop}{R:AV->Prop}{t:T}{S:List (List AV->Prop)}:∀(ns:List Node) (r:List AV),cL P L R (wrap ns t) r S=mX P ns r λ r'=>cL P L R t r' S
 | [],r=>rfl
 | .op o::ns,r=>by simp only[wrap,cL,mX,ux ns]
 | .aq c::ns,r=>by simp only[wrap,cL,mX,ux ns]
theorem aap{c a b:AV}{O O':List aj}{K K':KT}(h:sf c a b O K)(hk:∀x,K x O->K' x O'):sf c a b O' K':=by
 unfold sf at*;split at h<;>first|exact hk _ h|exact h.elim
theorem af7{op:BinOp}{a b:AV}{O O':List aj}{K K':KT}(h:fT op a b O K)(hk:∀x,(∃v,x= .v v)->K x O->K' x O'):fT op a b O' K':=by
 unfold fT at*;split at h
 ·split at h<;>first|exact hk _ ⟨_,rfl⟩ h|exact h.elim
 ·exact h.elim
theorem ajz{op:UnOp}{a:AV}{O O':List aj}{K K':KT}(h:unK op a O K)(hk:∀x,(∃v,x= .v v)->K x O->K' x O'):unK op a O' K':=by
 unfold unK at*;split at h
 ·split at h<;>first|exact hk _ ⟨_,rfl⟩ h|exact h.elim
 ·exact h.elim
theorem aa1{k:IntKind}{a:AV}{O O':List aj}{K K':KT}(h:zx k a O K)(hk:∀x,(∃v,x= .v v)->K x O->K' x O'):zx k a O' K':=by
 unfold zx at*;split at h<;>first|exact hk _ ⟨_,rfl⟩ h|exact h.elim
theorem qV{n:Option Nat}{a:AV}{f:Nat}(h:a.ag=true):(cA n a f).ag=true:=by
 unfold cA
 split
 ·exact jl (kU h) f
 ·split
  ·exact h
  ·exact jL λ x hx=>bm (kU h) x (mem_of_mem_drop (mem_of_mem_take hx))
theorem anL{off:Nat}{n:Option Nat}{a:AV}{O O':List aj}{K K':KT}(h:aql off n a O K)(hk:∀x,(a.ag=true->x.ag=true)->K x O->K' x O'):aql off n a O' K':=
 ⟨h.1,h.2.1,hk _ qV h.2.2⟩
theorem aaP{a i:AV}{O O':List aj}{K K':KT}(h:zf a i O K)(hk:∀x,(∃v,x= .v v)->K x O->K' x O'):zf a i O' K':=by
 unfold zf at*;split at h<;>first|exact⟨h.1,h.2.1,hk _ ⟨_,rfl⟩ h.2.2⟩|exact h.elim
theorem aaA{a:AV}{O O':List aj}{K K':KT}(h:yS a O K)(hk:∀x,(∃v,x= .v v)->K x O->K' x O'):yS a O' K':=by
 unfold yS at*;split at h<;>first|exact hk _ ⟨_,rfl⟩ h|exact h.elim
theorem adh{d:Int}{x:Option AV}{M M':Int->Prop}(h:bnd d x M)(hm:∀i,M i->M' i):bnd d x M':=by
 unfold bnd at*;split at h<;>first|exact hm _ h|exact h.elim
theorem uJ{a:AV}{lo hi:Option AV}{O O':List aj}{K K':KT}(h:nM a lo hi O K)(hk:∀x,(∃v,x= .v v)->K x O->K' x O'):nM a lo hi O' K':=by
 unfold nM at*;split at h
 ·exact adh h λ l hl=>adh hl λ h' hh=>⟨hh.1,hh.2.1,hh.2.2.1,hk _ ⟨_,rfl⟩ hh.2.2.2⟩
 ·exact h.elim
theorem qN{s:Nat}{a:AV}{lo hi:Option AV}{O O':List aj}{K K':KT}(h:lJ s a lo hi O K)(hk:∀x,(a.ag=true->x.ag=true)->K x O->K' x O'):lJ s a lo hi O' K':=by
 unfold lJ at*;split at h
 ·rename_i xs;exact adh h λ l hl=>adh hl λ h' hh=>⟨hh.1,hh.2.1,hh.2.2.1,hh.2.2.2.1,hk _ (λ hn=>jL λ x hx=>bm (by exact hn) x (mem_of_mem_take (mem_of_mem_drop hx))) hh.2.2.2.2⟩
 ·exact h.elim
theorem aiQ{a:AV}{O':List aj}{K K':KT}(h:qj a [] K)(hk:∀x,(∃v,x= .v v)->K x []->K' x O'):qj a O' K':=by
 unfold qj at*
 split at h
 ·exact hk _ ⟨_,rfl⟩ h
 ·exact hk _ ⟨_,rfl⟩ h
 ·simp[aar]at h
 ·exact h.elim
theorem afa{a:AV}{K K':KT}(h:qj a [] K)(hk:∀x,(∃v,x= .v v)->K x []->K' x []):qj a [] K':=aiQ h hk
theorem vA{y:AV}{M M':List AV->Prop}(h:ng [] y M)(hm:∀ys,(y.ag=true->AV.ae ys=true)->M ys->M' ys):ng [] y M':=by
 unfold ng at*
 split at h
 ·exact hm _ (λ _=>rfl) h
 ·exact hm _ (λ h=>h) h
 ·simp[aar]at h
 ·exact h.elim
theorem atm{o:PU}{xs:List AV}{v:AV}(h:zR o xs=some v):v.ag=true:=by
 unfold zR at h
 split at h
 ·simp only[map_eq_some_iff]at h;obtain⟨l,_,rfl⟩:=h;rfl
 ·cases h;rfl
 ·cases h;rfl
 ·cases h;rfl
 ·cases h;rfl
 ·cases h;rfl
 ·cases h;rfl
 ·cases h;rfl
 ·cases h;rfl
 ·split at h
  ·cases h;rfl
  ·cases h
 ·split at h
  ·cases h;rfl
  ·cases h
 ·cases h
theorem PO.wp_mono{r:List AV}(hr:AV.ae r=true){o:PO}(hc:dA r.length [.op o]=true){K K':AV->Prop}(h:o.wp P r K)(hk:∀v,v.ag=true->K v->K' v):o.wp P r K':=by
 have hv:∀x:AV,(∃v,x= .v v)->x.ag=true:=by rintro _ ⟨v,rfl⟩;rfl
 cases o<;>simp only[dA,PO.cl,Bool.and_true,and_eq_true]at hc<;>simp only[PO.wp]at h⊢
 case val x=>exact hk _ (D.cC hr x hc) h
 case pick c a b=>
  refine aap (K:=λ x _=>(x=a.ev r∨x=b.ev r)/\K x) (K':=λ x _=>K' x) ?_ (λ x hx=>hk x ?_ hx.2) (O:=[])
  ·simp only[sf]at h⊢
   split at h
   ·rename_i t _;exact⟨by cases t<;>simp,h⟩
   ·exact h.elim
  ·rcases hx.1 with rfl|rfl
   ·exact D.cC hr a hc.1.2
   ·exact D.cC hr b hc.2
 case bin op a b=>exact af7 (K:=λ x _=>K x) (K':=λ x _=>K' x) h λ x hx hK=>hk x (hv x hx) hK
 case beq neg a b=>simp only[alg]at h⊢;split at h<;>first|exact hk _ rfl h|exact h.elim
 case un op a=>exact ajz (K:=λ x _=>K x) (K':=λ x _=>K' x) h λ x hx hK=>hk x (hv x hx) hK
 case conv k a=>exact aa1 (K:=λ x _=>K x) (K':=λ x _=>K' x) h λ x hx hK=>hk x (hv x hx) hK
 case elem s l i=>
  simp only[jE]at h⊢
  split at h
  ·rename_i xs _ i hl _;refine⟨h.1,h.2.1,h.2.2.1,hk _ (jl ?_ _) h.2.2.2⟩;have:=D.cC hr l hc.1;rw[hl]at this;exact this
  ·exact h.elim
 case zq off n a=>exact anL (K:=λ x _=>K x) (K':=λ x _=>K' x) h λ x hx hK=>hk x (hx (D.cC hr a hc)) hK
 case tM f m a=>exact⟨h.1,hk _ (qV (D.cC hr a hc)) h.2⟩
 case lU a i=>exact aaP (K:=λ x _=>K x) (K':=λ x _=>K' x) h λ x hx hK=>hk x (hv x hx) hK
 case gq nl e s f as=>obtain⟨xs,h1,h2,h3⟩:=h;exact⟨xs,h1,h2,hk _ h2 h3⟩
 case aY f g as=>obtain⟨os,h1,h2,h3,h4⟩:=h;exact⟨os,h1,h2,h3,hk _ h3 h4⟩
 case fX a lo hi=>exact uJ (K:=λ x _=>K x) (K':=λ x _=>K' x) h λ x hx hK=>hk x (hv x hx) hK
 case cj s a lo hi=>exact qN (K:=λ x _=>K x) (K':=λ x _=>K' x) h λ x hx hK=>hk x (hx (D.cC hr a hc)) hK
 case oz a=>exact aaA (K:=λ x _=>K x) (K':=λ x _=>K' x) h λ x hx hK=>hk x (hv x hx) hK
 case ch a=>exact afa (K:=λ x _=>K x) (K':=λ x _=>K' x) h λ x hx hK=>hk x (hv x hx) hK
 case iE z n ps=>
  refine hk _ ?_ h
  have key:∀(ps:List (Nat×D)) (z:List AV),AV.ae z=true->ps.all (λ p=>p.2.cl r.length)=true->AV.ae (kl z (ps.map λ p=>(p.1,p.2.ev r)))=true:=by
   intro ps
   induction ps with
   |nil=>intro z hz _;exact hz
   |cons p ps ih=>
    intro z hz hp;simp only[all_cons,and_eq_true]at hp;simp only[map_cons,kl];refine ih _ (jL λ a ha=> ?_) hp.2;rcases List.mem_or_eq_of_mem_set ha with h|rfl
    ·exact bm hz a h
    ·exact D.cC hr _ hp.1
  exact key ps _ (jL λ a ha=>by rw[List.eq_of_mem_replicate ha];exact hc.1) hc.2
 case rep bytes z n c=>
  simp only[amM]at h⊢
  split at h
  ·exact⟨h.1,h.2.1,h.2.2.1,h.2.2.2.1,hk _ (jL λ a ha=>by rw[List.eq_of_mem_replicate ha];exact hc) h.2.2.2.2⟩
  ·exact h.elim
 case app s b l y=>
  refine vA (M':=λ ys=>_/\_/\_/\K' _) h λ ys hys hK=>⟨hK.1,hK.2.1,hK.2.2.1,hk _ ?_ hK.2.2.2⟩
  show AV.ae _=true;rw[b9,dT (D.cC hr l hc.1),hys (D.cC hr y hc.2)];rfl
 case get l i f n=>exact⟨h.1,h.2.1,hk _ (qV (jl (dT (D.cC hr l hc)) _)) h.2.2⟩
 case set l i f m y=>
  obtain⟨h1,h2,h3,h4,h5⟩:=h;have hl:=dT (D.cC hr l hc.1);have hy:=D.cC hr y hc.2;refine⟨h1,h2,h3,h4,hk _ (jL λ a ha=> ?_) h5⟩;rcases List.mem_or_eq_of_mem_set ha with h|rfl
  ·exact bm hl a h
  ·have hx:=jl hl (idxOf (i.ev r));unfold ua
   split
   ·exact hy
   ·refine jL λ a ha=> ?_
    simp only[List.mem_append]at ha;rcases ha with(ha|ha)|ha
    ·exact bm (kU hx) a (mem_of_mem_take ha)
    ·exact bm (kU hy) a ha
    ·exact bm (kU hx) a (mem_of_mem_drop ha)
 case call f as b=>obtain⟨res,h1,h2,h3,h4⟩:=h;exact⟨res,h1,h2,h3,hk _ h2 h4⟩
 case ib g as b=>
  simp only[vm]at h⊢
  split at h
  ·obtain⟨res,h1,h2,h3,h4⟩:=h;exact⟨res,h1,h2,h3,hk _ h2 h4⟩
  ·exact h.elim
 case ldp n a=>
  simp only[apG]at h⊢
  split at h
  ·rename_i y f hy;refine⟨h.1,hk _ (qV ?_) h.2⟩;have:=D.cC hr a hc;rw[hy]at this;exact this
  ·exact h.elim
 case pu o ds=>
  unfold puK at h⊢
  split at h
  ·rename_i v hv;exact hk _ (atm hv) h
  ·exact h.elim
 case fap off a=>
  simp only[aqq]at h⊢
  split at h
  ·rename_i y f hy;refine hk _ ?_ h;have:=D.cC hr a hc;rw[hy]at this;exact this
  ·exact h.elim
theorem eL.wp_mono{r:List AV}{c:eL}{K K':Prop}(h:c.wp r K)(hk:K->K'):c.wp r K':=by
 cases c
 case cells=>exact⟨h.1,h.2.1,h.2.2.1,hk h.2.2.2⟩
 case one=>exact⟨h.1,h.2.1,hk h.2.2⟩
 case lt=>exact⟨h.1,hk h.2⟩
 case aZ a j=>simp only[eL.wp,aoU]at h⊢;split at h<;>first|exact⟨h.1,hk h.2⟩|exact h.elim
 case idx l i=>simp only[eL.wp,anv]at h⊢;split at h<;>first|exact⟨h.1,h.2.1,hk h.2.2⟩|exact h.elim
 case ahi a=>simp only[eL.wp,abK]at h⊢;split at h<;>first|exact hk h|exact h.elim
 case ne=>exact⟨h.1,hk h.2⟩
 case eql=>exact⟨h.1,hk h.2⟩
 case no=>exact h.elim
structure acT(r r':List AV)(n:Nat):Prop where
 pre:∃m,r'=r++m
 len:r'.length=n
 nor:AV.ae r'=true
theorem adO:∀(ns:List Node) {r:List AV} {K K':List AV->Prop},AV.ae r=true->dA r.length ns=true->mX P ns r K->(∀r',acT r r' (lA r.length ns)->K r'->K' r')->mX P ns r K'
 | [],r,K,K',hr,_,h,hk=>hk r ⟨⟨[],by simp⟩,rfl,hr⟩ h
 | .op o::ns,r,K,K',hr,hc,h,hk=>by
   have hc0:dA r.length [.op o]=true/\dA (r.length+1) ns=true:=by
    simp only[dA,and_eq_true,Bool.and_true]at hc⊢;exact hc
   refine PO.wp_mono hr hc0.1 h λ v hv hK=> ?_
   refine adO ns (r:=r++ [v]) (by rw[b9,hr];simp[AV.ae,hv]) (by simpa using hc0.2) hK λ r' hm hK'=>hk r' ⟨?_,?_,hm.nor⟩ hK'
   ·obtain⟨m,rfl⟩:=hm.pre;exact⟨v::m,by simp⟩
   ·rw[hm.len];simp[lA]
 | .aq c::ns,r,K,K',hr,hc,h,hk=>eL.wp_mono h λ h'=>adO ns hr (by simpa [dA]using hc) h' hk
theorem dH:∀(a b:List Node) (r:List AV) (K:List AV->Prop),mX P (a++b) r K=mX P a r λ r'=>mX P b r' K
 | [],b,r,K=>rfl
 | .op o::a,b,r,K=>by simp only[cons_append,mX,dH a]
 | .aq c::a,b,r,K=>by simp only[cons_append,mX,dH a]
end
section
variable {P:Program}
theorem zu:∀{cs:List SV} {ds:List D},aqt cs=some ds->cs=ds.map .d
 | [],ds,h=>by simp[aqt]at h;subst h;rfl
 |v::l,ds,h=>by
  cases v<;>simp only[aqt,reduceCtorEq]at h
  split at h
  ·rename_i ds' hd;cases h;rw[zu hd];rfl
  ·cases h
theorem vQ(r:List AV):∀(ds:List D),SV.bn r (ds.map .d)=D.bn r ds
 | []=>rfl
 |d::ds=>by simp only[map_cons,SV.bn,D.bn,SV.ev,vQ r ds]
theorem D.bc(r:List AV)(l:List D):D.bn r l=l.map (D.ev r):=by
 induction l with
 |nil=>rfl
 |cons a l ih=>simp[D.bn,ih]
theorem SV.bc(r:List AV)(l:List SV):SV.bn r l=l.map (SV.ev r):=by
 induction l with
 |nil=>rfl
 |cons a l ih=>simp[SV.bn,ih]
theorem alb{n:Nat}:∀{l:List D},D.cls n l=true↔∀d∈l,d.cl n=true
 | []=>by simp[D.cls]
 |a::l=>by simp[D.cls,alb (l:=l)]
theorem yB{n:Nat}:∀{l:List SV},SV.cls n l=true↔∀d∈l,d.cl n=true
 | []=>by simp[SV.cls]
 |a::l=>by simp[SV.cls,yB (l:=l)]
theorem af2(r:List AV)(i m:Nat)(h:(r.getD i .top).cells.length=m):((List.range m).map λ j=>(r.getD i .top).cells.getD j .top)=(r.getD i .top).cells:=by
 generalize (r.getD i .top).cells=l at h⊢;subst h;apply ext_getElem
 ·simp
 ·intro k h1 h2;rw[getElem_map,getElem_range,List.getD,getElem?_eq_getElem h2];rfl
theorem anT{kn:List (Nat×Nat)}{ds:List D}{i:Nat}(h:azN kn ds=some i):ds=(List.range ds.length).map λ j=> .cell i j:=by
 unfold azN at h
 split at h
 ·split at h
  ·cases h;rename_i hb;exact D.pB _ _ hb.2
  ·cases h
 ·cases h
theorem nJ{kn:List (Nat×Nat)}{v:SV}{ns:List Node}{d:D}(h:asD kn v=some (ns,d)){r:List AV}{G:List AV->Prop}(hw:mX P ns r G):G r/\d.ev r=v.ev r:=by
 unfold asD at h
 split at h
 ·cases h;exact⟨hw,rfl⟩
 ·rename_i cs
  split at h
  ·rename_i ds hd;have hcs:=zu hd;subst hcs
   split at h
   ·rename_i i hi;cases h;have he:=anT hi;simp only[mX,eL.wp,D.ev]at hw;obtain⟨h1,h2,h3,h4⟩:=hw;refine⟨h4,?_⟩;simp only[D.ev,SV.ev,vQ];rw[he,D.bc,map_map];have:=af2 r i _ h2;rw[AV.vt h1];congr 1;rw[←this]
    rfl
   ·cases h;exact⟨hw,by simp only[D.ev,SV.ev,vQ]⟩
  ·cases h
 ·cases h;exact⟨hw,rfl⟩
 ·cases h
theorem af9{kn:List (Nat×Nat)}{v:SV}{ns:List Node}{d:D}(h:asD kn v=some (ns,d))(nv:Nat):lA nv ns=nv:=by
 unfold asD at h
 split at h
 ·cases h;rfl
 ·split at h
  ·split at h<;>cases h<;>rfl
  ·cases h
 ·cases h;rfl
 ·cases h
theorem lS(nv:Nat):∀(a b:List Node),lA nv (a++b)=lA (lA nv a) b:=by
 intro a
 induction a generalizing nv with
 |nil=>intro b;rfl
 |cons x a ih=>intro b;cases x<;>simp[lA,ih]
theorem gw{s:SS}{n:Nat}{l:D}{nl:Bool}{e sz:Nat}(h:cur s n l=some (nl,e,sz)):s.aE[n]? =some (.row nl e sz l):=by
 unfold cur at h
 split at h
 ·rename_i l' ho
  split at h
  ·rename_i hb;cases h;rw[ho,D.beq_eq _ _ hb]
  ·cases h
 ·cases h
theorem mn{s:SS}{n e:Nat}{cs:List SV}(h:qy s n=some (e,cs)):s.aE[n]? =some (.box e cs):=by
 unfold qy at h
 split at h
 ·rename_i ho;cases h;exact ho
 ·cases h
theorem j2{s:SS}{n:Nat}{o:SO}(h:s.aE[n]? =some o)(r:List AV):(cr s r)[n]? =some (o.ev r):=by
 simp[cr,h]
theorem fV(s:SS)(r:List AV):(cr s r).length=s.aE.length:=by simp[cr]
theorem gu{cs:List AV}(h:cs.length≠1):qe cs= .agg cs:=by
 unfold qe
 split
 ·simp at h
 ·rfl
theorem xy{cs:List SV}(ht:rC cs=true){r:List AV}{G:List AV->Prop}(hw:mX P (nU cs) r G):G r/\∀c∈SV.bn r cs,c.cB=true:=by
 induction cs with
 |nil=>exact⟨hw,by simp[SV.bn]⟩
 |cons v l ih=>
  cases v with
  |d x=>
   simp only[nU,mX,eL.wp]at hw;obtain⟨h1,h2,h3⟩:=hw;obtain⟨h4,h5⟩:=ih (by simpa [rC]using ht) h3;refine⟨h4,λ c hc=> ?_⟩;simp only[SV.bn,SV.ev,mem_cons]at hc;rcases hc with rfl|hc
   ·exact h2
   ·exact h5 c hc
  |top=>simp[rC]at ht
  |agg _=>simp[rC]at ht
  |aZ _=>simp[rC]at ht
  |_=>
   simp only[nU]at hw;obtain⟨h4,h5⟩:=ih (by simpa [rC]using ht) hw;refine⟨h4,λ c hc=> ?_⟩;simp only[SV.bn,SV.ev,mem_cons]at hc;rcases hc with rfl|hc
   ·rfl
   ·exact h5 c hc
theorem ar7(cs:List SV)(nv:Nat):lA nv (nU cs)=nv:=by
 induction cs with
 |nil=>rfl
 |cons v l ih=>cases v<;>simp[nU,lA,ih]
structure au0(m:Nat)(a:AV)(cs:List AV):Prop where
 len:a.cells.length=m
 sto:a.storable=true
 cells:a.cells=cs
 kind:(a.cB||a.isAgg)=true
 one:m=1->a.cB=true
 agg:m≠1->a.isAgg=true
theorem rZ{a:AV}(h:a.cB=true):a.storable=true:=by
 unfold AV.storable;rw[AV.jn h];simp[h]
theorem au0.qe{m:Nat}{a:AV}{cs:List AV}(h:au0 m a cs):a=qe cs:=by
 by_cases hm:m=1
 ·have:=AV.jn (h.one hm);rw[←h.cells,this];rfl
 ·rw[gu (by rw[←h.cells,h.len];exact hm),←h.cells];exact AV.vt (h.agg hm)
theorem th{nv m:Nat}{v:SV}{ns:List Node}{cs:List SV}(h:expand nv m v=some (ns,cs)){r:List AV}(hl:r.length=nv)(hv:v.cl nv=true){G:List AV->Prop}(hw:mX P ns r G):
  ∃r',(∃more,r'=r++more)/\r'.length=lA nv ns/\G r'/\au0 m (v.ev r) (SV.bn r' cs):=by
 unfold expand at h
 split at h
 ·rename_i hm;subst hm;have one:∀{a:AV},a.cB=true->au0 1 a [a]:=λ {a} ha=>⟨by rw[AV.jn ha];rfl,rZ ha,AV.jn ha,by rw[ha];rfl,λ _=>ha,λ h=>(h rfl).elim⟩
  split at h
  ·rename_i x;cases h;simp only[mX,eL.wp]at hw;exact⟨r,⟨[],by simp⟩,hl,hw.2.2,one hw.2.1⟩
  ·cases h
  ·cases h
  ·cases h
  ·rename_i h1 h2 h4 h3;cases h;refine⟨r,⟨[],by simp⟩,hl,hw,?_⟩;cases v
   case d x=>exact(h1 x rfl).elim
   case agg x=>exact(h2 x rfl).elim
   case aZ x=>exact(h4 x rfl).elim
   case top=>exact(h3 rfl).elim
   all_goals exact one rfl
 ·rename_i hm;have agg:∀{a:AV} {cs:List AV},a.isAgg=true->a.cells.length=m->a.storable=true->a.cells=cs->au0 m a cs:=λ {a cs} h1 h2 h3 h4=>⟨h2,h3,h4,by rw[h1];simp,λ h=>(hm h).elim,λ _=>h1⟩
  split at h
  ·rename_i cs'
   split at h
   ·rename_i hc;cases h;obtain⟨h1,h2⟩:=xy hc.2 hw;refine⟨r,⟨[],by simp⟩,by rw[ar7,hl],h1,agg rfl ?_ ?_ rfl⟩
    ·simp[SV.ev,AV.cells,SV.bc,hc.1]
    ·simp only[SV.ev,AV.storable,AV.cells,List.all_eq_true];exact h2
   ·cases h
  ·rename_i i;cases h;simp only[mX,eL.wp,D.ev]at hw;obtain⟨h1,h2,h3,h4⟩:=hw;refine⟨r,⟨[],by simp⟩,hl,h4,agg h1 h2 h3 ?_⟩;simp only[SV.ev,D.ev];rw[←af2 r i m h2,SV.bc,map_map]
   rfl
  ·rename_i l
   split at h
   ·rename_i hll;cases h;simp only[mX,eL.wp]at hw;obtain⟨h1,h2,h3,h4⟩:=hw;exact⟨r,⟨[],by simp⟩,hl,h4,agg h1 h2 h3 (by simp only[SV.ev,D.ev,AV.cells];rw[vQ])⟩
   ·cases h
  ·rename_i l
   split at h
   ·rename_i hll;cases h;simp only[mX,eL.wp]at hw;obtain⟨h1,h2,h3,h4⟩:=hw;refine⟨r,⟨[],by simp⟩,hl,h4,agg h1 h2 h3 ?_⟩;simp only[SV.ev,D.ev,AV.cells,SV.bc,map_map];exact(map_id l).symm
   ·cases h
  ·rename_i x _ _ _;cases h;simp only[mX,PO.wp,eL.wp]at hw;have hx:(r++ [x.ev r]).getD nv .top=x.ev r:=by simp[List.getD,←hl]
   simp only[D.ev,hx]at hw;obtain⟨h1,h2,h3,h4⟩:=hw;refine⟨r++ [x.ev r],⟨_,rfl⟩,by simp[lA,hl],h4,agg h1 h2 h3 ?_⟩;simp only[SV.ev];have:=af2 (r++ [x.ev r]) nv m (by rw[hx];exact h2);rw[hx]at this;rw[←this,SV.bc,map_map];apply map_congr_left;intro j _;simp only[Function.comp,SV.ev,D.ev,hx]
  ·cases h
theorem dG{r:List AV}{nv:Nat}(h:r.length=nv)(a:AV):(r++ [a]).getD nv .top=a:=by simp[List.getD,←h]
theorem D.ade{s:SS}{x:Option bj}{d:Option D}(h:agx s x=some d)(r:List AV):D.evo r d=x.map (bj.ev (cG s r)):=by
 unfold agx at h
 split at h
 ·cases h;rfl
 ·rename_i o
  split at h
  ·rename_i y hy;cases h;have:=bq s o r;rw[hy]at this;simp only[D.evo,map_some,←this];rfl
  ·cases h
end
section
variable {P:Program}
theorem PO.ru{r:List AV}{o:PO}{K K':AV->Prop}(h:o.wp P r K)(hk:∀v,K v->K' v):o.wp P r K':=by
 cases o<;>simp only[PO.wp]at h⊢
 case val=>exact hk _ h
 case pick=>exact aap (K:=λ x _=>K x) (K':=λ x _=>K' x) h λ x hx=>hk x hx
 case bin=>exact af7 (K:=λ x _=>K x) (K':=λ x _=>K' x) h λ x _ hx=>hk x hx
 case beq=>simp only[alg]at h⊢;split at h<;>first|exact hk _ h|exact h.elim
 case un=>exact ajz (K:=λ x _=>K x) (K':=λ x _=>K' x) h λ x _ hx=>hk x hx
 case conv=>exact aa1 (K:=λ x _=>K x) (K':=λ x _=>K' x) h λ x _ hx=>hk x hx
 case elem=>simp only[jE]at h⊢;split at h<;>first|exact⟨h.1,h.2.1,h.2.2.1,hk _ h.2.2.2⟩|exact h.elim
 case zq=>exact anL (K:=λ x _=>K x) (K':=λ x _=>K' x) h λ x _ hx=>hk x hx
 case tM=>exact⟨h.1,hk _ h.2⟩
 case lU=>exact aaP (K:=λ x _=>K x) (K':=λ x _=>K' x) h λ x _ hx=>hk x hx
 case fX=>exact uJ (K:=λ x _=>K x) (K':=λ x _=>K' x) h λ x _ hx=>hk x hx
 case cj=>exact qN (K:=λ x _=>K x) (K':=λ x _=>K' x) h λ x _ hx=>hk x hx
 case oz=>exact aaA (K:=λ x _=>K x) (K':=λ x _=>K' x) h λ x _ hx=>hk x hx
 case ch=>exact afa (K:=λ x _=>K x) (K':=λ x _=>K' x) h λ x _ hx=>hk x hx
 case iE=>exact hk _ h
 case rep=>simp only[amM]at h⊢;split at h<;>first|exact⟨h.1,h.2.1,h.2.2.1,h.2.2.2.1,hk _ h.2.2.2.2⟩|exact h.elim
 case app=>exact vA (M':=λ ys=>_/\_/\_/\K' _) h λ ys _ hK=>⟨hK.1,hK.2.1,hK.2.2.1,hk _ hK.2.2.2⟩
 case get=>exact⟨h.1,h.2.1,hk _ h.2.2⟩
 case set=>exact⟨h.1,h.2.1,h.2.2.1,h.2.2.2.1,hk _ h.2.2.2.2⟩
 case call=>obtain⟨res,h1,h2,h3,h4⟩:=h;exact⟨res,h1,h2,h3,hk _ h4⟩
 case gq=>obtain⟨xs,h1,h2,h3⟩:=h;exact⟨xs,h1,h2,hk _ h3⟩
 case aY=>obtain⟨os,h1,h2,h3,h4⟩:=h;exact⟨os,h1,h2,h3,hk _ h4⟩
 case ib=>
  simp only[vm]at h⊢
  split at h
  ·obtain⟨res,h1,h2,h3,h4⟩:=h;exact⟨res,h1,h2,h3,hk _ h4⟩
  ·exact h.elim
 case ldp=>simp only[apG]at h⊢;split at h<;>first|exact⟨h.1,hk _ h.2⟩|exact h.elim
 case fap=>simp only[aqq]at h⊢;split at h<;>first|exact hk _ h|exact h.elim
 case pu=>unfold puK at h⊢;split at h<;>first|exact hk _ h|exact h.elim
theorem pU:∀(ns:List Node) {r:List AV} {G G':List AV->Prop},(∀m,G (r++m)->G' (r++m))->mX P ns r G->mX P ns r G'
 | [],r,G,G',hg,h=>by have:=hg [];simp only[append_nil]at this;exact this h
 | .op o::ns,r,G,G',hg,h=>PO.ru h λ v hv=>pU ns (λ m hm=>by rw[List.append_assoc]at hm⊢;exact hg _ hm) hv
 | .aq c::ns,r,G,G',hg,h=>eL.wp_mono h (pU ns hg)
def gy(P:Program)(op:gj)(s:SS)(q:List Node×SV×SS):Prop:=
 ∀(r:List AV),r.length=s.nv->s.cl=true->AV.ae r=true->dA s.nv q.1=true->∀K:KT,mX P q.1 r (λ r'=>cG q.2.2 r'=cG s r->K (q.2.1.ev r') (cr q.2.2 r'))->wpOp P op (cG s r) (cr s r) K
theorem apu{s:SS}{r:List AV}(hl:r.length=s.nv)(hc:s.cl=true){ns:List Node}(hn:lA s.nv ns=s.nv){o:PO}{K:KT}{x:AV}(h:cG (nx s ns o).2.2 (r++ [x])=cG s r->K ((nx s ns o).2.1.ev (r++ [x])) (cr (nx s ns o).2.2 (r++ [x]))):K x (cr s r):=by
 have h1:cG (nx s ns o).2.2 (r++ [x])=cG s r:=jt (s:=s) hl hc;have h2:=h h1;have h3:cr (nx s ns o).2.2 (r++ [x])=cr s r:=j8 (s:=s) hl hc;rw[h3]at h2
 have h4:(nx s ns o).2.1.ev (r++ [x])=x:=by
  simp only[nx,SV.ev,D.ev,hn];exact dG hl x
 rwa [h4]at h2
theorem oq{s:SS}{r:List AV}(hl:r.length=s.nv)(hc:s.cl=true){o:PO}{K:KT}(h:mX P (nx s [] o).1 r (λ r'=>cG (nx s [] o).2.2 r'=cG s r->K ((nx s [] o).2.1.ev r') (cr (nx s [] o).2.2 r'))):o.wp P r λ v=>K v (cr s r):=
 PO.ru (o:=o) h λ _ hv=>apu (ns:=[]) (o:=o) hl hc rfl hv
theorem aGW(s:SS)(a:bj):gy P (.bD a) s ([],ey s a,s):=by
 intro r hl hc hr kY K h;have:=h rfl;rwa [bq]at this
theorem aAw{s:SS}{t n:Nat}{z:AV}{q}(h:aoN s t n z=some q):gy P (.alloc t n z) s q:=by
 intro r hl hc hr kY K hk;unfold aoN at h
 split at h
 ·rename_i hn;cases h;have:=hk rfl;simp only[cr,map_append,map_cons,map_nil,SO.ev,SV.bn,SV.ev,D.ev,qe]at this;simp only[wpOp];rw[fV,hn.1];exact this
 ·split at h
  ·rename_i cs _
   split at h
   ·rename_i hn;cases h;have:=hk rfl
    have he:SV.bn r (cs.map λ a=> .d (.c a))=cs:=by
     rw[SV.bc,map_map];exact map_id cs
    simp only[cr,map_append,map_cons,map_nil,SO.ev,he,length_map,SV.ev]at this;rw[gu (by rw[hn.2];exact hn.1),hn.2]at this;simp only[wpOp];rw[fV];exact this
   ·cases h
  ·cases h
theorem aIf{s:SS}{t n:Nat}{a:bj}{q}(ha:(ey s a).cl s.nv=true)(h:aF5 s t n (ey s a)=some q):gy P (.box t n a) s q:=by
 intro r hl hc hr kY K hk;unfold aF5 at h
 split at h
 ·rename_i ns cs he
  split at h
  ·rename_i hcs;cases h;obtain⟨r',⟨more,rfl⟩,hlen,hG,hE⟩:=th he hl ha hk;have hG:=hG (jt (s:=s) hl hc);simp only[wpOp,←bq]
   have rK:cr {s with aE:=s.aE++ [.box t cs],nv:=lA s.nv ns} (r++more)=cr s r++ [.live t n [(ey s a).ev r]]:=by
    simp only[cr,map_append,map_cons,map_nil,SO.ev];rw[hE.qe,hcs];congr 1;exact j8 (s:=s) hl hc
   rw[rK]at hG;rw[fV];exact⟨hE.len,hE.sto,hG⟩
  ·cases h
 ·cases h
theorem apK{s:SS}{k t m:Nat}(h:kept s k t m=true)(r:List AV):(cr s r)[k]? =some (.nil t m):=by
 unfold kept at h
 split at h
 ·rename_i t' m' ho;simp only[and_eq_true,decide_eq_true_eq]at h;obtain⟨rfl,rfl⟩:=h;rw[j2 ho r];simp[SO.ev,D.ev,aU]
 ·cases h
theorem aqE{s:SS}{k t n:Nat}{z:AV}{q}(hz:z.ag=true)(h:adN s k t n z=some q):gy P (.jo k t n z) s q:=by
 intro r hl hc hr kY K hk;unfold adN at h
 split at h
 ·rename_i hkp;have hO:=apK hkp r
  have fin:∀cs:List AV,cs.length=n->qe cs=z->q=([],.ptr k 0,{s with aE:=s.aE.set k (.box t (cs.map λ a=> .d (.c a)))})->wpOp P (.jo k t n z) (cG s r) (cr s r) K:=by
   rintro cs hcs hz' rfl;have:=hk rfl
   have hev:SV.bn r (cs.map λ a=>SV.d (.c a))=cs:=by
    rw[SV.bc,map_map]
    conv=>rhs;rw[←map_id cs]
    rfl
   simp only[cr,map_set,SO.ev,hev,hz',length_map,hcs]at this;exact⟨hz,hO,this⟩
  split at h
  ·rename_i hn;cases h;exact fin [z] hn.1.symm rfl rfl
  ·split at h
   ·rename_i cs _
    split at h
    ·rename_i hn;cases h;exact fin cs hn.2 (gu (by rw[hn.2];exact hn.1)) rfl
    ·cases h
   ·cases h
 ·cases h
theorem aIg{s:SS}{o:BinOp}{a b:bj}{x y:D}(ha:ey s a= .d x)(hb:ey s b= .d y):gy P (.bin o a b) s (nx s [] (.bin o x y)):=by
 intro r hl hc hr kY K hk;rw[aFu,←bq,←bq,ha,hb];exact af7 (O:=[]) (K:=λ x _=>K x (cr s r)) (oq hl hc hk) λ v _ hv=>hv
theorem aIh{s:SS}{neg:Bool}{a b:bj}{x y:D}(ha:ey s a= .d x)(hb:ey s b= .d y):gy P (.beq neg a b) s (nx s [] (.beq neg x y)):=by
 intro r hl hc hr kY K hk;have h1:=oq (K:=K) hl hc hk;simp only[PO.wp,alg]at h1;simp only[wpOp,←bq,ha,hb,SV.ev]
 split at h1
 ·rename_i p q hp hq;rw[hp,hq];exact h1
 ·exact h1.elim
theorem aLJ{s:SS}{o:UnOp}{a:bj}{x:D}(ha:ey s a= .d x):gy P (.un o a) s (nx s [] (.un o x)):=by
 intro r hl hc hr kY K hk;rw[aMp,←bq,ha];exact ajz (O:=[]) (K:=λ x _=>K x (cr s r)) (oq hl hc hk) λ v _ hv=>hv
theorem aCU{s:SS}{k:IntKind}{a:bj}{x:D}(ha:ey s a= .d x):gy P (.mS k a) s (nx s [] (.conv k x)):=by
 intro r hl hc hr kY K hk;rw[axW,←bq,ha];exact aa1 (O:=[]) (K:=λ x _=>K x (cr s r)) (oq hl hc hk) λ v _ hv=>hv
theorem aCi{s:SS}{a b:bj}{x y:D}(ha:ey s a= .d x)(hb:ey s b= .d y):gy P (.lU a b) s (nx s [] (.lU x y)):=by
 intro r hl hc hr kY K hk;rw[axV,←bq,←bq,ha,hb];exact aaP (O:=[]) (K:=λ x _=>K x (cr s r)) (oq hl hc hk) λ v _ hv=>hv
theorem aBX{s:SS}{a:bj}{x:D}(ha:ey s a= .d x):gy P (.oz a) s (nx s [] (.oz x)):=by
 intro r hl hc hr kY K hk;rw[axU,←bq,ha];exact aaA (O:=[]) (K:=λ x _=>K x (cr s r)) (oq hl hc hk) λ v _ hv=>hv
theorem aBY{s:SS}{a:bj}{x:D}(ha:ey s a= .d x):gy P (.ch a) s (nx s [] (.ch x)):=by
 intro r hl hc hr kY K hk;rw[aps,←bq,ha];exact aiQ (K:=λ x _=>K x (cr s r)) (oq hl hc hk) λ v _ hv=>hv
theorem gv(xs:List AV):aU (.sl xs)=xs:=rfl
theorem iM{s:SS}{n e sz:Nat}{nl:Bool}{l:D}(h:s.aE[n]? =some (.row nl e sz l))(r:List AV):
  (cr s r)[n]? =some (.live e sz (aU (l.ev r)))∨((cr s r)[n]? =some (.nil e sz)/\aU (l.ev r)= []/\nl=true):=by
 have:=j2 h r;cases nl with
 |false=>exact .inl this
 |true=>
  simp only[SO.ev]at this
  split at this
  ·rename_i hx;exact .inr ⟨this,hx,rfl⟩
  ·exact .inl this
theorem ayl{s:SS}{a:bj}{k:Nat}{l:D}(ha:ey s a= .row k l)(oL:(cur s k l).isSome=true):gy P (.ch a) s (nx s [] (.ch (.sl l))):=by
 intro r hl hc hr kY K hk;rw[aps,←bq,ha];obtain⟨⟨nl,e,sz⟩,hq⟩:=Option.isSome_iff_exists.1 oL;have ho:=gw hq;have hf:=oq hl hc hk;simp only[PO.wp,D.ev,ae8,k1]at hf;simp only[SV.ev,qj];rcases iM ho r with h|⟨h,hx,_⟩
 ·rw[h,sh];exact⟨rfl,hf⟩
 ·rw[hx]at hf⊢;rw[h,uR];exact⟨rfl,hf⟩
theorem as1{s:SS}{a:bj}{lo hi:Option bj}{x:D}{dl dh:Option D}(ha:ey s a= .d x)(h1:agx s lo=some dl)(h2:agx s hi=some dh):gy P (.fX a lo hi) s (nx s [] (.fX x dl dh)):=by
 intro r hl hc hr kY K hk;rw[am0,←bq,ha,←D.ade h1,←D.ade h2];exact uJ (O:=[]) (K:=λ x _=>K x (cr s r)) (oq hl hc hk) λ v _ hv=>hv
theorem as2{s:SS}{m:Nat}{a:bj}{lo hi:Option bj}{x:D}{dl dh:Option D}(ha:ey s a= .d x)(h1:agx s lo=some dl)(h2:agx s hi=some dh):gy P (.cj m a lo hi) s (nx s [] (.cj m x dl dh)):=by
 intro r hl hc hr kY K hk;rw[am1,←bq,ha,←D.ade h1,←D.ade h2];exact qN (O:=[]) (K:=λ x _=>K x (cr s r)) (oq hl hc hk) λ v _ hv=>hv
theorem aCT{s:SS}{m:Nat}{a h k:bj}{x dh dk:D}(ha:ey s a= .d x)(h1:ey s h= .d dh)(h2:ey s k= .d dk)(hb:dh.beq dk=true):gy P (.acQ m a h k) s (nx s [] (.cj m x none (some dh))):=by
 intro r hl hc hr kY K hk;have e:=D.beq_eq _ _ hb;subst e;have q:lJ m (x.ev r) none (some (dh.ev r)) (cr s r) K:=qN (O:=[]) (K:=λ x _=>K x (cr s r)) (oq hl hc hk) λ v _ hv=>hv
 have e1:bj.ev (cG s r) a=x.ev r:=by rw[←bq,ha];rfl
 have e2:bj.ev (cG s r) h=dh.ev r:=by rw[←bq,h1];rfl
 have e3:bj.ev (cG s r) k=dh.ev r:=by rw[←bq,h2];rfl
 simp only[wpOp,e1,e2,e3];unfold lJ at q
 split at q
 ·rename_i xs hx;rw[hx];generalize D.ev r dh=v at q⊢;cases v<;>try exact q.elim
  rename_i v;cases v<;>try exact q.elim
  obtain⟨h1,h2,h3,h4,h5⟩:=q;exact⟨h2,Int.le_refl _,h3,h4,by simpa using h5⟩
 ·exact q.elim
theorem aBv{s:SS}{c a b:bj}{x:D}{na nb:List Node}{y z:D}(nS:ey s c= .d x)(ha:asD s.kn (ey s a)=some (na,y))(hb:asD s.kn (ey s b)=some (nb,z)):gy P (.pick c a b) s (nx s (na++nb) (.pick x y z)):=by
 intro r hl hc hr kY K hk;have h1:lA s.nv (na++nb)=s.nv:=by rw[lS,af9 ha,af9 hb]
 simp only[nx,dH]at hk;obtain⟨hk,e1⟩:=nJ ha hk;obtain⟨hk,e2⟩:=nJ hb hk;rw[apr,←bq,←bq,←bq,nS,←e1,←e2];have:=PO.ru (o:= .pick x y z) hk λ v hv=>apu (o:= .pick x y z) (K:=K) hl hc h1 hv
 exact aap (O:=[]) (K:=λ x _=>K x (cr s r)) this λ v hv=>hv
theorem axJ{s:SS}{c a b:bj}{t:Bool}(nS:ey s c= .d (.c (.v (.bool t)))):gy P (.pick c a b) s ([],if t then ey s a else ey s b,s):=by
 intro r hl hc hr kY K hk;have:=hk rfl;rw[apr,←bq,nS];simp only[SV.ev,D.ev,sf];cases t<;>simpa [bq]using this
theorem aeW{s:SS}{r:List AV}(hl:r.length=s.nv)(hc:s.cl=true){ns:List Node}{cs:List SV}{K:KT}
  (h:mX P (norm s ns cs).1 r (λ r2=>cG (norm s ns cs).2.2 r2=cG s r->K ((norm s ns cs).2.1.ev r2) (cr (norm s ns cs).2.2 r2))):mX P ns r (λ r2=>K (.agg (SV.bn r2 cs)) (cr s r)):=by
 unfold norm at h
 split at h
 ·rename_i ms x hx;simp only[done,dH]at h;refine pU ns (λ m h2=> ?_) h;obtain⟨h3,h4⟩:=nJ hx h2;have h5:=h3 (jt (s:=s) hl hc);simp only[SV.ev]at h5 h4;rw[h4]at h5;have:cr {s with nv:=lA s.nv (ns++ms)} (r++m)=cr s r:=j8 (s:=s) hl hc;rwa [this]at h5
 ·simp only[done]at h;refine pU ns (λ m h2=> ?_) h;have h5:=h2 (jt (s:=s) hl hc);simp only[SV.ev]at h5;have:cr {s with nv:=lA s.nv ns} (r++m)=cr s r:=j8 (s:=s) hl hc;rwa [this]at h5
end
section
variable {P:Program}
theorem ajf{r m:List AV}{cs:List SV}(h:∀c∈cs,c.cl r.length=true):SV.bn (r++m) cs=SV.bn r cs:=SV.iQ cs (yB.2 h)
theorem auw{nv m:Nat}{v:SV}{ns:List Node}{cs:List SV}(h:expand nv m v=some (ns,cs))(hv:v.cl nv=true):∀c∈cs,c.cl (lA nv ns)=true:=by
 unfold expand at h
 split at h
 ·split at h
  ·cases h;simpa [SV.cl,lA]using hv
  ·cases h
  ·cases h
  ·cases h
  ·cases h;simpa [lA]using hv
 ·split at h
  ·split at h
   ·cases h;rw[ar7];exact yB.1 hv
   ·cases h
  ·cases h;simp only[mem_map,lA];rintro c ⟨j,_,rfl⟩;exact hv
  ·split at h
   ·cases h;simp only[mem_map,lA];rintro c ⟨d,hd,rfl⟩;exact alb.1 (by simpa [SV.cl,D.cl]using hv) d hd
   ·cases h
  ·split at h
   ·cases h;simp only[mem_map,lA];rintro c ⟨d,hd,rfl⟩;exact bm (by simpa [SV.cl,D.cl,AV.ag]using hv) d hd
   ·cases h
  ·cases h;simp only[mem_map,lA];rintro c ⟨j,_,rfl⟩;simp[SV.cl,D.cl]
  ·cases h
mutual
theorem abV{n m:Nat}(h:n<=m):∀(d:D),d.cl n=true->d.cl m=true
 | .x i=>by simp only[D.cl,decide_eq_true_eq];omega
 | .c a=>id
 | .cell i j=>by simp only[D.cl,decide_eq_true_eq];omega
 | .ext i j=>by simp only[D.cl,decide_eq_true_eq];omega
 | .sl l=>by simpa only[D.cl]using abV h l
 | .agg l=>by simpa only[D.cl]using aqy h l
 | .fn f l=>by simpa only[D.cl]using aqy h l
 | .ip d f=>by simpa only[D.cl]using abV h d
theorem aqy{n m:Nat}(h:n<=m):∀(l:List D),D.cls n l=true->D.cls m l=true
 | []=>id
 |d::l=>by
  simp only[D.cls,and_eq_true];exact λ q=>⟨abV h d q.1,aqy h l q.2⟩
end
mutual
theorem aj2{n m:Nat}(h:n<=m):∀(v:SV),v.cl n=true->v.cl m=true
 | .d x=>abV h x
 | .row k l=>abV h l
 | .ptr k f=>id
 | .rp k l i f=>by simp only[SV.cl,and_eq_true];exact λ q=>⟨abV h l q.1,abV h i q.2⟩
 | .ip x f=>abV h x
 | .agg cs=>by simpa only[SV.cl]using aj1 h cs
 | .aZ cs=>by simpa only[SV.cl]using aj1 h cs
 | .top=>id
theorem aj1{n m:Nat}(h:n<=m):∀(l:List SV),SV.cls n l=true->SV.cls m l=true
 | []=>id
 |d::l=>by
  simp only[SV.cls,and_eq_true];exact λ q=>⟨aj2 h d q.1,aj1 h l q.2⟩
end
theorem ako:∀(ns:List Node) (nv:Nat),nv<=lA nv ns
 | [],nv=>le_refl _
 | .op o::ns,nv=>Nat.le_trans (Nat.le_succ _) (ako ns (nv+1))
 | .aq c::ns,nv=>ako ns nv
theorem ac0{s:SS}(h:s.cl=true){x:bj}(hx:aeR x=true):(ey s x).cl s.nv=true:=by
 cases x with
 |t n=>exact SS.tm h n
 |c a=>exact hx
theorem abA{s:SS}(hc:s.cl=true):∀(ps:List (Nat×Nat×bj)) (ns:List Node) (cs:List SV) {ns':List Node} {cs':List SV},adL s ns cs ps=some (ns',cs')->ps.all (λ p=>aeR p.2.2)=true->(∀c∈cs,c.cl (lA s.nv ns)=true)->
  ∃ms,ns'=ns++ms/\∀(r:List AV),r.length=s.nv->∀(r1:List AV),(∃m,r1=r++m)->r1.length=lA s.nv ns->∀{M:AV->Prop} {G:List AV->Prop},mX P ms r1 G->(∀m,G (r1++m)->M (.agg (SV.bn (r1++m) cs')))->lW (cG s r) (SV.bn r1 cs) ps M
 | [],ns,cs,ns',cs',h,_,_=>by
   simp only[adL,Option.some.injEq,Prod.mk.injEq]at h;obtain⟨rfl,rfl⟩:=h;refine⟨[],by simp,λ r _ r1 _ _ M G hw hG=> ?_⟩;have:=hG [] (by rw[append_nil];exact hw);simpa [lW]using this
 |(off,size,x)::ps,ns,cs,ns',cs',h,ho,hcs=>by
  simp only[adL]at h
  split at h
  ·rename_i ms vs he
   split at h
   ·rename_i hv;simp only[all_cons,and_eq_true]at ho;have hx:(ey s x).cl (lA s.nv ns)=true:=aj2 (ako ns s.nv) _ (ac0 hc ho.1);have hvc:=auw he hx
    obtain⟨ms',rfl,ih⟩:=abA hc ps _ _ h ho.2 (by
     intro c hm;rw[lS];simp only[List.mem_append]at hm;have hle:=ako ms (lA s.nv ns);rcases hm with(hm|hm)|hm
     ·exact aj2 hle c (hcs c (mem_of_mem_take hm))
     ·exact hvc c hm
     ·exact aj2 hle c (hcs c (mem_of_mem_drop hm)))
    refine⟨ms++ms',by simp,λ r hl r1 hp hl1 M G hw hG=> ?_⟩;rw[dH]at hw;obtain⟨r2,⟨m,rfl⟩,hl2,hw2,hE⟩:=th he hl1 hx hw
    have hev:(ey s x).ev r1=x.ev (cG s r):=by
     obtain⟨m0,rfl⟩:=hp;rw[SV.dP _ (by rw[hl];exact ac0 hc ho.1),bq]
    rw[hev]at hE;simp only[lW];refine⟨hE.len,hE.kind,by rw[SV.bc,length_map];exact hv.2,?_⟩;have aQ9:SV.bn (r1++m) cs=SV.bn r1 cs:=ajf (by rw[hl1];exact hcs)
    have h1:(SV.bn r1 cs).take off++(x.ev (cG s r)).cells++(SV.bn r1 cs).drop (off+size)=SV.bn (r1++m) (cs.take off++vs++cs.drop (off+size)):=by
     rw[hE.cells,←aQ9];simp only[SV.bc,map_append,map_take,map_drop]
    rw[h1]
    exact ih r hl (r1++m) (by obtain⟨m0,rfl⟩:=hp;exact⟨m0++m,by simp⟩) (by rw[hl2,lS]) hw2 λ m' hm'=>by
     rw[List.append_assoc]at hm'⊢;exact hG _ hm'
   ·cases h
  ·cases h
theorem aAf{s:SS}{z:List AV}{ps:List (Nat×Nat×bj)}{q}(ho:ps.all (λ p=>aeR p.2.2)=true)(hz:AV.ae z=true)(h:aoM s z ps=some q):gy P (.build z ps) s q:=by
 intro r hl hc hr kY K hk;unfold aoM at h
 split at h
 ·rename_i ns cs hp;cases h
  obtain⟨ms,rfl,hs⟩:=abA (P:=P) hc ps [] _ hp ho (by
   simp only[mem_map];rintro c ⟨a,ha,rfl⟩;exact bm hz a ha)
  have:=aeW (K:=K) hl hc hk
  have he:SV.bn r (z.map λ a=> .d (.c a))=z:=by
   rw[SV.bc,map_map];exact map_id z
  have h2:=hs r hl r ⟨[],by simp⟩ (by simp[hl,lA]) (M:=λ a=>K a (cr s r)) this (λ m hm=>hm);rw[he]at h2;exact h2
 ·cases h
theorem abW{m:Nat}{d:D}{r:List AV}{G:List AV->Prop}(h:mX P [sA m d] r G):G r/\au0 m (d.ev r) (d.ev r).cells:=by
 unfold sA at h
 split at h
 ·rename_i hm;subst hm;obtain⟨h1,h2,h3⟩:=h;exact⟨h3,h1,rZ h2,rfl,by rw[h2];rfl,λ _=>h2,λ h=>(h rfl).elim⟩
 ·rename_i hm;obtain⟨h1,h2,h3,h4⟩:=h;exact⟨h4,h2,h3,rfl,by rw[h1];simp,λ h=>(hm h).elim,λ _=>h1⟩
theorem an2(m:Nat)(d:D)(nv:Nat):lA nv [sA m d]=nv:=by unfold sA;split<;>rfl
theorem vh{s:SS}{m len:Nat}:∀{ps:List (Nat×bj)} {ns:List Node} {qs:List (Nat×D)},xc s m len ps=some (ns,qs)->lA s.nv ns=s.nv/\∀{r:List AV} {G:List AV->Prop},mX P ns r G->G r/\
  ∀(z:List AV) (M:List AV->Prop),z.length=len->M (kl z (qs.map λ p=>(p.1,p.2.ev r)))->uO (cG s r) m z ps M
 | [],ns,qs,h=>by
   simp only[xc,Option.some.injEq,Prod.mk.injEq]at h;obtain⟨rfl,rfl⟩:=h;exact⟨rfl,λ hw=>⟨hw,λ z M _ hM=>hM⟩⟩
 |(i,x)::ps,ns,qs,h=>by
  simp only[xc]at h
  split at h
  ·rename_i ns1 d ms qs1 h1 h2
   split at h
   ·rename_i hi;cases h;obtain⟨h3,ih⟩:=vh h2;refine⟨?_,λ {r G} hw=> ?_⟩
    ·rw[show ns1++sA m d::ms=ns1++([sA m d]++ms) by simp,lS,lS,af9 h1,an2,h3]
    ·rw[show ns1++sA m d::ms=ns1++([sA m d]++ms) by simp,dH]at hw;obtain⟨hw,he⟩:=nJ h1 hw;rw[dH]at hw;obtain⟨hw,hE⟩:=abW hw;obtain⟨hG,mz⟩:=ih hw;refine⟨hG,λ z M hz hM=> ?_⟩;rw[he,bq]at hE;simp only[uO];refine⟨hE.len,hE.sto,by omega,mz _ M (by simpa using hz) ?_⟩;simp only[map_cons,kl,he,bq]at hM;exact hM
   ·cases h
  ·cases h
theorem apA{s:SS}{t m:Nat}{ns:List Node}{o:PO}{q}(h:newRow s t m (nx s ns o)=some q)(hn:lA s.nv ns=s.nv){r:List AV}(hl:r.length=s.nv)(hc:s.cl=true){K:KT}
  (hk:mX P q.1 r (λ r'=>cG q.2.2 r'=cG s r->K (q.2.1.ev r') (cr q.2.2 r'))):
  mX P ns r λ r1=>r1=r->o.wp P r λ v=>K (.row s.aE.length (aU v).length) (cr s r++ [.live t m (aU v)]):=by
 simp only[newRow,nx,Option.some.injEq]at h;subst h;simp only[dH]at hk;refine pU ns (λ mm hw he=> ?_) hk;rw[he]at hw;refine PO.ru (o:=o) hw λ v hv=> ?_
 have h1:cG {s with aE:=s.aE++ [.row false t m (.x (lA s.nv ns))],nv:=lA s.nv ns+1} (r++ [v])=cG s r:=jt (s:=s) hl hc;have h2:=hv h1
 have h3:cr {s with aE:=s.aE++ [.row false t m (.x (lA s.nv ns))],nv:=lA s.nv ns+1} (r++ [v])=cr s r++ [.live t m (aU v)]:=by
  simp only[cr,map_append,map_cons,map_nil,SO.ev,D.ev,hn,dG hl];congr 1;exact j8 (s:=s) hl hc
 rw[h3]at h2;simp only[SV.ev,D.ev,hn,dG hl]at h2;exact h2
theorem sd(nl:Bool)(e s:Nat)(l:D)(r:List AV):(SO.row nl e s l).ev r=fp nl e s (aU (l.ev r)):=by
 cases nl
 ·simp only[SO.ev,fp,false_eq_true,false_and,if_false]
 ·simp only[SO.ev,fp,true_and]
theorem am4{s:SS}{nl:Bool}{t m:Nat}{ns:List Node}{o:PO}{q}(h:yH s nl t m (nx s ns o)=some q)(hn:lA s.nv ns=s.nv){r:List AV}(hl:r.length=s.nv)(hc:s.cl=true){K:KT}
  (hk:mX P q.1 r (λ r'=>cG q.2.2 r'=cG s r->K (q.2.1.ev r') (cr q.2.2 r'))):
  mX P ns r λ r1=>r1=r->o.wp P r λ v=>K (.row s.aE.length (aU v).length) (cr s r++ [fp nl t m (aU v)]):=by
 simp only[yH,nx,Option.some.injEq]at h;subst h;simp only[dH]at hk;refine pU ns (λ mm hw he=> ?_) hk;rw[he]at hw;refine PO.ru (o:=o) hw λ v hv=> ?_
 have h1:cG {s with aE:=s.aE++ [.row nl t m (.x (lA s.nv ns))],nv:=lA s.nv ns+1} (r++ [v])=cG s r:=jt (s:=s) hl hc;have h2:=hv h1
 have h3:cr {s with aE:=s.aE++ [.row nl t m (.x (lA s.nv ns))],nv:=lA s.nv ns+1} (r++ [v])=cr s r++ [fp nl t m (aU v)]:=by
  simp only[cr,map_append,map_cons,map_nil,sd,D.ev,hn,dG hl];congr 1;exact j8 (s:=s) hl hc
 rw[h3]at h2;simp only[SV.ev,D.ev,hn,dG hl]at h2;exact h2
theorem ahG{s:SS}{t m len:Nat}{z:AV}{ps:List (Nat×bj)}{q}(h:uw s t m len z ps=some q):gy P (.buildSlice t m len z ps) s q:=by
 intro r hl hc hr kY K hk;unfold uw at h
 split at h
 ·rename_i ns qs hp;obtain⟨hn,hs⟩:=vh (P:=P) hp;have h1:=apA h hn hl hc hk;obtain⟨hG,mz⟩:=hs h1;have hG:=hG rfl;simp only[PO.wp]at hG;simp only[wpOp,fV];refine mz _ _ (by simp) ?_;rw[gv]at hG
  have hlen:(kl (List.replicate len z) (qs.map λ p=>(p.1,p.2.ev r))).length=len:=by
   have:∀(ps:List (Nat×AV)) (z:List AV),(kl z ps).length=z.length:=by
    intro ps
    induction ps with
    |nil=>intro z;rfl
    |cons p ps ih=>intro z;simp[kl,ih]
   rw[this];simp
  rw[hlen]at hG;exact hG
 ·cases h
theorem anJ{cs:List SV}{r:List AV}{f:Nat}{v:SV}(h:cs[f]? =some v)(hc:cs.length≠1∨(v.ev r).cells= [v.ev r]):f+1<=(qe (SV.bn r cs)).cells.length/\(qe (SV.bn r cs)).cells.getD f .top=v.ev r:=by
 have aK:=(List.getElem?_eq_some_iff.1 h).1;have he:(SV.bn r cs)[f]? =some (v.ev r):=by rw[SV.bc,getElem?_map,h];rfl
 by_cases h1:cs.length=1
 ·rcases hc with hc|hc
  ·exact(hc h1).elim
  ·have hf:f=0:=by omega
   subst hf
   have:SV.bn r cs= [v.ev r]:=by
    have hl:(SV.bn r cs).length=1:=by rw[SV.bc];simpa using h1
    obtain⟨a,ha⟩:=List.length_eq_one_iff.1 hl;rw[ha]at he⊢;simp at he;rw[he]
   rw[this];simp[qe,hc]
 ·rw[gu (by rw[SV.bc];simpa using h1)];simp only[AV.cells];refine⟨by rw[SV.bc];simp;omega,by simp[List.getD,he]⟩
theorem ae5{s:SS}{a:bj}{k f e:Nat}{cs:List SV}(ha:ey s a= .ptr k f)(hb:qy s k=some (e,cs)){n:Option Nat}{r:List AV}{K:KT}
  (h:f+n.getD 1<=(qe (SV.bn r cs)).cells.length/\K (cA n (qe (SV.bn r cs)) f) (cr s r)):wpOp P (.load n a) (cG s r) (cr s r) K:=by
 rw[o_load,←bq,ha];simp only[SV.ev,aax];rw[j2 (mn hb) r];simp only[SO.ev,jK,List.getD_cons_zero,k1];exact⟨rfl,Nat.one_pos,h.1,h.2⟩
theorem aBW{s:SS}{n:Option Nat}{a:bj}{q}(h:awR s n (ey s a)=some q):gy P (.load n a) s q:=by
 intro r hl hc hr kY K hk;unfold awR at h
 split at h
 ·rename_i k f ha
  split at h
  ·rename_i e cs hb
   split at h
   ·split at h
    ·rename_i v hv
     split at h
     ·rename_i h1
      split at h
      ·rename_i ht;cases h;obtain⟨hG,afB⟩:=xy ht hk;have tR:=AV.jn (afB (v.ev r) (by simp[SV.bn]));obtain⟨q1,q2⟩:=anJ (r:=r) hv (.inr tR);refine ae5 ha hb ⟨by simpa using q1,?_⟩;rw[jj,q2];exact hG rfl
      ·cases h
     ·rename_i h1;cases h;obtain⟨q1,q2⟩:=anJ (r:=r) hv (.inl h1);refine ae5 ha hb ⟨by simpa using q1,?_⟩;rw[jj,q2];exact hk rfl
    ·cases h
   ·rename_i m
    split at h
    ·rename_i h1;cases h;have h2:=aeW (K:=K) hl hc hk;have hx:qe (SV.bn r cs)= .agg (SV.bn r cs):=gu (by rw[SV.bc];simpa using h1.1);refine ae5 ha hb ⟨by rw[hx];simp only[AV.cells,SV.bc,length_map,getD_some];exact h1.2,?_⟩
     have h3:cA (some m) (qe (SV.bn r cs)) f= .agg (SV.bn r ((cs.drop f).take m)):=by
      rw[hx];unfold cA;simp only
      split
      ·rename_i h4;obtain⟨rfl,_,h5⟩:=h4;simp only[AV.cells,SV.bc,length_map]at h5;rw[List.drop_zero,List.take_of_length_le (by omega)]
      ·simp only[AV.cells,SV.bc,map_take,map_drop]
     rw[h3];exact h2
    ·cases h
  ·cases h
 ·rename_i y f ha
  have hb:∀{K:KT},(f+n.getD 1<=(y.ev r).cells.length/\K (cA n (y.ev r) f) (cr s r))->wpOp P (.load n a) (cG s r) (cr s r) K:=by
   intro K h;rw[o_load,←bq,ha];simp only[SV.ev,xB,k1];exact h
  split at h
  ·split at h
   ·rename_i i;cases h;obtain⟨h1,h2⟩:=hk;refine hb ⟨Nat.succ_le_of_lt h1,?_⟩;rw[jj];exact h2 rfl
   ·rename_i l
    split at h
    ·rename_i d hd;cases h;have aK:=(List.getElem?_eq_some_iff.1 hd).1;refine hb ⟨by simp only[D.ev,AV.cells,D.bc,length_map,getD_none];omega,?_⟩;rw[jj];simp only[D.ev,AV.cells,D.bc,List.getD,getElem?_map,hd];exact hk rfl
    ·cases h
   ·cases h;simp only[mX,PO.wp,eL.wp,D.ev,dG hl]at hk;refine hb ⟨Nat.succ_le_of_lt hk.1,?_⟩;rw[jj];have h1:cG {s with nv:=s.nv+1} (r++ [y.ev r])=cG s r:=jt (s:=s) hl hc;have h2:=hk.2 h1;have h3:cr {s with nv:=s.nv+1} (r++ [y.ev r])=cr s r:=j8 (s:=s) hl hc;rw[h3]at h2;simp only[SV.ev,D.ev,dG hl]at h2;exact h2
  ·rename_i m
   split at h
   ·rename_i h0;obtain⟨h0,_⟩:=h0;subst h0;cases h;obtain⟨h1,h2,h3,h4⟩:=hk;refine hb ⟨by simp[h2],?_⟩;rw[eg h1 h2];exact h4 rfl
   ·cases h;have h1:=oq (K:=K) hl hc hk;exact hb h1
 ·rename_i k l i f ha
  split at h
  ·rename_i q' oL;obtain⟨nl,e,sz⟩:=q';cases h;have h1:=oq (K:=K) hl hc hk;obtain⟨h2,h3,h4⟩:=h1;rw[o_load,←bq,ha];simp only[SV.ev,aax];rcases iM (gw oL) r with h5|⟨h5,h6,_⟩
   ·rw[h5,jK];exact⟨rfl,h2,h3,h4⟩
   ·rw[h6]at h2;simp at h2
  ·cases h
 ·rename_i y ha;cases h;have h1:=oq (K:=K) hl hc hk;simp only[PO.wp,apG]at h1;rw[o_load,←bq,ha];simp only[SV.ev]
  split at h1
  ·rename_i z f hy;rw[hy,xB,k1];exact h1
  ·exact h1.elim
 ·cases h
theorem ajD{s:SS}{k:Nat}{o:SO}{r r':List AV}{nv:Nat}{env:List (Nat×SV)}(hp:∃m,r'=r++m)(hl:r.length=s.nv)(hc:s.cl=true):
  cr {s with env:=env,aE:=s.aE.set k o,nv:=nv} r'=(cr s r).set k (o.ev r'):=by
 obtain⟨m,rfl⟩:=hp;have:=j8 (s:=s) (r':=m) hl hc;simp only[cr,map_set]at this⊢;rw[this]
theorem axf{s:SS}{m:Nat}{a b:bj}{q}(hb0:aeR b=true)(h:aoJ s m (ey s a) (ey s b)=some q):gy P (.store m a b) s q:=by
 intro r hl hc hr kY K hk;unfold aoJ at h
 split at h
 ·rename_i k f ha
  split at h
  ·rename_i e cs ns vs hb he
   split at h
   ·rename_i sr;obtain⟨g1,g2,g3,g4⟩:=sr;cases h;rw[dH]at hk
    have hk1:mX P ns r (λ r'=>cG {s with aE:=s.aE.set k (.box e (cs.take f++vs++cs.drop (f+m))),nv:=lA s.nv ns} r'=cG s r->K .top (cr {s with aE:=s.aE.set k (.box e (cs.take f++vs++cs.drop (f+m))),nv:=lA s.nv ns} r'))/\
      (cs.length=1->∀c∈SV.bn r cs,c.cB=true):=by
     by_cases h1:cs.length=1
     ·rw[if_pos h1]at hk;obtain⟨p1,p2⟩:=xy (g4 h1) hk;exact⟨p1,λ _=>p2⟩
     ·rw[if_neg h1]at hk;exact⟨hk,λ h=>(h1 h).elim⟩
    obtain⟨hk,tR⟩:=hk1;obtain⟨r',⟨more,rfl⟩,hlen,hG,hE⟩:=th he hl (ac0 hc hb0) hk;have hG:=hG (jt (s:=s) hl hc);rw[ajD ⟨more,rfl⟩ hl hc]at hG;rw[akj,←bq,←bq,ha];simp only[SV.ev,xf];rw[j2 (mn hb) r];simp only[SO.ev,jK,List.getD_cons_zero,k1,List.set_cons_zero];have sD:vs.length=m:=g1;have hnl:(cs.take f++vs++cs.drop (f+m)).length=cs.length:=by simp;omega
    have nR:SV.bn (r++more) cs=SV.bn r cs:=ajf λ c hm=>by
     rw[hl];exact yB.1 (SS.xV hc (mem_of_getElem? (mn hb))) c hm
    have jB:SV.bn (r++more) (cs.take f++vs++cs.drop (f+m))=(SV.bn r cs).take f++((ey s b).ev r).cells++(SV.bn r cs).drop (f+m):=by
     rw[hE.cells,←nR];simp only[SV.bc,map_append,map_take,map_drop]
    have hw:f+m<=(qe (SV.bn r cs)).cells.length/\qe (SV.bn (r++more) (cs.take f++vs++cs.drop (f+m)))=ua (qe (SV.bn r cs)) f ((ey s b).ev r):=by
     by_cases h1:cs.length=1
     ·have hm1:m=1:=by rcases g3 with h|h;exact h;exact(h h1).elim
      have hf:f=0:=by omega
      subst hm1;subst hf;obtain⟨c,hcc⟩:=List.length_eq_one_iff.1 (show(SV.bn r cs).length=1 by rw[SV.bc];simpa using h1);have hc1:=AV.jn (tR h1 c (by rw[hcc];simp));rw[jB,hcc];simp only[qe,hc1,List.length_singleton,List.take_zero,nil_append,zero_add,List.drop_one,List.tail_cons,append_nil];refine⟨le_refl _,?_⟩;rw[AV.jn (hE.one rfl)];unfold ua;rw[if_pos ⟨rfl,by rw[hc1,AV.jn (hE.one rfl)];rfl⟩]
     ·have hx:qe (SV.bn r cs)= .agg (SV.bn r cs):=gu (by rw[SV.bc];simpa using h1);rw[hx,jB];refine⟨by simp only[AV.cells,SV.bc,length_map];exact g2,?_⟩;rw[gu (by simp[SV.bc,hE.len];omega)];unfold ua;have hlc:(AV.agg (SV.bn r cs)).cells.length=cs.length:=by simp[AV.cells,SV.bc]
      by_cases h2:f=0/\((ey s b).ev r).cells.length=(AV.agg (SV.bn r cs)).cells.length
      ·rw[if_pos h2];obtain⟨rfl,h3⟩:=h2;rw[hlc,hE.len]at h3;rw[AV.vt (hE.agg (by omega))];simp only[AV.cells,List.take_zero,nil_append,zero_add];rw[List.drop_eq_nil_of_le (by rw[SV.bc];simp;omega),append_nil]
      ·rw[if_neg h2,hE.len]
       rfl
    refine⟨rfl,Nat.one_pos,hE.len,hE.sto,hw.1,?_⟩;simp only[SO.ev,hnl,hw.2]at hG;exact hG
   ·cases h
  ·cases h
 ·rename_i k l i f ha
  split at h
  ·rename_i nl e sz ns d oL hd;simp only[Option.some.injEq]at h;subst h;have hnv:lA s.nv (ns++ [sA m d])=s.nv:=by rw[lS,af9 hd,an2]
   simp only[dH,hnv]at hk;obtain⟨hk,hde⟩:=nJ hd hk;obtain⟨hk,hE⟩:=abW hk;simp only[mX,PO.wp,axj]at hk;obtain⟨q1,q2,q3,q4,q5⟩:=hk;generalize hxs:aU (l.ev r)=xs at*;generalize hv:AV.sl (xs.set (idxOf (i.ev r)) (ua (xs.getD (idxOf (i.ev r)) .top) f (d.ev r)))=v at q5;have hlv:(aU v).length=xs.length:=by rw[←hv];simp[aU]
   have mz:=gw oL
   have aNp:l.cl r.length=true:=by
    have:=SS.xV hc (mem_of_getElem? mz);rw[hl];exact this
   have nQ:cG {s with env:=s.env.map (λ p=>(p.1,p.2.rew k l (.x s.nv))),aE:=s.aE.set k (.row nl e sz (.x s.nv)),nv:=s.nv+1} (r++ [v])=cG s r:=by
    funext t
    simp only[cG];rw[aay (f:=SV.rew k l (.x s.nv)) rfl];have nR:=SS.tm hc t;have hold:(lk s.env t).ev (r++ [v])=(lk s.env t).ev r:=SV.dP _ (by rw[hl];exact nR);rw[←hold];generalize lk s.env t=w;cases w with
    |row k' l'=>
     simp only[SV.rew]
     split
     ·rename_i h1;have:=D.beq_eq _ _ h1.2;subst this;simp only[SV.ev,D.ev,dG hl,hlv,D.dP l' aNp,hxs]
     ·rfl
    |rp k' l' i' f'=>
     simp only[SV.rew]
     split
     ·rename_i h1;have:=D.beq_eq _ _ h1.2;subst this;simp only[SV.ev,D.ev,dG hl,hlv,D.dP l' aNp,hxs]
     ·rfl
    |_=>rfl
   have hG:=q5 nQ;rw[ajD ⟨[v],rfl⟩ hl hc]at hG;rw[akj,←bq,←bq,ha,←hde];simp only[SV.ev,xf];have ej:xs≠[]:=by intro h0;rw[h0]at q1;simp at q1
   rcases iM mz r with h5|⟨h5,h6,_⟩
   ·rw[h5,jK,hxs];refine⟨rfl,q1,q2,q3,q4,?_⟩;have ay0:aU v≠[]:=by intro h0;rw[h0]at hlv;simp at hlv;exact ej (List.eq_nil_of_length_eq_zero hlv.symm)
    have:SO.ev (r++ [v]) (.row nl e sz (.x s.nv))= .live e sz (xs.set (idxOf (i.ev r)) (ua (xs.getD (idxOf (i.ev r)) .top) f (d.ev r))):=by
     cases nl<;>simp only[SO.ev,D.ev,dG hl,if_neg ay0]<;>rw[←hv]<;>rfl
    rw[this]at hG;exact hG
   ·rw[hxs]at h6;exact(ej h6).elim
  ·cases h
 ·cases h
end
section
variable {P:Program}
theorem eG:∀(a b:List Node) (nv:Nat),dA nv (a++b)=(dA nv a&&dA (lA nv a) b)
 | [],b,nv=>by simp[dA,lA]
 | .op o::a,b,nv=>by simp only[cons_append,dA,lA,eG a b,Bool.and_assoc]
 | .aq c::a,b,nv=>by simp only[cons_append,dA,lA,eG a b]
theorem zm(r:List AV)(τ:List D)(i:Nat):(D.bn r τ).getD i .top=(τ.getD i (.c .top)).ev r:=by
 rw[D.bc];simp only[List.getD,getElem?_map];cases τ[i]? <;>rfl
theorem uQ{l:List AV}(h:AV.ae l=true)(σ:Nat->Nat)(i:Nat):(l.getD i .top).bL σ=l.getD i .top:=by
 refine cU _ ?_;simp only[List.getD];cases hl:l[i]? with
 |none=>rfl
 |some a=>exact bm h a (mem_of_getElem? hl)
theorem aky{n k:Nat}{r:List AV}{τ:List D}{σ:Nat->Nat}(hn:AV.ae (D.bn r τ)=true):∀(v:SV),v.pat n k=true->(v.oB τ σ).ev r=(v.ev (D.bn r τ)).bL σ:=by
 intro v h;cases v with
 |d x=>
  cases x with
  |x i=>simp only[SV.oB,SV.ev,D.ev];rw[uQ hn,zm]
  |c a=>simp only[SV.oB,SV.ev,D.ev];rw[cU a h]
  |_=>simp[SV.pat]at h
 |row m l=>
  cases l with
  |x i=>simp only[SV.oB,SV.ev,D.ev,AV.bL];rw[zm]
  |_=>simp[SV.pat]at h
 |ptr m f=>rfl
 |_=>simp[SV.pat]at h
theorem y4{n k:Nat}{r:List AV}{τ:List D}{σ:Nat->Nat}(hn:AV.ae (D.bn r τ)=true):∀(l:List SV),l.all (SV.pat n k)=true->SV.bn r (l.map (SV.oB τ σ))=AV.mZ σ (SV.bn (D.bn r τ) l)
 | [],_=>rfl
 |v::l,h=>by
  simp only[all_cons,and_eq_true]at h;simp only[map_cons,SV.bn,AV.mZ,aky hn v h.1,y4 hn l h.2]
theorem aBR(σ:Nat->Nat)(l:List AV):(qe l).bL σ=qe (AV.mZ σ l):=by
 cases l with
 |nil=>rfl
 |cons a l=>cases l<;>rfl
theorem y5{n k:Nat}{r:List AV}{τ:List D}{σ:Nat->Nat}(hn:AV.ae (D.bn r τ)=true):∀(o:SO),o.pat n k=true->(o.oB τ σ).ev r=(o.ev (D.bn r τ)).bL σ:=by
 intro o h;cases o with
 |dead=>rfl
 |box e cs=>
  simp only[SO.pat]at h;simp only[SO.oB,SO.ev,aj.bL,map_cons,map_nil,aBR,y4 hn cs h,length_map]
 |row nl e s l=>
  cases l with
  |x i=>
   have hl:(aU ((D.bn r τ).getD i .top)).map (AV.bL σ)=aU ((D.bn r τ).getD i .top):=by
    rw[←dM];refine db _ (dT ?_);simp only[List.getD];cases hx:(D.bn r τ)[i]? with
    |none=>rfl
    |some a=>exact bm hn a (mem_of_getElem? hx)
   simp only[SO.oB];rw[sd,sd]
   show fp nl e s (aU ((τ.getD i (.c .top)).ev r))=(fp nl e s (aU ((D.bn r τ).getD i .top))).bL σ;rw[←zm];generalize aU ((D.bn r τ).getD i .top)=xs at hl;unfold fp
   split
   ·rfl
   ·simp only[aj.bL,hl]
  |_=>simp[SO.pat]at h
theorem akx{n k:Nat}{r:List AV}{τ:List D}{σ:Nat->Nat}(hn:AV.ae (D.bn r τ)=true):∀(v:SV),v.ahe n k=true->(v.apS τ σ).ev r=(v.ev (D.bn r τ)).bL σ:=by
 intro v h;cases v with
 |aZ cs=>simp only[SV.ahe]at h;simp only[SV.apS,SV.ev,AV.bL,y4 hn cs h]
 |agg cs=>simp only[SV.ahe]at h;simp only[SV.apS,SV.ev,AV.bL,y4 hn cs h]
 |_=>exact aky (n:=n) (k:=k) hn _ (by simpa only[SV.ahe]using h)
theorem axL{n k:Nat}{l:List AV}(hn:AV.ae l=true):∀(v:SV),v.pat n k=true->(v.ev l).inScope k=true:=by
 intro v h;cases v with
 |d x=>
  cases x with
  |x i=>
   simp only[SV.ev,D.ev];refine aM _ ?_;simp only[List.getD];cases hx:l[i]? with
   |none=>rfl
   |some a=>exact bm hn a (mem_of_getElem? hx)
  |c a=>exact aM _ h
  |_=>simp[SV.pat]at h
 |row m y=>
  cases y with
  |x i=>simp only[SV.pat,and_eq_true]at h;exact h.2
  |_=>simp[SV.pat]at h
 |ptr m f=>exact h
 |_=>simp[SV.pat]at h
theorem yF{n k:Nat}{l:List AV}(hn:AV.ae l=true):∀(vs:List SV),vs.all (SV.pat n k)=true->AV.bK k (SV.bn l vs)=true
 | [],_=>rfl
 |v::vs,h=>by
  simp only[all_cons,and_eq_true]at h;simp only[SV.bn,AV.bK,axL hn v h.1,yF hn vs h.2];rfl
theorem aGZ{k:Nat}{l:List AV}(h:AV.bK k l=true):(qe l).inScope k=true:=by
 unfold qe
 split
 ·simpa [AV.bK]using h
 ·exact h
theorem ar3{n k:Nat}{l:List AV}(hn:AV.ae l=true):∀(o:SO),o.pat n k=true->(o.ev l).inScope k=true:=by
 intro o h;cases o with
 |dead=>rfl
 |box e cs=>
  simp only[SO.pat]at h;simp only[SO.ev,aj.inScope,AV.bK,Bool.and_true];exact aGZ (yF hn cs h)
 |row nl e s y=>
  cases y with
  |x i=>
   have:AV.bK k (aU (l.getD i .top))=true:=by
    refine eF _ (dT ?_);simp only[List.getD];cases hx:l[i]? with
    |none=>rfl
    |some a=>exact bm hn a (mem_of_getElem? hx)
   rw[sd]
   show aj.inScope k (fp nl e s (aU (l.getD i .top)))=true;unfold fp
   split
   ·rfl
   ·exact this
  |_=>simp[SO.pat]at h
theorem xw{j:Nat}:∀{l:List Nat} {i n:Nat},posOf j l i=some n->i<=n/\l[n- i]? =some j
 | [],_,_,h=>by cases h
 |x::l,i,n,h=>by
  unfold posOf at h
  split at h
  ·cases h;rename_i hx;subst hx;exact⟨le_refl _,by simp⟩
  ·obtain⟨h1,h2⟩:=xw h;refine⟨by omega,?_⟩;rw[show n- i=(n- (i+1))+1 by omega,List.getElem?_cons_succ];exact h2
theorem aeH{j:Nat}:∀{l:List Nat} {i:Nat},posOf j l i=none->j∉l
 | [],_,_=>by simp
 |x::l,i,h=>by
  unfold posOf at h
  split at h
  ·cases h
  ·rename_i hx;simp only[mem_cons,not_or];exact⟨λ h=>hx h.symm,aeH h⟩
theorem sS:∀{l:List Nat},aat l=true->∀{i j x:Nat},l[i]? =some x->l[j]? =some x->i=j
 | [],_,i,j,x,h,_=>by simp at h
 |y::l,h,i,j,x,h1,h2=>by
  simp only[aat,and_eq_true,Bool.not_eq_true',List.contains_eq_mem,decide_eq_false_iff_not]at h;cases i<;>cases j
  ·rfl
  ·simp at h1 h2;subst h1;exact(h.1 (mem_of_getElem? h2)).elim
  ·simp at h1 h2;subst h2;exact(h.1 (mem_of_getElem? h1)).elim
  ·simp at h1 h2;rw[sS h.2 h1 h2]
theorem abE{aE:List SO}{eM:List Nat}{ps:List SO}:(iF aE eM ps).length=aE.length+(ps.length- eM.length):=by simp[iF]
theorem abD{aE:List SO}{eM:List Nat}{ps:List SO}(hnd:aat eM=true){i n:Nat}(hi:eM[i]? =some n)(hn:n<aE.length)(hp:i<ps.length):(iF aE eM ps)[n]? =ps[i]? :=by
 unfold iF;rw[getElem?_append_left (by simpa using hn),getElem?_map,List.getElem?_range hn];simp only[map_some];cases h:posOf n eM 0 with
 |none=>exact(aeH h (mem_of_getElem? hi)).elim
 |some m=>
  obtain⟨_,h2⟩:=xw h;have:=sS hnd hi h2;simp only[Nat.sub_zero]at this;subst this;simp only[List.getD,getElem?_eq_getElem hp,getD_some]
theorem abC{aE:List SO}{eM:List Nat}{ps:List SO}{n:Nat}(hn:n<aE.length)(h:n∉eM):(iF aE eM ps)[n]? =aE[n]? :=by
 unfold iF;rw[getElem?_append_left (by simpa using hn),getElem?_map,List.getElem?_range hn];simp only[map_some];cases hp:posOf n eM 0 with
 |none=>simp only[List.getD,getElem?_eq_getElem hn,getD_some]
 |some m=>exact(h (mem_of_getElem? (xw hp).2)).elim
theorem am5{aE:List SO}{eM:List Nat}{ps:List SO}{i:Nat}(hi:eM.length<=i):(iF aE eM ps)[aE.length+(i- eM.length)]? =ps[i]? :=by
 unfold iF;rw[getElem?_append_right (by simp),length_map,List.length_range,List.getElem?_drop];congr 1;omega
theorem u7{kn:List (Nat×Nat)}{τ:List D}{σ:Nat->Nat}{n k:Nat}:∀{ps vs:List SV} {ns:List Node},ajb kn τ σ ps vs=some ns->ps.all (SV.pat n k)=true->∀{r:List AV} {G:List AV->Prop},AV.ae (D.bn r τ)=true->mX P ns r G->
  G r/\SV.bn r vs=AV.mZ σ (SV.bn (D.bn r τ) ps)
 | [],[],ns,h,_,r,G,_,hw=>by cases h;exact⟨hw,rfl⟩
 |p::ps,v::vs,ns,h,hp,r,G,hn,hw=>by
  simp only[ajb]at h
  split at h
  ·rename_i a b ha hb;cases h;simp only[all_cons,and_eq_true]at hp;rw[dH]at hw
   have hv:mX P b r (λ r'=>G r')/\v.ev r=(p.ev (D.bn r τ)).bL σ:=by
    unfold aOd at ha
    split at ha
    ·rename_i i
     split at ha
     ·rename_i ms d hd
      split at ha
      ·rename_i hbq;cases ha;obtain⟨h1,h2⟩:=nJ hd hw;refine⟨h1,?_⟩;rw[←h2,←D.beq_eq _ _ hbq];simp only[SV.ev,D.ev];rw[uQ hn,zm]
      ·cases ha
     ·cases ha
    ·split at ha
     ·rename_i hbq;cases ha;refine⟨hw,?_⟩;rw[←SV.beq_eq _ _ hbq,aky hn p hp.1]
     ·cases ha
   obtain⟨h3,h4⟩:=u7 hb hp.2 hn hv.1;exact⟨h3,by simp only[SV.bn,AV.mZ,hv.2,h4]⟩
  ·cases h
 | [],_::_,_,h,_,_,_,_,_=>by simp[ajb]at h
 |_::_,[],_,h,_,_,_,_,_=>by simp[ajb]at h
theorem qZ{s:SS}{τ:List D}{σ:Nat->Nat}:∀{ps:List SO} {n:Nat},anO s τ σ n ps=true->∀i p,ps[i]? =some p->s.aE[σ (n+i)]? =some (p.oB τ σ)
 | [],_,_,i,p,hi=>by simp at hi
 |q::ps,n,h,i,p,hi=>by
  simp only[anO,and_eq_true]at h;cases i with
  |zero=>
   simp at hi;subst hi;have h1:=h.1
   split at h1
   ·rename_i o ho;rw[add_zero,ho,SO.beq_eq h1]
   ·cases h1
  |succ i=>
   simp at hi;have:=qZ h.2 i p hi;rw[←this];congr 2;omega
theorem aew{r r':List AV}{ks:List (Nat×D×D)}(hk:∀q∈ks,q.2.1.ev r'=q.2.1.ev r/\(aU (q.2.1.ev r)).length=(aU (q.2.2.ev r')).length):
  ∀(v:SV),v.ev r'=v.ev r->(aj7 ks v).ev r'=v.ev r:=by
 induction ks with
 |nil=>intro v h;exact h
 |cons q ks ih=>
  intro v h;simp only[aj7,foldl_cons];obtain⟨h1,h2⟩:=hk q (by simp)
  have key:(v.rew q.1 q.2.1 q.2.2).ev r'=v.ev r:=by
   rw[←h];cases v with
   |row m l=>
    simp only[SV.rew]
    split
    ·rename_i hc;have:=D.beq_eq _ _ hc.2;subst this;simp only[SV.ev,h1,h2]
    ·rfl
   |rp m l i f=>
    simp only[SV.rew]
    split
    ·rename_i hc;have:=D.beq_eq _ _ hc.2;subst this;simp only[SV.ev,h1,h2]
    ·rfl
   |_=>rfl
  have h3:∀(ks:List (Nat×D×D)),(∀q∈ks,q.2.1.ev r'=q.2.1.ev r/\(aU (q.2.1.ev r)).length=(aU (q.2.2.ev r')).length)->∀w:SV,w.ev r'=v.ev r->(ks.foldl (λ v q=>v.rew q.1 q.2.1 q.2.2) w).ev r'=v.ev r:=by
   intro ks
   induction ks with
   |nil=>intro _ w hw;exact hw
   |cons q ks ih2=>
    intro hk w hw;simp only[foldl_cons];refine ih2 (λ q hq=>hk q (by simp[hq])) _ ?_;obtain⟨h1,h2⟩:=hk q (by simp);rw[←hw];cases w with
    |row m l=>
     simp only[SV.rew]
     split
     ·rename_i hc;have:=D.beq_eq _ _ hc.2;subst this;simp only[SV.ev,h1,h2]
     ·rfl
    |rp m l i f=>
     simp only[SV.rew]
     split
     ·rename_i hc;have:=D.beq_eq _ _ hc.2;subst this;simp only[SV.ev,h1,h2]
     ·rfl
    |_=>rfl
  exact h3 ks (λ q hq=>hk q (by simp[hq])) _ key
theorem xS:∀{ks:List (Nat×D×D)} {r:List AV} {G:List AV->Prop},mX P (ks.map λ q=> .aq (.eql q.2.1 q.2.2)) r G->G r/\∀q∈ks,(aU (q.2.1.ev r)).length=(aU (q.2.2.ev r)).length
 | [],r,G,h=>⟨h,by simp⟩
 |q::ks,r,G,h=>by
  simp only[map_cons,mX,eL.wp]at h;obtain⟨h1,h2⟩:=h;obtain⟨h3,h4⟩:=xS h2;refine⟨h3,λ q' hq'=> ?_⟩;rcases List.mem_cons.1 hq' with rfl|hq'
  ·exact h1
  ·exact h4 q' hq'
theorem anl{g:eK}{τ:List D}{σ:Nat->Nat}{nv n:Nat}(h:D.cls n τ=true):∀q∈yY g τ σ nv,q.2.1.cl n=true:=by
 intro q hq;simp only[yY,List.mem_filterMap]at hq;obtain⟨m,_,hm⟩:=hq
 split at hm
 ·rename_i i _ _;cases hm
  have key:∀i,(τ.getD i (.c .top)).cl n=true:=by
   intro i;simp only[List.getD];cases hx:τ[i]? with
   |none=>rfl
   |some d=>exact alb.1 h d (mem_of_getElem? hx)
  exact key _
 ·cases hm
theorem anR{r:List AV}{nv m:Nat}(hl:r.length=nv){outs:List AV}(ho:outs.length=m)(more:List AV):D.bn (r++ .aZ outs::more) (ud nv m)=outs:=by
 rw[D.bc,ud,map_map];apply ext_getElem
 ·simp[ho]
 ·intro i h1 h2;simp only[getElem_map,getElem_range,Function.comp_apply,D.ev]
  have:(r++AV.aZ outs::more).getD nv .top= .aZ outs:=by
   rw[List.getD,getElem?_append_right (by omega),hl,Nat.sub_self];rfl
  rw[this];simp only[aw8,List.getD,getElem?_eq_getElem h2,getD_some]
theorem axl{s:SS}{f:FuncId}{gs:List eK}{args:List bj}{g:eK}{q}(h:aet s f (args.map (ey s)) g=some q):gy P (.aY gs f args) s q:=by
 intro r hl hc hr kY K hk;unfold aet at h
 split at h
 ·rename_i τ eM hm;simp only at h
  split at h
  ·rename_i ns cV
   split at h
   ·rename_i sr;obtain⟨g1,g2,g3,g4,g5,g6,g7⟩:=sr;simp only[Option.some.injEq]at h;subst h;simp only[eK.ok,and_eq_true,decide_eq_true_eq]at g1;obtain⟨⟨⟨⟨p1,p2⟩,p3⟩,p4⟩,p5⟩:=g1;have hσ:∀n,gU s.aE eM n=if n<eM.length then eM.getD n 0 else s.aE.length+(n- eM.length):=λ _=>rfl
    have ayL:D.cls s.nv τ=true:=by
     have kY:=kY;simp only at kY;rw[eG,and_eq_true]at kY;have:=kY.2;simp only[dA,PO.cl,and_eq_true,g7]at this;exact this.1
    have uc:AV.ae (D.bn r τ)=true:=D.eN hr τ (by rw[hl];exact ayL);simp only at hk;rw[dH]at hk;obtain⟨hk,tS⟩:=u7 cV p1 uc hk;simp only[mX,PO.wp]at hk;obtain⟨outs,iU,hlen,hon,hk⟩:=hk;obtain⟨hk,heq⟩:=xS hk;have hl1:(r++ [AV.aZ outs]).length=s.nv+1:=by simp[hl]
    have anE:∀d:D,d.cl s.nv=true->d.ev (r++ [.aZ outs])=d.ev r:=λ d hd=>D.dP d (by rw[hl];exact hd)
    have hE:D.bn (r++ [.aZ outs]) (ud s.nv g.m)=outs:=anR hl hlen [];have ayX:AV.ae (D.bn (r++ [.aZ outs]) (ud s.nv g.m))=true:=by rw[hE];exact hon
    have hK:=hk (by
     funext t
     simp only[cG]
     rw[aay (f:=aj7 (yY g τ (gU s.aE eM) s.nv)) (by
      generalize yY g τ (gU s.aE eM) s.nv=ks
      induction ks with
      |nil=>rfl
      |cons a ks ih=>simp only[aj7,foldl_cons,SV.rew]at ih⊢;exact ih)]
     refine aew (λ q hq=> ?_) _ (SV.dP _ (by rw[hl];exact SS.tm hc t));have nR:=anl ayL q hq;exact⟨anE _ nR,by rw[←anE _ nR];exact heq q hq⟩)
    have hin:∀i,i<g.aE.length->∃n,eM[i]? =some n/\gU s.aE eM i=n/\n<s.aE.length:=by
     intro i hi;have fR:i<eM.length:=by omega
     refine⟨eM[i],getElem?_eq_getElem fR,?_,?_⟩
     ·rw[hσ,if_pos fR];simp[List.getD,fR]
     ·have:=List.all_eq_true.1 g4 eM[i] (List.getElem_mem fR);simpa using this
    have hO1:(g.aE.map (SO.ev (D.bn r τ))).length=g.aE.length:=by simp
    have hO2:(g.da.map (SO.ev outs)).length=g.da.length:=by simp
    have u3:(g.res.apS (ud s.nv g.m) (gU s.aE eM)).ev (r++ [.aZ outs])=(g.res.ev outs).bL (gU s.aE eM):=by
     rw[akx ayX _ p4,hE]
    have ayZ:cr {s with env:=s.env.map (λ p=>(p.1,aj7 (yY g τ (gU s.aE eM) s.nv) p.2)),aE:=iF s.aE eM (g.da.map (SO.oB (ud s.nv g.m) (gU s.aE eM))),nv:=s.nv+1} (r++ [.aZ outs])=
     (iF s.aE eM (g.da.map (SO.oB (ud s.nv g.m) (gU s.aE eM)))).map (SO.ev (r++ [.aZ outs])):=rfl
    rw[u3,ayZ]at hK;refine⟨_,_,?_,hK⟩
    have:=j7.frame (O:=cr s r) (zK:=(iF s.aE eM (g.da.map (SO.oB (ud s.nv g.m) (gU s.aE eM)))).map (SO.ev (r++ [.aZ outs]))) iU (gU s.aE eM)
     (λ i hi=>by rw[hO1]at hi;obtain⟨n,_,h2,h3⟩:=hin i hi;rw[h2,fV];exact h3)
     (λ i hi=>by
      rw[hO1]at hi;have hp:g.aE[i]? =some g.aE[i]:=getElem?_eq_getElem hi;have h1:=qZ g6 i _ hp;rw[zero_add]at h1;simp only[cr,getElem?_map,h1,hp,map_some];rw[y5 uc _ (List.all_eq_true.1 p2 _ (mem_of_getElem? hp))])
     (λ i j hi hj he=>by
      rw[hO1]at hi hj;obtain⟨n,a1,a2,_⟩:=hin i hi;obtain⟨m,b1,b2,_⟩:=hin j hj;rw[a2,b2]at he;subst he;exact sS g3 a1 b1)
     (λ i hi=>by rw[hO1]at hi;rw[hσ,if_neg (by omega),fV,hO1,g2])
     (λ a ha=>by rw[hO1];exact cp (yF uc _ p1) a ha)
     (λ ob ho=>by
      rw[hO1];obtain⟨o,hom,rfl⟩:=List.mem_map.1 ho;exact ar3 uc o (List.all_eq_true.1 p2 _ hom))
     (by rw[length_map,abE,fV,hO1,hO2,length_map,g2])
     (λ i hi=>by
      rw[hO2]at hi;have hp:g.da[i]? =some g.da[i]:=getElem?_eq_getElem hi
      have hev:((g.da[i]).oB (ud s.nv g.m) (gU s.aE eM)).ev (r++ [.aZ outs])=((g.da[i]).ev outs).bL (gU s.aE eM):=by
       rw[y5 ayX _ (List.all_eq_true.1 p3 _ (mem_of_getElem? hp)),hE]
      have hg:(iF s.aE eM (g.da.map (SO.oB (ud s.nv g.m) (gU s.aE eM))))[gU s.aE eM i]? =some ((g.da[i]).oB (ud s.nv g.m) (gU s.aE eM)):=by
       by_cases aK:i<g.aE.length
       ·obtain⟨n,a1,a2,a3⟩:=hin i aK;rw[a2,abD g3 a1 a3 (by simpa using hi),getElem?_map,hp];rfl
       ·rw[hσ,if_neg (by omega),am5 (by omega),getElem?_map,hp];rfl
      rw[getElem?_map,hg,getElem?_map,hp];simp only[map_some,hev])
     (λ n hn cJ=>by
      rw[fV]at hn
      have:n∉eM:=λ gI=>by
       obtain⟨i,hi⟩:=List.getElem?_of_mem gI;have hil:=(List.getElem?_eq_some_iff.1 hi).1;obtain⟨n',a1,a2,_⟩:=hin i (by omega);rw[hi]at a1;cases a1;exact cJ i (by rw[hO1];omega) a2
      rw[getElem?_map,abC hn this];simp only[cr,getElem?_map];cases ho:s.aE[n]? with
      |none=>rfl
      |some o=>
       simp only[map_some];rw[SO.dP (r':=[.aZ outs]) o (by rw[hl];exact SS.xV hc (mem_of_getElem? ho))])
    have ha:args.map (bj.ev (cG s r))=(SV.bn (D.bn r τ) g.args).map (AV.bL (gU s.aE eM)):=by
     rw[←dM,←tS,SV.bc,map_map];apply map_congr_left;intro x _;simp only[Function.comp_apply,bq]
    rw[ha];exact this
   ·cases h
  ·cases h
 ·cases h
theorem ake{n:Nat}{l:List AV}(hn:AV.ae l=true):∀(v:SV),v.pat n 0=true->(v.ev l).ag=true:=by
 intro v h;cases v with
 |d x=>
  cases x with
  |x i=>
   simp only[SV.ev,D.ev,List.getD];cases hx:l[i]? with
   |none=>rfl
   |some a=>exact bm hn a (mem_of_getElem? hx)
  |c a=>exact h
  |_=>simp[SV.pat]at h
 |row m y=>cases y<;>simp[SV.pat]at h
 |ptr m f=>simp[SV.pat]at h
 |_=>simp[SV.pat]at h
theorem acY{n:Nat}{l:List AV}(hn:AV.ae l=true):∀(vs:List SV),vs.all (SV.pat n 0)=true->AV.ae (SV.bn l vs)=true
 | [],_=>rfl
 |v::vs,h=>by
  simp only[all_cons,and_eq_true]at h;simp only[SV.bn,AV.ae,ake hn v h.1,acY hn vs h.2];rfl
theorem aBx{n:Nat}{l:List AV}(hn:AV.ae l=true):∀(v:SV),v.ahe n 0=true->(v.ev l).ag=true:=by
 intro v h;cases v with
 |aZ cs=>exact acY hn cs h
 |agg cs=>exact acY hn cs h
 |_=>exact ake (n:=n) hn _ h
theorem aG0{l:List AV}(h:AV.ae l=true):(qe l).ag=true:=by
 unfold qe
 split
 ·simpa [AV.ae]using h
 ·exact h
theorem acZ{n:Nat}{l:List AV}(hn:AV.ae l=true):∀(o:SO),o.pat n 0=true->(o.ev l).ae=true:=by
 intro o h;cases o with
 |dead=>rfl
 |box e cs=>
  simp only[SO.pat]at h;simp only[SO.ev,aj.ae,AV.ae,Bool.and_true];exact aG0 (acY hn cs h)
 |row nl e s y=>
  cases y with
  |x i=>
   have:AV.ae (aU (l.getD i .top))=true:=by
    refine dT ?_;simp only[List.getD];cases hx:l[i]? with
    |none=>rfl
    |some a=>exact bm hn a (mem_of_getElem? hx)
   rw[sd]
   show aj.ae (fp nl e s (aU (l.getD i .top)))=true;unfold fp
   split
   ·rfl
   ·exact this
  |_=>simp[SO.pat]at h
theorem atz{a:AV}(h:a.ag=true):a.one=true:=by
 cases a<;>first|exact h|(simp[AV.ag]at h;done)
theorem apw{a:AV}(h:a.ag=true):refs a= []:=by
 cases a<;>first|rfl|(simp[AV.ag]at h;done)
theorem aBw{n:Nat}{l:List AV}(hn:AV.ae l=true):∀(v:SV),v.pat n 1=true->(v.ev l).one=true:=by
 intro v h;cases v with
 |d x=>
  refine atz (ake (n:=n) hn (.d x) ?_);cases x<;>first|exact h|(simp[SV.pat]at h;done)
 |row m y=>
  cases y with
  |x i=>simp only[SV.pat,and_eq_true,decide_eq_true_eq]at h;simp only[SV.ev,AV.one,beq_iff_eq];omega
  |_=>simp[SV.pat]at h
 |ptr m f=>simp only[SV.pat,decide_eq_true_eq]at h;simp only[SV.ev,AV.one,beq_iff_eq];omega
 |_=>simp[SV.pat]at h
theorem aiz{n k:Nat}{l:List AV}(hn:AV.ae l=true):∀(vs:List SV),vs.all (SV.pat n 1)=true->(vs.map ((AV.bL λ _=>k)∘SV.ev l)).flatMap refs=List.replicate (vs.filter SV.isR).length k
 | [],_=>rfl
 |v::vs,h=>by
  simp only[all_cons,and_eq_true]at h;simp only[map_cons,List.flatMap_cons,Function.comp_apply,aiz hn vs h.2];cases v with
  |d x=>
   have:(SV.ev l (.d x)).ag=true:=ake (n:=n) hn (.d x) (by cases x<;>first|exact h.1|(simp[SV.pat]at h;done));rw[cU _ this,apw this];rfl
  |row m y=>rfl
  |ptr m f=>rfl
  |_=>simp[SV.pat]at h
theorem as7{s:SS}{f:FuncId}{gs:List eK}{args:List bj}{g:eK}{q}(afB:g.one=true)(h:aet s f (args.map (ey s)) g=some q):gy P (.mM gs f args) s q:=by
 intro r hl hc hr kY K hk;unfold aet at h
 split at h
 ·rename_i τ eM hm;simp only at h
  split at h
  ·rename_i ns cV
   split at h
   ·rename_i sr;obtain⟨g1,g2,g3,g4,g5,g6,g7⟩:=sr;simp only[Option.some.injEq]at h;subst h;simp only[eK.ok,and_eq_true,decide_eq_true_eq]at g1;obtain⟨⟨⟨⟨p1,p2⟩,p3⟩,p4⟩,p5⟩:=g1;have hσ:∀n,gU s.aE eM n=if n<eM.length then eM.getD n 0 else s.aE.length+(n- eM.length):=λ _=>rfl
    have ayL:D.cls s.nv τ=true:=by
     have kY:=kY;simp only at kY;rw[eG,and_eq_true]at kY;have:=kY.2;simp only[dA,PO.cl,and_eq_true,g7]at this;exact this.1
    have uc:AV.ae (D.bn r τ)=true:=D.eN hr τ (by rw[hl];exact ayL);simp only at hk;rw[dH]at hk;obtain⟨hk,tS⟩:=u7 cV p1 uc hk;simp only[mX,PO.wp]at hk;obtain⟨outs,iU,hlen,hon,hk⟩:=hk;obtain⟨hk,heq⟩:=xS hk;have hl1:(r++ [AV.aZ outs]).length=s.nv+1:=by simp[hl]
    have anE:∀d:D,d.cl s.nv=true->d.ev (r++ [.aZ outs])=d.ev r:=λ d hd=>D.dP d (by rw[hl];exact hd)
    have hE:D.bn (r++ [.aZ outs]) (ud s.nv g.m)=outs:=anR hl hlen [];have ayX:AV.ae (D.bn (r++ [.aZ outs]) (ud s.nv g.m))=true:=by rw[hE];exact hon
    have hK:=hk (by
     funext t
     simp only[cG]
     rw[aay (f:=aj7 (yY g τ (gU s.aE eM) s.nv)) (by
      generalize yY g τ (gU s.aE eM) s.nv=ks
      induction ks with
      |nil=>rfl
      |cons a ks ih=>simp only[aj7,foldl_cons,SV.rew]at ih⊢;exact ih)]
     refine aew (λ q hq=> ?_) _ (SV.dP _ (by rw[hl];exact SS.tm hc t));have nR:=anl ayL q hq;exact⟨anE _ nR,by rw[←anE _ nR];exact heq q hq⟩)
    have hin:∀i,i<g.aE.length->∃n,eM[i]? =some n/\gU s.aE eM i=n/\n<s.aE.length:=by
     intro i hi;have fR:i<eM.length:=by omega
     refine⟨eM[i],getElem?_eq_getElem fR,?_,?_⟩
     ·rw[hσ,if_pos fR];simp[List.getD,fR]
     ·have:=List.all_eq_true.1 g4 eM[i] (List.getElem_mem fR);simpa using this
    have hO1:(g.aE.map (SO.ev (D.bn r τ))).length=g.aE.length:=by simp
    have hO2:(g.da.map (SO.ev outs)).length=g.da.length:=by simp
    have u3:(g.res.apS (ud s.nv g.m) (gU s.aE eM)).ev (r++ [.aZ outs])=(g.res.ev outs).bL (gU s.aE eM):=by
     rw[akx ayX _ p4,hE]
    have ayZ:cr {s with env:=s.env.map (λ p=>(p.1,aj7 (yY g τ (gU s.aE eM) s.nv) p.2)),aE:=iF s.aE eM (g.da.map (SO.oB (ud s.nv g.m) (gU s.aE eM))),nv:=s.nv+1} (r++ [.aZ outs])=
     (iF s.aE eM (g.da.map (SO.oB (ud s.nv g.m) (gU s.aE eM)))).map (SO.ev (r++ [.aZ outs])):=rfl
    rw[u3,ayZ]at hK;simp only[eK.one,and_eq_true,decide_eq_true_eq]at afB;obtain⟨⟨⟨⟨⟨e1,e2⟩,e3⟩,e4⟩,e5⟩,e6⟩:=afB;obtain⟨o,ho⟩:∃o,g.aE= [o]:=List.length_eq_one_iff.1 e1;obtain⟨o',ho'⟩:∃o,g.da= [o]:=List.length_eq_one_iff.1 e2;obtain⟨n,a1,a2,a3⟩:=hin 0 (by omega);have aFD:(g.res.ev outs).ag=true:=aBx hon _ e5;have azg:∀v∈g.args,(v.ev (D.bn r τ)).one=true:=λ v hv=>aBw uc v (by have:=List.all_eq_true.1 p1 v hv;rwa [e1]at this)
    have ha:args.map (bj.ev (cG s r))=(SV.bn (D.bn r τ) g.args).map (AV.bL λ _=>n):=by
     have h1:args.map (bj.ev (cG s r))=(SV.bn (D.bn r τ) g.args).map (AV.bL (gU s.aE eM)):=by
      rw[←dM,←tS,SV.bc,map_map];apply map_congr_left;intro x _;simp only[Function.comp_apply,bq]
     rw[h1,SV.bc,map_map,map_map];exact map_congr_left λ v hv=>ar8 a2 (azg v hv)
    refine⟨n,SV.bn (D.bn r τ) g.args,o.ev (D.bn r τ),g.res.ev outs,o'.ev outs,ha,?_,?_,?_,?_,aFD,?_,?_,?_⟩
    ·rw[SV.bc,List.all_map];exact List.all_eq_true.2 λ v hv=>azg v hv
    ·have h1:(args.flatMap λ x=>refs (x.ev (cG s r)))=(args.map (bj.ev (cG s r))).flatMap refs:=by rw[List.flatMap_map]
     rw[h1,ha,SV.bc,map_map,aiz (k:=n) uc g.args (by rw[e1]at p1;exact p1),e6];rfl
    ·have h1:=qZ g6 0 o (by rw[ho];rfl);rw[zero_add,a2]at h1;simp only[cr,getElem?_map,h1,map_some];rw[y5 uc o (by have:=List.all_eq_true.1 p2 o (by rw[ho];simp);exact this),kq (acZ uc o (List.all_eq_true.1 e3 o (by rw[ho];simp)))]
    ·exact acZ uc o (List.all_eq_true.1 e3 o (by rw[ho];simp))
    ·exact acZ hon o' (List.all_eq_true.1 e4 o' (by rw[ho'];simp))
    ·have:=iU;unfold jY at this;rw[ho,ho']at this;exact this
    ·have zk:eM.length=1:=by rw[g2,e1]
     have hO:(iF s.aE eM (g.da.map (SO.oB (ud s.nv g.m) (gU s.aE eM)))).map (SO.ev (r++ [.aZ outs]))=(cr s r).set n (o'.ev outs):=by
      apply List.ext_getElem?;intro j;by_cases hj:j=n
      ·subst hj;rw[getElem?_map,abD g3 a1 a3 (by rw[ho'];simp),getElem?_map,ho',List.getElem?_set_self (by rw[fV];exact a3)];simp only[List.getElem?_cons_zero,map_some];rw[y5 ayX o' (by have:=List.all_eq_true.1 p3 o' (by rw[ho'];simp);exact this),hE,kq (acZ hon o' (List.all_eq_true.1 e4 o' (by rw[ho'];simp)))]
      ·rw[getElem?_set_ne (λ h=>hj h.symm)];by_cases aK:j<s.aE.length
       ·rw[getElem?_map,abC aK (λ gI=>by
          obtain⟨i,hi⟩:=List.getElem?_of_mem gI;have hil:=(List.getElem?_eq_some_iff.1 hi).1;have:i=0:=by omega
          subst this;rw[a1]at hi;cases hi;exact hj rfl)]
        simp only[cr,getElem?_map];cases hx:s.aE[j]? with
        |none=>rfl
        |some ob=>
         simp only[map_some];rw[SO.dP (r':=[.aZ outs]) ob (by rw[hl];exact SS.xV hc (mem_of_getElem? hx))]
       ·rw[List.getElem?_eq_none (by rw[length_map,abE,length_map,ho',zk];simp only[List.length_cons,length_nil];omega),List.getElem?_eq_none (by rw[fV];omega)]
     rw[hO,cU _ aFD]at hK;exact hK
   ·cases h
  ·cases h
 ·cases h
theorem aiu{s:SS}{f:FuncId}{gs:List eK}{args:List bj}:∀{ls:List eK} {q},uM s f (args.map (ey s)) ls=some q->gy P (.aY gs f args) s q
 | [],_,h=>by cases h
 |g::ls,q,h=>by
  unfold uM at h
  split at h
  ·rename_i q' hq;cases h;exact axl hq
  ·exact aiu h
theorem xo{s:SS}{f:FuncId}{gs:List eK}{args:List bj}:∀{ls:List eK} {q},uM s f (args.map (ey s)) (ls.filter eK.one)=some q->gy P (.mM gs f args) s q
 | [],_,h=>by cases h
 |g::ls,q,h=>by
  by_cases hg:g.one=true
  ·rw[List.filter_cons_of_pos hg]at h;unfold uM at h
   split at h
   ·rename_i q' hq;cases h;exact as7 hg hq
   ·exact xo h
  ·rw[List.filter_cons_of_neg hg]at h;exact xo h
theorem aCN{s:SS}{a:bj}{cs:List SV}{i:Nat}{v:SV}(ha:ey s a= .aZ cs)(hi:cs[i]? =some v):gy P (.ext a i) s ([],v,s):=by
 intro r hl hc hr kY K hk;have hG:=hk rfl
 show(match a.ev (cG s r)with| .aZ vs=>i<vs.length/\K (vs.getD i .top) (cr s r)|_=>False);rw[←bq,ha];simp only[SV.ev,SV.bc];have aK:=(List.getElem?_eq_some_iff.1 hi).1;refine⟨by simpa using aK,?_⟩;simp only[List.getD,getElem?_map,hi,map_some,getD_some];exact hG
end
section
variable {P:Program}
theorem azI{s:SS}{off:Nat}{a:bj}{q}(h:aoL s off (ey s a)=some q):gy P (.bX off a) s q:=by
 intro r hl hc hr kY K hk;unfold aoL at h
 split at h
 ·rename_i k f ha
  split at h
  ·rename_i q' hb;cases h;obtain⟨e,cs⟩:=q';rw[vI,←bq,ha];simp only[SV.ev,tf];rw[j2 (mn hb) r];simp only[SO.ev,jK,k1];exact⟨rfl,hk rfl⟩
  ·cases h
 ·rename_i k l i f ha
  split at h
  ·rename_i q' oL;obtain⟨e,sz⟩:=q';cases h;rw[vI,←bq,ha];simp only[SV.ev,tf];have:=j2 (gw oL) r;simp only[SO.ev]at this;rw[this,jK,k1];exact⟨rfl,hk rfl⟩
  ·rename_i q' oL;obtain⟨e,sz⟩:=q';cases h;rw[vI,←bq,ha];simp only[SV.ev,tf];simp only[mX,eL.wp,anv]at hk
   split at hk
   ·obtain⟨h0,h1,hk⟩:=hk;rcases iM (gw oL) r with h5|⟨h5,h6,_⟩
    ·rw[h5,jK,k1];exact⟨rfl,hk trivial⟩
    ·rw[h6]at h1;simp at h1;omega
   ·exact hk.elim
  ·cases h
 ·rename_i y f ha;cases h;rw[vI,←bq,ha];simp only[SV.ev,vg,k1];exact hk rfl
 ·rename_i y ha;cases h;have h1:=oq (K:=K) hl hc hk;simp only[PO.wp,aqq]at h1;rw[vI,←bq,ha];simp only[SV.ev]
  split at h1
  ·rename_i z f hy;rw[hy,vg,k1];exact h1
  ·exact h1.elim
 ·cases h
theorem aHS{s:SS}{off:Nat}{n:Option Nat}{a:bj}{q}(h:aF3 s off n (ey s a)=some q):gy P (.zq off n a) s q:=by
 intro r hl hc hr kY K hk
 have hb:∀{A:AV},(ey s a).ev r=A->(A.isAgg=true/\off+n.getD 1<=A.cells.length/\K (cA n A off) (cr s r))->wpOp P (.zq off n a) (cG s r) (cr s r) K:=by
  intro A hA h;rw[aFs,←bq,hA];exact h
 unfold aF3 at h
 split at h
 ·rename_i cs ha
  split at h
  ·split at h
   ·rename_i v hv;cases h;have aK:=(List.getElem?_eq_some_iff.1 hv).1;refine hb (A:= .agg (SV.bn r cs)) (by rw[ha];rfl) ⟨rfl,by simp only[AV.cells,SV.bc,length_map,getD_none];omega,?_⟩;rw[jj];simp only[AV.cells,SV.bc,List.getD,getElem?_map,hv];exact hk rfl
   ·cases h
  ·rename_i m
   split at h
   ·rename_i h1;cases h;have h2:=aeW (K:=K) hl hc hk;refine hb (A:= .agg (SV.bn r cs)) (by rw[ha];rfl) ⟨rfl,by simp only[AV.cells,SV.bc,length_map,getD_some];exact h1,?_⟩
    have h3:cA (some m) (.agg (SV.bn r cs)) off= .agg (SV.bn r ((cs.drop off).take m)):=by
     unfold cA;simp only
     split
     ·rename_i h4;obtain⟨rfl,_,h5⟩:=h4;simp only[AV.cells,SV.bc,length_map]at h5;rw[List.drop_zero,List.take_of_length_le (by omega)]
     ·simp only[AV.cells,SV.bc,map_take,map_drop]
    rw[h3];exact h2
   ·cases h
 ·rename_i l ha
  split at h
  ·split at h
   ·rename_i d hd;cases h;have aK:=(List.getElem?_eq_some_iff.1 hd).1;refine hb (A:= .agg (D.bn r l)) (by rw[ha];rfl) ⟨rfl,by simp only[AV.cells,D.bc,length_map,getD_none];omega,?_⟩;rw[jj];simp only[AV.cells,D.bc,List.getD,getElem?_map,hd];exact hk rfl
   ·cases h
  ·cases h;exact hb (A:=(D.agg l).ev r) (by rw[ha];rfl) (oq (K:=K) hl hc hk)
 ·rename_i x _ ha;cases h;exact hb (A:=x.ev r) (by rw[ha];rfl) (oq (K:=K) hl hc hk)
 ·cases h
theorem ayK{s:SS}{m:Nat}{a b:bj}{q}(h:aoK s m (ey s a) (ey s b)=some q):gy P (.dO m a b) s q:=by
 intro r hl hc hr kY K hk;unfold aoK at h
 split at h
 ·rename_i l i ha hb;cases h;rw[akk,←bq,←bq,ha,hb];simp only[SV.ev];simp only[mX,PO.wp,jE]at hk
  split at hk
  ·rename_i xs _ j h1 h2;rw[h1,h2,ai0,k1];obtain⟨q1,q2,q3,q4⟩:=hk;refine⟨q1,q2,q3,?_⟩;have h3:cG {s with nv:=s.nv+1} (r++ [xs.getD j.toNat .top])=cG s r:=jt (s:=s) hl hc;have h4:=q4 h3;have h5:cr {s with nv:=s.nv+1} (r++ [xs.getD j.toNat .top])=cr s r:=j8 (s:=s) hl hc;rw[h5]at h4;simp only[SV.ev,D.ev,dG hl]at h4;exact h4
  ·exact hk.elim
 ·rename_i k l i ha hb
  split at h
  ·rename_i nl e sz oL
   split at h
   ·rename_i rI;subst rI;cases h;rw[akk,←bq,←bq,ha,hb];simp only[SV.ev];simp only[mX,eL.wp,anv]at hk
    split at hk
    ·rename_i j h2;obtain⟨q1,q2,q3⟩:=hk;rw[h2,afA];have h3:=q3 trivial;simp only[SV.ev,h2,idxOf]at h3;rcases iM (gw oL) r with h5|⟨h5,h6,_⟩
     ·rw[h5,jK,k1];exact⟨rfl,rfl,q1,q2,h3⟩
     ·rw[h6]at q2;simp at q2;omega
    ·exact hk.elim
   ·cases h
  ·cases h
 ·cases h
theorem abt{O:List aj}{y:AV}{M:List AV->Prop}(h:ng [] y M):ng O y M:=by
 unfold ng at*
 split at h
 ·exact h
 ·exact h
 ·simp[aar]at h
 ·exact h.elim
theorem aIl{s:SS}{t m bytes k:Nat}{a b:bj}{l y:D}{nl:Bool}{e sz:Nat}(ha:ey s a= .row k l)(oL:cur s k l=some (nl,e,sz))(aQY:e=t/\sz=m)
  (hy:ey s b= .d y∨∃k' l',ey s b= .row k' l'/\(cur s k' l').isSome=true/\y= .sl l'):
  gy P (.app t m bytes a b) s ([.op (.app m bytes l y)],.row k (.x s.nv),{s with aE:=s.aE.set k (.row nl e sz (.x s.nv)),nv:=s.nv+1}):=by
 intro r hl hc hr kY K hk;obtain⟨rfl,rfl⟩:=aQY;rw[axX,←bq,←bq,ha]
 have ap2:∀{M:List AV->Prop},ng [] (y.ev r) M->ng (cr s r) ((ey s b).ev r) M:=by
  intro M h;rcases hy with hy|⟨k',l',hy,hcu,rfl⟩
  ·rw[hy];exact abt h
  ·rw[hy];obtain⟨⟨nl',e',sz'⟩,hq⟩:=Option.isSome_iff_exists.1 hcu;simp only[D.ev,ad0]at h;simp only[SV.ev,zZ];rcases iM (gw hq) r with h5|⟨h5,h6,_⟩
   ·rw[h5,sh];exact⟨rfl,h⟩
   ·rw[h5,uR,h6];rw[h6]at h;exact⟨rfl,h⟩
 refine ap2 ?_;simp only[mX,PO.wp,aox]at hk;refine vA hk λ ys _ hK=>⟨hK.1,?_⟩
 obtain⟨_,h48,wc,hK⟩:=hK;generalize hxs:aU (l.ev r)=xs at*;have nQ:cG {s with aE:=s.aE.set k (.row nl e sz (.x s.nv)),nv:=s.nv+1} (r++ [.sl (xs++ys)])=cG s r:=jt (s:=s) hl hc;have hG:=hK nQ;rw[ajD ⟨_,rfl⟩ hl hc]at hG;simp only[SV.ev,D.ev,dG hl,gv,List.length_append]at hG;simp only[SV.ev,hxs,aiG,k1];have mz:=gw oL;have aK:k<(cr s r).length:=by rw[fV];exact(List.getElem?_eq_some_iff.1 mz).1
 have aM4:∀{ob},(cr s r)[k]? =some ob->(cr s r).set k ob=cr s r:=by
  intro ob h;apply List.ext_getElem?;intro j;rw[List.getElem?_set]
  split
  ·rename_i hj;subst hj;rw[h]
  ·rfl
 rcases iM mz r with h5|⟨h5,h6,h7⟩
 ·rw[h5,hxs,sh];refine⟨rfl,rfl,rfl,h48,wc,?_⟩;cases nl with
  |false=>simpa only[SO.ev,D.ev,dG hl,gv]using hG
  |true=>
   have ej:xs≠[]:=by
    intro h0;have:=j2 mz r;simp only[SO.ev,hxs,h0,if_true]at this;rw[this]at h5;cases h5
   have ay0:xs++ys≠[]:=by simp[ej]
   simp only[SO.ev,D.ev,dG hl,gv,if_neg ay0]at hG;exact hG
 ·rw[hxs]at h6;subst h6;subst h7;rw[h5,uR];simp only[length_nil,zero_add]at h48 wc;refine⟨rfl,rfl,rfl,h48,wc,λ h0=> ?_,λ h0=> ?_⟩
  ·subst h0;simp only[SO.ev,D.ev,dG hl,gv,append_nil,if_true,length_nil,add_zero]at hG;rw[aM4 h5]at hG;exact hG
  ·simp only[SO.ev,D.ev,dG hl,gv,nil_append,if_neg h0,length_nil,zero_add]at hG;exact hG
theorem aDc{s:SS}{t m bytes:Nat}{a b:bj}{y:D}(ha:ey s a= .d (.c .an))
  (hy:ey s b= .d y∨∃k' l',ey s b= .row k' l'/\(cur s k' l').isSome=true/\y= .sl l'):
  gy P (.app t m bytes a b) s ([.op (.app m bytes (.c (.sl [])) y),.aq (.ne (.x s.nv))],.row s.aE.length (.x s.nv),{s with aE:=s.aE++ [.row false t m (.x s.nv)],nv:=s.nv+1}):=by
 intro r hl hc hr kY K hk;rw[axX,←bq,←bq,ha]
 have ap2:∀{M:List AV->Prop},ng [] (y.ev r) M->ng (cr s r) ((ey s b).ev r) M:=by
  intro M h;rcases hy with hy|⟨k',l',hy,hcu,rfl⟩
  ·rw[hy];exact abt h
  ·rw[hy];obtain⟨⟨nl',e',sz'⟩,hq⟩:=Option.isSome_iff_exists.1 hcu;simp only[D.ev,ad0]at h;simp only[SV.ev,zZ];rcases iM (gw hq) r with h5|⟨h5,h6,_⟩
   ·rw[h5,sh];exact⟨rfl,h⟩
   ·rw[h5,uR,h6];rw[h6]at h;exact⟨rfl,h⟩
 refine ap2 ?_;simp only[mX,PO.wp,aox,D.ev,gv,length_nil,zero_add,nil_append]at hk;refine vA hk λ ys _ hK=>⟨hK.1,?_⟩
 obtain⟨_,h48,wc,ej,hK⟩:=hK;simp only[D.ev,dG hl,gv]at ej;have nQ:cG {s with aE:=s.aE++ [.row false t m (.x s.nv)],nv:=s.nv+1} (r++ [.sl ys])=cG s r:=jt (s:=s) hl hc;have hG:=hK nQ
 have hO:cr {s with aE:=s.aE++ [.row false t m (.x s.nv)],nv:=s.nv+1} (r++ [.sl ys])=cr s r++ [.live t m ys]:=by
  simp only[cr,map_append,map_cons,map_nil,SO.ev,D.ev,dG hl,gv];congr 1;exact j8 (s:=s) hl hc
 rw[hO]at hG;simp only[SV.ev,D.ev,dG hl,gv]at hG;simp only[SV.ev,D.ev,aeT,k1,fV];exact⟨h48,wc,λ h0=>(ej h0).elim,λ _=>hG⟩
theorem aHX{s:SS}{a:bj}{i j:Nat}(ha:ey s a= .d (.x j)):gy P (.ext a i) s ([.aq (.aZ (.x j) i)],.d (.ext j i),s):=by
 intro r hl hc hr kY K hk;rw[aFt,←bq,ha];simp only[mX,eL.wp,aoU]at hk;simp only[SV.ev]
 split at hk
 ·rename_i vs hv;rw[hv,asB,k1];have h2:=hk.2 trivial;simp only[SV.ev,D.ev]at h2 hv;rw[hv]at h2;exact⟨hk.1,h2⟩
 ·exact hk.elim
theorem gE{s:SS}:∀{xs:List bj} {ns:List Node} {ds:List D} {b:Bool},lr s xs=some (ns,ds,b)->lA s.nv ns=s.nv/\∀{r:List AV} {G:List AV->Prop},mX P ns r G->G r/\
  (AV.ae (D.bn r ds)=true->D.bn r ds=xs.map (λ x=>lh (cr s r) (x.ev (cG s r)))/\(b=false->AV.ae (xs.map (bj.ev (cG s r)))=true/\D.bn r ds=xs.map (bj.ev (cG s r))))
 | [],ns,ds,b,h=>by
   simp only[lr,Option.some.injEq,Prod.mk.injEq]at h;obtain⟨rfl,rfl,rfl⟩:=h;exact⟨rfl,λ hw=>⟨hw,λ _=>⟨rfl,λ _=>⟨rfl,rfl⟩⟩⟩⟩
 |x::xs,ns,ds,b,h=>by
  simp only[lr]at h
  split at h
  ·rename_i ns1 ds1 b1 h1;obtain⟨hn,ih⟩:=gE h1
   split at h
   ·rename_i k l hx
    split at h
    ·rename_i q oL;obtain⟨nl,e,sz⟩:=q;cases h;refine⟨hn,λ {r G} hw=> ?_⟩;obtain⟨h2,h3⟩:=ih hw;refine⟨h2,λ cJ=> ?_⟩;simp only[D.bn,AV.ae,and_eq_true]at cJ;obtain⟨h3,_⟩:=h3 cJ.2;refine⟨?_,by simp⟩;simp only[D.bn,map_cons,h3,List.cons.injEq,and_true];rw[←bq,hx];simp only[SV.ev,D.ev,lh];rcases iM (gw oL) r with h5|⟨h5,h6,_⟩
     ·rw[h5];simp
     ·rw[h5,h6];simp
    ·cases h
   ·split at h
    ·rename_i ms d hd;cases h;refine⟨by rw[lS,af9 hd,hn],λ {r G} hw=> ?_⟩;rw[dH]at hw;obtain⟨hw,he⟩:=nJ hd hw;obtain⟨h2,h3⟩:=ih hw;rw[bq]at he;refine⟨h2,λ cJ=> ?_⟩;simp only[D.bn,AV.ae,and_eq_true]at cJ;obtain⟨h3,h4⟩:=h3 cJ.2;rw[he]at cJ;refine⟨?_,λ hb=> ?_⟩
     ·simp only[D.bn,map_cons,h3,he,aaU cJ.1]
     ·obtain⟨g1,g2⟩:=h4 hb;simp only[D.bn,map_cons,AV.ae,g1,g2,he,cJ.1,Bool.and_true,and_self]
    ·cases h
  ·cases h
theorem ot{s:SS}{r:List AV}(hl:r.length=s.nv)(hc:s.cl=true){ns:List Node}(hn:lA s.nv ns=s.nv){o:PO}{K:KT}(h:mX P (nx s ns o).1 r (λ r'=>cG (nx s ns o).2.2 r'=cG s r->K ((nx s ns o).2.1.ev r') (cr (nx s ns o).2.2 r'))):
  mX P ns r λ r1=>r1=r->o.wp P r λ v=>K v (cr s r):=by
 simp only[nx,dH]at h;refine pU ns (λ m hw he=> ?_) h;rw[he]at hw;exact PO.ru (o:=o) hw λ v hv=>apu (ns:=ns) (o:=o) hl hc hn hv
theorem zA{s:SS}{ns:List Node}(hn:lA s.nv ns=s.nv){f:FuncId}{ds:List D}{b:Bool}(h:dA s.nv (nx s ns (.call f ds b)).1=true):D.cls s.nv ds=true:=by
 simp only[nx,eG,and_eq_true]at h;have:=h.2;simp only[dA,PO.cl,Bool.and_true,hn]at this;exact this
theorem atp{s:SS}{r:List AV}{f:FuncId}{args:List bj}{ds:List D}{b:Bool}{K:KT}(cJ:AV.ae (D.bn r ds)=true)
  (h1:D.bn r ds=args.map (λ x=>lh (cr s r) (x.ev (cG s r)))) (h2:b=false->AV.ae (args.map (bj.ev (cG s r)))=true)
  (h:(PO.call f ds b).wp P r λ v=>K v (cr s r)):aeL P f (args.map λ x=>lh (cr s r) (x.ev (cG s r))) (args.map (bj.ev (cG s r))) (cr s r) K:=by
 obtain⟨res,q1,q2,q3,q4⟩:=h;rw[h1]at q1 cJ;refine pn res q1 cJ ?_
 have:aft (cr s r) (args.map (bj.ev (cG s r))) res=cr s r:=by
  cases b with
  |true=>exact zJ (q3 rfl)
  |false=>exact xZ (h2 rfl)
 rw[this];exact q4
theorem axK{s:SS}{f:FuncId}{args:List bj}{ns:List Node}{ds:List D}{b:Bool}(h:lr s args=some (ns,ds,b)):gy P (.qd f args) s (nx s ns (.call f ds b)):=by
 intro r hl hc hr kY K hk;obtain⟨hn,hs⟩:=gE (P:=P) h;obtain⟨hG,ha⟩:=hs (ot hl hc hn hk);have cJ:=D.eN hr ds (by rw[hl];exact zA hn kY);obtain⟨h1,h2⟩:=ha cJ;rw[asa];exact atp cJ h1 (λ hb=>(h2 hb).1) (hG rfl)
theorem axD{s:SS}{f:FuncId}{args:List bj}{ns:List Node}{ds:List D}(h:lr s args=some (ns,ds,false)):gy P (.fA f args) s (nx s ns (.call f ds false)):=by
 intro r hl hc hr kY K hk;obtain⟨hn,hs⟩:=gE (P:=P) h;obtain⟨hG,ha⟩:=hs (ot hl hc hn hk);have cJ:=D.eN hr ds (by rw[hl];exact zA hn kY);obtain⟨h1,h2⟩:=(ha cJ).2 rfl;obtain⟨res,q1,q2,q3,q4⟩:=hG rfl;rw[ar9];rw[h2]at q1;exact eE res q1 h1 q4
theorem as6{s:SS}{gs:List eK}{f:FuncId}{args:List bj}{ns:List Node}{ds:List D}(h:lr s args=some (ns,ds,false)):gy P (.aY gs f args) s (nx s ns (.call f ds false)):=by
 intro r hl hc hr kY K hk;obtain⟨hn,hs⟩:=gE (P:=P) h;obtain⟨hG,ha⟩:=hs (ot hl hc hn hk);have cJ:=D.eN hr ds (by rw[hl];exact zA hn kY);obtain⟨h1,h2⟩:=(ha cJ).2 rfl;obtain⟨res,q1,q2,q3,q4⟩:=hG rfl;rw[h2]at q1;refine⟨res,cr s r,?_,q4⟩;have:=j7.fresh q1 h1 (cr s r);rwa [cU res q2,map_nil,append_nil]at this
theorem axv{s:SS}{f:FuncId}{args:List bj}{ns:List Node}{ds:List D}{b:Bool}(h:lr s args=some (ns,ds,b)):gy P (.p9 f args) s (nx s ns (.call f ds true)):=by
 intro r hl hc hr kY K hk;obtain⟨hn,hs⟩:=gE (P:=P) h;obtain⟨hG,ha⟩:=hs (ot hl hc hn hk);have cJ:=D.eN hr ds (by rw[hl];exact zA hn kY);obtain⟨h1,h2⟩:=ha cJ;obtain⟨res,q1,q2,q3,q4⟩:=hG rfl;rw[h1]at q1 cJ;exact⟨res,q3 rfl,cJ,q1,q4⟩
theorem aiv{nl:Bool}{e s:Nat}{xs:List AV}(h:AV.ae xs=true)(t:Nat->Nat):(fp nl e s xs).bL t=fp nl e s xs:=by
 unfold fp
 split
 ·rfl
 ·simp only[aj.bL];rw[←dM,db xs h]
theorem azG{s:SS}{ns:List Node}(hn:lA s.nv ns=s.nv){nl:Bool}{e m:Nat}{f:FuncId}{ds:List D}(h:dA s.nv (nx s ns (.gq nl e m f ds)).1=true):D.cls s.nv ds=true:=by
 simp only[nx,eG,and_eq_true]at h;have:=h.2;simp only[dA,PO.cl,Bool.and_true,hn]at this;exact this
theorem azF{s:SS}{nl:Bool}{e m:Nat}{f:FuncId}{args:List bj}{ns:List Node}{ds:List D}{q}(h:lr s args=some (ns,ds,false))(hq:yH s nl e m (nx s ns (.gq nl e m f ds))=some q):gy P (.gq nl e m f args) s q:=by
 intro r hl hc hr kY K hk;obtain⟨hn,hs⟩:=gE (P:=P) h;have hq1:q.1=(nx s ns (.gq nl e m f ds)).1:=by simp only[yH,nx,Option.some.injEq]at hq;subst hq;rfl
 obtain⟨hG,ha⟩:=hs (am4 hq hn hl hc hk);have cJ:=D.eN hr ds (by rw[hl];exact azG hn (by rw[←hq1];exact kY));obtain⟨h1,h2⟩:=(ha cJ).2 rfl;obtain⟨xs,q1,q2,q3⟩:=hG rfl;rw[h2]at q1;refine⟨.row 0 xs.length,fp nl e m xs,h1,q1,?_⟩;rw[aiv q2,fV];simp only[AV.bL,add_zero];exact q3
def known(g:D):Option (FuncId×List D):=
 match g with
 | .c (.fn f [])=>some (f,[])
 | .fn f bl=>some (f,bl)
 |_=>none
theorem aiC{s:SS}{g:bj}{x:D}{f:FuncId}{bl:List D}{args:List bj}{ns:List Node}{ds:List D}{b:Bool}(hg:ey s g= .d x)(hx:∀r,x.ev r= .fn f (D.bn r bl))(h:lr s args=some (ns,ds,b)):
  gy P (.mN g args) s (nx s ns (.call f (ds++bl) b)):=by
 intro r hl hc hr kY K hk;obtain⟨hn,hs⟩:=gE (P:=P) h;obtain⟨hG,ha⟩:=hs (ot hl hc hn hk);have cJ:=D.eN hr (ds++bl) (by rw[hl];exact zA hn kY);have aNY:D.bn r (ds++bl)=D.bn r ds++D.bn r bl:=by simp only[D.bc,map_append]
 rw[aNY]at cJ;have at8:=cJ;rw[b9,and_eq_true]at at8;obtain⟨h1,h2⟩:=ha at8.1;obtain⟨res,q1,q2,q3,q4⟩:=hG rfl;rw[aeU,←bq,hg];simp only[SV.ev,hx,xx];rw[aNY,h1]at q1;rw[h1]at cJ;refine pn res q1 cJ ?_
 have:aft (cr s r) (args.map (bj.ev (cG s r))) res=cr s r:=by
  cases b with
  |true=>exact zJ (q3 rfl)
  |false=>exact xZ (h2 rfl).1
 rw[this];exact q4
theorem az7{s:SS}{ns:List Node}(hn:lA s.nv ns=s.nv){g:D}{ds:List D}{b:Bool}(h:dA s.nv (nx s ns (.ib g ds b)).1=true):g.cl s.nv=true/\D.cls s.nv ds=true:=by
 simp only[nx,eG,and_eq_true]at h;have:=h.2;simp only[dA,PO.cl,Bool.and_true,hn,and_eq_true]at this;exact this
theorem apl{s:SS}{g:bj}{x:D}{args:List bj}{ns:List Node}{ds:List D}{b:Bool}(hg:ey s g= .d x)(h:lr s args=some (ns,ds,b)):
  gy P (.mN g args) s (nx s ns (.ib x ds b)):=by
 intro r hl hc hr kY K hk;obtain⟨hn,hs⟩:=gE (P:=P) h;obtain⟨hG,ha⟩:=hs (ot hl hc hn hk);obtain⟨hx,hds⟩:=az7 hn kY;have at8:=D.eN hr ds (by rw[hl];exact hds);have hnx:=D.cC hr x (by rw[hl];exact hx);obtain⟨h1,h2⟩:=ha at8;have hG:=hG rfl;rw[aeU,←bq,hg];simp only[PO.wp,vm]at hG;simp only[SV.ev]
 split at hG
 ·rename_i f bl hf;rw[hf]at hnx⊢;rw[xx];obtain⟨res,q1,q2,q3,q4⟩:=hG;rw[h1]at q1 at8;refine pn res q1 (by rw[b9,at8];exact hnx) ?_
  have:aft (cr s r) (args.map (bj.ev (cG s r))) res=cr s r:=by
   cases b with
   |true=>exact zJ (q3 rfl)
   |false=>exact xZ (h2 rfl).1
  rw[this];exact q4
 ·exact hG.elim
theorem aBQ{s:SS}{f:FuncId}{bl:List bj}{ns:List Node}{ds:List D}(nR:D.cls s.nv ds=true)(h:lr s bl=some (ns,ds,false)):gy P (.aau f bl) s (done s ns (.d (.fn f ds))):=by
 intro r hl hc hr kY K hk;obtain⟨hn,hs⟩:=gE (P:=P) h;obtain⟨hG,ha⟩:=hs hk;have cJ:=D.eN hr ds (by rw[hl];exact nR);obtain⟨h1,h2⟩:=(ha cJ).2 rfl;have hG:=hG rfl;rw[axT,k1,←h2];exact hG
theorem aBO{s:SS}{a:bj}{q}(h:xOp (.acu a) s=some q):gy P (.acu a) s q:=by
 intro r hl hc hr kY K hk;simp only[xOp]at h;rw[axS,←bq]
 split at h
 ·rename_i k f ha
  split at h
  ·rename_i q' hb;obtain⟨e,cs⟩:=q';cases h;rw[ha];simp only[SV.ev,aiH];rw[j2 (mn hb) r];simp only[SO.ev,jK,k1];exact⟨rfl,hk rfl⟩
  ·cases h
 ·rename_i y f ha;cases h;rw[ha];simp only[SV.ev,xA,k1];exact hk rfl
 ·rename_i f l ha;cases h;rw[ha];simp only[SV.ev,D.ev,aeY,k1];exact hk rfl
 ·rename_i x _ ha;cases h;rw[ha];simp only[SV.ev];simp only[mX,eL.wp,abK]at hk
  split at hk
  ·rename_i f cs hf;rw[hf,aeY,k1];have:=hk trivial;simp only[SV.ev,hf]at this;exact this
  ·rename_i y f hf;rw[hf,xA,k1];have:=hk trivial;simp only[SV.ev,hf]at this;exact this
  ·exact hk.elim
 ·cases h
theorem atE{r:List AV}(hr:AV.ae r=true):∀(ps:List (Nat×D)) (z:List AV),AV.ae z=true->ps.all (λ p=>p.2.cl r.length)=true->AV.ae (kl z (ps.map λ p=>(p.1,p.2.ev r)))=true:=by
 intro ps
 induction ps with
 |nil=>intro z hz _;exact hz
 |cons p ps ih=>
  intro z hz hp;simp only[all_cons,and_eq_true]at hp;simp only[map_cons,kl];refine ih _ (jL λ a ha=> ?_) hp.2;rcases List.mem_or_eq_of_mem_set ha with h|rfl
  ·exact bm hz a h
  ·exact D.cC hr _ hp.1
theorem auR{s:SS}{t m len:Nat}{z:AV}{ps:List (Nat×bj)}{ns:List Node}{qs:List (Nat×D)}(h:xc s m len ps=some (ns,qs)):gy P (.ep t m len z ps) s (nx s ns (.iE z len qs)):=by
 intro r hl hc hr kY K hk;obtain⟨hn,hs⟩:=vh (P:=P) h;obtain⟨hG,mz⟩:=hs (ot hl hc hn hk);have hG:=hG rfl;simp only[PO.wp]at hG;simp only[wpOp];simp only[nx,eG,and_eq_true]at kY;have h2:=kY.2;simp only[dA,PO.cl,Bool.and_true,hn,and_eq_true]at h2;refine mz _ _ (by simp) ⟨atE hr qs _ (jL λ a ha=>by rw[List.eq_of_mem_replicate ha];exact h2.1) (by rw[hl];exact h2.2),hG⟩
theorem aL1{s:SS}{o:PU}{args:List bj}{ns:List Node}{ds:List D}{b:Bool}(h:lr s args=some (ns,ds,b)):gy P (.pu o args) s (nx s ns (.pu o ds)):=by
 intro r hl hc hr kY K hk;obtain⟨hn,hs⟩:=gE (P:=P) h;obtain⟨hG,ha⟩:=hs (ot hl hc hn hk);simp only[nx,eG,and_eq_true]at kY;have h2:=kY.2;simp only[dA,PO.cl,Bool.and_true,hn]at h2;have cJ:=D.eN hr ds (by rw[hl];exact h2);obtain⟨h1,_⟩:=ha cJ;have hG:=hG rfl;simp only[PO.wp]at hG;rw[h1]at hG cJ;exact⟨cJ,hG⟩
theorem qJ{s:SS}{lo:Option bj}(h:aio s lo=true){r:List AV}{d:Int}(hd:lo=none->d=0){M:Int->Prop}(hm:M 0):iw d (cG s r) lo M:=by
 cases lo with
 |none=>rw[show iw d (cG s r) none M=M d from rfl,hd rfl];exact hm
 |some x=>
  simp only[aio]at h
  split at h
  ·rename_i k n hx;have:=of_decide_eq_true h;subst this;simp only[iw];rw[←bq,hx];exact hm
  ·cases h
theorem aH6{s:SS}{m:Nat}{a:bj}{lo hi:Option bj}{q}(h:aF4 s m (ey s a) lo hi=some q):gy P (.cut m a lo hi) s q:=by
 intro r hl hc hr kY K hk;unfold aF4 at h
 split at h
 ·rename_i ha
  split at h
  ·rename_i hz;cases h;have hG:=hk rfl;simp only[wpOp];rw[←bq,ha];exact qJ hz.1 (λ _=>rfl) (qJ hz.2 (λ _=>rfl) ⟨rfl,rfl,hG⟩)
  ·cases h
 ·rename_i k l ha
  split at h
  ·rename_i nl e sz oL
   split at h
   ·rename_i sr;obtain⟨rfl,z1,z2,z3⟩:=sr;cases h;have mz:=gw oL
    have hk':(nl=true->aU (l.ev r)≠[])/\K (.row s.aE.length 0) (cr {s with aE:=s.aE.set k .dead++ [.row false e sz (.c (.sl []))]} r):=by
     cases nl
     ·exact⟨λ h=>(by cases h),hk rfl⟩
     ·simp only[if_true,mX,eL.wp]at hk;exact⟨λ _=>hk.1,hk.2 rfl⟩
    obtain⟨ej,hG⟩:=hk'
    have rK:(cr s r)[k]? =some (.live e sz (aU (l.ev r))):=by
     rw[j2 mz r];cases nl
     ·rfl
     ·simp only[SO.ev];rw[if_neg (ej rfl)]
    have nQ:cr {s with aE:=s.aE.set k .dead++ [.row false e sz (.c (.sl []))]} r=(cr s r).set k .dead++ [.live e sz []]:=by
     simp only[cr,map_append,map_set,map_cons,map_nil];rfl
    rw[nQ]at hG;simp only[wpOp];rw[←bq,ha];simp only[SV.ev,rK];refine⟨by trivial,by trivial,qJ z1 (λ _=>rfl) (qJ z3 (λ h=>by rw[h]at z2;cases z2) ⟨rfl,rfl,?_⟩)⟩;rw[fV];exact hG
   ·cases h
  ·cases h
 ·cases h
theorem aDf{s:SS}{t m bytes:Nat}{z:AV}{a b:bj}{y:D}(ha:ey s a= .d (.c .an))(hb:ey s b= .d y):
  gy P (.alh t m bytes z a b) s ([.op (.rep bytes z y y),.aq (.ne (.x s.nv))],.row s.aE.length (.x s.nv),{s with aE:=s.aE++ [.row false t m (.x s.nv)],nv:=s.nv+1}):=by
 intro r hl hc hr kY K hk;simp only[mX,PO.wp,amM]at hk
 split at hk
 ·rename_i n c hn nS;rw[hn]at nS;cases nS;obtain⟨q1,_,q3,q4,hk⟩:=hk;simp only[eL.wp,D.ev,dG hl,gv]at hk;obtain⟨ej,hK⟩:=hk
  have ahx:0<n:=by
   rcases Int.lt_or_le 0 n with h|h
   ·exact h
   ·exact(ej (by rw[show n.toNat=0 by omega];rfl)).elim
  have nQ:cG {s with aE:=s.aE++ [.row false t m (.x s.nv)],nv:=s.nv+1} (r++ [.sl (List.replicate n.toNat z)])=cG s r:=jt (s:=s) hl hc;have hG:=hK nQ
  have hO:cr {s with aE:=s.aE++ [.row false t m (.x s.nv)],nv:=s.nv+1} (r++ [.sl (List.replicate n.toNat z)])=cr s r++ [.live t m (List.replicate n.toNat z)]:=by
   simp only[cr,map_append,map_cons,map_nil,SO.ev,D.ev,dG hl,gv];congr 1;exact j8 (s:=s) hl hc
  rw[hO]at hG;simp only[SV.ev,D.ev,dG hl,gv,List.length_replicate]at hG;simp only[wpOp];rw[←bq,←bq,ha,hb];simp only[SV.ev,D.ev,hn];refine⟨ahx,by simpa using q3,by simp only[maxLen];omega,?_⟩;rw[fV];exact hG
 ·exact hk.elim
theorem aym{s:SS}{a:bj}(ha:ey s a= .d (.c .an)):gy P (.ch a) s ([],.d (.c (.v (.int .i64 0))),s):=by
 intro r hl hc hr kY K hk;have hG:=hk rfl;simp only[wpOp];rw[←bq,ha];exact hG
theorem aC2{s:SS}{a:bj}(ha:ey s a= .d (.c .an)):gy P (.pu .az5 [a]) s ([],.d (.c (.v (.int .i64 0))),s):=by
 intro r hl hc hr kY K hk;have hG:=hk rfl;simp only[wpOp,map_cons,map_nil];rw[←bq,ha];exact⟨rfl,hG⟩
theorem aF2{op:gj}{s:SS}{q:List Node×SV×SS}(vM:op.okc=true)(hcs:s.cl=true)(hq:q.2.1.cl q.2.2.nv=true)(h:xOp op s=some q):gy P op s q:=by
 cases op<;>simp only[xOp]at h
 case stuck=>cases h;intro r hl hc hr kY K hk;exact hk.elim
 case ep t m len z ps=>
  split at h
  ·rename_i ns qs hx;cases h;exact auR hx
  ·cases h
 case alh t m bytes z a b=>
  split at h
  ·rename_i y ha hb;cases h;exact aDf ha hb
  ·cases h
 case cut m a lo hi=>exact aH6 h
 case pu o args=>
  split at h
  ·split at h
   ·rename_i ha;cases h;exact aC2 ha
   ·cases h
  ·split at h
   ·rename_i ns ds b hx;cases h;exact aL1 hx
   ·cases h
 case bD a=>cases h;exact aGW s a
 case pick c a b=>
  split at h
  ·rename_i t hc;cases h;exact axJ hc
  ·rename_i x _ hc
   split at h
   ·rename_i na a' nb b' ha hb;cases h;exact aBv hc ha hb
   ·cases h
  ·cases h
 case alloc t n z=>exact aAw h
 case box t n a=>exact aIf (ac0 hcs vM) h
 case build z ps=>
  simp only[gj.okc,and_eq_true]at vM;exact aAf vM.2 vM.1 h
 case buildSlice t m len z ps=>exact ahG h
 case jo k t n z=>exact aqE vM h
 case load n a=>exact aBW h
 case store m a b=>exact axf vM h
 case bin o a b=>
  split at h
  ·rename_i x y ha hb;cases h;exact aIg ha hb
  ·cases h
 case beq neg a b=>
  split at h
  ·rename_i x y ha hb;cases h;exact aIh ha hb
  ·cases h
 case un o a=>
  split at h
  ·rename_i x ha;cases h;exact aLJ ha
  ·cases h
 case mS k a=>
  split at h
  ·rename_i x ha;cases h;exact aCU ha
  ·cases h
 case bX off a=>exact azI h
 case zq off n a=>exact aHS h
 case dO m a i=>exact ayK h
 case lU a i=>
  split at h
  ·rename_i x y ha hb;cases h;exact aCi ha hb
  ·cases h
 case fX a lo hi=>
  split at h
  ·rename_i x dl dh ha h1 h2;cases h;exact as1 ha h1 h2
  ·cases h
 case cj m a lo hi=>
  split at h
  ·rename_i x dl dh ha h1 h2;cases h;exact as2 ha h1 h2
  ·cases h
 case acQ m a x k=>
  split at h
  ·rename_i y dh dk ha h1 h2
   split at h
   ·rename_i hb;cases h;exact aCT ha h1 h2 hb
   ·cases h
  ·cases h
 case oz a=>
  split at h
  ·rename_i x ha;cases h;exact aBX ha
  ·cases h
 case ch a=>
  split at h
  ·rename_i ha;cases h;exact aym ha
  ·rename_i x _ ha;cases h;exact aBY ha
  ·rename_i k l ha
   split at h
   ·rename_i oL;cases h;exact ayl ha (by rw[oL];rfl)
   ·cases h
  ·cases h
 case app t m bytes a b=>
  split at h
  ·rename_i k l ha
   split at h
   ·rename_i nl e sz oL
    split at h
    ·rename_i hes
     split at h
     ·rename_i y hy;cases h;refine aIl ha oL hes ?_
      split at hy
      ·rename_i y' hb;cases hy;exact .inl hb
      ·rename_i k' l' hb
       split at hy
       ·rename_i ayO;cases hy;exact .inr ⟨k',l',hb,ayO,rfl⟩
       ·cases hy
      ·cases hy
     ·cases h
    ·cases h
   ·cases h
  ·rename_i ha
   split at h
   ·rename_i y hy;cases h;refine aDc ha ?_
    split at hy
    ·rename_i y' hb;cases hy;exact .inl hb
    ·rename_i k' l' hb
     split at hy
     ·rename_i ayO;cases hy;exact .inr ⟨k',l',hb,ayO,rfl⟩
     ·cases hy
    ·cases hy
   ·cases h
  ·cases h
 case ext a i=>
  split at h
  ·rename_i cs ha
   split at h
   ·rename_i v hv;cases h;exact aCN ha hv
   ·cases h
  ·rename_i j ha;cases h;exact aHX ha
  ·cases h
 case acu a=>exact aBO h
 case aau f bl=>
  split at h
  ·rename_i ns ds hx;cases h;refine aBQ ?_ hx;have:=(gE (P:=P) hx).1;simp only[done,SV.cl,D.cl,this]at hq;exact hq
  ·cases h
 case qd f args=>
  split at h
  ·rename_i ns ds b hx;cases h;exact axK hx
  ·cases h
 case mN g args=>
  split at h
  ·rename_i f ns ds b hg hx;cases h;have:=aiC (P:=P) (f:=f) (bl:=[]) hg (λ r=>rfl) hx;rwa [append_nil]at this
  ·rename_i f bl ns ds b hg hx;cases h;exact aiC hg (λ r=>rfl) hx
  ·rename_i x ns ds b _ _ hg hx;cases h;exact apl hg hx
  ·cases h
 case p9 f args=>
  split at h
  ·rename_i ns ds b hx;cases h;exact axv hx
  ·cases h
 case gq nl e m f args=>
  split at h
  ·rename_i ns ds hx;exact azF hx h
  ·cases h
 case fA f args=>
  split at h
  ·rename_i ns ds hx;cases h;exact axD hx
  ·cases h
 case mM gs f args=>exact xo h
 case aY gs f args=>
  split at h
  ·rename_i q' hq;cases h;exact aiu hq
  ·split at h
   ·rename_i ns ds hx;cases h;exact as6 hx
   ·cases h
 all_goals cases h
end
def Wk(n0:Nat)(s s':SS):Prop:=s'.nv=s.nv/\∀r:List AV,r.length=s.nv->AV.ae r=true->WK n0 (cG s r) (cr s r) (cG s' r) (cr s' r)
theorem Wk.refl(n0:Nat)(s:SS):Wk n0 s s:=⟨rfl,λ _ _ _=> .refl _ _ _⟩
theorem Wk.trans{n0:Nat}{s s' s'':SS}(h:Wk n0 s s')(k:Wk n0 s' s''):Wk n0 s s'':=
 ⟨k.1.trans h.1,λ r hl hr=>(h.2 r hl hr).trans (k.2 r (hl.trans h.1.symm) hr)⟩
theorem ayi(k:Nat)(v:SV):∀(l:List (Nat×SV)) (t:Nat),(t≠k->lk (l.map λ p=>(p.1,if p.1=k then v else p.2)) t=lk l t)/\(lk l k= .top∨lk (l.map λ p=>(p.1,if p.1=k then v else p.2)) k=v)
 | [],t=>⟨λ _=>rfl,.inl rfl⟩
 |(q,w)::l,t=>by
  obtain⟨h1,h2⟩:=ayi k v l t;simp only[map_cons,lk];refine⟨λ ht=> ?_,?_⟩
  ·by_cases hq:t=q
   ·subst hq;rw[if_pos rfl,if_pos rfl,if_neg ht]
   ·rw[if_neg hq,if_neg hq];exact h1 ht
  ·by_cases hq:k=q
   ·subst hq;rw[if_pos rfl,if_pos rfl];exact .inr (if_pos rfl)
   ·rw[if_neg hq,if_neg hq];exact h2
theorem aiJ{n0:Nat}{s:SS}{t m k:Nat}(h:lk s.env k= .d (.c .an)):Wk n0 s (uS s t m k):=by
 refine⟨rfl,λ r hl hr=> ?_⟩;refine WK.aeX t m (by simp[cr,uS]) (by simp[cr,uS,SO.ev,D.ev,aU]) (λ j hj=> .inl ?_) λ q=> ?_
 ·simp only[cr,uS,map_append];rw[getElem?_append_left (by simpa [cr]using hj)]
 ·have:=ayi k (.row s.aE.length (.c (.sl []))) s.env q;by_cases hq:q=k
  ·subst hq;rcases this.2 with h1|h1
   ·rw[h]at h1;cases h1
   ·refine .inr ⟨by simp only[cG,h];rfl,?_⟩;simp only[cG,uS,h1,SV.ev,D.ev,aU,fV];rfl
  ·exact .inl (by simp only[cG,uS,this.1 hq])
theorem apz{n0:Nat}{s:SS}{k j t m e:Nat}{cs:List SV}(hb:qy s k=some (e,cs))(hj:cs[j]? =some (.d (.c .an))):Wk n0 s (sU s k j t m):=by
 have rK:=mn hb;have hk:k<s.aE.length:=(List.getElem?_eq_some_iff.1 rK).1;refine⟨by simp only[sU,hb],λ r hl hr=> ?_⟩
 have hO:cr (sU s k j t m) r=(cr s r).set k (.live e cs.length [qe ((SV.bn r cs).set j (.row s.aE.length 0))])++ [.nil t m]:=by
  simp only[sU,hb,cr,map_append,map_set,map_cons,map_nil,SO.ev,List.length_set,SV.bc,SV.ev,D.ev,aU,length_nil,if_true]
 have hE:cG (sU s k j t m) r=cG s r:=by simp only[sU,hb];rfl
 rw[hO,hE];refine WK.aeX t m (by simp) (by rw[getElem?_append_right (by simp)];simp) (λ i hi=> ?_) λ q=> .inl rfl
 rw[getElem?_append_left (by simpa using hi)];by_cases hik:i=k
 ·subst hik;refine .inr ⟨e,cs.length,[qe (SV.bn r cs)],[qe ((SV.bn r cs).set j (.row s.aE.length 0))],j2 rK r,by rw[List.getElem?_set_self hi],rfl,λ i' y y' hy wS=> ?_⟩;cases i' with
  |succ i'=>simp at hy
  |zero=>
   simp at hy wS;subst hy;subst wS;rw[show(cr s r).length=s.aE.length from fV s r];have hcj:(SV.bn r cs)[j]? =some .an:=by rw[SV.bc,getElem?_map,hj];rfl
   generalize SV.bn r cs=xs at hcj;have hjl:=(List.getElem?_eq_some_iff.1 hcj).1;by_cases h1:xs.length=1
   ·obtain⟨c,rfl⟩:=List.length_eq_one_iff.1 h1;have hj0:j=0:=by simp at hjl;exact hjl
    subst hj0;simp at hcj;subst hcj;refine⟨rfl,λ p c c' hc nS=> ?_⟩;cases p with
    |zero=>simp[qe,AV.cells]at hc nS;exact .inr ⟨hc.symm,nS.symm⟩
    |succ p=>simp[qe,AV.cells]at hc
   ·rw[gu h1,gu (by simpa using h1)];simp only[AV.cells];refine⟨by simp,λ p c c' hc nS=> ?_⟩;rw[List.getElem?_set]at nS
    split at nS
    ·rename_i hpj;subst hpj;rw[hcj]at hc;exact .inr ⟨(Option.some.inj hc).symm,(Option.some.inj nS).symm⟩
    ·rw[hc]at nS;exact .inl (Option.some.inj nS).symm
 ·rw[getElem?_set_ne (λ h=>hik h.symm)];exact .inl rfl
theorem Fr.cell{n:Nat}{xs:List AV}{a b:AV}(h:Fr n xs a b){j:Nat}{c d:AV}(hc:a.cells[j]? =some c)(hd:b.cells[j]? =some d):Fr n xs c d:=by
 cases h with
 |refl=>rw[hc]at hd;cases hd;exact .refl _
 |row=>
  cases j with
  |zero=>simp[AV.cells]at hc hd;subst hc;subst hd;exact .row
  |succ j=>simp[AV.cells]at hc
 |agg cs ds _ h=>exact h j c d hc hd
 |ptr a f ha=>
  cases j with
  |zero=>simp[AV.cells]at hc hd;subst hc;subst hd;exact .ptr a f ha
  |succ j=>simp[AV.cells]at hc
theorem Fr.qe{n:Nat}{xs:List AV}{cs ds:List AV}(hl:cs.length=ds.length)(h:∀(i:Nat) c d,cs[i]? =some c->ds[i]? =some d->Fr n xs c d):Fr n xs (qe cs) (qe ds):=by
 by_cases h1:cs.length=1
 ·obtain⟨c,rfl⟩:=List.length_eq_one_iff.1 h1;obtain⟨d,rfl⟩:=List.length_eq_one_iff.1 (show ds.length=1 by omega);exact h 0 c d rfl rfl
 ·rw[gu h1,gu (by omega)];exact .agg _ _ hl h
theorem ai7{n0:Nat}{s:SS}(n:Nat):Wk n0 s (ak0 s n):=by
 unfold ak0
 split
 ·rename_i nl e sz l rK
  split
  ·rename_i nR;refine⟨rfl,λ r hl hr=> ?_⟩;have hn:=dT (D.cC hr l (by rw[hl];exact nR))
   have fr1:∀v:SV,Fr n (aU (l.ev r)) (v.ev r) ((v.lh n l).ev r):=by
    intro v;cases v with
    |row m k=>
     simp only[SV.lh]
     split
     ·rename_i h1;have:=D.beq_eq _ _ h1.2;obtain⟨rfl,_⟩:=h1;subst this;exact .row
     ·exact .refl _
    |_=>exact .refl _
   have hpt:∀cs:List SV,∀(i:Nat) c d,(SV.bn r cs)[i]? =some c->(SV.bn r (cs.map (SV.lh n l)))[i]? =some d->Fr n (aU (l.ev r)) c d:=by
    intro cs i c d hc hd;rw[SV.bc,getElem?_map]at hc hd;rw[getElem?_map]at hd;cases hi:cs[i]? with
    |none=>rw[hi]at hc;simp at hc
    |some v=>rw[hi]at hc hd;simp at hc hd;subst hc;subst hd;exact fr1 v
   refine WK.lh (n:=n) (t:=e) (s:=sz) (xs:=aU (l.ev r)) ?_ hn (by simp[cr]) ?_ (λ m hm=> ?_) λ t=> ?_
   ·rcases iM rK r with h|⟨h,h',_⟩
    ·exact .inl h
    ·exact .inr ⟨h,h'⟩
   ·simp only[cr,map_set];rw[List.getElem?_set_self (by simpa using(List.getElem?_eq_some_iff.1 rK).1)];rfl
   ·simp only[cr,map_set];rw[getElem?_set_ne (λ h=>hm h.symm),map_map,getElem?_map,getElem?_map];cases ho:s.aE[m]? with
    |none=>exact .inl rfl
    |some o=>
     cases o with
     |box e' cs=>
      refine .inr ⟨e',cs.length,[qe (SV.bn r cs)],[qe (SV.bn r (cs.map (SV.lh n l)))],rfl,by simp[SO.lh,SO.ev],rfl,λ i y y' hy wS=> ?_⟩;cases i with
      |succ i=>simp at hy
      |zero=>
       simp at hy wS;subst hy;subst wS;have hf:=Fr.qe (n:=n) (xs:=aU (l.ev r)) (cs:=SV.bn r cs) (ds:=SV.bn r (cs.map (SV.lh n l))) (by simp[SV.bc]) (hpt cs);exact⟨hf.width,λ j c c' hc nS=>hf.cell hc nS⟩
     |dead=>exact .inl rfl
     |row _ _ _ _=>exact .inl rfl
   ·simp only[cG];rw[aay (f:=SV.aHN n l) rfl];generalize lk s.env t=v;cases v with
    |agg cs=>
     simp only[SV.aHN,SV.ev];exact .agg _ _ (by simp[SV.bc]) (hpt cs)
    |row m k=>exact fr1 (.row m k)
    |_=>exact .refl _
  ·exact .refl _ _
 ·exact .refl _ _
theorem aGY(r:List AV)(ds:List D):(mkD ds).ev r=qe (D.bn r ds):=by
 unfold mkD
 split
 ·rfl
 ·rename_i h;cases ds with
  |nil=>rfl
  |cons a l=>cases l with
   |nil=>exact(h a rfl).elim
   |cons b l=>rfl
theorem aaW{n0:Nat}{s:SS}(n:Nat):Wk n0 s (afN s n):=by
 unfold afN
 split
 ·rename_i e cs rK
  split
  ·rename_i ds hd
   split
   ·rename_i nR;refine⟨rfl,λ r hl hr=> ?_⟩;have hcs:=zu hd;have hx:qe (SV.bn r cs)=(mkD ds).ev r:=by rw[hcs,vQ,aGY]
    have hn:AV.ae [(mkD ds).ev r]=true:=by
     have:(mkD ds).cl r.length=true:=by
      rw[hl];unfold mkD
      split
      ·simpa [D.cls]using nR
      ·exact nR
     simp only[AV.ae,D.cC hr _ this];rfl
    have fr1:∀v:SV,Fr n [(mkD ds).ev r] (v.ev r) ((v.fbx n (mkD ds)).ev r):=by
     intro v;cases v with
     |ptr m f=>
      simp only[SV.fbx]
      split
      ·rename_i h1;subst h1;exact .ptr _ f rfl
      ·exact .refl _
     |_=>exact .refl _
    have fr2:∀v:SV,Fr n [(mkD ds).ev r] (v.ev r) ((v.fbc n (mkD ds)).ev r):=by
     intro v;cases v with
     |ptr m f=>
      simp only[SV.fbc]
      split
      ·rename_i h1;subst h1;exact .ptr _ f rfl
      ·exact .refl _
     |_=>exact .refl _
    have hpt:∀cs:List SV,∀(i:Nat) c d,(SV.bn r cs)[i]? =some c->(SV.bn r (cs.map (SV.fbc n (mkD ds))))[i]? =some d->Fr n [(mkD ds).ev r] c d:=by
     intro cs i c d hc hd;rw[SV.bc,getElem?_map]at hc hd;rw[getElem?_map]at hd;cases hi:cs[i]? with
     |none=>rw[hi]at hc;simp at hc
     |some v=>rw[hi]at hc hd;simp at hc hd;subst hc;subst hd;exact fr2 v
    refine WK.lh (n:=n) (t:=e) (s:=cs.length) (xs:=[(mkD ds).ev r]) (.inl ?_) hn (by simp[cr]) ?_ (λ m hm=> ?_) λ t=> ?_
    ·have:=j2 rK r;rw[this];simp only[SO.ev,hx]
    ·simp only[cr,map_set];rw[List.getElem?_set_self (by simpa using(List.getElem?_eq_some_iff.1 rK).1)];rfl
    ·simp only[cr,map_set];rw[getElem?_set_ne (λ h=>hm h.symm),map_map,getElem?_map,getElem?_map];cases ho:s.aE[m]? with
     |none=>exact .inl rfl
     |some o=>
      cases o with
      |box e' cs=>
       refine .inr ⟨e',cs.length,[qe (SV.bn r cs)],[qe (SV.bn r (cs.map (SV.fbc n (mkD ds))))],rfl,by simp[SO.fbx,SO.ev],rfl,λ i y y' hy wS=> ?_⟩;cases i with
       |succ i=>simp at hy
       |zero=>
        simp at hy wS;subst hy;subst wS;have hf:=Fr.qe (n:=n) (xs:=[(mkD ds).ev r]) (cs:=SV.bn r cs) (ds:=SV.bn r (cs.map (SV.fbc n (mkD ds)))) (by simp[SV.bc]) (hpt cs);exact⟨hf.width,λ j c c' hc nS=>hf.cell hc nS⟩
      |dead=>exact .inl rfl
      |row _ _ _ _=>exact .inl rfl
    ·simp only[cG];rw[aay (f:=SV.fbx n (mkD ds)) rfl];exact fr1 _
   ·exact .refl _ _
  ·exact .refl _ _
 ·exact .refl _ _
theorem jC{n0:Nat}{α:Type}{f:SS->α->SS}(h:∀s a,Wk n0 s (f s a)):∀(l:List α) (s:SS),Wk n0 s (l.foldl f s)
 | [],s=> .refl _ _
 |a::l,s=>(h s a).trans (jC h l (f s a))
theorem kA{n0:Nat}(s:SS)(v:SV):Wk n0 s (tU s v):=jC (λ s n=>ai7 n) _ s
theorem sv{n0:Nat}(s:SS)(l:List bj):Wk n0 s (aaV s l):=jC (λ s x=>kA s _) l s
theorem aup{n0:Nat}(s:SS)(x:bj):Wk n0 s (aqj s x):=by
 unfold aqj
 split
 ·split
  ·exact(jC (λ s v=>kA s v) _ s).trans (aaW _)
  ·exact .refl _ _
 ·exact kA _ _
theorem td{n0:Nat}:∀(k:Nat) (s:SS) (n:Nat),Wk n0 s (zo k s n)
 |0,s,n=> .refl _ _
 |k+1,s,n=>by
  unfold zo
  split
  ·refine(jC (λ s v=> ?_) _ s).trans (aaW _)
   split
   ·exact td k s _
   ·exact kA _ _
  ·exact .refl _ _
theorem auo{n0:Nat}(s:SS)(x:bj):Wk n0 s (afM s x):=by
 unfold afM
 split
 ·exact td _ _ _
 ·exact .refl _ _
theorem aqk{n0:Nat}(s:SS)(l:List bj):Wk n0 s (asx s l):=jC (λ s x=>by
 split
 ·exact kA _ _
 ·exact .refl _ _) l s
theorem tc{n0:Nat}(s:SS)(l:List bj):Wk n0 s (zn s l):=jC (λ s x=>by
 unfold afM
 split
 ·exact td _ _ _
 ·exact .refl _ _) l s
theorem auq{n0:Nat}(s:SS)(l:List SV):Wk n0 s (azx s l):=jC (λ s v=>by
 split
 ·exact td _ _ _
 ·exact kA _ _) l s
theorem aBt{n0:Nat}(fl:List Nat)(op:gj)(s:SS):Wk n0 s (aGB fl op s):=by
 unfold aGB
 split
 ·split
  ·rename_i h;exact aiJ h
  ·exact .refl _ _
 ·exact kA _ _
 ·exact sv _ _
 ·split
  ·exact kA _ _
  ·exact .refl _ _
 ·exact jC (λ s x=>aup s x) _ s
 ·split
  ·exact(aqk _ _).trans (tc _ _)
  ·exact(sv _ _).trans (tc _ _)
 ·exact(sv _ _).trans (tc _ _)
 ·exact(sv _ _).trans (tc _ _)
 ·exact sv _ _
 ·split
  ·exact .refl _ _
  ·split
   ·refine jC (λ s p=> ?_) _ _
    split
    ·exact(kA _ _).trans (auo _ _)
    ·exact .refl _ _
   ·exact .refl _ _
 ·exact .refl _ _
theorem aGC{n0:Nat}(fl:List Nat)(wk:Bool)(op:gj)(s:SS):Wk n0 s (pre fl wk op s):=by
 unfold pre;split
 ·exact aBt _ _ _
 ·exact .refl _ _
theorem ak8{n0:Nat}(s:SS)(c:Conv):Wk n0 s (c.run s):=by
 cases c with
 |slot k t m=>
  simp only[Conv.run]
  split
  ·rename_i h;exact aiJ h
  ·exact .refl _ _
 |cell k j t m=>
  simp only[Conv.run]
  split
  ·rename_i h
   split
   ·rename_i h2;exact apz h h2
   ·exact .refl _ _
  ·exact .refl _ _
 |fbx n=>
  simp only[Conv.run]
  split
  ·exact(jC (λ s v=>kA s v) _ s).trans (aaW _)
  ·exact .refl _ _
 |azy n=>exact ai7 n
theorem WK.aSk{n0:Nat}{e:Env}{O O':List aj}(hlen:O'.length=O.length)(h:∀m:Nat,O'[m]? =O[m]? ∨O'[m]? =some .dead):WK n0 e O e O':=by
 intro I0 L0 O0 w0 I L w f h0 hg hr
 have eI:∀{m:Nat} {ob},O'[m]? =some ob->ob≠ .dead->O[m]? =some ob:=by
  intro m ob ho ej;rcases h m with h1|h1
  ·rw[←h1];exact ho
  ·rw[h1]at ho;cases ho;exact(ej rfl).elim
 have iu:Ext I L O I L O':=⟨λ _ _ _ h=>h,by omega,λ m _ ee k zs hz=> .inl ⟨zs,eI hz (by simp),le_refl _,λ _=>rfl⟩,λ m _ ee k h=>eI h (by simp),λ m _ a h=>⟨⟨a,eI h (by simp)⟩,rfl⟩,λ m _ a h=>⟨⟨a,eI h (by simp),rfl⟩,rfl⟩⟩;refine⟨I,L,hg.aA3 (by omega) (λ _ _ _ h=>h) (λ _ _ _ h=> .inl h) (λ m ee k zs hm=> ?_) (λ m ee k _ hm=>eI hm (by simp)) (λ m a hm=>eI hm (by simp)) (λ m a hm=>⟨eI hm (by simp),λ _ _ h=>h.mono iu⟩),λ t=>(hr t).mono iu⟩;have h1:=eI hm (by simp);exact⟨zs,h1,rfl,(hg.inv.obj m _ _ _ h1).congr rfl λ _ _ h=>h.mono iu,λ o=>hg.inv.gf m _ _ _ o h1⟩
theorem abI(t:List SO):∀(k:Nat) (l:List SO),(ga t k l).length=l.length
 |_,[]=>rfl
 |k,o::l=>by simp[ga,abI t (k+1) l]
theorem adV:∀(ts cs:List SV),(nj ts cs).length=cs.length
 | [],cs=>by cases cs<;>simp[nj]
 |t::ts,[]=>by cases t<;>simp[nj]
 |t::ts,c::cs=>by cases t<;>simp[nj,adV ts cs]
theorem adW:∀(ts cs:List SV) (j:Nat),(nj ts cs)[j]? =cs[j]? ∨(nj ts cs)[j]? =some .top
 | [],cs,j=>by cases cs<;>simp[nj]
 |t::ts,[],j=>by cases t<;>simp[nj]
 |t::ts,c::cs,j=>by
  cases j with
  |zero=>cases t<;>simp[nj]
  |succ j=>cases t<;>simpa [nj]using adW ts cs j
inductive aAG:Option aj->Option aj->Prop
 |same (o):aAG o o
 |dead (o):aAG o (some .dead)
 |box (e s:Nat) (cs cs':List AV) (hl:cs'.length=cs.length) (hc:∀j:Nat,cs'[j]? =cs[j]? ∨cs'[j]? =some .top):aAG (some (.live e s [.agg cs])) (some (.live e s [.agg cs']))
theorem WK.aRR{n0:Nat}{e:Env}{O O':List aj}(hlen:O'.length=O.length)(h:∀m:Nat,aAG O[m]? O'[m]?):WK n0 e O e O':=by
 intro I0 L0 O0 w0 I L w f h0 hg hr
 have zi:∀{m:Nat} {ee k},O'[m]? =some (.nil ee k)->O[m]? =some (.nil ee k):=by
  intro m ee k ho;have:=h m;rw[ho]at this;generalize hq:O[m]? =q at this;cases this
  rfl
 have wT:∀{m:Nat} {ee k zs},O'[m]? =some (.live ee k zs)->∃xs,O[m]? =some (.live ee k xs)/\xs.length=zs.length/\(xs=zs∨∃cs cs',xs= [.agg cs]/\zs= [.agg cs']/\cs'.length=cs.length/\∀j:Nat,cs'[j]? =cs[j]? ∨cs'[j]? =some .top):=by
  intro m ee k zs ho;have:=h m;rw[ho]at this;generalize hq:O[m]? =q at this;cases this with
  |same=>exact⟨zs,rfl,rfl,.inl rfl⟩
  |box _ _ cs cs' hl hc=>exact⟨_,rfl,rfl,.inr ⟨cs,cs',rfl,rfl,hl,hc⟩⟩
 have iu:Ext I L O I L O':=⟨λ _ _ _ h=>h,by omega,λ m _ ee k zs hz=>by
  obtain⟨xs,h1,h2,_⟩:=wT hz;exact .inl ⟨xs,h1,by omega,λ _=>rfl⟩,λ m _ ee k h=>zi h,λ m _ a hm=>⟨⟨a,by
  have:=h m;rw[hm]at this;generalize hq:O[m]? =q at this;cases this
  rfl⟩,rfl⟩,λ m _ a hm=>⟨⟨a,by
  have:=h m;rw[hm]at this;generalize hq:O[m]? =q at this;cases this
  rfl,rfl⟩,rfl⟩⟩
 refine⟨I,L,hg.aA3 (by omega) (λ _ _ _ h=>h) (λ _ _ _ h=> .inl h) (λ m ee k zs hm=> ?_) (λ m ee k _ hm=>zi hm) (λ m a hm=>by
  have:=h m;rw[hm]at this;generalize hq:O[m]? =q at this;cases this
  rfl) (λ m a hm=>⟨by
  have:=h m;rw[hm]at this;generalize hq:O[m]? =q at this;cases this
  rfl,λ _ _ h=>h.mono iu⟩),λ t=>(hr t).mono iu⟩
 obtain⟨xs,h1,h2,h3⟩:=wT hm;refine⟨xs,h1,h2,?_,λ o=>hg.inv.gf m _ _ _ o h1⟩;have ho:=(hg.inv.obj m _ _ _ h1).congr rfl λ _ _ h=>h.mono iu
 rcases h3 with rfl|⟨cs,cs',rfl,rfl,hl,hc⟩
 ·exact ho
 ·obtain⟨c,k1,k2,k3,k4,k5,k6⟩:=ho;refine⟨c,k1,k2,by simpa using k3,k4,k5,λ i x hx=> ?_⟩
  match i,hx with
  |0,hx=>
   simp at hx;subst hx;obtain⟨q1,q2⟩:=k6 0 (.agg cs) rfl;refine⟨by simpa [AV.cells,hl]using q1,λ j a ha=> ?_⟩;simp only[AV.cells]at ha q2;rcases hc j with hj|hj
   ·exact q2 j a (by rw[←hj];exact ha)
   ·rw[hj]at ha;cases ha;have hjl:j<cs.length:=by rw[←hl];exact(List.getElem?_eq_some_iff.1 hj).1
    obtain⟨y,y1,y2,_⟩:=q2 j cs[j] (getElem?_eq_getElem hjl);exact⟨y,y1,y2,.top _⟩
theorem abJ(r:List AV)(t:List SO):∀(k:Nat) (l:List SO) (m:Nat),aAG ((l.map (SO.ev r))[m]?) (((ga t k l).map (SO.ev r))[m]?)
 |_,[],m=>by simp only[ga];exact .same _
 |k,o::l,m=>by
  cases m with
  |zero=>
   simp only[ga,map_cons,List.getElem?_cons_zero];unfold aAh
   split
   ·exact .dead _
   ·split
    ·split
     ·rename_i e ts _ _ e' cs h2;have h1:=adV ts cs;simp only[SO.ev,SV.bc,h1]
      have ha:∀l:List SV,2<=l.length->qe (l.map (SV.ev r))= .agg (l.map (SV.ev r)):=λ l hl=>by
       match l,hl with
       |a::b::l,_=>rfl
      rw[ha _ h2,ha _ (by omega)];refine .box _ _ _ _ (by simp[h1]) λ j=> ?_
      simp only[getElem?_map];rcases adW ts cs j with h|h
      ·exact .inl (by rw[h])
      ·exact .inr (by rw[h];rfl)
     ·exact .same _
    ·exact .same _
   ·exact .same _
  |succ m=>simpa [ga]using abJ r t (k+1) l m
section
variable {rb m:List AV} {vs:List D} {base:Nat}
theorem aaE(hb:rb.length=base):∀(d e:D),(d.inst base vs).beq e=true->d.ev (rb++D.bn (rb++m) vs)=e.ev (rb++m):=by
 intro d e h;cases d with
 |x i=>
  simp only[D.inst]at h
  split at h
  ·rename_i hi;have:=D.beq_eq _ _ h;subst this;simp only[D.ev];rw[su (by omega),su (by omega)]
  ·rename_i hi;cases hv:vs[i- base]? with
   |none=>
    rw[List.getD,hv]at h;simp only[getD_none]at h;cases e<;>simp[D.beq,AV.ceq]at h
   |some d'=>
    rw[List.getD,hv]at h;simp only[getD_some]at h;have:=D.beq_eq _ _ h;subst this;simp only[D.ev,List.getD];rw[getElem?_append_right (by omega),hb,D.bc,getElem?_map,hv]
    rfl
 |_=>
  simp only[D.inst]at h
  split at h
  ·rename_i nR;have:=D.beq_eq _ _ h;subst this;rw[D.dP _ (by rw[hb];exact nR),D.dP _ (by rw[hb];exact nR)]
  ·cases e<;>simp[D.beq,AV.ceq]at h
theorem asi(hb:rb.length=base):∀(v w:SV),(v.inst base vs).beq w=true->v.ev (rb++D.bn (rb++m) vs)=w.ev (rb++m):=by
 intro v w h;cases v with
 |d x=>cases w<;>simp only[SV.inst,SV.beq,false_eq_true]at h;exact(aaE hb _ _ h)
 |row n l=>
  cases w<;>simp only[SV.inst,SV.beq,false_eq_true,and_eq_true,decide_eq_true_eq]at h
  obtain⟨rfl,h⟩:=h;exact(by simp only[SV.ev,aaE hb _ _ h])
 |ptr n f=>
  cases w<;>simp only[SV.inst,SV.beq,false_eq_true,and_eq_true,decide_eq_true_eq]at h
  obtain⟨rfl,rfl⟩:=h
  rfl
 |rp n l i f=>
  cases w<;>simp only[SV.inst,SV.beq,false_eq_true,and_eq_true,decide_eq_true_eq]at h
  obtain⟨⟨⟨rfl,h1⟩,h2⟩,rfl⟩:=h;exact(by simp only[SV.ev,aaE hb _ _ h1,aaE hb _ _ h2])
 |ip x f=>
  cases w<;>simp only[SV.inst,SV.beq,false_eq_true,and_eq_true,decide_eq_true_eq]at h
  obtain⟨h,rfl⟩:=h;exact(by simp only[SV.ev,aaE hb _ _ h])
 |agg cs=>
  simp only[SV.inst]at h
  split at h
  ·rename_i nR;have:=SV.beq_eq _ _ h;subst this;exact(by simp only[SV.ev];rw[SV.iQ cs (by rw[hb];exact nR),SV.iQ cs (by rw[hb];exact nR)])
  ·cases w<;>simp only[SV.beq,false_eq_true]at h
   rename_i e;cases e<;>simp[D.beq,AV.ceq]at h
 |aZ cs=>
  simp only[SV.inst]at h
  split at h
  ·rename_i nR;have:=SV.beq_eq _ _ h;subst this;exact(by simp only[SV.ev];rw[SV.iQ cs (by rw[hb];exact nR),SV.iQ cs (by rw[hb];exact nR)])
  ·cases w<;>simp only[SV.beq,false_eq_true]at h
   rename_i e;cases e<;>simp[D.beq,AV.ceq]at h
 |top=>cases w<;>simp only[SV.inst,SV.beq,false_eq_true]at h;rfl
theorem ano(hb:rb.length=base):∀(cs ds:List SV),SV.oQ (cs.map (SV.inst base vs)) ds=true->SV.bn (rb++D.bn (rb++m) vs) cs=SV.bn (rb++m) ds
 | [],[],_=>rfl
 |c::cs,d::ds,h=>by
  simp only[map_cons,SV.oQ,and_eq_true]at h;simp only[SV.bn,asi hb c d h.1,ano hb cs ds h.2]
 | [],_::_,h=>by simp[SV.oQ]at h
 |_::_,[],h=>by simp[SV.oQ]at h
theorem aou:∀(cs ds:List SV),SV.oQ cs ds=true->cs.length=ds.length
 | [],[],_=>rfl
 |c::cs,d::ds,h=>by
  simp only[SV.oQ,and_eq_true]at h;simp[aou cs ds h.2]
 | [],_::_,h=>by simp[SV.oQ]at h
 |_::_,[],h=>by simp[SV.oQ]at h
theorem aCd(hb:rb.length=base):∀(a b:SO),(a.inst base vs).beq b=true->a.ev (rb++D.bn (rb++m) vs)=b.ev (rb++m):=by
 intro a b h;cases a with
 |dead=>cases b<;>simp only[SO.inst,SO.beq,false_eq_true]at h;rfl
 |box e cs=>
  cases b<;>simp only[SO.inst,SO.beq,false_eq_true,and_eq_true,decide_eq_true_eq]at h
  obtain⟨rfl,h⟩:=h;have h2:=aou _ _ h;simp only[length_map]at h2;simp only[SO.ev,ano hb _ _ h,h2]
 |row nl e s l=>
  cases b<;>simp only[SO.inst,SO.beq,false_eq_true,and_eq_true,decide_eq_true_eq]at h
  obtain⟨⟨⟨rfl,rfl⟩,rfl⟩,h⟩:=h;cases nl<;>simp only[SO.ev,aaE hb _ _ h]
end
mutual
theorem SV.arU{k:Nat}{r:List AV}(hr:AV.ae r=true):∀(v:SV),v.sc k=true->v.cl r.length=true->(v.ev r).inScope k=true
 | .d x,_,h=>aM _ (D.cC hr x h)
 | .row n l,h,_=>h
 | .ptr n f,h,_=>h
 | .rp n l i f,h,_=>h
 | .ip x f,_,h=>aM (.bW (x.ev r) f) (D.cC hr x h)
 | .agg cs,h,h'=>by
   simp only[SV.sc]at h;simp only[SV.cl]at h';exact SV.aj0 hr cs h h'
 | .aZ cs,h,h'=>by
   simp only[SV.sc]at h;simp only[SV.cl]at h';exact SV.aj0 hr cs h h'
 | .top,_,_=>rfl
theorem SV.aj0{k:Nat}{r:List AV}(hr:AV.ae r=true):∀(l:List SV),SV.scs k l=true->SV.cls r.length l=true->AV.bK k (SV.bn r l)=true
 | [],_,_=>rfl
 |v::l,h,h'=>by
  simp only[SV.scs,and_eq_true]at h;simp only[SV.cls,and_eq_true]at h';simp only[SV.bn,AV.bK,SV.arU hr v h.1 h'.1,SV.aj0 hr l h.2 h'.2];rfl
end
theorem apB{k:Nat}{l:List AV}(h:AV.bK k l=true):(qe l).inScope k=true:=by
 unfold qe
 split
 ·simpa [AV.bK]using h
 ·exact h
theorem SO.arU{k:Nat}{r:List AV}(hr:AV.ae r=true)(o:SO)(h:o.sc k=true)(h':o.cl r.length=true):(o.ev r).inScope k=true:=by
 cases o with
 |dead=>rfl
 |box e cs=>
  simp only[SO.ev,aj.inScope,AV.bK,Bool.and_true];exact apB (SV.aj0 hr cs h h')
 |row nl e s l=>
  have:=eF (k:=k) _ (dT (D.cC hr l h'));cases nl
  ·exact this
  ·simp only[SO.ev]
   split
   ·rfl
   ·exact this
theorem aG3{l:List (Nat×SV)}{t:Nat}:lk l t= .top∨(t,lk l t)∈l:=by
 induction l with
 |nil=>exact .inl rfl
 |cons p l ih=>
  obtain⟨k,v⟩:=p;simp only[lk]
  split
  ·rename_i h;subst h;exact .inr (by simp)
  ·rcases ih with h|h
   ·exact .inl h
   ·exact .inr (by simp[h])
theorem tj{n0 base:Nat}{s t:SS}{vs:List D}(h:coerce n0 base s t=some vs){rb m:List AV}(hb:rb.length=base)(hl:(rb++m).length=s.nv)(hr:AV.ae (rb++m)=true):
  vs.length=t.nv- base/\acT rb (rb++D.bn (rb++m) vs) t.nv/\WK n0 (cG s (rb++m)) (cr s (rb++m)) (cG t (rb++D.bn (rb++m) vs)) (cr t (rb++D.bn (rb++m) vs)):=by
 unfold coerce at h;simp only at h
 split at h
 ·cases h
 ·rename_i rJ sD
  split at h
  ·rename_i sr;cases h;obtain⟨c0,c1,c2,c3,c4,c5,c6,c7⟩:=sr
   have hlen:vs.length=t.nv- base:=by
    have:=(mapM_some sD).1;simpa using this
   have hn:AV.ae (rb++D.bn (rb++m) vs)=true:=by
    rw[b9,and_eq_true]at hr⊢;exact⟨hr.1,D.eN (by rw[b9,and_eq_true];exact hr) vs (by rw[hl];exact c4)⟩
   have hl2:(rb++D.bn (rb++m) vs).length=t.nv:=by
    rw[List.length_append,D.bc,length_map,hlen,hb];omega
   refine⟨hlen,⟨⟨_,rfl⟩,hl2,hn⟩,?_⟩
   have hk1:WK n0 (cG s (rb++m)) (cr s (rb++m)) (cG s (rb++m)) ((ga t.aE 0 s.aE).map (SO.ev (rb++m))):=by
    exact WK.aRR (by simp[cr,abI]) λ j=>abJ _ t.aE 0 s.aE j
   refine hk1.trans (WK.forget (k:=t.aE.length) ?_ c0 (by simpa using c3) (λ ob ho=> ?_) λ q=> ?_)
   ·apply List.ext_getElem?;intro j;simp only[cr,List.getElem?_take,getElem?_map]
    split
    ·rename_i hj;have hj2:j<(ga t.aE 0 s.aE).length:=by omega
     have h1:t.aE[j]? =some t.aE[j]:=by simp[hj]
     have h2:(ga t.aE 0 s.aE)[j]? =some (ga t.aE 0 s.aE)[j]:=by simp[hj2]
     rw[h1,h2]
     have hz:(t.aE[j],(ga t.aE 0 s.aE)[j])∈t.aE.zip (ga t.aE 0 s.aE):=by
      apply mem_of_getElem? (i:=j);rw[List.getElem?_zip_eq_some];exact⟨h1,h2⟩
     have:=List.all_eq_true.1 c7 _ hz;simp only[and_eq_true]at this;simp only[map_some,aCd hb _ _ this.1]
    ·rename_i hj;rw[List.getElem?_eq_none (by omega)];rfl
   ·simp only[cr,mem_map]at ho;obtain⟨o,ho,rfl⟩:=ho;refine SO.arU hn o ?_ (by rw[hl2];exact SS.xV c5 ho);obtain⟨j,hj⟩:=List.getElem?_of_mem ho;have hjl:=(List.getElem?_eq_some_iff.1 hj).1;have h2:(ga t.aE 0 s.aE)[j]? =some ((ga t.aE 0 s.aE)[j]'(by omega)):=by simp[show j<(ga t.aE 0 s.aE).length by omega]
    have hz:(o,(ga t.aE 0 s.aE)[j]'(by omega))∈t.aE.zip (ga t.aE 0 s.aE):=by
     apply mem_of_getElem? (i:=j);rw[List.getElem?_zip_eq_some];exact⟨hj,h2⟩
    have:=List.all_eq_true.1 c7 _ hz;simp only[and_eq_true]at this;exact this.2
   ·simp only[cG];rcases aG3 (l:=t.env) (t:=q)with h|h
    ·rw[h];exact .inl rfl
    ·have:=List.all_eq_true.1 c6 _ h;simp only[and_eq_true]at this;exact .inr ⟨asi hb _ _ this.1,SV.arU hn _ this.2 (by rw[hl2];exact SS.tm c5 q)⟩
  ·cases h
section
variable {P:Program}
theorem acT.trans{r r1 r2:List AV}{n k:Nat}(h:acT r r1 n)(k':acT r1 r2 k):acT r r2 k:=by
 obtain⟨m,rfl⟩:=h.pre;obtain⟨m',rfl⟩:=k'.pre;exact⟨⟨m++m',by simp⟩,k'.len,k'.nor⟩
theorem aml{L:AX->SS->List AV->Prop}{R:AV->Prop}{t:T}{r:List AV}:∀(Js S:List (List AV->Prop)),cL P L R (aCO Js.length t) r (Js++S)=cL P L R t r S
 | [],S=>rfl
 |J::Js,S=>by simp only[List.length_cons,aCO,cons_append,cL,aml Js S]
inductive aqH:List (List AV->Prop)->List (List AV->Prop)->Prop
 |nil:aqH [] []
 |cons {J J':List AV->Prop} {S S':List (List AV->Prop)}:(∀vs,J vs->J' vs)->aqH S S'->aqH (J::S) (J'::S')
theorem aqH.refl:∀(S:List (List AV->Prop)),aqH S S
 | []=> .nil
 |_::S=> .cons (λ _ h=>h) (aqH.refl S)
theorem ef{L L':AX->SS->List AV->Prop}{R R':AV->Prop}(hL:∀x s r,L x s r->L' x s r)(hR:∀a,R a->R' a):∀(t:T) {r:List AV} {S S':List (List AV->Prop)},aqH S S'->cL P L R t r S->cL P L' R' t r S'
 | .leaf x s,r,S,S',hs,h=>hL _ _ _ h
 | .ret d,r,S,S',hs,h=>hR _ h
 | .jump vs,r,S,S',hs,h=>by
   cases hs with
   |nil=>exact h
   |cons hJ _=>exact hJ _ h
 | .cM t,r,S,S',hs,h=>by
   cases hs with
   |nil=>exact h
   |cons _ hs=>exact ef hL hR t hs h
 | .op o t,r,S,S',hs,h=>PO.ru h λ v hv=>ef hL hR t hs hv
 | .aq c t,r,S,S',hs,h=>eL.wp_mono h λ h=>ef hL hR t hs h
 | .ite c t f,r,S,S',hs,h=>by
   simp only[cL]at h⊢
   split at h
   ·exact⟨λ hb=>ef hL hR t hs (h.1 hb),λ hb=>ef hL hR f hs (h.2 hb)⟩
   ·exact h.elim
 | .bind k a b,r,S,S',hs,h=>ef hL hR a (.cons (λ vs hv hk=>ef hL hR b hs (hv hk)) hs) h
 | .loop init b,r,S,S',hs,h=>by
   obtain⟨J,n,h0,h1⟩:=h;exact⟨J,n,h0,λ n vs hJ hk=>ef hL hR b (.cons (λ _ h=>h) hs) (h1 n vs hJ hk)⟩
theorem jm{L:AX->SS->List AV->Prop}{R:AV->Prop}{k:AX->SS->Option T}:∀(t:T) {d:Nat} {t':T},t.fill k d=some t'->∀{r:List AV} {Js S:List (List AV->Prop)},Js.length=d->cL P L R t' r (Js++S)->
  cL P (λ x s r'=>∃t2,k x s=some t2/\cL P L R t2 r' S) R t r (Js++S)
 | .leaf x s,d,t',h,r,Js,S,hd,hw=>by
   simp only[T.fill,map_eq_some_iff]at h;obtain⟨t2,h1,rfl⟩:=h;subst hd;rw[aml]at hw;exact⟨t2,h1,hw⟩
 | .ret d',d,t',h,r,Js,S,hd,hw=>by cases h;exact hw
 | .jump vs,d,t',h,r,Js,S,hd,hw=>by
   simp only[T.fill]at h
   split at h
   ·cases h
   ·cases h;exact hw
 | .cM t,d,t',h,r,Js,S,hd,hw=>by
   cases d with
   |zero=>simp[T.fill]at h
   |succ d=>
    simp only[T.fill,map_eq_some_iff]at h;obtain⟨t2,h1,rfl⟩:=h;cases Js with
    |nil=>cases hd
    |cons J Js=>
     simp only[cons_append,cL]at hw⊢;exact jm t h1 (by simpa using hd) hw
 | .op o t,d,t',h,r,Js,S,hd,hw=>by
   simp only[T.fill,map_eq_some_iff]at h;obtain⟨t2,h1,rfl⟩:=h;exact PO.ru (o:=o) hw λ v hv=>jm t h1 hd hv
 | .aq c t,d,t',h,r,Js,S,hd,hw=>by
   simp only[T.fill,map_eq_some_iff]at h;obtain⟨t2,h1,rfl⟩:=h;exact eL.wp_mono (c:=c) hw λ hv=>jm t h1 hd hv
 | .ite c t f,d,t',h,r,Js,S,hd,hw=>by
   simp only[T.fill]at h
   split at h
   ·rename_i t2 f2 h1 h2;cases h;simp only[cL]at hw⊢
    split at hw
    ·exact⟨λ hb=>jm t h1 hd (hw.1 hb),λ hb=>jm f h2 hd (hw.2 hb)⟩
    ·exact hw.elim
   ·cases h
 | .bind m a b,d,t',h,r,Js,S,hd,hw=>by
   simp only[T.fill]at h
   split at h
   ·rename_i a2 b2 h1 h2;cases h;simp only[cL]at hw⊢;have:=jm a h1 (Js:=_::Js) (by simpa using hd) hw;exact ef (λ _ _ _ h=>h) (λ _ h=>h) a (.cons (λ vs hv hk=>jm b h2 hd (hv hk)) (.refl _)) this
   ·cases h
 | .loop init b,d,t',h,r,Js,S,hd,hw=>by
   simp only[T.fill,map_eq_some_iff]at h;obtain⟨t2,h1,rfl⟩:=h;obtain⟨J,n,h0,h2⟩:=hw;exact⟨J,n,h0,λ n vs hJ hk=>jm b h1 (Js:=_::Js) (by simpa using hd) (h2 n vs hJ hk)⟩
theorem abR{L:AX->SS->List AV->Prop}{R:AV->Prop}{k:AX->SS->Option T}{t t':T}(h:t.fill k 0=some t'){r:List AV}{S:List (List AV->Prop)}(hw:cL P L R t' r S):
 cL P (λ x s r'=>∃t2,k x s=some t2/\cL P L R t2 r' S) R t r S:=jm t h (Js:=[]) rfl hw
theorem uu{op:gj}{s:SS}{ns:List Node}{v:SV}{s':SS}(h:oU op s=some (ns,v,s')){r:List AV}(hl:r.length=s.nv)(hr:AV.ae r=true){G:List AV->Prop}(hw:mX P ns r G){K:KT}
  (hk:∀r',G r'->acT r r' s'.nv->cG s' r'=cG s r->K (v.ev r') (cr s' r')):wpOp P op (cG s r) (cr s r) K:=by
 unfold oU at h
 split at h
 ·rename_i h1
  split at h
  ·rename_i ns2 v2 s2 hx
   split at h
   ·rename_i h2;cases h;obtain⟨c1,c2,c3,c4⟩:=h2;refine aF2 h1.2 h1.1 c3 hx r hl h1.1 hr c1 K ?_;refine adO ns hr (by rw[hl];exact c1) hw λ r' hm hG he=>hk r' hG ⟨hm.pre,?_,hm.nor⟩ he
    exact(hm.len.trans (by rw[hl])).trans c2
   ·cases h
  ·cases h
 ·cases h
theorem sa{e:Env}{t:Nat}{a:AV}(h:e t=a):e.set t a=e:=aer h
theorem xb{fl:List Nat}{n0:Nat}{L:AX->SS->List AV->Prop}{R:AV->Prop}{S:List (List AV->Prop)}{K:Env->List aj->Prop}:∀(ops:List aQ) {s:SS} {t:T},tZ fl true ops s=some t->∀{r:List AV},r.length=s.nv->AV.ae r=true->
  cL P L R t r S->(∀s' r',L .normal s' r'->acT r r' s'.nv->K (cG s' r') (cr s' r'))->jR P n0 ops (cG s r) (cr s r) K
 | [],s,t,h,r,hl,hr,hw,hk=>by
   simp only[tZ,Option.some.injEq]at h;subst h;exact⟨_,_,.refl _ _ _,hk s r hw ⟨⟨[],by simp⟩,hl,hr⟩⟩
 |o::ops,s,t,h,r,hl,hr,hw,hk=>by
  have ap6:Wk n0 s (pre fl true o.op s):=aGC fl true o.op s;have zg:=ap6.2 r hl hr;have hl0:r.length=(pre fl true o.op s).nv:=hl.trans ap6.1.symm
  have step:∀{s0:SS} {ns:List Node} {v:SV} {s':SS} {t':T},oU o.op s0=some (ns,v,s')->tZ fl true ops (s'.cq o.dst v)=some t'->r.length=s0.nv->cL P L R (wrap ns t') r S->
    wpOp P o.op (cG s0 r) (cr s0 r) λ x O'=>jR P n0 ops (cq (cG s0 r) o.dst x) O' K:=by
   intro s0 ns v s' t' hx ht hl0 hw;rw[ux]at hw;refine uu hx hl0 hr hw λ r' hG hm he=> ?_
   rw[←he,←r8,←r7 s' o.dst v r'];refine xb ops ht (by rw[vJ];exact hm.len) hm.nor hG λ s2 r2 hL hm2=>hk s2 r2 hL (hm.trans hm2)
  have skip:∀{s0:SS} {t':T},tZ fl true ops (s0.cq o.dst un)=some t'->r.length=s0.nv->cL P L R t' r S->jR P n0 ops (cq (cG s0 r) o.dst (.aZ [])) (cr s0 r) K:=by
   intro s0 t' ht hl0 hw;have:(un).ev r= .aZ []:=rfl;rw[←this,←r8,←r7 s0 o.dst un r];exact xb ops ht (by rw[vJ];exact hl0) hr hw hk
  simp only[tZ]at h;simp only[jR]
  split at h
  ·rename_i hg
   split at h
   ·rename_i ns v s' hx;simp only[map_eq_some_iff]at h;obtain⟨t',ht,rfl⟩:=h;refine⟨_,_,zg,?_⟩;rw[hg];exact step hx ht hl0 hw
   ·cases h
  ·rename_i g want hg
   split at h
   ·rename_i b hb;have heb:cG s r g= .v (.bool b):=by simp only[cG,hb];rfl
    split at h
    ·rename_i pz
     split at h
     ·rename_i b' wW;have aNK:cG (pre fl true o.op s) r g= .v (.bool b'):=by simp only[cG,wW];rfl
      split at h
      ·rename_i aRd;subst aRd
       split at h
       ·rename_i ns v s' hx;simp only[map_eq_some_iff]at h;obtain⟨t',ht,rfl⟩:=h;refine⟨_,_,zg,?_⟩;rw[hg];simp only[aNK];rw[sa aNK];refine⟨λ _=>step hx ht hl0 hw,λ h=> ?_⟩;cases b'<;>simp at h
       ·cases h
      ·cases h
     ·cases h
    ·rename_i pz;refine⟨_,_,.refl _ _ _,?_⟩;rw[hg];simp only[heb];have hbn:b= !want:=by cases b<;>cases want<;>simp_all
     refine⟨λ h=>(pz h).elim,λ _=> ?_⟩;rw[sa (by rw[heb,hbn])];exact skip h hl hw
   ·rename_i hb;have heb:cG s r g= .aZ []:=by simp only[cG,hb];rfl
    refine⟨_,_,.refl _ _ _,?_⟩;rw[hg];simp only[heb];exact skip h hl hw
   ·split at h
    ·rename_i c hc;have hec:cG (pre fl true o.op s) r g=c.ev r:=by simp only[cG,hc];rfl
     split at h
     ·rename_i ns v s' hx
      split at h
      ·rename_i t1 t2 h1 h2;simp only[Option.some.injEq]at h;refine⟨_,_,zg,?_⟩;rw[hg];simp only[hec]
       have key:∃b,c.ev r= .v (.bool b)/\(b=want->cL P L R (wrap ns t1) r S)/\(b= !want->cL P L R t2 r S):=by
        subst h;cases want
        ·simp only[false_eq_true,if_false,cL]at hw
         split at hw
         ·rename_i b hb;exact⟨b,hb,hw.2,λ h=>hw.1 (by simpa using h)⟩
         ·exact hw.elim
        ·simp only[if_true,cL]at hw
         split at hw
         ·rename_i b hb;exact⟨b,hb,hw.1,λ h=>hw.2 (by simpa using h)⟩
         ·exact hw.elim
       obtain⟨b,hb,k1,k2⟩:=key;simp only[hb];have e1:∀b':Bool,(cG (pre fl true o.op s) r).set g (.v (.bool b'))=cG ((pre fl true o.op s).set g (.d (.c (.v (.bool b'))))) r:=λ b'=>by rw[acW];rfl
       refine⟨λ pz=> ?_,λ pz=> ?_⟩
       ·rw[e1];exact step hx h1 hl0 (k1 pz)
       ·rw[e1];exact skip h2 hl0 (k2 pz)
      ·cases h
     ·cases h
    ·cases h
   ·cases h
theorem uv{fl:List Nat}{L:AX->SS->List AV->Prop}{R:AV->Prop}{S:List (List AV->Prop)}{K:Env->List aj->Prop}:∀(ops:List aQ) {s:SS} {t:T},tZ fl false ops s=some t->∀{r:List AV},r.length=s.nv->AV.ae r=true->
  cL P L R t r S->(∀s' r',L .normal s' r'->acT r r' s'.nv->K (cG s' r') (cr s' r'))->wpOps P ops (cG s r) (cr s r) K
 | [],s,t,h,r,hl,hr,hw,hk=>by
   simp only[tZ,Option.some.injEq]at h;subst h;exact hk s r hw ⟨⟨[],by simp⟩,hl,hr⟩
 |o::ops,s,t,h,r,hl,hr,hw,hk=>by
  have ap6:pre fl false o.op s=s:=rfl
  have step:∀{s0:SS} {ns:List Node} {v:SV} {s':SS} {t':T},oU o.op s0=some (ns,v,s')->tZ fl false ops (s'.cq o.dst v)=some t'->r.length=s0.nv->cL P L R (wrap ns t') r S->
    wpOp P o.op (cG s0 r) (cr s0 r) λ x O'=>wpOps P ops (cq (cG s0 r) o.dst x) O' K:=by
   intro s0 ns v s' t' hx ht hl0 hw;rw[ux]at hw;refine uu hx hl0 hr hw λ r' hG hm he=> ?_
   rw[←he,←r8,←r7 s' o.dst v r'];refine uv ops ht (by rw[vJ];exact hm.len) hm.nor hG λ s2 r2 hL hm2=>hk s2 r2 hL (hm.trans hm2)
  have skip:∀{s0:SS} {t':T},tZ fl false ops (s0.cq o.dst un)=some t'->r.length=s0.nv->cL P L R t' r S->wpOps P ops (cq (cG s0 r) o.dst (.aZ [])) (cr s0 r) K:=by
   intro s0 t' ht hl0 hw;have:(un).ev r= .aZ []:=rfl;rw[←this,←r8,←r7 s0 o.dst un r];exact uv ops ht (by rw[vJ];exact hl0) hr hw hk
  simp only[tZ,ap6]at h;simp only[wpOps]
  split at h
  ·rename_i hg
   split at h
   ·rename_i ns v s' hx;simp only[map_eq_some_iff]at h;obtain⟨t',ht,rfl⟩:=h;rw[hg];exact step hx ht hl hw
   ·cases h
  ·rename_i g want hg
   split at h
   ·rename_i b hb;have heb:cG s r g= .v (.bool b):=by simp only[cG,hb];rfl
    rw[hg];simp only[heb]
    split at h
    ·rename_i pz;simp only[hb]at h;rw[if_pos pz]at h;subst pz
     split at h
     ·rename_i ns v s' hx;simp only[map_eq_some_iff]at h;obtain⟨t',ht,rfl⟩:=h;rw[sa heb];refine⟨λ _=>step hx ht hl hw,λ h=> ?_⟩;cases b<;>simp at h
     ·cases h
    ·rename_i pz;have hbn:b= !want:=by cases b<;>cases want<;>simp_all
     refine⟨λ h=>(pz h).elim,λ _=> ?_⟩;rw[sa (by rw[heb,hbn])];exact skip h hl hw
   ·rename_i hb;have heb:cG s r g= .aZ []:=by simp only[cG,hb];rfl
    rw[hg];simp only[heb];exact skip h hl hw
   ·split at h
    ·rename_i c hc;have hec:cG s r g=c.ev r:=by simp only[cG,hc];rfl
     split at h
     ·rename_i ns v s' hx
      split at h
      ·rename_i t1 t2 h1 h2;simp only[Option.some.injEq]at h;rw[hg];simp only[hec]
       have key:∃b,c.ev r= .v (.bool b)/\(b=want->cL P L R (wrap ns t1) r S)/\(b= !want->cL P L R t2 r S):=by
        subst h;cases want
        ·simp only[false_eq_true,if_false,cL]at hw
         split at hw
         ·rename_i b hb;exact⟨b,hb,hw.2,λ h=>hw.1 (by simpa using h)⟩
         ·exact hw.elim
        ·simp only[if_true,cL]at hw
         split at hw
         ·rename_i b hb;exact⟨b,hb,hw.1,λ h=>hw.2 (by simpa using h)⟩
         ·exact hw.elim
       obtain⟨b,hb,k1,k2⟩:=key;simp only[hb];have e1:∀b':Bool,(cG s r).set g (.v (.bool b'))=cG (s.set g (.d (.c (.v (.bool b'))))) r:=λ b'=>by rw[acW];rfl
       refine⟨λ pz=> ?_,λ pz=> ?_⟩
       ·rw[e1];exact step hx h1 hl (k1 pz)
       ·rw[e1];exact skip h2 hl (k2 pz)
      ·cases h
     ·cases h
    ·cases h
   ·cases h
theorem ao8{a:AV}(h:a.ag=true):refs a= []:=by
 cases a<;>first|rfl|(simp[AV.ag]at h)
theorem aLW{s:SS}(hc:s.cl=true){r:List AV}(hl:r.length=s.nv)(hr:AV.ae r=true)(x:bj):refs (x.ev (cG s r))=rfS s x:=by
 cases x with
 |c a=>rfl
 |t n=>
  simp only[bj.ev,cG,rfS];have:=SS.tm hc n;generalize lk s.env n=v at this;cases v<;>try rfl
  exact ao8 (D.cC hr _ (by rw[hl];exact this))
theorem apI{op:gj}{s:SS}(hc:s.cl=true){r:List AV}(hl:r.length=s.nv)(hr:AV.ae r=true):eX op (cG s r) (cr s r).length=ayp op s:=by
 unfold eX ayp;rw[show(λ x=>refs (bj.ev (cG s r) x))=rfS s from funext λ x=>aLW hc hl hr x,fV]
theorem adK{op:gj}{s:SS}{q}(h:oU op s=some q):s.cl=true:=by
 unfold oU at h
 split at h
 ·rename_i h1;exact h1.1
 ·cases h
theorem qK{rows:List (List Nat)}{all:List aQ}{L:AX->SS->List AV->Prop}{R:AV->Prop}{S:List (List AV->Prop)}{K:Env->List aj->Prop}:∀(ops:List aQ) {acc:List lK} {s:SS} {t:T},pS rows all ops acc s=some t->∀{r:List AV},r.length=s.nv->AV.ae r=true->
  cL P L R t r S->(∀s' r',L .normal s' r'->acT r r' s'.nv->K (cG s' r') (cr s' r'))->cN P ops acc (cG s r) (cr s r) λ ir e O=>nT rows (all.zip ir)=true/\K e O
 | [],acc,s,t,h,r,hl,hr,hw,hk=>by
   simp only[pS]at h
   split at h
   ·rename_i hd;simp only[Option.some.injEq]at h;subst h;simp only[cN];exact⟨hd,hk s r hw ⟨⟨[],by simp⟩,hl,hr⟩⟩
   ·cases h
 |o::ops,acc,s,t,h,r,hl,hr,hw,hk=>by
  have step:∀{s0:SS} {ns:List Node} {v:SV} {s':SS} {t':T} {aqF:List lK},oU o.op s0=some (ns,v,s')->pS rows all ops aqF (s'.cq o.dst v)=some t'->r.length=s0.nv->cL P L R (wrap ns t') r S->
    wpOp P o.op (cG s0 r) (cr s0 r) λ x O'=>cN P ops aqF (cq (cG s0 r) o.dst x) O' λ ir e O=>nT rows (all.zip ir)=true/\K e O:=by
   intro s0 ns v s' t' aqF hx ht hl0 hw;rw[ux]at hw;refine uu hx hl0 hr hw λ r' hG hm he=> ?_
   rw[←he,←r8,←r7 s' o.dst v r'];refine qK ops ht (by rw[vJ];exact hm.len) hm.nor hG λ s2 r2 hL hm2=>hk s2 r2 hL (hm.trans hm2)
  have skip:∀{s0:SS} {t':T} {aqF:List lK},pS rows all ops aqF (s0.cq o.dst un)=some t'->r.length=s0.nv->cL P L R t' r S->cN P ops aqF (cq (cG s0 r) o.dst (.aZ [])) (cr s0 r) λ ir e O=>nT rows (all.zip ir)=true/\K e O:=by
   intro s0 t' aqF ht hl0 hw;have:(un).ev r= .aZ []:=rfl;rw[←this,←r8,←r7 s0 o.dst un r];exact qK ops ht (by rw[vJ];exact hl0) hr hw hk
  simp only[pS]at h;simp only[cN]
  split at h
  ·rename_i hg
   split at h
   ·rename_i ns v s' hx;simp only[map_eq_some_iff]at h;obtain⟨t',ht,rfl⟩:=h;rw[hg];simp only[apI (adK hx) hl hr];exact step hx ht hl hw
   ·cases h
  ·rename_i g want hg
   split at h
   ·rename_i b hb;have heb:cG s r g= .v (.bool b):=by simp only[cG,hb];rfl
    rw[hg];simp only[heb]
    split at h
    ·rename_i pz;subst pz
     split at h
     ·rename_i ns v s' hx;simp only[map_eq_some_iff]at h;obtain⟨t',ht,rfl⟩:=h;rw[sa heb];refine⟨λ _=> ?_,λ h=> ?_⟩
      ·simp only[apI (adK hx) hl hr];exact step hx ht hl hw
      ·cases b<;>simp at h
     ·cases h
    ·rename_i pz;have hbn:b= !want:=by cases b<;>cases want<;>simp_all
     refine⟨λ h=>(pz h).elim,λ _=> ?_⟩;rw[sa (by rw[heb,hbn])];exact skip h hl hw
   ·rename_i hb;have heb:cG s r g= .aZ []:=by simp only[cG,hb];rfl
    rw[hg];simp only[heb];exact skip h hl hw
   ·rename_i c _ _ hc;have hec:cG s r g=c.ev r:=by simp only[cG,hc];rfl
    split at h
    ·rename_i ns v s' hx
     split at h
     ·rename_i t1 t2 h1 h2;simp only[Option.some.injEq]at h;rw[hg];simp only[hec]
      have key:∃b,c.ev r= .v (.bool b)/\(b=want->cL P L R (wrap ns t1) r S)/\(b= !want->cL P L R t2 r S):=by
       subst h;cases want
       ·simp only[false_eq_true,if_false,cL]at hw
        split at hw
        ·rename_i b hb;exact⟨b,hb,hw.2,λ h=>hw.1 (by simpa using h)⟩
        ·exact hw.elim
       ·simp only[if_true,cL]at hw
        split at hw
        ·rename_i b hb;exact⟨b,hb,hw.1,λ h=>hw.2 (by simpa using h)⟩
        ·exact hw.elim
      obtain⟨b,hb,k1,k2⟩:=key;simp only[hb];have e1:∀b':Bool,(cG s r).set g (.v (.bool b'))=cG (s.set g (.d (.c (.v (.bool b'))))) r:=λ b'=>by rw[acW];rfl
      have e2:∀b':Bool,cr s r=cr (s.set g (.d (.c (.v (.bool b'))))) r:=λ b'=>rfl
      refine⟨λ pz=> ?_,λ pz=> ?_⟩
      ·rw[e1,e2 want];simp only[apI (s:=s.set g (.d (.c (.v (.bool want))))) (adK hx) hl hr];exact step hx h1 hl (k1 pz)
      ·rw[e1,e2 (!want)];exact skip h2 hl (k2 pz)
     ·cases h
    ·cases h
   ·cases h
theorem aB4{n0:Nat}(s:SS)(t m:Nat):Wk n0 s {s with aE:=s.aE++ [.row true t m (.c (.sl []))]}:=by
 refine⟨rfl,λ r hl hr=> ?_⟩;refine WK.aeX t m (by simp[cr]) (by simp[cr,SO.ev,D.ev,aU]) (λ j hj=> .inl ?_) λ q=> .inl rfl
 simp only[cr,map_append];rw[getElem?_append_left (by simpa [cr]using hj)]
theorem sW{n0:Nat}:∀(ops:List aQ) (s:SS),Wk n0 s (nN ops s).2/\(nN ops s).1.map aQ.strip=ops.map aQ.strip
 | [],s=>⟨.refl _ _,rfl⟩
 |o::r,s=>by
  obtain⟨g,d,op⟩:=o;simp only[nN]
  split
  ·rename_i _ t m z;obtain⟨h1,h2⟩:=sW (n0:=n0) r {s with aE:=s.aE++ [.row true t m (.c (.sl []))]};exact⟨(aB4 s t m).trans h1,by simp only[map_cons,h2];rfl⟩
  ·obtain⟨h1,h2⟩:=sW (n0:=n0) r s;exact⟨h1,by simp only[map_cons,h2]⟩
theorem afX{rows:List (List Nat)}{ops:List aQ}{n0:Nat}:∀(n:Nat) {s s1:SS} {al:List aQ} {t:T},anW rows ops n s=some (s1,al,t)->Wk n0 s s1/\al.map aQ.strip=ops.map aQ.strip/\pS rows al al [] s1=some t
 |0,s,s1,al,t,h=>by simp[anW]at h
 |n+1,s,s1,al,t,h=>by
  simp only[anW]at h
  split at h
  ·rename_i t0 ht;cases h;exact⟨.refl _ _,rfl,ht⟩
  ·split at h
   ·split at h
    ·rename_i t0 ht;cases h;obtain⟨h1,h2⟩:=sW (n0:=n0) ops s;exact⟨h1,h2,ht⟩
    ·cases h
   ·obtain⟨q1,q2⟩:=afX n h;exact⟨(auq _ _).trans q1,q2⟩
end
section
variable {P:Program}
theorem ayx(live:List Nat)(s:SS)(t:Nat):lk (ayz live s).env t=if live.contains t=true then lk s.env t else .top:=by
 have key:∀(l:List Nat),lk (l.filterMap λ t=>match lk s.env t with| .top=>none|v=>some (t,v)) t=if l.contains t=true then lk s.env t else .top:=by
  intro l
  induction l with
  |nil=>rfl
  |cons q l ih=>
   simp only[List.filterMap_cons,List.contains_cons];by_cases hq:t=q
   ·subst hq;simp only[BEq.rfl,Bool.true_or,if_true]
    split
    ·rename_i h
     split at h
     ·rename_i h2;rw[h2]at ih⊢;rw[ih];simp
     ·cases h
    ·rename_i p h
     split at h
     ·cases h
     ·cases h;simp[lk]
   ·have hb:(t==q)=false:=by simpa using hq
    simp only[hb,Bool.false_or]
    split
    ·exact ih
    ·rename_i p h
     split at h
     ·cases h
     ·cases h;simp only[lk,if_neg hq];exact ih
 exact key live
theorem ayy(live:List Nat)(s:SS)(r:List AV):cG (ayz live s) r=yZ live (cG s r):=by
 funext t
 simp only[cG,ayx,yZ]
 split<;>rfl
theorem u5{n0:Nat}{body:SS->Option T}:∀(n:Nat) {s h s1 h1:SS} {t:T},aaT body n s h=some (s1,h1,t)->Wk n0 s s1/\body h1=some t
 |0,s,h,s1,h1,t,hh=>by simp[aaT]at hh
 |n+1,s,h,s1,h1,t,hh=>by
  simp only[aaT]at hh
  split at hh
  ·cases hh
  ·rename_i t0 hb
   split at hh
   ·rename_i c hc
    split at hh
    ·cases hh
    ·obtain⟨q1,q2⟩:=u5 n hh;exact⟨(ak8 s c).trans q1,q2⟩
   ·split at hh
    ·cases hh;exact⟨.refl _ _,hb⟩
    ·exact u5 n hh
theorem aff{n0:Nat}{L:List SS}:∀(n:Nat) (s:SS),Wk n0 s (y0 L n s)
 |0,s=> .refl _ _
 |n+1,s=>by
  rw[y0]
  split
  ·rename_i c _;exact(ak8 s c).trans (aff n _)
  ·exact .refl _ _
theorem wY{n0:Nat}{body:SS->Option T}:∀(n:Nat) {s s1:SS} {t:T},vj body n s=some (s1,t)->Wk n0 s s1/\body s1=some t
 |0,s,s1,t,hh=>by simp[vj]at hh
 |n+1,s,s1,t,hh=>by
  simp only[vj]at hh
  split at hh
  ·cases hh
  ·rename_i t0 hb
   split at hh
   ·split at hh
    ·rename_i c hc
     split at hh
     ·rename_i q hq;cases hh;obtain⟨q1,q2⟩:=wY n hq;exact⟨(ak8 s c).trans q1,q2⟩
     ·split at hh
      ·cases hh;exact⟨.refl _ _,hb⟩
      ·cases hh
    ·cases hh;exact⟨.refl _ _,hb⟩
   ·cases hh;exact⟨.refl _ _,hb⟩
theorem azR{b:ba}{q:List (List Nat)×List aQ}(h:b.drawn=some q):b= .region (some q.1) q.2:=by
 cases b<;>simp only[ba.drawn,reduceCtorEq]at h
 rename_i d ops;cases d<;>simp only[reduceCtorEq,Option.some.injEq]at h
 subst h;rfl
theorem atT{b:ba}(h:b.apL=true):∃c,b= .mu c:=by
 cases b<;>first|exact⟨_,rfl⟩|(simp[ba.apL]at h)
theorem adM{n0:Nat}{fl:List Nat}(c:ba):∀{s:SS} {t:T},xC n0 fl c s=some t->∀{r:List AV},r.length=s.nv->AV.ae r=true->∀{L:AX->SS->List AV->Prop} {R:AV->Prop} {S:List (List AV->Prop)} {Q:AX->Env->List aj->Prop},
  cL P L R t r S->(∀x s' r',L x s' r'->acT r r' s'.nv->Q x (cG s' r') (cr s' r'))->mD P n0 c Q (cG s r) (cr s r):=by
 induction c with
 |skip=>
  intro s t h r hl hr L R S Q hw hq;simp only[xC,Option.some.injEq]at h;subst h;exact hq _ _ _ hw ⟨⟨[],by simp⟩,hl,hr⟩
 |region d ops=>
  intro s t h r hl hr L R S Q hw hq;cases d with
  |none=>exact uv ops h hl hr hw λ s' r' hL hm=>hq _ _ _ hL hm
  |some rows=>exact⟨ops,rfl,gk ops (λ a e O h=>⟨.inl h.1,h.2⟩) (qK ops h hl hr hw λ s' r' hL hm=>hq _ _ _ hL hm)⟩
 |j3 ops=>
  intro s t h r hl hr L R S Q hw hq;exact xb ops h hl hr hw λ s' r' hL hm=>hq _ _ _ hL hm
 |exit id=>
  intro s t h r hl hr L R S Q hw hq;simp only[xC,Option.some.injEq]at h;subst h;exact hq _ _ _ hw ⟨⟨[],by simp⟩,hl,hr⟩
 |ret=>
  intro s t h r hl hr L R S Q hw hq;simp only[xC,Option.some.injEq]at h;subst h;exact hq _ _ _ hw ⟨⟨[],by simp⟩,hl,hr⟩
 |seq a b iha ihb=>
  intro s t h r hl hr L R S Q hw hq;simp only[xC]at h
  split at h
  ·cases h
  ·rename_i t0 ha
   split at h
   ·rename_i sr;obtain⟨b',rfl⟩:=atT sr.1
    split at h
    ·rename_i t1 t2 h1 h2;cases h;simp only[cL]at hw;have hf:=abR h1 hw;refine iha ha hl hr hf λ x s' r' hL hm=> ?_
     obtain⟨t3,e3,w3⟩:=hL
     have oth:∀{x'},t3= .cM (.leaf x' s')->x'=x->Q x (cG s' r') (cr s' r'):=by
      intro x' h3 hx;subst h3;subst hx;simp only[cL]at w3;exact hq _ _ _ w3 hm
     cases x with
     |exit i=>cases e3;exact oth rfl rfl
     |ret=>cases e3;exact oth rfl rfl
     |normal=>
      simp only[map_eq_some_iff]at e3;obtain⟨vs,hco,rfl⟩:=e3;simp only[cL]at w3;obtain⟨m,rfl⟩:=hm.pre;have hj:=aff (n0:=n0) (L:=pq t0) 8 s';obtain⟨c1,c2,c3⟩:=tj hco hl (hm.len.trans hj.1.symm) hm.nor;have w4:=w3 (by rw[D.bc,length_map,c1]);obtain⟨e',O',zg,nS⟩:=ihb h2 c2.len c2.nor w4 λ x s2 r2 wj hm2=>hq x s2 r2 wj (c2.trans hm2)
      exact⟨e',O',((hj.2 _ hm.len hm.nor).trans c3).trans zg,nS⟩
    ·cases h
   ·have hf:=abR h hw;refine iha ha hl hr hf λ x s' r' hL hm=> ?_
    obtain⟨t3,e3,w3⟩:=hL;cases x with
    |exit i=>cases e3;exact hq _ _ _ w3 hm
    |ret=>cases e3;exact hq _ _ _ w3 hm
    |normal=>exact ihb e3 hm.len hm.nor w3 λ x s2 r2 wj hm2=>hq x s2 r2 wj (hm.trans hm2)
 |cond c a b iha ihb=>
  intro s t h r hl hr L R S Q hw hq;simp only[xC]at h;simp only[mD,←bq]
  split at h
  ·rename_i bb hc;rw[hc];simp only[SV.ev,D.ev]
   split at h
   ·rename_i hb;refine⟨λ _=>iha h hl hr hw hq,λ h=> ?_⟩;rw[hb]at h;cases h
   ·rename_i hb;refine⟨λ h=>(hb h).elim,λ _=>ihb h hl hr hw hq⟩
  ·rename_i d _ hc
   split at h
   ·rename_i t1 t2 h1 h2
    split at h
    ·cases h;rw[hc];simp only[cL]at hw;simp only[SV.ev]
     split at hw
     ·rename_i bb hb;rw[hb];exact⟨λ h=>iha h1 hl hr (hw.1 h) hq,λ h=>ihb h2 hl hr (hw.2 h) hq⟩
     ·exact hw.elim
    ·cases h
   ·cases h
  ·cases h
 |block id b ih=>
  intro s t h r hl hr L R S Q hw hq;simp only[xC]at h
  split at h
  ·cases h
  ·rename_i t0 hb;have hf:=abR h hw;refine ih hb hl hr hf λ x s' r' hL hm=> ?_
   obtain⟨t3,e3,w3⟩:=hL;cases x with
   |normal=>cases e3;exact hq _ _ _ w3 hm
   |ret=>cases e3;exact hq _ _ _ w3 hm
   |exit i=>
    simp only[Option.some.injEq]at e3;simp only
    split
    ·rename_i hi;rw[if_pos hi]at e3;subst e3;exact hq _ _ _ w3 hm
    ·rename_i hi;rw[if_neg hi]at e3;subst e3;exact hq _ _ _ w3 hm
 |loop b ih=>
  intro s t h r hl hr L R S Q hw hq;simp only[xC]at h
  split at h
  ·cases h
  ·rename_i s1 hd t0 hh;obtain⟨zg,hb⟩:=u5 8 hh
   split at h
   ·rename_i init hco
    split at h
    ·rename_i t1 h1;cases h;obtain⟨J,n,hJ0,ap5⟩:=hw;have hl1:r.length=s1.nv:=hl.trans zg.1.symm;obtain⟨c1,c2,c3⟩:=tj (rb:=r) (m:=[]) hco hl1 (by simpa using hl1) (by simpa using hr);simp only[append_nil]at c1 c2 c3;refine⟨λ n e O=>∃vs,J n vs/\vs.length=init.length/\acT r (r++vs) hd.nv/\e=cG hd (r++vs)/\O=cr hd (r++vs),n,⟨_,_,(zg.2 r hl hr).trans c3,D.bn r init,hJ0,by rw[D.bc,length_map],c2,rfl,rfl⟩,?_⟩;rintro n e O ⟨vs,hJ,hlen,hm0,rfl,rfl⟩;have hf:=abR h1 (ap5 n vs hJ hlen);refine ih hb hm0.len hm0.nor hf λ x s' r' hL hm=> ?_
     obtain⟨t3,e3,w3⟩:=hL;cases x with
     |exit i=>cases e3;simp only[cL]at w3;exact hq _ _ _ w3 (hm0.trans hm)
     |ret=>cases e3;simp only[cL]at w3;exact hq _ _ _ w3 (hm0.trans hm)
     |normal=>
      simp only[map_eq_some_iff]at e3;obtain⟨rJ,aQ6,rfl⟩:=e3;simp only[cL]at w3;obtain⟨m',aK,hJ'⟩:=w3;obtain⟨m2,rfl⟩:=hm.pre;have tQ:=hm.nor;have zj:=hm.len;rw[List.append_assoc]at tQ zj hJ'⊢;obtain⟨d1,d2,d3⟩:=tj (rb:=r) (m:=vs++m2) aQ6 hl1 zj tQ;exact⟨m',_,_,aK,d3,_,hJ',by rw[D.bc,length_map,d1,c1],d2,rfl,rfl⟩
    ·cases h
   ·cases h
 |keep live c ih=>
  intro s t h r hl hr L R S Q hw hq;simp only[xC]at h
  split at h
  ·cases h
  ·rename_i t0 hb;have hf:=abR h hw;refine ih hb hl hr hf λ x s' r' hL hm=> ?_
   obtain⟨t3,e3,w3⟩:=hL;cases x with
   |exit i=>cases e3;exact hq _ _ _ w3 hm
   |ret=>cases e3;exact hq _ _ _ w3 hm
   |normal=>
    cases e3;simp only;rw[←ayy];exact hq _ _ _ w3 hm
 |mu c ih=>
  intro s t h r hl hr L R S Q hw hq;simp only[xC]at h
  split at h
  ·split at h
   ·rename_i q hc;obtain⟨s1,t1⟩:=q;cases h;obtain⟨zg,hb⟩:=wY 6 hc;exact⟨_,_,zg.2 r hl hr,ih hb (hl.trans zg.1.symm) hr hw hq⟩
   ·cases h
  ·split at h
   ·rename_i q hd;simp only[map_eq_some_iff]at h;obtain⟨⟨s1,al,t1⟩,hdr,rfl⟩:=h;obtain⟨zg,nQ,hx⟩:=afX (n0:=n0) 6 hdr;have hc:=azR hd;subst hc;exact⟨_,_,zg.2 r hl hr,al,nQ,gk al (λ a e O h=>⟨.inl h.1,h.2⟩) (qK al hx (hl.trans zg.1.symm) hr hw λ s' r' hL hm=>hq _ _ _ hL hm)⟩
   ·exact⟨_,_,.refl _ _ _,ih h hl hr hw hq⟩
theorem fU:∀(c:ba),c.weaken.strip=c.strip
 | .skip=>rfl
 | .region none ops=>rfl
 | .region (some rows) ops=>rfl
 | .seq a b=>by simp only[ba.weaken,ba.strip,fU a,fU b]
 | .cond c t f=>by simp only[ba.weaken,ba.strip,fU t,fU f]
 | .block id b=>by simp only[ba.weaken,ba.strip,fU b]
 | .loop b=>by simp only[ba.weaken,ba.strip,fU b]
 | .exit id=>rfl
 | .ret=>rfl
 | .keep l c=>by simp only[ba.weaken,ba.strip,fU c]
 | .mu c=>by simp only[ba.weaken,ba.strip,fU c]
 | .j3 ops=>rfl
def vw.weaken(A:vw):vw:={A with code:= .mu A.code.weaken}
theorem cFn.weaken{f:FuncId}{A:vw}(h:cFn P f A):cFn P f A.weaken:=by
 obtain⟨fn,code,h1,h2,h3,h4,h5,h6,h7⟩:=h;exact⟨fn,code,h1,h2,h3,h4,h5,h6.trans (congrArg some (fU A.code).symm),h7⟩
def ti(n:Nat):SS:=⟨(List.range n).map λ i=>(i,.d (.x i)),[],n,[]⟩
theorem anU(args:List AV):∀t,cG (ti args.length) args t= .top∨cG (ti args.length) args t=qw args t:=by
 intro t
 have key:∀(n k:Nat),lk ((List.range' k n).map λ i=>(i,SV.d (.x i))) t=if k<=t/\t<k+n then .d (.x t)else .top:=by
  intro n
  induction n with
  |zero=>intro k;rw[if_neg (by omega)];rfl
  |succ n ih=>
   intro k;simp only[List.range'_succ,map_cons,lk,ih];by_cases h:t=k
   ·subst h;simp
   ·rw[if_neg h];by_cases h2:k+1<=t/\t<k+1+n
    ·rw[if_pos h2,if_pos (by omega)]
    ·rw[if_neg h2,if_neg (by omega)]
 simp only[cG,ti,List.range_eq_range'];rw[key]
 split
 ·rename_i h;refine .inr ?_;simp only[SV.ev,D.ev,qw,List.getD];have:t<args.length:=by omega
  rw[getElem?_eq_getElem this];rfl
 ·exact .inl rfl
inductive zM(O:List aj):AV->AV->Prop
 |refl (a:AV):a.ag=true->zM O a a
 |row (n t s:Nat) (xs:List AV):(O[n]? =some (.live t s xs)∨(O[n]? =some (.nil t s)/\xs= []))->AV.ae xs=true->zM O (.row n xs.length) (.sl xs)
 |agg (cs ds:List AV):cs.length=ds.length->(∀(i:Nat) c d,cs[i]? =some c->ds[i]? =some d->zM O c d)->zM O (.agg cs) (.agg ds)
 |aZ (cs ds:List AV):cs.length=ds.length->(∀(i:Nat) c d,cs[i]? =some c->ds[i]? =some d->zM O c d)->zM O (.aZ cs) (.aZ ds)
theorem zM.sound{I:eW}{L:Nat->Loc}{O:List aj}{w:World}(hi:Inv I L O w){a b:AV}(h:zM O a b):∀{x:Value},R I L O a x->R (allI I L O w) L [] b x:=by
 induction h with
 |refl a hn=>intro x hr;exact hr.ag (rl hi) hn
 |row n t s xs hO hn=>
  intro x hr;rcases hO with hO|⟨hO,rfl⟩
  ·have:=hr.iL hO rfl;subst this;obtain⟨c,⟨qi,h1,gg⟩,h2,h3,h4,h5,h6⟩:=hi.obj n t s xs hO;have hlb:LB L O (L n).bO:= .inl ⟨n,t,s,xs,hO,rfl⟩;by_cases hx:xs= []
   ·subst hx;exact .oX _ _
   ·refine(.sl xs (L n).bO 0 (L n).cap s (λ i j=>(c[i*s+j]?).getD undef) h3 hx (λ i x hx=>(h6 i x hx).1) (λ i x j d hx hj=> ?_) λ i x j d hx hj=> ?_)
    ·obtain⟨y,hy,ho,_⟩:=(h6 i x hx).2 j d hj;unfold allI;rw[if_pos hlb,zero_add,gD h1,hy];exact⟨rfl,ho⟩
    ·obtain⟨y,hy,ho,lV⟩:=(h6 i x hx).2 j d hj;rw[hy];exact lV.ag (rl hi) (gY (bm hn x (mem_of_getElem? hx)) d (mem_of_getElem? hj))
  ·obtain⟨rfl,_⟩:=hr.qO hO;exact .oX _ _
 |agg cs ds h _ ih=>
  intro x hr;cases hr with
  |agg _ vs hl hr=>
   refine .agg _ _ (by omega) λ i d v hd hv=> ?_
   have hc:cs[i]? =some (cs[i]'(by have:=(List.getElem?_eq_some_iff.1 hd).1;omega)):=by simp
   exact ih i _ _ hc hd (hr i _ v hc hv)
 |aZ cs ds h _ ih=>
  intro x hr;cases hr with
  |aZ _ vs hl hr=>
   refine .aZ _ _ (by omega) λ i d v hd hv=> ?_
   have hc:cs[i]? =some (cs[i]'(by have:=(List.getElem?_eq_some_iff.1 hd).1;omega)):=by simp
   exact ih i _ _ hc hd (hr i _ v hc hv)
theorem axt{rs:List ff}{res:AV}{x:AX}(hx:x= .ret∨x= .normal){e:Env}{O:List aj}(h:fm e O rs [] λ xs=>zM O (cv xs) res):p7 0 rs res [] x e O:=by
 have key:∀(rs:List ff) (acc:List AV) (M M':List AV->Prop),(∀xs,M xs->M' xs)->fm e O rs acc M->fm e O rs acc M':=by
  intro rs
  induction rs with
  |nil=>intro acc M M' hm h;exact hm _ h
  |cons r rs ih=>
   intro acc M M' hm h;cases r with
   |tmp t=>exact ih _ _ _ hm h
   |cell t n=>
    simp only[fm,ff.get]at h⊢
    split at h
    ·split at h
     ·exact⟨h.1,ih _ _ _ hm h.2⟩
     ·exact h.elim
    ·exact h.elim
 have:fm e O rs [] λ xs=>∃e',WK 0 (λ t=>if t=0 then cv xs else .top) O e' []/\e' 0=res:=by
  refine key rs _ _ _ (λ xs hp=>⟨λ t=>if t=0 then res else .top,?_,rfl⟩) h;intro I0 L0 O0 w0 I L w f hl hg hr;obtain rfl:O0= []:=List.eq_nil_of_length_eq_zero hl;refine⟨_,L,hg.all,λ t=> ?_⟩;by_cases ht:t=0
  ·subst ht;have h0:=hr 0;simp only[if_true]at h0⊢;exact hp.sound hg.inv h0
  ·simp only[if_neg ht];exact .top _
 rcases hx with rfl|rfl<;>exact this
section
variable {s:SS} {r:List AV}
theorem afU(hl:r.length=s.nv)(hr:AV.ae r=true)(hc:s.cl=true){v:SV}{d:D}(h:aCL s v=some d)(hv:v.cl s.nv=true):zM (cr s r) (v.ev r) (d.ev r):=by
 unfold aCL at h
 split at h
 ·cases h;exact .refl _ (D.cC hr _ (by rw[hl];exact hv))
 ·rename_i n l
  split at h
  ·rename_i oL;cases h;obtain⟨⟨nl,e,sz⟩,hq⟩:=Option.isSome_iff_exists.1 oL;have hn:=dT (D.cC hr l (by rw[hl];exact hv));simp only[SV.ev,D.ev];refine .row n e sz _ ?_ hn;rcases iM (gw hq) r with h|⟨h,h',_⟩
   ·exact .inl h
   ·exact .inr ⟨h,h'⟩
  ·cases h
 ·cases h
theorem abP(hl:r.length=s.nv)(hr:AV.ae r=true)(hc:s.cl=true):∀{vs:List SV} {ds:List D},anQ s vs=some ds->SV.cls s.nv vs=true->vs.length=ds.length/\∀(i:Nat) c d,(SV.bn r vs)[i]? =some c->(D.bn r ds)[i]? =some d->zM (cr s r) c d
 | [],ds,h,_=>by simp only[anQ,Option.some.injEq]at h;subst h;exact⟨rfl,by simp[SV.bn]⟩
 |v::vs,ds,h,nR=>by
  simp only[anQ]at h
  split at h
  ·rename_i d ds' h1 h2;cases h;simp only[SV.cls,and_eq_true]at nR;obtain⟨k1,k2⟩:=abP hl hr hc h2 nR.2;refine⟨by simp[k1],λ i c d' hi fR=> ?_⟩;cases i with
   |zero=>
    simp only[SV.bn,D.bn,List.getElem?_cons_zero,Option.some.injEq]at hi fR;subst hi;subst fR;exact afU hl hr hc h1 nR.1
   |succ i=>exact k2 i c d' (by simpa [SV.bn]using hi) (by simpa [D.bn]using fR)
  ·cases h
theorem aqn(hl:r.length=s.nv)(hr:AV.ae r=true)(hc:s.cl=true){v:SV}{d:D}(h:aHV s v=some d)(hv:v.cl s.nv=true):zM (cr s r) (v.ev r) (d.ev r):=by
 unfold aHV at h
 split at h
 ·rename_i cs;simp only[map_eq_some_iff]at h;obtain⟨ds,h1,rfl⟩:=h;obtain⟨k1,k2⟩:=abP hl hr hc h1 hv;exact .agg _ _ (by simp[SV.bc,D.bc,k1]) k2
 ·exact afU hl hr hc h hv
theorem abQ(hl:r.length=s.nv)(hr:AV.ae r=true)(hc:s.cl=true):∀{rs:List ff} {ds:List D},afV s rs=some ds->∀(acc:List AV) (M:List AV->Prop),
  (∀xs:List AV,xs.length=ds.length->(∀(i:Nat) c d,xs[i]? =some c->(D.bn r ds)[i]? =some d->zM (cr s r) c d)->M (acc.reverse++xs))->fm (cG s r) (cr s r) rs acc M
 | [],ds,h,acc,M,hM=>by
   simp only[afV,Option.some.injEq]at h;subst h;have:=hM [] rfl (by simp);simpa [fm]using this
 |q::rs,ds,h,acc,M,hM=>by
  simp only[afV]at h
  split at h
  ·rename_i v hv
   split at h
   ·rename_i d ds' h1 h2;cases h
    have cont:∀{x:AV},x=v.ev r->v.cl s.nv=true->fm (cG s r) (cr s r) rs (x::acc) M:=by
     rintro x rfl nR;refine abQ hl hr hc h2 _ _ λ xs hlen hx=> ?_
     have:=hM (v.ev r::xs) (by simp[hlen]) (λ i c d' hi fR=> ?_)
     ·simpa using this
     ·cases i with
      |zero=>
       simp only[D.bn,List.getElem?_cons_zero,Option.some.injEq]at hi fR;subst hi;subst fR;exact aqn hl hr hc h1 nR
      |succ i=>exact hx i c d' (by simpa using hi) (by simpa [D.bn]using fR)
    cases q with
    |tmp t=>
     simp only[aiy,Option.some.injEq]at hv;subst hv;exact cont rfl (SS.tm hc t)
    |cell t n=>
     simp only[aiy]at hv
     split at hv
     ·rename_i k hk
      split at hv
      ·rename_i e cs hb;have rK:=mn hb;have aQ8:SV.cls s.nv cs=true:=SS.xV hc (mem_of_getElem? rK);simp only[fm,ff.get,cG,hk,SV.ev];rw[j2 rK r];simp only[SO.ev]
       split at hv
       ·cases hv
       ·rename_i m
        split at hv
        ·rename_i hm;cases hv;have hx:qe (SV.bn r cs)= .agg (SV.bn r cs):=gu (by rw[SV.bc];simpa [hm.1]using hm.2);rw[hx];refine⟨by simp[AV.cells,SV.bc,hm.1],?_⟩;rw[eg rfl (by simp[AV.cells,SV.bc,hm.1])];exact cont rfl aQ8
        ·cases hv
      ·cases hv
     ·cases hv
   ·cases h
  ·cases h
end
def aHU(rs:List ff)(x:AX)(s:SS):Option T:=
 match x with
 | .exit _=>none
 |_=>if s.cl=true then(afV s rs).map .ret else none
def vw.left(fl:List Nat)(A:vw):Option T:=
 match xC 0 fl A.weaken.code (ti A.iz)with
 |some t=>t.fill (aHU A.res) 0
 |none=>none
theorem aCK{rs:List ff}{s:SS}{r:List AV}{ds:List D}(hl:r.length=s.nv)(hr:AV.ae r=true)(hc:s.cl=true)(h:afV s rs=some ds){x:AX}(hx:x= .ret∨x= .normal):p7 0 rs (cv (D.bn r ds)) [] x (cG s r) (cr s r):=by
 refine axt hx (abQ hl hr hc h [] _ λ xs hlen hxs=> ?_);simp only[reverse_nil,nil_append];by_cases h1:ds.length=1
 ·obtain⟨d,rfl⟩:=List.length_eq_one_iff.1 h1;obtain⟨a,rfl⟩:=List.length_eq_one_iff.1 (hlen.trans h1);exact hxs 0 a (d.ev r) rfl rfl
 ·have p1:cv xs= .aZ xs:=by
    unfold cv;split
    ·simp at hlen;omega
    ·rfl
  have p2:cv (D.bn r ds)= .aZ (D.bn r ds):=by
   unfold cv;split
   ·rename_i h2;have:=congrArg List.length h2;rw[D.bc]at this;simp at this;omega
   ·rfl
  rw[p1,p2];exact .aZ _ _ (by rw[D.bc];simpa using hlen) hxs
theorem azY{f:FuncId}{A:vw}{fl:List Nat}{t:T}(hf:cFn P f A)(ht:A.left fl=some t){args:List AV}(hl:args.length=A.iz)(hn:AV.ae args=true){res:AV}
  (h:cL P (λ _ _ _=>False) (λ a=>a=res) t args []):aW P f args res:=by
 refine gx (hf.weaken) hl ?_;unfold vw.left at ht
 split at ht
 ·rename_i t0 h0;have hw:=abR ht h;have hs:=adM (P:=P) (fl:=fl) (vw.weaken A).code (s:=ti A.iz) h0 (r:=args) hl hn hw (Q:=p7 0 A.res res []) λ x s r hL hm=> ?_
  ·obtain⟨e',O',zg,hc⟩:=hs;refine⟨e',O',?_,hc⟩;refine WK.trans ?_ zg;have he:cr (ti A.iz) args= []:=rfl;rw[he,←hl];exact WK.env (anU args)
  ·obtain⟨t2,e2,w2⟩:=hL
   have key:(x= .ret∨x= .normal)/\s.cl=true/\∃ds,afV s A.res=some ds/\t2= .ret ds:=by
    cases x with
    |exit i=>cases e2
    |ret=>
     simp only[aHU]at e2
     split at e2
     ·rename_i hc;simp only[map_eq_some_iff]at e2;obtain⟨ds,h1,h2⟩:=e2;exact⟨.inl rfl,hc,ds,h1,h2.symm⟩
     ·cases e2
    |normal=>
     simp only[aHU]at e2
     split at e2
     ·rename_i hc;simp only[map_eq_some_iff]at e2;obtain⟨ds,h1,h2⟩:=e2;exact⟨.inr rfl,hc,ds,h1,h2.symm⟩
     ·cases e2
   obtain⟨hx,hc,ds,h1,rfl⟩:=key;simp only[cL]at w2;subst w2;exact aCK hm.len hm.nor hc h1 hx
 ·cases ht
theorem aiw{t k ty z:Nat}{nl:Bool}{xs:List AV}{x:AX}(hx:x= .ret∨x= .normal){e:Env}{O:List aj}(he:e t= .row k xs.length)(hk:O[k]? =some (fp nl ty z xs))(hn:AV.ae xs=true):
  p7 0 [.tmp t] (.row 0 xs.length) [fp nl ty z xs] x e O:=by
 have:fm e O [.tmp t] [] λ mW=>∃e',WK 0 (λ t=>if t=0 then cv mW else .top) O e' [fp nl ty z xs]/\e' 0= .row 0 xs.length:=by
  simp only[fm,ff.get,reverse_cons,reverse_nil,nil_append,cv,he];refine⟨λ t=>if t=0 then .row 0 xs.length else .top,.select (λ n=>if n=0 then k else k+n) (λ i hi=> ?_) (λ i j hi hj _=> ?_) (λ ob ho=> ?_) (λ t=> ?_),rfl⟩
  ·simp at hi;subst hi;simp[hk,aiv hn]
  ·simp at hi hj;omega
  ·simp at ho;subst ho;unfold fp
   split
   ·rfl
   ·exact eF xs hn
  ·by_cases ht:t=0
   ·subst ht;exact .inr ⟨rfl,rfl⟩
   ·exact .inl (by simp[ht])
 rcases hx with rfl|rfl<;>exact this
theorem aix{t ty z:Nat}{x:AX}(hx:x= .ret∨x= .normal){e:Env}{O:List aj}(he:e t= .an):p7 0 [.tmp t] (.row 0 0) [fp true ty z []] x e O:=by
 have rK:fp true ty z []= .nil ty z:=by simp[fp]
 have:fm e O [.tmp t] [] λ mW=>∃e',WK 0 (λ t=>if t=0 then cv mW else .top) O e' [fp true ty z []]/\e' 0= .row 0 0:=by
  simp only[fm,ff.get,reverse_cons,reverse_nil,nil_append,cv,he]
  have w1:WK 0 (λ t=>if t=0 then .an else .top) O (λ t=>if t=0 then .row O.length 0 else .top) (O++ [.nil ty z]):=by
   refine WK.aeX ty z (by simp) (by simp) (λ m hm=> .inl (getElem?_append_left hm)) λ t=> ?_
   by_cases ht:t=0
   ·subst ht;exact .inr ⟨rfl,rfl⟩
   ·exact .inl (by simp[ht])
  refine⟨λ t=>if t=0 then .row 0 0 else .top,w1.trans (.select (λ n=>O.length+n) (λ i hi=> ?_) (λ i j hi hj _=> ?_) (λ ob ho=> ?_) (λ t=> ?_)),rfl⟩
  ·simp at hi;subst hi;simp[rK,aj.bL]
  ·simp at hi hj;omega
  ·simp at ho;subst ho;rw[rK];rfl
  ·by_cases ht:t=0
   ·subst ht;exact .inr ⟨rfl,rfl⟩
   ·exact .inl (by simp[ht])
 rcases hx with rfl|rfl<;>exact this
def ak4(nl:Bool)(e m:Nat)(s:SS):List ff->Option D
 | [.tmp t]=>match lk s.env t with
   | .row n l=>match cur s n l with
     |some (nl',e',m')=>if nl'=nl/\e'=e/\m'=m then some l else none
     |none=>none
   | .d (.c .an)=>if nl=true then some (.c (.sl []))else none
   |_=>none
 |_=>none
def azE(nl:Bool)(e m:Nat)(rs:List ff)(x:AX)(s:SS):Option T:=
 match x with
 | .exit _=>none
 |_=>if s.cl=true then(ak4 nl e m s rs).map λ l=> .ret [.sl l]else none
def vw.uU(fl:List Nat)(nl:Bool)(e m:Nat)(A:vw):Option T:=
 match xC 0 fl A.weaken.code (ti A.iz)with
 |some t=>t.fill (azE nl e m A.res) 0
 |none=>none
theorem aCJ{nl:Bool}{e m:Nat}{rs:List ff}{s:SS}{r:List AV}{l:D}{xs:List AV}(hl:r.length=s.nv)(hr:AV.ae r=true)(hc:s.cl=true)(h:ak4 nl e m s rs=some l)(hx:aU (l.ev r)=xs){x:AX}(hxx:x= .ret∨x= .normal):
  p7 0 rs (.row 0 xs.length) [fp nl e m xs] x (cG s r) (cr s r):=by
 unfold ak4 at h
 split at h
 ·rename_i t
  split at h
  ·rename_i n l' hlk
   split at h
   ·rename_i nl' e' m' oL
    split at h
    ·rename_i heq;cases h;obtain⟨rfl,rfl,rfl⟩:=heq;have nR:=SS.tm hc t;rw[hlk]at nR;have hn:=dT (D.cC hr l (by rw[hl];exact nR));subst hx;refine aiw hxx (k:=n) ?_ ?_ hn
     ·simp only[cG,hlk,SV.ev]
     ·rw[j2 (gw oL) r,sd]
    ·cases h
   ·cases h
  ·rename_i hlk
   split at h
   ·rename_i hnl;cases h;subst hnl;simp only[D.ev,aU]at hx;subst hx;exact aix hxx (by simp only[cG,hlk];rfl)
   ·cases h
  ·cases h
 ·cases h
theorem auu{f:FuncId}{A:vw}{fl:List Nat}{nl:Bool}{e m:Nat}{t:T}(hf:cFn P f A)(ht:A.uU fl nl e m=some t){args:List AV}(hl:args.length=A.iz)(hn:AV.ae args=true){xs:List AV}
  (h:cL P (λ _ _ _=>False) (λ a=>a= .sl xs) t args []):vv P f args nl e m xs:=by
 refine gx (hf.weaken) hl ?_;unfold vw.uU at ht
 split at ht
 ·rename_i t0 h0;have hw:=abR ht h;have hs:=adM (P:=P) (fl:=fl) (vw.weaken A).code (s:=ti A.iz) h0 (r:=args) hl hn hw (Q:=p7 0 A.res (.row 0 xs.length) [fp nl e m xs]) λ x s r hL hm=> ?_
  ·obtain⟨e',O',zg,hc⟩:=hs;refine⟨e',O',?_,hc⟩;refine WK.trans ?_ zg;have he:cr (ti A.iz) args= []:=rfl;rw[he,←hl];exact WK.env (anU args)
  ·obtain⟨t2,e2,w2⟩:=hL
   have key:(x= .ret∨x= .normal)/\s.cl=true/\∃l,ak4 nl e m s A.res=some l/\t2= .ret [.sl l]:=by
    cases x with
    |exit i=>cases e2
    |ret=>
     simp only[azE]at e2
     split at e2
     ·rename_i hc;simp only[map_eq_some_iff]at e2;obtain⟨ds,h1,h2⟩:=e2;exact⟨.inl rfl,hc,ds,h1,h2.symm⟩
     ·cases e2
    |normal=>
     simp only[azE]at e2
     split at e2
     ·rename_i hc;simp only[map_eq_some_iff]at e2;obtain⟨ds,h1,h2⟩:=e2;exact⟨.inr rfl,hc,ds,h1,h2.symm⟩
     ·cases e2
   obtain⟨hx,hc,l,h1,rfl⟩:=key;simp only[cL,D.bn,cv,D.ev]at w2;exact aCJ hm.len hm.nor hc h1 (by simpa using w2) hx
 ·cases ht
theorem vv.plain{f:FuncId}{args:List AV}{nl:Bool}{e m:Nat}{xs:List AV}(h:vv P f args nl e m xs)(hn:AV.ae xs=true):aW P f args (.sl xs):=by
 refine⟨h.1,λ I L w vs hi hr=>(h.2 I L w vs hi hr).mono ?_⟩;rintro ev w' ⟨y,I',L',rfl,hy,hg⟩;refine⟨y,_,L',rfl,?_,hg.all⟩;refine zM.sound hg.inv (a:= .row 0 xs.length) ?_ hy;unfold fp
 split
 ·rename_i hx;obtain⟨_,rfl⟩:=hx;exact .row 0 e m [] (.inr ⟨rfl,rfl⟩) rfl
 ·exact .row 0 e m xs (.inl rfl) hn
end
theorem WK.ajZ{n0:Nat}{e e':Env}{O O1:List aj}(s:Nat->Nat)(hn0:n0<=O1.length)(hid:∀i,i<n0->s i=i)(hg:∀i,i<O1.length->O[s i]? =(O1[i]?).map (aj.bL s))(akV:∀i j,i<O1.length->j<O1.length->s i=s j->i=j)
  (hsO:∀ob∈O1,ob.inScope O1.length=true) (he:∀t,e' t= .top∨(e t=(e' t).bL s/\(e' t).inScope O1.length=true)):WK n0 e O e' O1:=by
 intro I0 L0 O0 w0 I L w f hl lE hr;have hi:=lE.inv
 have jx:∀{n e k ys},O1[n]? =some (.live e k ys)->O[s n]? =some (.live e k (ys.map (AV.bL s))):=by
  intro n e k ys hn;rw[hg n (List.getElem?_eq_some_iff.1 hn).1,hn];rfl
 have aPV:∀{n e k:Nat},O1[n]? =some (.nil e k)->O[s n]? =some (.nil e k):=by
  intro n e k hn;rw[hg n (List.getElem?_eq_some_iff.1 hn).1,hn];rfl
 have lR:∀{n:Nat} {a:AV},O1[n]? =some (.own a)->O[s n]? =some (.own a):=by
  intro n a hn;rw[hg n (List.getElem?_eq_some_iff.1 hn).1,hn];rfl
 have s9:∀{n:Nat} {g:qE},O1[n]? =some (.jq g)->O[s n]? =some (.jq (g.bL s)):=by
  intro n a hn;rw[hg n (List.getElem?_eq_some_iff.1 hn).1,hn];rfl
 have un:∀{a:AV} {x:Value},R I L O (a.bL s) x->a.inScope O1.length=true->R I (λ n=>L (s n)) O1 a x:=λ hr hsc=>R.aw3 hg (λ _ _=>rfl) hr _ rfl hsc
 refine⟨I,λ n=>L (s n),⟨⟨hi.ni,λ n e k ys hn=> ?_,λ n n' e k ys e' k' zN hn pH hb=> ?_,λ n e k ys o hn=>hi.gf _ _ _ _ o (jx hn),hi.fix,hi.bO,
  ⟨λ n a hn=>hi.ow.tree _ a (lR hn),λ n a hn=>hi.ow.cell _ a (lR hn),λ n a hn=>hi.ow.ni _ a (lR hn),λ n a hn b o v hv m e k xs hm=>hi.ow.live _ a (lR hn) b o v hv _ _ _ _ (jx hm),
   λ n m a c hn hm b o o' v v' hv hv'=>akV _ _ (List.getElem?_eq_some_iff.1 hn).1 (List.getElem?_eq_some_iff.1 hm).1 (hi.ow.sep _ _ a c (lR hn) (lR hm) b o o' v v' hv hv'),λ n a hn=>hi.ow.deep _ a (lR hn)⟩,
  ⟨λ n g hn=>(hi.gh.ok _ _ (s9 hn)).un (λ _ _ hr hsc=>un hr hsc) (hsO _ (mem_of_getElem? hn)),λ n m a c hn hm hb=>akV _ _ (List.getElem?_eq_some_iff.1 hn).1 (List.getElem?_eq_some_iff.1 hm).1 (hi.gh.sep _ _ _ _ (s9 hn) (s9 hm) hb)⟩⟩,⟨lE.ext.ni,by omega,λ n hn e k xs hx=> ?_,λ n hn e k hx=> ?_,λ n hn a hx=>by
   have h1:=lR hx;have hs:=hid n (by omega);rw[hs]at h1;obtain⟨q1,q2⟩:=lE.ext.own n hn a h1;exact⟨q1,by show(L (s n)).val=_;rw[hs];exact q2⟩,λ n hn a hx=>by
   have h1:=s9 hx;have hs:=hid n (by omega);rw[hs]at h1;obtain⟨⟨q,q0,q1⟩,q2⟩:=lE.ext.jq n hn _ h1;exact⟨⟨q,q0,by rw[q1,qE.aez]⟩,by show(L (s n)).bO=_;rw[hs];exact q2⟩⟩,lE.tV,?_,lE.nE⟩,λ t=> ?_⟩
 ·obtain⟨c,⟨qi,q1,gg⟩,q2,q3,q4,q5,q6⟩:=hi.obj _ _ _ _ (jx hn);refine⟨c,⟨qi,q1,gg⟩,q2,by simpa using q3,q4,q5,λ i x hx=> ?_⟩;have wc:(ys.map (AV.bL s))[i]? =some (x.bL s):=by rw[getElem?_map,hx];rfl
  obtain⟨r1,r2⟩:=q6 i _ wc;rw[fe,length_map]at r1;refine⟨r1,λ j a ha=> ?_⟩;obtain⟨y,hy,ho,lV⟩:=r2 j (a.bL s) (by rw[fe,getElem?_map,ha];rfl);have hbo:=hsO _ (mem_of_getElem? hn);exact⟨y,hy,ho,un lV (eD (cp hbo x (mem_of_getElem? hx)) a (mem_of_getElem? ha))⟩
 ·exact akV _ _ (List.getElem?_eq_some_iff.1 hn).1 (List.getElem?_eq_some_iff.1 pH).1 (hi.sep _ _ _ _ _ _ _ _ (jx hn) (jx pH) hb)
 ·have h1:=jx hx;have hs:=hid n (by omega);rw[hs]at h1;rcases lE.ext.obj n hn e k _ h1 with⟨zs,z1,z2,z3⟩|⟨z1,z2⟩
  ·exact .inl ⟨zs,z1,by simpa using z2,λ he=>by show L (s n)=_;rw[hs];exact z3 (by simpa using he)⟩
  ·exact .inr ⟨z1,by simpa using z2⟩
 ·have h1:=aPV hx;rw[hid n (by omega)]at h1;exact lE.ext.nil n hn e k h1
 ·rintro b (⟨n,e,k,xs,hn,hb⟩|⟨n,a,o,v,hn,hb⟩|⟨n,a,hn,hb⟩)
  ·exact lE.lb b (.inl ⟨s n,_,_,_,jx hn,hb⟩)
  ·exact lE.lb b (.inr (.inl ⟨s n,a,o,v,lR hn,hb⟩))
  ·exact lE.lb b (.inr (.inr ⟨s n,_,s9 hn,hb⟩))
 ·rcases he t with h|⟨h,h'⟩
  ·rw[h];exact .top _
  ·have:=hr t;rw[h]at this;exact un this h'
section
variable {P:Program}
theorem akd{r:List AV}{v:SV}{d:D}(h:apj v=some d):d.ev r=v.ev r:=by
 unfold apj at h
 split at h
 ·cases h;rfl
 ·rename_i cs;simp only[map_eq_some_iff]at h;obtain⟨ds,h1,rfl⟩:=h;rw[zu h1];simp only[D.ev,SV.ev,vQ]
 ·cases h;rfl
 ·cases h
theorem aao(r:List AV)(p v:SV):(aeI p v).ev r=v.ev r:=by
 unfold aeI
 split
 ·split
  ·rename_i d hd;simp only[SV.ev,akd hd]
  ·rfl
 ·rfl
theorem ato(r:List AV)(p v:SV):(akc p v).ev r=v.ev r:=by
 unfold akc
 split
 ·rename_i ps vs;simp only[SV.ev,SV.bc,map_map];congr 1;apply ext_getElem
  ·simp
  ·intro i h1 h2;simp only[getElem_map,getElem_range,Function.comp_apply,aao];simp only[length_map]at h2;simp only[List.getD,getElem?_eq_getElem h2,getD_some]
 ·rename_i ps vs;simp only[SV.ev,SV.bc,map_map];congr 1;apply ext_getElem
  ·simp
  ·intro i h1 h2;simp only[getElem_map,getElem_range,Function.comp_apply,aao];simp only[length_map]at h2;simp only[List.getD,getElem?_eq_getElem h2,getD_some]
 ·exact aao r _ _
theorem atc{s:SS}{r:List AV}{a:ff}{v:SV}(h:aiy s a=some v){K:AV->Prop}(hk:K (v.ev r)):a.get (cG s r) (cr s r) K:=by
 unfold aiy at h
 split at h
 ·cases h;exact hk
 ·rename_i t n
  split at h
  ·rename_i k hlk
   split at h
   ·rename_i e cs hb
    split at h
    ·cases h
    ·rename_i m
     split at h
     ·rename_i sr;cases h;simp only[ff.get,cG,hlk,SV.ev];rw[j2 (mn hb) r];simp only[SO.ev];have hx:qe (SV.bn r cs)= .agg (SV.bn r cs):=gu (by rw[SV.bc];simpa [sr.1]using sr.2);rw[hx];have hlen:(SV.bn r cs).length=m:=by rw[SV.bc];simpa using sr.1
      refine⟨by simp only[AV.cells,hlen,getD_some];first|exact le_refl _|trivial|done,?_⟩
      have:cA (some m) (.agg (SV.bn r cs)) 0= .agg (SV.bn r cs):=by
       show(if 0=0/\(AV.agg (SV.bn r cs)).isAgg=true/\(AV.agg (SV.bn r cs)).cells.length=m then _ else _)=_;rw[if_pos ⟨rfl,rfl,by simpa [AV.cells]using hlen⟩]
      rw[this];exact hk
     ·cases h
   ·cases h
  ·cases h
theorem vE{s:SS}{r:List AV}:∀{rs:List ff} {vs:List SV},aey s rs=some vs->∀(acc:List AV) (K:List AV->Prop),K (acc.reverse++SV.bn r vs)->fm (cG s r) (cr s r) rs acc K
 | [],vs,h,acc,K,hk=>by cases h;simpa [fm,SV.bn]using hk
 |a::rs,vs,h,acc,K,hk=>by
  simp only[aey]at h
  split at h
  ·rename_i v rJ h1 h2;cases h;simp only[fm];refine atc h1 (vE h2 _ _ ?_);simpa [SV.bn]using hk
  ·cases h
theorem aeO(r:List AV)(vs:List SV):(abB vs).ev r=cv (SV.bn r vs):=by
 cases vs with
 |nil=>rfl
 |cons v vs=>cases vs<;>rfl
theorem ats{l m:List AV}(hl:l.length=m.length)(h:cv l=cv m):l=m:=by
 rcases l with _|⟨a,_|⟨b,l⟩⟩<;>rcases m with _|⟨c,_|⟨d,m⟩⟩<;>simp[cv]at h hl⊢<;>exact h
def azw(g:eK)(s:SS)(vs:List SV):SS:=
 let s2:SS:={s with env:=[(0,abB vs)]}
 (List.zip (match g.res with| .aZ ps=>ps|p=>[p]) vs).foldl (λ (s:SS) (q:SV×SV)=>match q.1 with
  | .d _=>tU s q.2
  |_=>s) s2
def vP(g:eK)(rs:List ff)(s:SS):Option (List D×List Nat):=
 match aey s rs with
 |some vs=>u9 g [.tmp 0] (azw g s vs)
 |none=>none
def aMz(aE:List SO)(ps cs:List SV):Option (Nat×Nat×Nat):=
 (List.range cs.length).findSome? λ j=>match ps.getD j .top,cs[j]? with
  | .row n _,some (.d (.c .an))=>match aE.getD n .dead with
    | .row true e m _=>some (j,e,m)
    |_=>none
  |_,_=>none
def apy(s:SS)(f:List SV->SV)(cs:List SV)(j e m:Nat):SS:={s with env:=[(0,f (cs.set j (.row s.aE.length (.c (.sl [])))))],aE:=s.aE++ [.row true e m (.c (.sl []))]}
def ak5(g:eK)(s:SS)(f:List SV->SV)(ps cs:List SV):Option (List D×List Nat):=
 match aMz g.da ps cs with
 |some (j,e,m)=>match cs[j]? with
  |some (.d (.c .an))=>u9 g [.tmp 0] (apy s f cs j e m)
  |_=>none
 |none=>none
def vO(g:eK)(rs:List ff)(s:SS):Option (List D×List Nat):=
 match aey s rs with
 |some vs=>match g.res,abB vs with
  | .agg ps,.agg cs=>ak5 g s .agg ps cs
  | .aZ ps,.aZ cs=>ak5 g s .aZ ps cs
  |_,_=>none
 |none=>none
def azD(g:eK)(rs:List ff)(x:AX)(s:SS):Option T:=
 match x with
 | .exit _=>none
 |_=>match u9 g rs s with
  |some (τ,_)=>some (.ret τ)
  |none=>match vP g rs s with
   |some (τ,_)=>some (.ret τ)
   |none=>match vO g rs s with
    |some (τ,_)=>some (.ret τ)
    |none=>some (.aq .no (.ret []))
def vw.soft(A:vw):vw:={A with code:= .mu A.code}
theorem cFn.soft{f:FuncId}{A:vw}(h:cFn P f A):cFn P f A.soft:=by
 obtain⟨fn,code,h1,h2,h3,h4,h5,h6,h7⟩:=h;exact⟨fn,code,h1,h2,h3,h4,h5,h6,h7⟩
def vw.ea(fl:List Nat)(g:eK)(A:vw):Option T:=
 if g.ok=true/\g.args.length=A.iz then
  match(xC g.aE.length fl A.weaken.code (oF g)).bind λ t=>t.fill (azD g A.res) 0 with
  |some t=>some t
  |none=>(xC g.aE.length fl A.soft.code (oF g)).bind λ t=>t.fill (azD g A.res) 0
 else none
theorem ak3{g:eK}{rs:List ff}{s1:SS}{τ:List D}{eM:List Nat}(h:u9 g rs s1=some (τ,eM)){r:List AV}(hl1:r.length=s1.nv)(hr:AV.ae r=true){x:AX}(hx:x= .ret∨x= .normal):
  τ.length=g.m/\p7 g.aE.length rs (g.res.ev (D.bn r τ)) (g.da.map (SO.ev (D.bn r τ))) x (cG s1 r) (cr s1 r):=by
 unfold u9 at h
 ·split at h
  ·cases h
  ·rename_i vs sD
   split at h
   ·cases h
   ·rename_i τ' aAP aSD
    split at h
    ·rename_i sr;simp only[Option.some.injEq,Prod.mk.injEq]at h;obtain⟨rfl,rfl⟩:=h;obtain⟨c1,c2,c3,c4,c5,c6,c7,c8,c9⟩:=sr;refine⟨c8,?_⟩;simp only[eK.ok,and_eq_true,decide_eq_true_eq]at c2;obtain⟨⟨⟨⟨p1,p2⟩,p3⟩,p4⟩,p5⟩:=c2;have uc:AV.ae (D.bn r τ')=true:=D.eN hr τ' (by rw[hl1];exact c9);generalize hσ:afW s1 aAP=σ at*
     have hin:∀i,i<g.da.length->∃n,aAP[i]? =some n/\σ i=n:=by
      intro i hi;have fR:i<aAP.length:=by omega
      refine⟨aAP[i],getElem?_eq_getElem fR,?_⟩;rw[←hσ];simp only[afW,if_pos fR,List.getD,getElem?_eq_getElem fR,getD_some]
     have hO2:(g.da.map (SO.ev (D.bn r τ'))).length=g.da.length:=by simp
     have u3:fm (cG s1 r) (cr s1 r) rs [] λ xs=>∃e',WK g.aE.length (λ t=>if t=0 then cv xs else .top) (cr s1 r) e' (g.da.map (SO.ev (D.bn r τ')))/\e' 0=g.res.ev (D.bn r τ'):=by
      refine vE sD _ _ ?_;simp only[reverse_nil,nil_append];refine⟨λ t=>if t=0 then g.res.ev (D.bn r τ')else .top,.ajZ σ (by rw[hO2];exact p5) (λ i hi=> ?_) (λ i hi=> ?_) (λ i j hi hj he=> ?_) (λ ob ho=> ?_) (λ t=> ?_),rfl⟩
      ·have:=List.all_eq_true.1 c6 i (by simpa using hi);simpa using this
      ·rw[hO2]at hi;have hp:g.da[i]? =some g.da[i]:=getElem?_eq_getElem hi;have h1:=qZ c7 i _ hp;rw[zero_add]at h1;simp only[cr,getElem?_map,h1,hp,map_some];rw[y5 uc _ (List.all_eq_true.1 p3 _ (mem_of_getElem? hp))]
      ·rw[hO2]at hi hj;obtain⟨n,a1,a2⟩:=hin i hi;obtain⟨m,b1,b2⟩:=hin j hj;rw[a2,b2]at he;subst he;exact sS c5 a1 b1
      ·rw[hO2];obtain⟨o,hom,rfl⟩:=List.mem_map.1 ho;exact ar3 uc o (List.all_eq_true.1 p3 _ hom)
      ·by_cases ht:t=0
       ·subst ht;refine .inr ⟨?_,?_⟩
        ·simp only[if_pos];rw[←aeO,←ato r g.res,←SV.beq_eq _ _ c3,akx uc _ p4]
        ·simp only[if_pos];rw[hO2];cases hgr:g.res with
         |aZ cs=>
          rw[hgr]at p4;simp only[SV.ahe]at p4;exact yF uc cs p4
         |agg cs=>
          rw[hgr]at p4;simp only[SV.ahe]at p4;exact yF uc cs p4
         |_=>
          rw[hgr]at p4;exact axL (n:=g.m) uc _ (by simpa only[SV.ahe]using p4)
       ·exact .inl (by simp[ht])
     rcases hx with rfl|rfl<;>exact u3
    ·cases h
theorem aun{n0:Nat}(g:eK)(s:SS)(vs:List SV):Wk n0 {s with env:=[(0,abB vs)]} (azw g s vs):=
 jC (λ s q=>by
  split
  ·exact kA _ _
  ·exact .refl _ _) _ _
theorem azC{g:eK}{rs:List ff}{s1:SS}{τ:List D}{eM:List Nat}(h:vP g rs s1=some (τ,eM)){r:List AV}(hl1:r.length=s1.nv)(hr:AV.ae r=true){x:AX}(hx:x= .ret∨x= .normal):
  τ.length=g.m/\p7 g.aE.length rs (g.res.ev (D.bn r τ)) (g.da.map (SO.ev (D.bn r τ))) x (cG s1 r) (cr s1 r):=by
 unfold vP at h
 split at h
 ·rename_i vs sD;have hw:=aun (n0:=g.aE.length) g s1 vs;obtain⟨h1,h2⟩:=ak3 h (r:=r) (hl1.trans hw.1.symm) hr (x:= .ret) (.inl rfl);refine⟨h1,?_⟩;have h3:=hw.2 r hl1 hr;simp only[p7,fm,ff.get,reverse_cons,reverse_nil,nil_append,cv]at h2;obtain⟨e',h4,h5⟩:=h2
  have u3:fm (cG s1 r) (cr s1 r) rs [] λ xs=>∃e',WK g.aE.length (λ t=>if t=0 then cv xs else .top) (cr s1 r) e' (g.da.map (SO.ev (D.bn r τ)))/\e' 0=g.res.ev (D.bn r τ):=by
   refine vE sD _ _ ?_;simp only[reverse_nil,nil_append];refine⟨e',?_,h5⟩
   have e1:(λ t=>if t=0 then cv (SV.bn r vs)else .top)=cG {s1 with env:=[(0,abB vs)]} r:=by
    funext t
    simp only[cG,lk];by_cases ht:t=0
    ·simp only[if_pos ht,aeO]
    ·simp only[if_neg ht,SV.ev]
   rw[e1];refine WK.trans h3 (WK.trans (WK.env λ t=> ?_) h4);by_cases ht:t=0
   ·right;subst ht;rfl
   ·left;simp only[if_neg ht]
  rcases hx with rfl|rfl<;>exact u3
 ·cases h
theorem WK.aRF{n0:Nat}{e e':Env}{O:List aj}(h:∀(I:eW) (L:Nat->Loc) (t:Nat) (x:Value),R I L O (e t) x->R I L O (e' t) x):WK n0 e O e' O:=
 λ _ _ _ _ I L _ f _ hg hr=>⟨I,L,hg,λ t=>h I L t (f t) (hr t)⟩
theorem aiI{I:eW}{L:Nat->Loc}{O:List aj}{r:List AV}{cs:List SV}{vs:Array Value}{j n e m:Nat}(hj:cs[j]? =some (.d (.c .an)))(hn:O[n]? =some (.nil e m))(q1:(SV.bn r cs).length=vs.size)
  (q2:∀(i:Nat) (c:AV) (x:Value),(SV.bn r cs)[i]? =some c->vs[i]? =some x->R I L O c x):
  (SV.bn r (cs.set j (.row n (.c (.sl []))))).length=vs.size/\∀(i:Nat) (c:AV) (x:Value),(SV.bn r (cs.set j (.row n (.c (.sl [])))))[i]? =some c->vs[i]? =some x->R I L O c x:=by
 refine⟨by rw[←q1];simp[SV.bc],λ i c x hc hv=> ?_⟩;rw[SV.bc,getElem?_map,List.getElem?_set]at hc;by_cases hij:j=i
 ·subst hij;have hjl:j<cs.length:=(List.getElem?_eq_some_iff.1 hj).1;simp only[if_true,hjl,map_some,Option.some.injEq,SV.ev,D.ev,aU,length_nil]at hc;subst hc;have:=q2 j .an x (by rw[SV.bc,getElem?_map,hj];rfl) hv;cases this;exact .im _ e m hn
 ·rw[if_neg hij]at hc;exact q2 i c x (by rw[SV.bc,getElem?_map];exact hc) hv
theorem asz{g:eK}{rs:List ff}{s1:SS}{f:List SV->SV}{ps cs vs:List SV}{τ:List D}{eM:List Nat}(sD:aey s1 rs=some vs)(hp:abB vs=f cs)(h:ak5 g s1 f ps cs=some (τ,eM))
  (hf:∀(I:eW) (L:Nat->Loc) (O:List aj) (r:List AV) (n e m j:Nat) (y:Value),cs[j]? =some (.d (.c .an))->O[n]? =some (.nil e m)->R I L O ((f cs).ev r) y->R I L O ((f (cs.set j (.row n (.c (.sl []))))).ev r) y)
  {r:List AV} (hl1:r.length=s1.nv) (hr:AV.ae r=true) {x:AX} (hx:x= .ret∨x= .normal):
  τ.length=g.m/\p7 g.aE.length rs (g.res.ev (D.bn r τ)) (g.da.map (SO.ev (D.bn r τ))) x (cG s1 r) (cr s1 r):=by
 unfold ak5 at h
 split at h
 ·rename_i j e m hna
  split at h
  ·rename_i hj;obtain⟨h1,h2⟩:=ak3 h (r:=r) hl1 hr (x:= .ret) (.inl rfl);refine⟨h1,?_⟩;simp only[p7,fm,ff.get,reverse_cons,reverse_nil,nil_append,cv]at h2;obtain⟨e',h4,h5⟩:=h2
   have u3:fm (cG s1 r) (cr s1 r) rs [] λ xs=>∃e',WK g.aE.length (λ t=>if t=0 then cv xs else .top) (cr s1 r) e' (g.da.map (SO.ev (D.bn r τ)))/\e' 0=g.res.ev (D.bn r τ):=by
    refine vE sD _ _ ?_;simp only[reverse_nil,nil_append];refine⟨e',?_,h5⟩
    have hO:cr (apy s1 f cs j e m) r=cr s1 r++ [.nil e m]:=by
     simp only[apy,cr,map_append,map_cons,map_nil,SO.ev,D.ev,aU,if_true]
    have hOl:(cr s1 r).length=s1.aE.length:=fV s1 r;refine WK.trans (WK.aeX (e':=λ t=>if t=0 then cv (SV.bn r vs)else .top) (O':=cr s1 r++ [.nil e m]) e m (by simp) (by rw[getElem?_append_right (by simp)];simp) (λ i hi=> .inl (getElem?_append_left hi)) λ t=> .inl rfl) ?_;rw[←hO];refine WK.trans (e':=λ t=>if t=0 then(f (cs.set j (.row s1.aE.length (.c (.sl []))))).ev r else .top) (WK.aRF λ I L t y hy=> ?_) (WK.trans (WK.env λ t=> ?_) h4)
    ·by_cases ht:t=0
     ·simp only[if_pos ht]at hy⊢;rw[←aeO,hp]at hy;exact hf I L _ r s1.aE.length e m j y hj (by rw[hO,←hOl,getElem?_append_right (by simp)];simp) hy
     ·simp only[if_neg ht]at hy⊢;exact .top _
    ·by_cases ht:t=0
     ·right;subst ht;rfl
     ·left;simp only[if_neg ht]
   rcases hx with rfl|rfl<;>exact u3
  ·cases h
 ·cases h
theorem azB{g:eK}{rs:List ff}{s1:SS}{τ:List D}{eM:List Nat}(h:vO g rs s1=some (τ,eM)){r:List AV}(hl1:r.length=s1.nv)(hr:AV.ae r=true){x:AX}(hx:x= .ret∨x= .normal):
  τ.length=g.m/\p7 g.aE.length rs (g.res.ev (D.bn r τ)) (g.da.map (SO.ev (D.bn r τ))) x (cG s1 r) (cr s1 r):=by
 unfold vO at h
 split at h
 ·rename_i vs sD
  split at h
  ·rename_i ps cs _ hp;refine asz sD hp h (λ I L O r n e m j y hj hn hy=> ?_) hl1 hr hx;cases hy with
   |agg _ ws q1 q2=>obtain⟨p1,p2⟩:=aiI hj hn q1 q2;exact .agg _ ws p1 p2
  ·rename_i ps cs _ hp;refine asz sD hp h (λ I L O r n e m j y hj hn hy=> ?_) hl1 hr hx;cases hy with
   |aZ _ ws q1 q2=>obtain⟨p1,p2⟩:=aiI hj hn q1 q2;exact .aZ _ ws p1 p2
  ·cases h
 ·cases h
theorem anV(g:eK)(ins:List AV):∀t,cG (oF g) ins t= .top∨cG (oF g) ins t=qw (SV.bn ins g.args) t:=by
 intro t
 have key:∀(n k:Nat),lk ((List.range' k n).map λ i=>(i,g.args.getD i .top)) t= .top∨(t<k+n/\lk ((List.range' k n).map λ i=>(i,g.args.getD i .top)) t=g.args.getD t .top):=by
  intro n
  induction n with
  |zero=>intro k;exact .inl rfl
  |succ n ih=>
   intro k;simp only[List.range'_succ,map_cons,lk]
   split
   ·rename_i h;subst h;exact .inr ⟨by omega,rfl⟩
   ·rcases ih (k+1)with h|⟨h1,h2⟩
    ·exact .inl h
    ·exact .inr ⟨by omega,h2⟩
 have hr:(oF g).env=(List.range' 0 g.args.length).map λ i=>(i,g.args.getD i .top):=by
  simp only[oF,List.range_eq_range']
 simp only[cG,hr];rcases key g.args.length 0 with h|⟨h1,h2⟩
 ·rw[h];exact .inl rfl
 ·rw[h2];refine .inr ?_;have ht:t<g.args.length:=by omega
  simp only[qw,SV.bc,List.getD,getElem?_map,getElem?_eq_getElem ht,getD_some,map_some]
theorem aes{f:FuncId}{A:vw}{c:ba}{fl:List Nat}{g:eK}{t0 t:T}(hf:cFn P f A)(azc:A.code= .mu c)(hla:g.args.length=A.iz)(h0:xC g.aE.length fl A.code (oF g)=some t0)(ht:t0.fill (azD g A.res) 0=some t)
  {ins outs:List AV} (hl:ins.length=g.n) (hn:AV.ae ins=true) (ho:outs.length=g.m)
  (h:cL P (λ _ _ _=>False) (λ a=>a=cv outs) t ins []):jY P f g ins outs:=by
 have hla:(SV.bn ins g.args).length=A.iz:=by rw[SV.bc,length_map];exact hla
 have hlo:(g.aE.map (SO.ev ins)).length=g.aE.length:=by simp
 refine gx hf hla ?_;rw[hlo];have hw:=abR ht h;rw[azc]at h0⊢;have hs:=adM (P:=P) (n0:=g.aE.length) (fl:=fl) (.mu c) (s:=oF g) h0 (r:=ins) hl hn hw (Q:=p7 g.aE.length A.res (g.res.ev outs) (g.da.map (SO.ev outs))) λ x s r hL hm=> ?_
 ·obtain⟨e',O',zg,hc⟩:=hs;refine⟨e',O',WK.trans ?_ zg,hc⟩;exact WK.env (anV g ins)
 ·obtain⟨t2,e2,w2⟩:=hL
  have key:(x= .ret∨x= .normal)/\∃τ eM,(u9 g A.res s=some (τ,eM)∨vP g A.res s=some (τ,eM)∨vO g A.res s=some (τ,eM))/\t2= .ret τ:=by
   have one:(match u9 g A.res s with|some (τ,_)=>some (T.ret τ)|none=>match vP g A.res s with|some (τ,_)=>some (T.ret τ)|none=>match vO g A.res s with|some (τ,_)=>some (T.ret τ)|none=>some (.aq .no (.ret [])))=some t2->∃τ eM,(u9 g A.res s=some (τ,eM)∨vP g A.res s=some (τ,eM)∨vO g A.res s=some (τ,eM))/\t2= .ret τ:=by
    intro e2
    split at e2
    ·rename_i τ eM u4;cases e2;exact⟨τ,eM,.inl u4,rfl⟩
    ·split at e2
     ·rename_i τ eM u4;cases e2;exact⟨τ,eM,.inr (.inl u4),rfl⟩
     ·split at e2
      ·rename_i τ eM u4;cases e2;exact⟨τ,eM,.inr (.inr u4),rfl⟩
      ·cases e2;exact w2.elim
   cases x with
   |exit i=>cases e2
   |ret=>exact⟨.inl rfl,one e2⟩
   |normal=>exact⟨.inr rfl,one e2⟩
  obtain⟨hx,τ,eM,u4,rfl⟩:=key
  obtain⟨hlen,aM6⟩:τ.length=g.m/\p7 g.aE.length A.res (g.res.ev (D.bn r τ)) (g.da.map (SO.ev (D.bn r τ))) x (cG s r) (cr s r):=by
   rcases u4 with u4|u4|u4
   ·exact ak3 u4 hm.len hm.nor hx
   ·exact azC u4 hm.len hm.nor hx
   ·exact azB u4 hm.len hm.nor hx
  simp only[cL]at w2;have:D.bn r τ=outs:=ats (by rw[D.bc,length_map,hlen,ho]) w2;rw[this]at aM6;exact aM6
theorem as5{f:FuncId}{A:vw}{fl:List Nat}{g:eK}{t:T}(hf:cFn P f A)(ht:A.ea fl g=some t){ins outs:List AV}(hl:ins.length=g.n)(hn:AV.ae ins=true)(ho:outs.length=g.m)
  (h:cL P (λ _ _ _=>False) (λ a=>a=cv outs) t ins []):jY P f g ins outs:=by
 unfold vw.ea at ht
 split at ht
 ·rename_i sr
  split at ht
  ·rename_i t' h1;cases ht;rw[Option.bind_eq_some_iff]at h1;obtain⟨t0,h2,h3⟩:=h1;exact aes hf.weaken rfl sr.2 h2 h3 hl hn ho h
  ·rw[Option.bind_eq_some_iff]at ht;obtain⟨t0,h2,h3⟩:=ht;exact aes hf.soft rfl sr.2 h2 h3 hl hn ho h
 ·cases ht
end
end Go.Ab
