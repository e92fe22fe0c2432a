/- Part of a proof: the functions that the law reaches, walked by the abstract logic of the texts Ab. -/
import Derived.Test.YtkinchcjijhmgaaGreatDoorAbM3
open Nat(le_refl zero_add add_zero)
open Bool(and_eq_true false_eq_true)
open Option(map_eq_some_iff map_some getD_some getD_none)
open List(getElem?_append_left all_cons map_congr_left mem_of_getElem? map_cons mem_of_mem_drop mem_of_mem_take cons_append ext_getElem getElem_map getElem_range getElem?_eq_getElem map_map mem_cons map_id append_nil map_append map_nil length_map map_set mem_map map_take map_drop getElem?_map nil_append getElem?_append_right foldl_cons ext_getElem? getElem?_set_ne getElem?_eq_none length_nil getElem?_set reverse_nil)
set_option linter.unusedVariables false
set_option linter.unusedSimpArgs false
namespace Go.Ab
theorem mz{r r':List AV}{i:Nat}(h:i<r.length):(r++r').getD i .top=r.getD i .top:=by
 simp[List.getD,getElem?_append_left h]
mutual
theorem D.cD{r r':List AV}:∀(d:D),d.cl r.length=true->d.ev (r++r')=d.ev r
 | .x i,h=>by simp only[D.cl,decide_eq_true_eq]at h;simp only[D.ev,mz h]
 | .c a,h=>rfl
 | .cell i j,h=>by simp only[D.cl,decide_eq_true_eq]at h;simp only[D.ev,mz h]
 | .ext i j,h=>by simp only[D.cl,decide_eq_true_eq]at h;simp only[D.ev,mz h]
 | .sl l,h=>by simp only[D.cl]at h;simp only[D.ev,D.cD l h]
 | .agg l,h=>by simp only[D.cl]at h;simp only[D.ev,D.fL l h]
 | .fn f l,h=>by simp only[D.cl]at h;simp only[D.ev,D.fL l h]
 | .ip d f,h=>by simp only[D.cl]at h;simp only[D.ev,D.cD d h]
theorem D.fL{r r':List AV}:∀(l:List D),D.cls r.length l=true->D.aY (r++r') l=D.aY r l
 | [],_=>rfl
 |d::l,h=>by
  simp only[D.cls,and_eq_true]at h;simp only[D.aY,D.cD d h.1,D.fL l h.2]
end
mutual
theorem SV.cD{r r':List AV}:∀(v:SV),v.cl r.length=true->v.ev (r++r')=v.ev r
 | .d x,h=>D.cD x h
 | .row n l,h=>by simp only[SV.cl]at h;simp only[SV.ev,D.cD l h]
 | .ptr n f,h=>rfl
 | .rp n l i f,h=>by simp only[SV.cl,and_eq_true]at h;simp only[SV.ev,D.cD l h.1,D.cD i h.2]
 | .ip x f,h=>by simp only[SV.cl]at h;simp only[SV.ev,D.cD x h]
 | .agg cs,h=>by simp only[SV.cl]at h;simp only[SV.ev,SV.fL cs h]
 | .aK cs,h=>by simp only[SV.cl]at h;simp only[SV.ev,SV.fL cs h]
 | .top,h=>rfl
theorem SV.fL{r r':List AV}:∀(l:List SV),SV.cls r.length l=true->SV.aY (r++r') l=SV.aY r l
 | [],_=>rfl
 |v::l,h=>by
  simp only[SV.cls,and_eq_true]at h;simp only[SV.aY,SV.cD v h.1,SV.fL l h.2]
end
theorem SO.cD{r r':List AV}(o:SO)(h:o.cl r.length=true):o.ev (r++r')=o.ev r:=by
 cases o with
 |dead=>rfl
 |box e cs=>simp only[SO.ev,SV.fL cs h]
 |row nl e s l=>cases nl<;>simp only[SO.ev,D.cD l h]
theorem apT{n:Nat}:∀{l:List (Nat×SV)},l.all (λ p=>p.2.cl n)=true->∀t,(lk l t).cl n=true
 | [],_,_=>rfl
 |(k,v)::l,h,t=>by
  simp only[all_cons,and_eq_true]at h;simp only[lk]
  split
  ·exact h.1
  ·exact apT h.2 t
theorem SS.oP{s:SS}(h:s.cl=true)(t:Nat):(lk s.env t).cl s.nv=true:=apT (and_eq_true _ _▸h).1 t
theorem SS.qU{s:SS}(h:s.cl=true){o:SO}(ho:o∈s.aj):o.cl s.nv=true:=by
 have:=(and_eq_true _ _▸h:_/\_).2;exact List.all_eq_true.1 this o ho
theorem dX{s:SS}{r r':List AV}(hl:r.length=s.nv)(h:s.cl=true):bT s (r++r')=bT s r:=by
 funext t
 exact SV.cD _ (by rw[hl];exact SS.oP h t)
theorem eW{s:SS}{r r':List AV}(hl:r.length=s.nv)(h:s.cl=true):bz s (r++r')=bz s r:=by
 unfold bz;exact map_congr_left λ o ho=>SO.cD o (by rw[hl];exact SS.qU h ho)
theorem gg{l:List AV}(h:AV.ad l=true)(i:Nat):(l.getD i .top).ag=true:=by
 rw[List.getD];cases hi:l[i]? with
 |none=>rfl
 |some a=>exact a8 h a (mem_of_getElem? hi)
theorem hQ{a:AV}(h:a.ag=true):AV.ad a.cells=true:=by
 cases a<;>first|exact h|(simp only[AV.cells,AV.ad,h];rfl)
theorem cH{a:AV}(h:a.ag=true):AV.ad (aS a)=true:=by
 cases a<;>first|rfl|exact h
theorem aeB{a:AV}(h:a.ag=true)(j:Nat):(ajG a j).ag=true:=by
 cases a<;>first|rfl|exact gg (by exact h) j
mutual
theorem D.bK{r:List AV}(hr:AV.ad r=true):∀(d:D),d.cl r.length=true->(d.ev r).ag=true
 | .x i,_=>gg hr i
 | .c a,h=>h
 | .cell i j,_=>gg (hQ (gg hr i)) j
 | .ext i j,_=>aeB (gg hr i) j
 | .sl l,h=>by simp only[D.cl]at h;exact cH (D.bK hr l h)
 | .agg l,h=>by simp only[D.cl]at h;exact D.cG hr l h
 | .fn f l,h=>by simp only[D.cl]at h;exact D.cG hr l h
 | .ip d f,h=>by simp only[D.cl]at h;exact D.bK hr d h
theorem D.cG{r:List AV}(hr:AV.ad r=true):∀(l:List D),D.cls r.length l=true->AV.ad (D.aY r l)=true
 | [],_=>rfl
 |d::l,h=>by
  simp only[D.cls,and_eq_true]at h;simp only[D.aY,AV.ad,D.bK hr d h.1,D.cG hr l h.2];rfl
end
theorem aF{a b:List AV}:AV.ad (a++b)=(AV.ad a&&AV.ad b):=by
 induction a with
 |nil=>simp[AV.ad]
 |cons x a ih=>simp[AV.ad,ih,Bool.and_assoc]
theorem fE{l:List AV}(h:∀a∈l,a.ag=true):AV.ad l=true:=by
 induction l with
 |nil=>rfl
 |cons x l ih=>simp only[AV.ad,h x (by simp),ih λ a ha=>h a (by simp[ha])];rfl
theorem AV.asA{a b:AV}(h:a.ceq b=true):a=b:=by
 unfold AV.ceq at h
 split at h<;>simp_all
mutual
theorem D.beq_eq:∀(a b:D),a.beq b=true->a=b
 | .x i,b,h=>by cases b<;>simp_all [D.beq]
 | .c a,b,h=>by
   cases b<;>simp_all only[D.beq,false_eq_true]
   rw[AV.asA h]
 | .cell i j,b,h=>by cases b<;>simp_all [D.beq]
 | .ext i j,b,h=>by cases b<;>simp_all [D.beq]
 | .sl l,b,h=>by
   cases b<;>simp_all only[D.beq,false_eq_true]
   rw[D.beq_eq l _ h]
 | .agg l,b,h=>by
   cases b<;>simp_all only[D.beq,false_eq_true]
   rw[D.kE l _ h]
 | .fn f l,b,h=>by
   cases b<;>simp_all only[D.beq,false_eq_true,and_eq_true,decide_eq_true_eq]
   rw[D.kE l _ h.2]
 | .ip d f,b,h=>by
   cases b<;>simp_all only[D.beq,false_eq_true,and_eq_true,decide_eq_true_eq]
   rw[D.beq_eq d _ h.1]
theorem D.kE:∀(a b:List D),D.ka a b=true->a=b
 | [],[],_=>rfl
 |a::as,b::bs,h=>by
  simp only[D.ka,and_eq_true]at h;rw[D.beq_eq a b h.1,D.kE as bs h.2]
 | [],_::_,h=>by simp[D.ka]at h
 |_::_,[],h=>by simp[D.ka]at h
end
mutual
theorem SV.beq_eq:∀(a b:SV),a.beq b=true->a=b
 | .d x,b,h=>by
   cases b<;>simp_all only[SV.beq,false_eq_true]
   rw[D.beq_eq x _ h]
 | .row n l,b,h=>by
   cases b<;>simp_all only[SV.beq,false_eq_true,and_eq_true,decide_eq_true_eq]
   rw[D.beq_eq l _ h.2]
 | .ptr n f,b,h=>by cases b<;>simp_all [SV.beq]
 | .rp n l i f,b,h=>by
   cases b<;>simp_all only[SV.beq,false_eq_true,and_eq_true,decide_eq_true_eq]
   rw[D.beq_eq l _ h.1.1.2,D.beq_eq i _ h.1.2]
 | .ip x f,b,h=>by
   cases b<;>simp_all only[SV.beq,false_eq_true,and_eq_true,decide_eq_true_eq]
   rw[D.beq_eq x _ h.1]
 | .agg l,b,h=>by
   cases b<;>simp_all only[SV.beq,false_eq_true]
   rw[SV.kE l _ h]
 | .aK l,b,h=>by
   cases b<;>simp_all only[SV.beq,false_eq_true]
   rw[SV.kE l _ h]
 | .top,b,h=>by cases b<;>simp_all [SV.beq]
theorem SV.kE:∀(a b:List SV),SV.ka a b=true->a=b
 | [],[],_=>rfl
 |a::as,b::bs,h=>by
  simp only[SV.ka,and_eq_true]at h;rw[SV.beq_eq a b h.1,SV.kE as bs h.2]
 | [],_::_,h=>by simp[SV.ka]at h
 |_::_,[],h=>by simp[SV.ka]at h
end
theorem SO.beq_eq{a b:SO}(h:a.beq b=true):a=b:=by
 cases a<;>cases b<;>simp_all only[SO.beq,false_eq_true,and_eq_true,decide_eq_true_eq]
 ·rw[SV.kE _ _ h.2]
 ·rw[D.beq_eq _ _ h.2]
theorem ah5{l:List (Nat×SV)}{t k:Nat}(h:k≠t):lk (l.filter λ p=>p.1 !=t) k=lk l k:=by
 induction l with
 |nil=>rfl
 |cons p l ih=>
  obtain⟨q,v⟩:=p;simp only[List.filter_cons];by_cases hq:q=t
  ·subst hq;simp only[bne_self_eq_false,false_eq_true,if_false,lk,if_neg h,ih]
  ·simp only[bne_iff_ne,ne_eq,hq,not_false_eq_true,if_true,lk,ih]
theorem vQ(s:SS)(t:Nat)(v:SV)(r:List AV):bT (s.set t v) r=(bT s r).set t (v.ev r):=by
 funext k
 simp only[bT,SS.set,lk,Env.set]
 split
 ·rfl
 ·rename_i h;rw[ah5 h]
theorem mb(s:SS)(d:Option Nat)(v:SV)(r:List AV):bT (s.bI d v) r=bI (bT s r) d (v.ev r):=by
 cases d with
 |none=>rfl
 |some t=>exact vQ s t v r
theorem ma(s:SS)(d:Option Nat)(v:SV)(r:List AV):bz (s.bI d v) r=bz s r:=by cases d<;>rfl
theorem o5(s:SS)(d:Option Nat)(v:SV):(s.bI d v).nv=s.nv:=by cases d<;>rfl
theorem aT(s:SS)(x:aE)(r:List AV):(cE s x).ev r=x.ev (bT s r):=by cases x<;>rfl
theorem tl{f:SV->SV}(hf:f .top= .top):∀(l:List (Nat×SV)) (t:Nat),lk (l.map λ p=>(p.1,f p.2)) t=f (lk l t)
 | [],t=>hf.symm
 |(k,v)::l,t=>by
  simp only[map_cons,lk]
  split
  ·rfl
  ·exact tl hf l t
end Go.Ab
namespace Go.Ab
def iX(P:Program):List Node->List AV->(List AV->Prop)->Prop
 | [],r,K=>K r
 | .op o::ns,r,K=>o.wp P r λ v=>iX P ns (r++ [v]) K
 | .aP c::ns,r,K=>c.wp r (iX P ns r K)
section
variable {P:Program}
theorem n7{L:AX->SS->List AV->Prop}{R:AV->Prop}{t:T}{S:List (List AV->Prop)}:∀(ns:List Node) (r:List AV),bD P L R (wrap ns t) r S=iX P ns r λ r'=>bD P L R t r' S
 | [],r=>rfl
 | .op o::ns,r=>by simp only[wrap,bD,iX,n7 ns]
 | .aP c::ns,r=>by simp only[wrap,bD,iX,n7 ns]
theorem s9{c a b:AV}{O O':List ae}{K K':KT}(h:nB c a b O K)(hk:∀x,K x O->K' x O'):nB c a b O' K':=by
 unfold nB at*;split at h<;>first|exact hk _ h|exact h.elim
theorem yB{op:BinOp}{a b:AV}{O O':List ae}{K K':KT}(h:eN op a b O K)(hk:∀x,(∃v,x= .v v)->K x O->K' x O'):eN op a b O' K':=by
 unfold eN at*;split at h
 ·split at h<;>first|exact hk _ ⟨_,rfl⟩ h|exact h.elim
 ·exact h.elim
theorem aaD{op:UnOp}{a:AV}{O O':List ae}{K K':KT}(h:unK op a O K)(hk:∀x,(∃v,x= .v v)->K x O->K' x O'):unK op a O' K':=by
 unfold unK at*;split at h
 ·split at h<;>first|exact hk _ ⟨_,rfl⟩ h|exact h.elim
 ·exact h.elim
theorem tX{k:IntKind}{a:AV}{O O':List ae}{K K':KT}(h:uV k a O K)(hk:∀x,(∃v,x= .v v)->K x O->K' x O'):uV k a O' K':=by
 unfold uV at*;split at h<;>first|exact hk _ ⟨_,rfl⟩ h|exact h.elim
theorem lG{n:Option Nat}{a:AV}{f:Nat}(h:a.ag=true):(dH n a f).ag=true:=by
 unfold dH
 split
 ·exact gg (hQ h) f
 ·split
  ·exact h
  ·exact fE λ x hx=>a8 (hQ h) x (mem_of_mem_drop (mem_of_mem_take hx))
theorem adp{off:Nat}{n:Option Nat}{a:AV}{O O':List ae}{K K':KT}(h:aiE off n a O K)(hk:∀x,(a.ag=true->x.ag=true)->K x O->K' x O'):aiE off n a O' K':=
 ⟨h.1,h.2.1,hk _ lG h.2.2⟩
theorem tJ{a i:AV}{O O':List ae}{K K':KT}(h:uK a i O K)(hk:∀x,(∃v,x= .v v)->K x O->K' x O'):uK a i O' K':=by
 unfold uK at*;split at h<;>first|exact⟨h.1,h.2.1,hk _ ⟨_,rfl⟩ h.2.2⟩|exact h.elim
theorem tn{a:AV}{O O':List ae}{K K':KT}(h:uF a O K)(hk:∀x,(∃v,x= .v v)->K x O->K' x O'):uF a O' K':=by
 unfold uF at*;split at h<;>first|exact hk _ ⟨_,rfl⟩ h|exact h.elim
theorem vZ{d:Int}{x:Option AV}{M M':Int->Prop}(h:yJ d x M)(hm:∀i,M i->M' i):yJ d x M':=by
 unfold yJ at*;split at h<;>first|exact hm _ h|exact h.elim
theorem oe{a:AV}{lo hi:Option AV}{O O':List ae}{K K':KT}(h:km a lo hi O K)(hk:∀x,(∃v,x= .v v)->K x O->K' x O'):km a lo hi O' K':=by
 unfold km at*;split at h
 ·exact vZ h λ l hl=>vZ hl λ h' hh=>⟨hh.1,hh.2.1,hh.2.2.1,hk _ ⟨_,rfl⟩ hh.2.2.2⟩
 ·exact h.elim
theorem og{s:Nat}{a:AV}{lo hi:Option AV}{O O':List ae}{K K':KT}(h:ko s a lo hi O K)(hk:∀x,(a.ag=true->x.ag=true)->K x O->K' x O'):ko s a lo hi O' K':=by
 unfold ko at*;split at h
 ·rename_i xs;exact vZ h λ l hl=>vZ hl λ h' hh=>⟨hh.1,hh.2.1,hh.2.2.1,hh.2.2.2.1,hk _ (λ hn=>fE λ x hx=>a8 (by exact hn) x (mem_of_mem_take (mem_of_mem_drop hx))) hh.2.2.2.2⟩
 ·exact h.elim
theorem zS{a:AV}{O':List ae}{K K':KT}(h:lH a [] K)(hk:∀x,(∃v,x= .v v)->K x []->K' x O'):lH a O' K':=by
 unfold lH at*
 split at h
 ·exact hk _ ⟨_,rfl⟩ h
 ·exact hk _ ⟨_,rfl⟩ h
 ·simp[tb]at h
 ·exact h.elim
theorem xB{a:AV}{K K':KT}(h:lH a [] K)(hk:∀x,(∃v,x= .v v)->K x []->K' x []):lH a [] K':=zS h hk
theorem oY{y:AV}{M M':List AV->Prop}(h:jV [] y M)(hm:∀ys,(y.ag=true->AV.ad ys=true)->M ys->M' ys):jV [] y M':=by
 unfold jV at*
 split at h
 ·exact hm _ (λ _=>rfl) h
 ·exact hm _ (λ h=>h) h
 ·simp[tb]at h
 ·exact h.elim
theorem ahL{o:PU}{xs:List AV}{v:AV}(h:w8 o xs=some v):v.ag=true:=by
 unfold w8 at h
 split at h
 ·simp only[map_eq_some_iff]at h;obtain⟨l,_,rfl⟩:=h;rfl
 ·cases h;rfl
 ·cases h;rfl
 ·cases h;rfl
 ·cases h;rfl
 ·cases h;rfl
 ·cases h;rfl
 ·cases h;rfl
 ·cases h;rfl
 ·split at h
  ·cases h;rfl
  ·cases h
 ·split at h
  ·cases h;rfl
  ·cases h
 ·cases h
theorem aeo(s:ByteArray):AV.ad (cf s)=true:=fE λ a ha=>by
 obtain⟨c,_,rfl⟩:=List.mem_map.1 ha;rfl
theorem PO.wp_mono{r:List AV}(hr:AV.ad r=true){o:PO}(hc:cu r.length [.op o]=true){K K':AV->Prop}(h:o.wp P r K)(hk:∀v,v.ag=true->K v->K' v):o.wp P r K':=by
 have hv:∀x:AV,(∃v,x= .v v)->x.ag=true:=by rintro _ ⟨v,rfl⟩;rfl
 cases o<;>simp only[cu,PO.cl,Bool.and_true,and_eq_true]at hc<;>simp only[PO.wp]at h⊢
 case val x=>exact hk _ (D.bK hr x hc) h
 case pick c a b=>
  refine s9 (K:=λ x _=>(x=a.ev r∨x=b.ev r)/\K x) (K':=λ x _=>K' x) ?_ (λ x hx=>hk x ?_ hx.2) (O:=[])
  ·simp only[nB]at h⊢
   split at h
   ·rename_i t _;exact⟨by cases t<;>simp,h⟩
   ·exact h.elim
  ·rcases hx.1 with rfl|rfl
   ·exact D.bK hr a hc.1.2
   ·exact D.bK hr b hc.2
 case bin op a b=>exact yB (K:=λ x _=>K x) (K':=λ x _=>K' x) h λ x hx hK=>hk x (hv x hx) hK
 case beq neg a b=>simp only[aeb]at h⊢;split at h<;>first|exact hk _ rfl h|exact h.elim
 case un op a=>exact aaD (K:=λ x _=>K x) (K':=λ x _=>K' x) h λ x hx hK=>hk x (hv x hx) hK
 case conv k a=>exact tX (K:=λ x _=>K x) (K':=λ x _=>K' x) h λ x hx hK=>hk x (hv x hx) hK
 case elem s l i=>
  simp only[lL]at h⊢
  split at h
  ·rename_i xs _ i hl _;refine⟨h.1,h.2.1,h.2.2.1,hk _ (gg ?_ _) h.2.2.2⟩;have:=D.bK hr l hc.1;rw[hl]at this;exact this
  ·exact h.elim
 case yg off n a=>exact adp (K:=λ x _=>K x) (K':=λ x _=>K' x) h λ x hx hK=>hk x (hx (D.bK hr a hc)) hK
 case uE f m a=>exact⟨h.1,hk _ (lG (D.bK hr a hc)) h.2⟩
 case eB a i=>exact tJ (K:=λ x _=>K x) (K':=λ x _=>K' x) h λ x hx hK=>hk x (hv x hx) hK
 case fK nl e s f as=>obtain⟨xs,h1,h2,h3⟩:=h;exact⟨xs,h1,h2,hk _ h2 h3⟩
 case ia f g as=>obtain⟨os,h1,h2,h3,h4⟩:=h;exact⟨os,h1,h2,h3,hk _ h3 h4⟩
 case cL a lo hi=>exact oe (K:=λ x _=>K x) (K':=λ x _=>K' x) h λ x hx hK=>hk x (hv x hx) hK
 case cw s a lo hi=>exact og (K:=λ x _=>K x) (K':=λ x _=>K' x) h λ x hx hK=>hk x (hx (D.bK hr a hc)) hK
 case dI a=>exact tn (K:=λ x _=>K x) (K':=λ x _=>K' x) h λ x hx hK=>hk x (hv x hx) hK
 case cz a=>exact xB (K:=λ x _=>K x) (K':=λ x _=>K' x) h λ x hx hK=>hk x (hv x hx) hK
 case pH z n ps=>
  refine hk _ ?_ h
  have key:∀(ps:List (Nat×D)) (z:List AV),AV.ad z=true->ps.all (λ p=>p.2.cl r.length)=true->AV.ad (eQ z (ps.map λ p=>(p.1,p.2.ev r)))=true:=by
   intro ps
   induction ps with
   |nil=>intro z hz _;exact hz
   |cons p ps ih=>
    intro z hz hp;simp only[all_cons,and_eq_true]at hp;simp only[map_cons,eQ];refine ih _ (fE λ a ha=> ?_) hp.2;rcases List.mem_or_eq_of_mem_set ha with h|rfl
    ·exact a8 hz a h
    ·exact D.bK hr _ hp.1
  exact key ps _ (fE λ a ha=>by rw[List.eq_of_mem_replicate ha];exact hc.1) hc.2
 case rep bytes z n c=>
  simp only[acu]at h⊢
  split at h
  ·exact⟨h.1,h.2.1,h.2.2.1,h.2.2.2.1,hk _ (fE λ a ha=>by rw[List.eq_of_mem_replicate ha];exact hc) h.2.2.2.2⟩
  ·exact h.elim
 case app s b l y=>
  refine oY (M':=λ ys=>_/\_/\_/\K' _) h λ ys hys hK=>⟨hK.1,hK.2.1,hK.2.2.1,hk _ ?_ hK.2.2.2⟩
  show AV.ad _=true;rw[aF,cH (D.bK hr l hc.1),hys (D.bK hr y hc.2)];rfl
 case get l i f n=>exact⟨h.1,h.2.1,hk _ (lG (gg (cH (D.bK hr l hc)) _)) h.2.2⟩
 case set l i f m y=>
  obtain⟨h1,h2,h3,h4,h5⟩:=h;have hl:=cH (D.bK hr l hc.1);have hy:=D.bK hr y hc.2;refine⟨h1,h2,h3,h4,hk _ (fE λ a ha=> ?_) h5⟩;rcases List.mem_or_eq_of_mem_set ha with h|rfl
  ·exact a8 hl a h
  ·have hx:=gg hl (idxOf (i.ev r));unfold lN
   split
   ·exact hy
   ·refine fE λ a ha=> ?_
    simp only[List.mem_append]at ha;rcases ha with(ha|ha)|ha
    ·exact a8 (hQ hx) a (mem_of_mem_take ha)
    ·exact a8 (hQ hy) a ha
    ·exact a8 (hQ hx) a (mem_of_mem_drop ha)
 case call f as b=>obtain⟨res,h1,h2,h3,h4⟩:=h;exact⟨res,h1,h2,h3,hk _ h2 h4⟩
 case eJ g as b=>
  simp only[oR]at h⊢
  split at h
  ·obtain⟨res,h1,h2,h3,h4⟩:=h;exact⟨res,h1,h2,h3,hk _ h2 h4⟩
  ·exact h.elim
 case ldp n a=>
  simp only[ah9]at h⊢
  split at h
  ·rename_i y f hy;refine⟨h.1,hk _ (lG ?_) h.2⟩;have:=D.bK hr a hc;rw[hy]at this;exact this
  ·exact h.elim
 case pu o ds=>
  unfold puK at h⊢
  split at h
  ·rename_i v hv;exact hk _ (ahL hv) h
  ·exact h.elim
 case jN s b l y=>
  simp only[yD]at h⊢
  split at h
  ·refine⟨h.1,h.2.1,h.2.2.1,hk _ ?_ h.2.2.2⟩
   show AV.ad _=true;rw[aF,cH (D.bK hr l hc.1),aeo];rfl
  ·exact h.elim
 case fap off a=>
  simp only[aiH]at h⊢
  split at h
  ·rename_i y f hy;refine hk _ ?_ h;have:=D.bK hr a hc;rw[hy]at this;exact this
  ·exact h.elim
theorem l4.wp_mono{r:List AV}{c:l4}{K K':Prop}(h:c.wp r K)(hk:K->K'):c.wp r K':=by
 cases c
 case cells=>exact⟨h.1,h.2.1,h.2.2.1,hk h.2.2.2⟩
 case one=>exact⟨h.1,h.2.1,hk h.2.2⟩
 case lt=>exact⟨h.1,hk h.2⟩
 case aK a j=>simp only[l4.wp,ahf]at h⊢;split at h<;>first|exact⟨h.1,hk h.2⟩|exact h.elim
 case idx l i=>simp only[l4.wp,afD]at h⊢;split at h<;>first|exact⟨h.1,h.2.1,hk h.2.2⟩|exact h.elim
 case alb a=>simp only[l4.wp,xK]at h⊢;split at h<;>first|exact hk h|exact h.elim
 case ne=>exact⟨h.1,hk h.2⟩
 case eql=>exact⟨h.1,hk h.2⟩
 case no=>exact h.elim
structure vO(r r':List AV)(n:Nat):Prop where
 pre:∃m,r'=r++m
 len:r'.length=n
 nor:AV.ad r'=true
theorem wg:∀(ns:List Node) {r:List AV} {K K':List AV->Prop},AV.ad r=true->cu r.length ns=true->iX P ns r K->(∀r',vO r r' (il r.length ns)->K r'->K' r')->iX P ns r K'
 | [],r,K,K',hr,_,h,hk=>hk r ⟨⟨[],by simp⟩,rfl,hr⟩ h
 | .op o::ns,r,K,K',hr,hc,h,hk=>by
   have hc0:cu r.length [.op o]=true/\cu (r.length+1) ns=true:=by
    simp only[cu,and_eq_true,Bool.and_true]at hc⊢;exact hc
   refine PO.wp_mono hr hc0.1 h λ v hv hK=> ?_
   refine wg ns (r:=r++ [v]) (by rw[aF,hr];simp[AV.ad,hv]) (by simpa using hc0.2) hK λ r' hm hK'=>hk r' ⟨?_,?_,hm.nor⟩ hK'
   ·obtain⟨m,rfl⟩:=hm.pre;exact⟨v::m,by simp⟩
   ·rw[hm.len];simp[il]
 | .aP c::ns,r,K,K',hr,hc,h,hk=>l4.wp_mono h λ h'=>wg ns hr (by simpa [cu]using hc) h' hk
theorem ch:∀(a b:List Node) (r:List AV) (K:List AV->Prop),iX P (a++b) r K=iX P a r λ r'=>iX P b r' K
 | [],b,r,K=>rfl
 | .op o::a,b,r,K=>by simp only[cons_append,iX,ch a]
 | .aP c::a,b,r,K=>by simp only[cons_append,iX,ch a]
end
end Go.Ab
namespace Go.Ab
section
variable {P:Program}
theorem sx:∀{cs:List SV} {ds:List D},afY cs=some ds->cs=ds.map .d
 | [],ds,h=>by simp[afY]at h;subst h;rfl
 |v::l,ds,h=>by
  cases v<;>simp only[afY,reduceCtorEq]at h
  split at h
  ·rename_i ds' hd;cases h;rw[sx hd];rfl
  ·cases h
theorem ph(r:List AV):∀(ds:List D),SV.aY r (ds.map .d)=D.aY r ds
 | []=>rfl
 |d::ds=>by simp only[map_cons,SV.aY,D.aY,SV.ev,ph r ds]
theorem D.aJ(r:List AV)(l:List D):D.aY r l=l.map (D.ev r):=by
 induction l with
 |nil=>rfl
 |cons a l ih=>simp[D.aY,ih]
theorem SV.aJ(r:List AV)(l:List SV):SV.aY r l=l.map (SV.ev r):=by
 induction l with
 |nil=>rfl
 |cons a l ih=>simp[SV.aY,ih]
theorem abN{n:Nat}:∀{l:List D},D.cls n l=true↔∀d∈l,d.cl n=true
 | []=>by simp[D.cls]
 |a::l=>by simp[D.cls,abN (l:=l)]
theorem ru{n:Nat}:∀{l:List SV},SV.cls n l=true↔∀d∈l,d.cl n=true
 | []=>by simp[SV.cls]
 |a::l=>by simp[SV.cls,ru (l:=l)]
theorem yx(r:List AV)(i m:Nat)(h:(r.getD i .top).cells.length=m):((List.range m).map λ j=>(r.getD i .top).cells.getD j .top)=(r.getD i .top).cells:=by
 generalize (r.getD i .top).cells=l at h⊢;subst h;apply ext_getElem
 ·simp
 ·intro k h1 h2;rw[getElem_map,getElem_range,List.getD,getElem?_eq_getElem h2];rfl
theorem adx{kn:List (Nat×Nat)}{ds:List D}{i:Nat}(h:amd kn ds=some i):ds=(List.range ds.length).map λ j=> .cell i j:=by
 unfold amd at h
 split at h
 ·split at h
  ·cases h;rename_i hb;exact D.kE _ _ hb.2
  ·cases h
 ·cases h
theorem jM{kn:List (Nat×Nat)}{v:SV}{ns:List Node}{d:D}(h:asD kn v=some (ns,d)){r:List AV}{G:List AV->Prop}(hw:iX P ns r G):G r/\d.ev r=v.ev r:=by
 unfold asD at h
 split at h
 ·cases h;exact⟨hw,rfl⟩
 ·rename_i cs
  split at h
  ·rename_i ds hd;have sn:=sx hd;subst sn
   split at h
   ·rename_i i hi;cases h;have he:=adx hi;simp only[iX,l4.wp,D.ev]at hw;obtain⟨h1,h2,h3,h4⟩:=hw;refine⟨h4,?_⟩;simp only[D.ev,SV.ev,ph];rw[he,D.aJ,map_map];have:=yx r i _ h2;rw[AV.uc h1];congr 1;rw[←this]
    rfl
   ·cases h;exact⟨hw,by simp only[D.ev,SV.ev,ph]⟩
  ·cases h
 ·cases h;exact⟨hw,rfl⟩
 ·cases h
theorem yC{kn:List (Nat×Nat)}{v:SV}{ns:List Node}{d:D}(h:asD kn v=some (ns,d))(nv:Nat):il nv ns=nv:=by
 unfold asD at h
 split at h
 ·cases h;rfl
 ·split at h
  ·split at h<;>cases h<;>rfl
  ·cases h
 ·cases h;rfl
 ·cases h
theorem iJ(nv:Nat):∀(a b:List Node),il nv (a++b)=il (il nv a) b:=by
 intro a
 induction a generalizing nv with
 |nil=>intro b;rfl
 |cons x a ih=>intro b;cases x<;>simp[il,ih]
theorem eC{s:SS}{n:Nat}{l:D}{nl:Bool}{e sz:Nat}(h:cur s n l=some (nl,e,sz)):s.aj[n]? =some (.row nl e sz l):=by
 unfold cur at h
 split at h
 ·rename_i l' ho
  split at h
  ·rename_i hb;cases h;rw[ho,D.beq_eq _ _ hb]
  ·cases h
 ·cases h
theorem iT{s:SS}{n e:Nat}{cs:List SV}(h:lf s n=some (e,cs)):s.aj[n]? =some (.box e cs):=by
 unfold lf at h
 split at h
 ·rename_i ho;cases h;exact ho
 ·cases h
theorem gH{s:SS}{n:Nat}{o:SO}(h:s.aj[n]? =some o)(r:List AV):(bz s r)[n]? =some (o.ev r):=by
 simp[bz,h]
theorem dB(s:SS)(r:List AV):(bz s r).length=s.aj.length:=by simp[bz]
theorem eA{cs:List AV}(h:cs.length≠1):kG cs= .agg cs:=by
 unfold kG
 split
 ·simp at h
 ·rfl
theorem qw{cs:List SV}(ht:lS cs=true){r:List AV}{G:List AV->Prop}(hw:iX P (jR cs) r G):G r/\∀c∈SV.aY r cs,c.cI=true:=by
 induction cs with
 |nil=>exact⟨hw,by simp[SV.aY]⟩
 |cons v l ih=>
  cases v with
  |d x=>
   simp only[jR,iX,l4.wp]at hw;obtain⟨h1,h2,h3⟩:=hw;obtain⟨h4,h5⟩:=ih (by simpa [lS]using ht) h3;refine⟨h4,λ c hc=> ?_⟩;simp only[SV.aY,SV.ev,mem_cons]at hc;rcases hc with rfl|hc
   ·exact h2
   ·exact h5 c hc
  |top=>simp[lS]at ht
  |agg _=>simp[lS]at ht
  |aK _=>simp[lS]at ht
  |_=>
   simp only[jR]at hw;obtain⟨h4,h5⟩:=ih (by simpa [lS]using ht) hw;refine⟨h4,λ c hc=> ?_⟩;simp only[SV.aY,SV.ev,mem_cons]at hc;rcases hc with rfl|hc
   ·rfl
   ·exact h5 c hc
theorem agx(cs:List SV)(nv:Nat):il nv (jR cs)=nv:=by
 induction cs with
 |nil=>rfl
 |cons v l ih=>cases v<;>simp[jR,il,ih]
structure ajh(m:Nat)(a:AV)(cs:List AV):Prop where
 len:a.cells.length=m
 sto:a.storable=true
 cells:a.cells=cs
 kind:(a.cI||a.isAgg)=true
 one:m=1->a.cI=true
 agg:m≠1->a.isAgg=true
theorem l9{a:AV}(h:a.cI=true):a.storable=true:=by
 unfold AV.storable;rw[AV.gk h];simp[h]
theorem ajh.kG{m:Nat}{a:AV}{cs:List AV}(h:ajh m a cs):a=kG cs:=by
 by_cases hm:m=1
 ·have:=AV.gk (h.one hm);rw[←h.cells,this];rfl
 ·rw[eA (by rw[←h.cells,h.len];exact hm),←h.cells];exact AV.uc (h.agg hm)
theorem kC{nv m:Nat}{v:SV}{ns:List Node}{cs:List SV}(h:expand nv m v=some (ns,cs)){r:List AV}(hl:r.length=nv)(hv:v.cl nv=true){G:List AV->Prop}(hw:iX P ns r G):
  ∃r',(∃more,r'=r++more)/\r'.length=il nv ns/\G r'/\ajh m (v.ev r) (SV.aY r' cs):=by
 unfold expand at h
 split at h
 ·rename_i hm;subst hm;have one:∀{a:AV},a.cI=true->ajh 1 a [a]:=λ {a} ha=>⟨by rw[AV.gk ha];rfl,l9 ha,AV.gk ha,by rw[ha];rfl,λ _=>ha,λ h=>(h rfl).elim⟩
  split at h
  ·rename_i x;cases h;simp only[iX,l4.wp]at hw;exact⟨r,⟨[],by simp⟩,hl,hw.2.2,one hw.2.1⟩
  ·cases h
  ·cases h
  ·cases h
  ·rename_i h1 h2 h4 h3;cases h;refine⟨r,⟨[],by simp⟩,hl,hw,?_⟩;cases v
   case d x=>exact(h1 x rfl).elim
   case agg x=>exact(h2 x rfl).elim
   case aK x=>exact(h4 x rfl).elim
   case top=>exact(h3 rfl).elim
   all_goals exact one rfl
 ·rename_i hm;have agg:∀{a:AV} {cs:List AV},a.isAgg=true->a.cells.length=m->a.storable=true->a.cells=cs->ajh m a cs:=λ {a cs} h1 h2 h3 h4=>⟨h2,h3,h4,by rw[h1];simp,λ h=>(hm h).elim,λ _=>h1⟩
  split at h
  ·rename_i cs'
   split at h
   ·rename_i hc;cases h;obtain⟨h1,h2⟩:=qw hc.2 hw;refine⟨r,⟨[],by simp⟩,by rw[agx,hl],h1,agg rfl ?_ ?_ rfl⟩
    ·simp[SV.ev,AV.cells,SV.aJ,hc.1]
    ·simp only[SV.ev,AV.storable,AV.cells,List.all_eq_true];exact h2
   ·cases h
  ·rename_i i;cases h;simp only[iX,l4.wp,D.ev]at hw;obtain⟨h1,h2,h3,h4⟩:=hw;refine⟨r,⟨[],by simp⟩,hl,h4,agg h1 h2 h3 ?_⟩;simp only[SV.ev,D.ev];rw[←yx r i m h2,SV.aJ,map_map]
   rfl
  ·rename_i l
   split at h
   ·rename_i hll;cases h;simp only[iX,l4.wp]at hw;obtain⟨h1,h2,h3,h4⟩:=hw;exact⟨r,⟨[],by simp⟩,hl,h4,agg h1 h2 h3 (by simp only[SV.ev,D.ev,AV.cells];rw[ph])⟩
   ·cases h
  ·rename_i l
   split at h
   ·rename_i hll;cases h;simp only[iX,l4.wp]at hw;obtain⟨h1,h2,h3,h4⟩:=hw;refine⟨r,⟨[],by simp⟩,hl,h4,agg h1 h2 h3 ?_⟩;simp only[SV.ev,D.ev,AV.cells,SV.aJ,map_map];exact(map_id l).symm
   ·cases h
  ·rename_i x _ _ _;cases h;simp only[iX,PO.wp,l4.wp]at hw;have hx:(r++ [x.ev r]).getD nv .top=x.ev r:=by simp[List.getD,←hl]
   simp only[D.ev,hx]at hw;obtain⟨h1,h2,h3,h4⟩:=hw;refine⟨r++ [x.ev r],⟨_,rfl⟩,by simp[il,hl],h4,agg h1 h2 h3 ?_⟩;simp only[SV.ev];have:=yx (r++ [x.ev r]) nv m (by rw[hx];exact h2);rw[hx]at this;rw[←this,SV.aJ,map_map];apply map_congr_left;intro j _;simp only[Function.comp,SV.ev,D.ev,hx]
  ·cases h
theorem bq{r:List AV}{nv:Nat}(h:r.length=nv)(a:AV):(r++ [a]).getD nv .top=a:=by simp[List.getD,←h]
theorem D.vX{s:SS}{x:Option aE}{d:Option D}(h:yL s x=some d)(r:List AV):D.evo r d=x.map (aE.ev (bT s r)):=by
 unfold yL at h
 split at h
 ·cases h;rfl
 ·rename_i o
  split at h
  ·rename_i y hy;cases h;have:=aT s o r;rw[hy]at this;simp only[D.evo,map_some,←this];rfl
  ·cases h
end
end Go.Ab
namespace Go.Ab
section
variable {P:Program}
theorem PO.n6{r:List AV}{o:PO}{K K':AV->Prop}(h:o.wp P r K)(hk:∀v,K v->K' v):o.wp P r K':=by
 cases o<;>simp only[PO.wp]at h⊢
 case val=>exact hk _ h
 case pick=>exact s9 (K:=λ x _=>K x) (K':=λ x _=>K' x) h λ x hx=>hk x hx
 case bin=>exact yB (K:=λ x _=>K x) (K':=λ x _=>K' x) h λ x _ hx=>hk x hx
 case beq=>simp only[aeb]at h⊢;split at h<;>first|exact hk _ h|exact h.elim
 case un=>exact aaD (K:=λ x _=>K x) (K':=λ x _=>K' x) h λ x _ hx=>hk x hx
 case conv=>exact tX (K:=λ x _=>K x) (K':=λ x _=>K' x) h λ x _ hx=>hk x hx
 case elem=>simp only[lL]at h⊢;split at h<;>first|exact⟨h.1,h.2.1,h.2.2.1,hk _ h.2.2.2⟩|exact h.elim
 case yg=>exact adp (K:=λ x _=>K x) (K':=λ x _=>K' x) h λ x _ hx=>hk x hx
 case uE=>exact⟨h.1,hk _ h.2⟩
 case eB=>exact tJ (K:=λ x _=>K x) (K':=λ x _=>K' x) h λ x _ hx=>hk x hx
 case cL=>exact oe (K:=λ x _=>K x) (K':=λ x _=>K' x) h λ x _ hx=>hk x hx
 case cw=>exact og (K:=λ x _=>K x) (K':=λ x _=>K' x) h λ x _ hx=>hk x hx
 case dI=>exact tn (K:=λ x _=>K x) (K':=λ x _=>K' x) h λ x _ hx=>hk x hx
 case cz=>exact xB (K:=λ x _=>K x) (K':=λ x _=>K' x) h λ x _ hx=>hk x hx
 case pH=>exact hk _ h
 case rep=>simp only[acu]at h⊢;split at h<;>first|exact⟨h.1,h.2.1,h.2.2.1,h.2.2.2.1,hk _ h.2.2.2.2⟩|exact h.elim
 case app=>exact oY (M':=λ ys=>_/\_/\_/\K' _) h λ ys _ hK=>⟨hK.1,hK.2.1,hK.2.2.1,hk _ hK.2.2.2⟩
 case get=>exact⟨h.1,h.2.1,hk _ h.2.2⟩
 case set=>exact⟨h.1,h.2.1,h.2.2.1,h.2.2.2.1,hk _ h.2.2.2.2⟩
 case call=>obtain⟨res,h1,h2,h3,h4⟩:=h;exact⟨res,h1,h2,h3,hk _ h4⟩
 case fK=>obtain⟨xs,h1,h2,h3⟩:=h;exact⟨xs,h1,h2,hk _ h3⟩
 case ia=>obtain⟨os,h1,h2,h3,h4⟩:=h;exact⟨os,h1,h2,h3,hk _ h4⟩
 case eJ=>
  simp only[oR]at h⊢
  split at h
  ·obtain⟨res,h1,h2,h3,h4⟩:=h;exact⟨res,h1,h2,h3,hk _ h4⟩
  ·exact h.elim
 case ldp=>simp only[ah9]at h⊢;split at h<;>first|exact⟨h.1,hk _ h.2⟩|exact h.elim
 case fap=>simp only[aiH]at h⊢;split at h<;>first|exact hk _ h|exact h.elim
 case pu=>unfold puK at h⊢;split at h<;>first|exact hk _ h|exact h.elim
 case jN=>simp only[yD]at h⊢;split at h<;>first|exact⟨h.1,h.2.1,h.2.2.1,hk _ h.2.2.2⟩|exact h.elim
theorem jU:∀(ns:List Node) {r:List AV} {G G':List AV->Prop},(∀m,G (r++m)->G' (r++m))->iX P ns r G->iX P ns r G'
 | [],r,G,G',hg,h=>by have:=hg [];simp only[append_nil]at this;exact this h
 | .op o::ns,r,G,G',hg,h=>PO.n6 h λ v hv=>jU ns (λ m hm=>by rw[List.append_assoc]at hm⊢;exact hg _ hm) hv
 | .aP c::ns,r,G,G',hg,h=>l4.wp_mono h (jU ns hg)
def dE(P:Program)(op:dZ)(s:SS)(q:List Node×SV×SS):Prop:=
 ∀(r:List AV),r.length=s.nv->s.cl=true->AV.ad r=true->cu s.nv q.1=true->∀K:KT,iX P q.1 r (λ r'=>bT q.2.2 r'=bT s r->K (q.2.1.ev r') (bz q.2.2 r'))->wpOp P op (bT s r) (bz s r) K
theorem ae9{s:SS}{r:List AV}(hl:r.length=s.nv)(hc:s.cl=true){ns:List Node}(hn:il s.nv ns=s.nv){o:PO}{K:KT}{x:AV}(h:bT (nx s ns o).2.2 (r++ [x])=bT s r->K ((nx s ns o).2.1.ev (r++ [x])) (bz (nx s ns o).2.2 (r++ [x]))):K x (bz s r):=by
 have h1:bT (nx s ns o).2.2 (r++ [x])=bT s r:=dX (s:=s) hl hc;have h2:=h h1;have h3:bz (nx s ns o).2.2 (r++ [x])=bz s r:=eW (s:=s) hl hc;rw[h3]at h2
 have h4:(nx s ns o).2.1.ev (r++ [x])=x:=by
  simp only[nx,SV.ev,D.ev,hn];exact bq hl x
 rwa [h4]at h2
theorem kd{s:SS}{r:List AV}(hl:r.length=s.nv)(hc:s.cl=true){o:PO}{K:KT}(h:iX P (nx s [] o).1 r (λ r'=>bT (nx s [] o).2.2 r'=bT s r->K ((nx s [] o).2.1.ev r') (bz (nx s [] o).2.2 r'))):o.wp P r λ v=>K v (bz s r):=
 PO.n6 (o:=o) h λ _ hv=>ae9 (ns:=[]) (o:=o) hl hc rfl hv
theorem arv(s:SS)(a:aE):dE P (.bt a) s ([],cE s a,s):=by
 intro r hl hc hr gf K h;have:=h rfl;rwa [aT]at this
theorem amV{s:SS}{t n:Nat}{z:AV}{q}(h:aeu s t n z=some q):dE P (.alloc t n z) s q:=by
 intro r hl hc hr gf K hk;unfold aeu at h
 split at h
 ·rename_i hn;cases h;have:=hk rfl;simp only[bz,map_append,map_cons,map_nil,SO.ev,SV.aY,SV.ev,D.ev,kG]at this;simp only[wpOp];rw[dB,hn.1];exact this
 ·split at h
  ·rename_i cs _
   split at h
   ·rename_i hn;cases h;have:=hk rfl
    have he:SV.aY r (cs.map λ a=> .d (.c a))=cs:=by
     rw[SV.aJ,map_map];exact map_id cs
    simp only[bz,map_append,map_cons,map_nil,SO.ev,he,length_map,SV.ev]at this;rw[eA (by rw[hn.2];exact hn.1),hn.2]at this;simp only[wpOp];rw[dB];exact this
   ·cases h
  ·cases h
theorem asI{s:SS}{t n:Nat}{a:aE}{q}(ha:(cE s a).cl s.nv=true)(h:aqy s t n (cE s a)=some q):dE P (.box t n a) s q:=by
 intro r hl hc hr gf K hk;unfold aqy at h
 split at h
 ·rename_i ns cs he
  split at h
  ·rename_i sn;cases h;obtain⟨r',⟨more,rfl⟩,hlen,hG,hE⟩:=kC he hl ha hk;have hG:=hG (dX (s:=s) hl hc);simp only[wpOp,←aT]
   have nV:bz {s with aj:=s.aj++ [.box t cs],nv:=il s.nv ns} (r++more)=bz s r++ [.live t n [(cE s a).ev r]]:=by
    simp only[bz,map_append,map_cons,map_nil,SO.ev];rw[hE.kG,sn];congr 1;exact eW (s:=s) hl hc
   rw[nV]at hG;rw[dB];exact⟨hE.len,hE.sto,hG⟩
  ·cases h
 ·cases h
theorem qF{s:SS}{k t m:Nat}(h:kept s k t m=true)(r:List AV):(bz s r)[k]? =some (.nil t m):=by
 unfold kept at h
 split at h
 ·rename_i t' m' ho;simp only[and_eq_true,decide_eq_true_eq]at h;obtain⟨rfl,rfl⟩:=h;rw[gH ho r];simp[SO.ev,D.ev,aS]
 ·cases h
theorem age{s:SS}{k t n:Nat}{z:AV}{q}(hz:z.ag=true)(h:we s k t n z=some q):dE P (.gu k t n z) s q:=by
 intro r hl hc hr gf K hk;unfold we at h
 split at h
 ·rename_i hkp;have hO:=qF hkp r
  have fin:∀cs:List AV,cs.length=n->kG cs=z->q=([],.ptr k 0,{s with aj:=s.aj.set k (.box t (cs.map λ a=> .d (.c a)))})->wpOp P (.gu k t n z) (bT s r) (bz s r) K:=by
   rintro cs sn hz' rfl;have:=hk rfl
   have hev:SV.aY r (cs.map λ a=>SV.d (.c a))=cs:=by
    rw[SV.aJ,map_map]
    conv=>rhs;rw[←map_id cs]
    rfl
   simp only[bz,map_set,SO.ev,hev,hz',length_map,sn]at this;exact⟨hz,hO,this⟩
  split at h
  ·rename_i hn;cases h;exact fin [z] hn.1.symm rfl rfl
  ·split at h
   ·rename_i cs _
    split at h
    ·rename_i hn;cases h;exact fin cs hn.2 (eA (by rw[hn.2];exact hn.1)) rfl
    ·cases h
   ·cases h
 ·cases h
theorem amE{s:SS}{k t n:Nat}{a:aE}{q}(uM:a.okc=true)(ha:(cE s a).cl s.nv=true)(h:aet s k t n (cE s a)=some q):dE P (.lg k t n a) s q:=by
 intro r hl hc hr gf K hk;unfold aet at h
 split at h
 ·rename_i hkp;have hO:=qF hkp r
  split at h
  ·rename_i ns cs he
   split at h
   ·rename_i sn;cases h;obtain⟨r',⟨more,rfl⟩,hlen,hG,hE⟩:=kC he hl ha hk;have hG:=hG (dX (s:=s) hl hc);simp only[wpOp,←aT]
    have nV:bz {s with aj:=s.aj.set k (.box t cs),nv:=il s.nv ns} (r++more)=(bz s r).set k (.live t n [(cE s a).ev r]):=by
     simp only[bz,map_set,SO.ev];rw[hE.kG,sn];congr 1;exact eW (s:=s) hl hc
    rw[nV]at hG;exact⟨uM,hO,hE.len,hE.sto,hG⟩
   ·cases h
  ·cases h
 ·cases h
theorem asJ{s:SS}{o:BinOp}{a b:aE}{x y:D}(ha:cE s a= .d x)(hb:cE s b= .d y):dE P (.bin o a b) s (nx s [] (.bin o x y)):=by
 intro r hl hc hr gf K hk;rw[apQ,←aT,←aT,ha,hb];exact yB (O:=[]) (K:=λ x _=>K x (bz s r)) (kd hl hc hk) λ v _ hv=>hv
theorem asK{s:SS}{neg:Bool}{a b:aE}{x y:D}(ha:cE s a= .d x)(hb:cE s b= .d y):dE P (.beq neg a b) s (nx s [] (.beq neg x y)):=by
 intro r hl hc hr gf K hk;have h1:=kd (K:=K) hl hc hk;simp only[PO.wp,aeb]at h1;simp only[wpOp,←aT,ha,hb,SV.ev]
 split at h1
 ·rename_i p q hp hq;rw[hp,hq];exact h1
 ·exact h1.elim
theorem atB{s:SS}{o:UnOp}{a:aE}{x:D}(ha:cE s a= .d x):dE P (.un o a) s (nx s [] (.un o x)):=by
 intro r hl hc hr gf K hk;rw[aui,←aT,ha];exact aaD (O:=[]) (K:=λ x _=>K x (bz s r)) (kd hl hc hk) λ v _ hv=>hv
theorem apm{s:SS}{k:IntKind}{a:aE}{x:D}(ha:cE s a= .d x):dE P (.jo k a) s (nx s [] (.conv k x)):=by
 intro r hl hc hr gf K hk;rw[aku,←aT,ha];exact tX (O:=[]) (K:=λ x _=>K x (bz s r)) (kd hl hc hk) λ v _ hv=>hv
theorem aoH{s:SS}{a b:aE}{x y:D}(ha:cE s a= .d x)(hb:cE s b= .d y):dE P (.eB a b) s (nx s [] (.eB x y)):=by
 intro r hl hc hr gf K hk;rw[akt,←aT,←aT,ha,hb];exact tJ (O:=[]) (K:=λ x _=>K x (bz s r)) (kd hl hc hk) λ v _ hv=>hv
theorem aov{s:SS}{a:aE}{x:D}(ha:cE s a= .d x):dE P (.dI a) s (nx s [] (.dI x)):=by
 intro r hl hc hr gf K hk;rw[aks,←aT,ha];exact tn (O:=[]) (K:=λ x _=>K x (bz s r)) (kd hl hc hk) λ v _ hv=>hv
theorem aow{s:SS}{a:aE}{x:D}(ha:cE s a= .d x):dE P (.cz a) s (nx s [] (.cz x)):=by
 intro r hl hc hr gf K hk;rw[ae8,←aT,ha];exact zS (K:=λ x _=>K x (bz s r)) (kd hl hc hk) λ v _ hv=>hv
theorem bG(xs:List AV):aS (.sl xs)=xs:=rfl
theorem eU{s:SS}{n e sz:Nat}{nl:Bool}{l:D}(h:s.aj[n]? =some (.row nl e sz l))(r:List AV):
  (bz s r)[n]? =some (.live e sz (aS (l.ev r)))∨((bz s r)[n]? =some (.nil e sz)/\aS (l.ev r)= []/\nl=true):=by
 have:=gH h r;cases nl with
 |false=>exact .inl this
 |true=>
  simp only[SO.ev]at this
  split at this
  ·rename_i hx;exact .inr ⟨this,hx,rfl⟩
  ·exact .inl this
theorem akT{s:SS}{a:aE}{k:Nat}{l:D}(ha:cE s a= .row k l)(jK:(cur s k l).isSome=true):dE P (.cz a) s (nx s [] (.cz (.sl l))):=by
 intro r hl hc hr gf K hk;rw[ae8,←aT,ha];obtain⟨⟨nl,e,sz⟩,hq⟩:=Option.isSome_iff_exists.1 jK;have ho:=eC hq;have hf:=kd hl hc hk;simp only[PO.wp,D.ev,xz,k1]at hf;simp only[SV.ev,lH];rcases eU ho r with h|⟨h,hx,_⟩
 ·rw[h,kF];exact⟨rfl,hf⟩
 ·rw[hx]at hf⊢;rw[h,mq];exact⟨rfl,hf⟩
theorem ahm{s:SS}{a:aE}{lo hi:Option aE}{x:D}{dl dh:Option D}(ha:cE s a= .d x)(h1:yL s lo=some dl)(h2:yL s hi=some dh):dE P (.cL a lo hi) s (nx s [] (.cL x dl dh)):=by
 intro r hl hc hr gf K hk;rw[acG,←aT,ha,←D.vX h1,←D.vX h2];exact oe (O:=[]) (K:=λ x _=>K x (bz s r)) (kd hl hc hk) λ v _ hv=>hv
theorem ahn{s:SS}{m:Nat}{a:aE}{lo hi:Option aE}{x:D}{dl dh:Option D}(ha:cE s a= .d x)(h1:yL s lo=some dl)(h2:yL s hi=some dh):dE P (.cw m a lo hi) s (nx s [] (.cw m x dl dh)):=by
 intro r hl hc hr gf K hk;rw[acH,←aT,ha,←D.vX h1,←D.vX h2];exact og (O:=[]) (K:=λ x _=>K x (bz s r)) (kd hl hc hk) λ v _ hv=>hv
theorem anS{s:SS}{c a b:aE}{x:D}{na nb:List Node}{y z:D}(oI:cE s c= .d x)(ha:asD s.kn (cE s a)=some (na,y))(hb:asD s.kn (cE s b)=some (nb,z)):dE P (.pick c a b) s (nx s (na++nb) (.pick x y z)):=by
 intro r hl hc hr gf K hk;have h1:il s.nv (na++nb)=s.nv:=by rw[iJ,yC ha,yC hb]
 simp only[nx,ch]at hk;obtain⟨hk,e1⟩:=jM ha hk;obtain⟨hk,e2⟩:=jM hb hk;rw[ae7,←aT,←aT,←aT,oI,←e1,←e2];have:=PO.n6 (o:= .pick x y z) hk λ v hv=>ae9 (o:= .pick x y z) (K:=K) hl hc h1 hv
 exact s9 (O:=[]) (K:=λ x _=>K x (bz s r)) this λ v hv=>hv
theorem akh{s:SS}{c a b:aE}{t:Bool}(oI:cE s c= .d (.c (.v (.bool t)))):dE P (.pick c a b) s ([],if t then cE s a else cE s b,s):=by
 intro r hl hc hr gf K hk;have:=hk rfl;rw[ae7,←aT,oI];simp only[SV.ev,D.ev,nB];cases t<;>simpa [aT]using this
theorem xn{s:SS}{r:List AV}(hl:r.length=s.nv)(hc:s.cl=true){ns:List Node}{cs:List SV}{K:KT}
  (h:iX P (norm s ns cs).1 r (λ r2=>bT (norm s ns cs).2.2 r2=bT s r->K ((norm s ns cs).2.1.ev r2) (bz (norm s ns cs).2.2 r2))):iX P ns r (λ r2=>K (.agg (SV.aY r2 cs)) (bz s r)):=by
 unfold norm at h
 split at h
 ·rename_i ms x hx;simp only[done,ch]at h;refine jU ns (λ m h2=> ?_) h;obtain⟨h3,h4⟩:=jM hx h2;have h5:=h3 (dX (s:=s) hl hc);simp only[SV.ev]at h5 h4;rw[h4]at h5;have:bz {s with nv:=il s.nv (ns++ms)} (r++m)=bz s r:=eW (s:=s) hl hc;rwa [this]at h5
 ·simp only[done]at h;refine jU ns (λ m h2=> ?_) h;have h5:=h2 (dX (s:=s) hl hc);simp only[SV.ev]at h5;have:bz {s with nv:=il s.nv ns} (r++m)=bz s r:=eW (s:=s) hl hc;rwa [this]at h5
end
end Go.Ab
namespace Go.Ab
section
variable {P:Program}
theorem aan{r m:List AV}{cs:List SV}(h:∀c∈cs,c.cl r.length=true):SV.aY (r++m) cs=SV.aY r cs:=SV.fL cs (ru.2 h)
theorem aiI{nv m:Nat}{v:SV}{ns:List Node}{cs:List SV}(h:expand nv m v=some (ns,cs))(hv:v.cl nv=true):∀c∈cs,c.cl (il nv ns)=true:=by
 unfold expand at h
 split at h
 ·split at h
  ·cases h;simpa [SV.cl,il]using hv
  ·cases h
  ·cases h
  ·cases h
  ·cases h;simpa [il]using hv
 ·split at h
  ·split at h
   ·cases h;rw[agx];exact ru.1 hv
   ·cases h
  ·cases h;simp only[mem_map,il];rintro c ⟨j,_,rfl⟩;exact hv
  ·split at h
   ·cases h;simp only[mem_map,il];rintro c ⟨d,hd,rfl⟩;exact abN.1 (by simpa [SV.cl,D.cl]using hv) d hd
   ·cases h
  ·split at h
   ·cases h;simp only[mem_map,il];rintro c ⟨d,hd,rfl⟩;exact a8 (by simpa [SV.cl,D.cl,AV.ag]using hv) d hd
   ·cases h
  ·cases h;simp only[mem_map,il];rintro c ⟨j,_,rfl⟩;simp[SV.cl,D.cl]
  ·cases h
mutual
theorem uX{n m:Nat}(h:n<=m):∀(d:D),d.cl n=true->d.cl m=true
 | .x i=>by simp only[D.cl,decide_eq_true_eq];omega
 | .c a=>id
 | .cell i j=>by simp only[D.cl,decide_eq_true_eq];omega
 | .ext i j=>by simp only[D.cl,decide_eq_true_eq];omega
 | .sl l=>by simpa only[D.cl]using uX h l
 | .agg l=>by simpa only[D.cl]using af2 h l
 | .fn f l=>by simpa only[D.cl]using af2 h l
 | .ip d f=>by simpa only[D.cl]using uX h d
theorem af2{n m:Nat}(h:n<=m):∀(l:List D),D.cls n l=true->D.cls m l=true
 | []=>id
 |d::l=>by
  simp only[D.cls,and_eq_true];exact λ q=>⟨uX h d q.1,af2 h l q.2⟩
end
mutual
theorem aaP{n m:Nat}(h:n<=m):∀(v:SV),v.cl n=true->v.cl m=true
 | .d x=>uX h x
 | .row k l=>uX h l
 | .ptr k f=>id
 | .rp k l i f=>by simp only[SV.cl,and_eq_true];exact λ q=>⟨uX h l q.1,uX h i q.2⟩
 | .ip x f=>uX h x
 | .agg cs=>by simpa only[SV.cl]using aaO h cs
 | .aK cs=>by simpa only[SV.cl]using aaO h cs
 | .top=>id
theorem aaO{n m:Nat}(h:n<=m):∀(l:List SV),SV.cls n l=true->SV.cls m l=true
 | []=>id
 |d::l=>by
  simp only[SV.cls,and_eq_true];exact λ q=>⟨aaP h d q.1,aaO h l q.2⟩
end
theorem aa8:∀(ns:List Node) (nv:Nat),nv<=il nv ns
 | [],nv=>le_refl _
 | .op o::ns,nv=>Nat.le_trans (Nat.le_succ _) (aa8 ns (nv+1))
 | .aP c::ns,nv=>aa8 ns nv
theorem rG{s:SS}(h:s.cl=true){x:aE}(hx:uz x=true):(cE s x).cl s.nv=true:=by
 cases x with
 |t n=>exact SS.oP h n
 |c a=>exact hx
theorem ux{s:SS}(hc:s.cl=true):∀(ps:List (Nat×Nat×aE)) (ns:List Node) (cs:List SV) {ns':List Node} {cs':List SV},wb s ns cs ps=some (ns',cs')->ps.all (λ p=>uz p.2.2)=true->(∀c∈cs,c.cl (il s.nv ns)=true)->
  ∃ms,ns'=ns++ms/\∀(r:List AV),r.length=s.nv->∀(r1:List AV),(∃m,r1=r++m)->r1.length=il s.nv ns->∀{M:AV->Prop} {G:List AV->Prop},iX P ms r1 G->(∀m,G (r1++m)->M (.agg (SV.aY (r1++m) cs')))->iO (bT s r) (SV.aY r1 cs) ps M
 | [],ns,cs,ns',cs',h,_,_=>by
   simp only[wb,Option.some.injEq,Prod.mk.injEq]at h;obtain⟨rfl,rfl⟩:=h;refine⟨[],by simp,λ r _ r1 _ _ M G hw hG=> ?_⟩;have:=hG [] (by rw[append_nil];exact hw);simpa [iO]using this
 |(off,size,x)::ps,ns,cs,ns',cs',h,ho,sn=>by
  simp only[wb]at h
  split at h
  ·rename_i ms vs he
   split at h
   ·rename_i hv;simp only[all_cons,and_eq_true]at ho;have hx:(cE s x).cl (il s.nv ns)=true:=aaP (aa8 ns s.nv) _ (rG hc ho.1);have hvc:=aiI he hx
    obtain⟨ms',rfl,ih⟩:=ux hc ps _ _ h ho.2 (by
     intro c hm;rw[iJ];simp only[List.mem_append]at hm;have hle:=aa8 ms (il s.nv ns);rcases hm with(hm|hm)|hm
     ·exact aaP hle c (sn c (mem_of_mem_take hm))
     ·exact hvc c hm
     ·exact aaP hle c (sn c (mem_of_mem_drop hm)))
    refine⟨ms++ms',by simp,λ r hl r1 hp hl1 M G hw hG=> ?_⟩;rw[ch]at hw;obtain⟨r2,⟨m,rfl⟩,hl2,hw2,hE⟩:=kC he hl1 hx hw
    have hev:(cE s x).ev r1=x.ev (bT s r):=by
     obtain⟨m0,rfl⟩:=hp;rw[SV.cD _ (by rw[hl];exact rG hc ho.1),aT]
    rw[hev]at hE;simp only[iO];refine⟨hE.len,hE.kind,by rw[SV.aJ,length_map];exact hv.2,?_⟩;have ayo:SV.aY (r1++m) cs=SV.aY r1 cs:=aan (by rw[hl1];exact sn)
    have h1:(SV.aY r1 cs).take off++(x.ev (bT s r)).cells++(SV.aY r1 cs).drop (off+size)=SV.aY (r1++m) (cs.take off++vs++cs.drop (off+size)):=by
     rw[hE.cells,←ayo];simp only[SV.aJ,map_append,map_take,map_drop]
    rw[h1]
    exact ih r hl (r1++m) (by obtain⟨m0,rfl⟩:=hp;exact⟨m0++m,by simp⟩) (by rw[hl2,iJ]) hw2 λ m' hm'=>by
     rw[List.append_assoc]at hm'⊢;exact hG _ hm'
   ·cases h
  ·cases h
theorem amB{s:SS}{z:List AV}{ps:List (Nat×Nat×aE)}{q}(ho:ps.all (λ p=>uz p.2.2)=true)(hz:AV.ad z=true)(h:aes s z ps=some q):dE P (.build z ps) s q:=by
 intro r hl hc hr gf K hk;unfold aes at h
 split at h
 ·rename_i ns cs hp;cases h
  obtain⟨ms,rfl,hs⟩:=ux (P:=P) hc ps [] _ hp ho (by
   simp only[mem_map];rintro c ⟨a,ha,rfl⟩;exact a8 hz a ha)
  have:=xn (K:=K) hl hc hk
  have he:SV.aY r (z.map λ a=> .d (.c a))=z:=by
   rw[SV.aJ,map_map];exact map_id z
  have h2:=hs r hl r ⟨[],by simp⟩ (by simp[hl,il]) (M:=λ a=>K a (bz s r)) this (λ m hm=>hm);rw[he]at h2;exact h2
 ·cases h
theorem uY{m:Nat}{d:D}{r:List AV}{G:List AV->Prop}(h:iX P [mB m d] r G):G r/\ajh m (d.ev r) (d.ev r).cells:=by
 unfold mB at h
 split at h
 ·rename_i hm;subst hm;obtain⟨h1,h2,h3⟩:=h;exact⟨h3,h1,l9 h2,rfl,by rw[h2];rfl,λ _=>h2,λ h=>(h rfl).elim⟩
 ·rename_i hm;obtain⟨h1,h2,h3,h4⟩:=h;exact⟨h4,h2,h3,rfl,by rw[h1];simp,λ h=>(hm h).elim,λ _=>h1⟩
theorem adI(m:Nat)(d:D)(nv:Nat):il nv [mB m d]=nv:=by unfold mB;split<;>rfl
theorem lK{s:SS}{m len:Nat}:∀{ps:List (Nat×aE)} {ns:List Node} {qs:List (Nat×D)},n4 s m len ps=some (ns,qs)->il s.nv ns=s.nv/\∀{r:List AV} {G:List AV->Prop},iX P ns r G->G r/\
  ∀(z:List AV) (M:List AV->Prop),z.length=len->M (eQ z (qs.map λ p=>(p.1,p.2.ev r)))->lP (bT s r) m z ps M
 | [],ns,qs,h=>by
   simp only[n4,Option.some.injEq,Prod.mk.injEq]at h;obtain⟨rfl,rfl⟩:=h;exact⟨rfl,λ hw=>⟨hw,λ z M _ hM=>hM⟩⟩
 |(i,x)::ps,ns,qs,h=>by
  simp only[n4]at h
  split at h
  ·rename_i ns1 d ms qs1 h1 h2
   split at h
   ·rename_i hi;cases h;obtain⟨h3,ih⟩:=lK h2;refine⟨?_,λ {r G} hw=> ?_⟩
    ·rw[show ns1++mB m d::ms=ns1++([mB m d]++ms) by simp,iJ,iJ,yC h1,adI,h3]
    ·rw[show ns1++mB m d::ms=ns1++([mB m d]++ms) by simp,ch]at hw;obtain⟨hw,he⟩:=jM h1 hw;rw[ch]at hw;obtain⟨hw,hE⟩:=uY hw;obtain⟨hG,eH⟩:=ih hw;refine⟨hG,λ z M hz hM=> ?_⟩;rw[he,aT]at hE;simp only[lP];refine⟨hE.len,hE.sto,by omega,eH _ M (by simpa using hz) ?_⟩;simp only[map_cons,eQ,he,aT]at hM;exact hM
   ·cases h
  ·cases h
theorem xq{s:SS}{t m:Nat}{ns:List Node}{o:PO}{q}(h:newRow s t m (nx s ns o)=some q)(hn:il s.nv ns=s.nv){r:List AV}(hl:r.length=s.nv)(hc:s.cl=true){K:KT}
  (hk:iX P q.1 r (λ r'=>bT q.2.2 r'=bT s r->K (q.2.1.ev r') (bz q.2.2 r'))):
  iX P ns r λ r1=>r1=r->o.wp P r λ v=>K (.row s.aj.length (aS v).length) (bz s r++ [.live t m (aS v)]):=by
 simp only[newRow,nx,Option.some.injEq]at h;subst h;simp only[ch]at hk;refine jU ns (λ mm hw he=> ?_) hk;rw[he]at hw;refine PO.n6 (o:=o) hw λ v hv=> ?_
 have h1:bT {s with aj:=s.aj++ [.row false t m (.x (il s.nv ns))],nv:=il s.nv ns+1} (r++ [v])=bT s r:=dX (s:=s) hl hc;have h2:=hv h1
 have h3:bz {s with aj:=s.aj++ [.row false t m (.x (il s.nv ns))],nv:=il s.nv ns+1} (r++ [v])=bz s r++ [.live t m (aS v)]:=by
  simp only[bz,map_append,map_cons,map_nil,SO.ev,D.ev,hn,bq hl];congr 1;exact eW (s:=s) hl hc
 rw[h3]at h2;simp only[SV.ev,D.ev,hn,bq hl]at h2;exact h2
theorem oj(nl:Bool)(e s:Nat)(l:D)(r:List AV):(SO.row nl e s l).ev r=bX nl e s (aS (l.ev r)):=by
 cases nl
 ·simp only[SO.ev,bX,false_eq_true,false_and,if_false]
 ·simp only[SO.ev,bX,true_and]
theorem acQ{s:SS}{nl:Bool}{t m:Nat}{ns:List Node}{o:PO}{q}(h:rI s nl t m (nx s ns o)=some q)(hn:il s.nv ns=s.nv){r:List AV}(hl:r.length=s.nv)(hc:s.cl=true){K:KT}
  (hk:iX P q.1 r (λ r'=>bT q.2.2 r'=bT s r->K (q.2.1.ev r') (bz q.2.2 r'))):
  iX P ns r λ r1=>r1=r->o.wp P r λ v=>K (.row s.aj.length (aS v).length) (bz s r++ [bX nl t m (aS v)]):=by
 simp only[rI,nx,Option.some.injEq]at h;subst h;simp only[ch]at hk;refine jU ns (λ mm hw he=> ?_) hk;rw[he]at hw;refine PO.n6 (o:=o) hw λ v hv=> ?_
 have h1:bT {s with aj:=s.aj++ [.row nl t m (.x (il s.nv ns))],nv:=il s.nv ns+1} (r++ [v])=bT s r:=dX (s:=s) hl hc;have h2:=hv h1
 have h3:bz {s with aj:=s.aj++ [.row nl t m (.x (il s.nv ns))],nv:=il s.nv ns+1} (r++ [v])=bz s r++ [bX nl t m (aS v)]:=by
  simp only[bz,map_append,map_cons,map_nil,oj,D.ev,hn,bq hl];congr 1;exact eW (s:=s) hl hc
 rw[h3]at h2;simp only[SV.ev,D.ev,hn,bq hl]at h2;exact h2
theorem ze{s:SS}{t m len:Nat}{z:AV}{ps:List (Nat×aE)}{q}(h:n5 s t m len z ps=some q):dE P (.buildSlice t m len z ps) s q:=by
 intro r hl hc hr gf K hk;unfold n5 at h
 split at h
 ·rename_i ns qs hp;obtain⟨hn,hs⟩:=lK (P:=P) hp;have h1:=xq h hn hl hc hk;obtain⟨hG,eH⟩:=hs h1;have hG:=hG rfl;simp only[PO.wp]at hG;simp only[wpOp,dB];refine eH _ _ (by simp) ?_;rw[bG]at hG
  have hlen:(eQ (List.replicate len z) (qs.map λ p=>(p.1,p.2.ev r))).length=len:=by
   have:∀(ps:List (Nat×AV)) (z:List AV),(eQ z ps).length=z.length:=by
    intro ps
    induction ps with
    |nil=>intro z;rfl
    |cons p ps ih=>intro z;simp[eQ,ih]
   rw[this];simp
  rw[hlen]at hG;exact hG
 ·cases h
theorem af6{s:SS}{k t m len:Nat}{z:AV}{ps:List (Nat×aE)}{q}(hz:z.ag=true)(hp':ps.all (λ p=>p.2.okc)=true)(h:wc s k t m len z ps=some q):dE P (.gr k t m len z ps) s q:=by
 intro r hl hc hr gf K hk;unfold wc at h
 split at h
 ·rename_i hkp;have hO:=qF hkp r
  split at h
  ·rename_i ns qs hp;cases h;obtain⟨hn,hs⟩:=lK (P:=P) hp;simp only[ch,iX,l4.wp,PO.wp]at hk;refine⟨hz,hp',?_⟩
   have hk':iX P ns r λ r1=>r1=r->∃xs,xs=eQ (List.replicate len z) (qs.map λ p=>(p.1,p.2.ev r))/\xs≠[]/\K (.row k xs.length) ((bz s r).set k (.live t m xs)):=by
    refine jU ns (λ mm hw he=> ?_) hk;rw[he]at hw;obtain⟨h1,h2⟩:=hw;simp only[D.ev,bq hl,bG]at h1;have e1:bT {s with aj:=s.aj.set k (.row false t m (.x s.nv)),nv:=s.nv+1} (r++ [.sl (eQ (List.replicate len z) (qs.map λ p=>(p.1,p.2.ev r)))])=bT s r:=dX (s:=s) hl hc;have h2:=h2 e1
    have e2:bz {s with aj:=s.aj.set k (.row false t m (.x s.nv)),nv:=s.nv+1} (r++ [.sl (eQ (List.replicate len z) (qs.map λ p=>(p.1,p.2.ev r)))])=(bz s r).set k (.live t m (eQ (List.replicate len z) (qs.map λ p=>(p.1,p.2.ev r)))):=by
     simp only[bz,map_set,SO.ev,D.ev,bq hl,bG];congr 1;exact eW (s:=s) hl hc
    rw[e2]at h2;simp only[SV.ev,D.ev,bq hl,bG]at h2;exact⟨_,rfl,h1,h2⟩
   obtain⟨hG,eH⟩:=hs hk';obtain⟨xs,pO,cr,hK⟩:=hG rfl;refine eH _ _ (by simp) ?_;rw[←pO]
   have hlen:xs.length=len:=by
    have:∀(ps:List (Nat×AV)) (z:List AV),(eQ z ps).length=z.length:=by
     intro ps
     induction ps with
     |nil=>intro z;rfl
     |cons p ps ih=>intro z;simp[eQ,ih]
    rw[pO,this];simp
   rw[hlen]at hK;exact⟨hO,cr,hK⟩
  ·cases h
 ·cases h
theorem auB{s:SS}{t m bytes:Nat}{z:AV}{n c:aE}{x y:D}{q}(hn:cE s n= .d x)(oI:cE s c= .d y)(h:newRow s t m (nx s [] (.rep bytes z x y))=some q):dE P (.mk t m bytes z n c) s q:=by
 intro r hl hc hr gf K hk;have h1:=xq h rfl hl hc hk;have h1:=h1 rfl;simp only[PO.wp,acu]at h1;rw[aun,←aT,←aT,hn,oI];simp only[SV.ev]
 split at h1
 ·rename_i a b h2 h3;rw[h2,h3,akG];simp only[bG,List.length_replicate]at h1;rw[dB];exact h1
 ·exact h1.elim
theorem adn{cs:List SV}{r:List AV}{f:Nat}{v:SV}(h:cs[f]? =some v)(hc:cs.length≠1∨(v.ev r).cells= [v.ev r]):f+1<=(kG (SV.aY r cs)).cells.length/\(kG (SV.aY r cs)).cells.getD f .top=v.ev r:=by
 have au:=(List.getElem?_eq_some_iff.1 h).1;have he:(SV.aY r cs)[f]? =some (v.ev r):=by rw[SV.aJ,getElem?_map,h];rfl
 by_cases h1:cs.length=1
 ·rcases hc with hc|hc
  ·exact(hc h1).elim
  ·have hf:f=0:=by omega
   subst hf
   have:SV.aY r cs= [v.ev r]:=by
    have hl:(SV.aY r cs).length=1:=by rw[SV.aJ];simpa using h1
    obtain⟨a,ha⟩:=List.length_eq_one_iff.1 hl;rw[ha]at he⊢;simp at he;rw[he]
   rw[this];simp[kG,hc]
 ·rw[eA (by rw[SV.aJ];simpa using h1)];simp only[AV.cells];refine⟨by rw[SV.aJ];simp;omega,by simp[List.getD,he]⟩
theorem xx{s:SS}{a:aE}{k f e:Nat}{cs:List SV}(ha:cE s a= .ptr k f)(hb:lf s k=some (e,cs)){n:Option Nat}{r:List AV}{K:KT}
  (h:f+n.getD 1<=(kG (SV.aY r cs)).cells.length/\K (dH n (kG (SV.aY r cs)) f) (bz s r)):wpOp P (.load n a) (bT s r) (bz s r) K:=by
 rw[o_load,←aT,ha];simp only[SV.ev,tk];rw[gH (iT hb) r];simp only[SO.ev,gC,List.getD_cons_zero,k1];exact⟨rfl,Nat.one_pos,h.1,h.2⟩
theorem aot{s:SS}{n:Option Nat}{a:aE}{q}(h:ajw s n (cE s a)=some q):dE P (.load n a) s q:=by
 intro r hl hc hr gf K hk;unfold ajw at h
 split at h
 ·rename_i k f ha
  split at h
  ·rename_i e cs hb
   split at h
   ·split at h
    ·rename_i v hv
     split at h
     ·rename_i h1
      split at h
      ·rename_i ht;cases h;obtain⟨hG,xW⟩:=qw ht hk;have nE:=AV.gk (xW (v.ev r) (by simp[SV.aY]));obtain⟨q1,q2⟩:=adn (r:=r) hv (.inr nE);refine xx ha hb ⟨by simpa using q1,?_⟩;rw[fZ,q2];exact hG rfl
      ·cases h
     ·rename_i h1;cases h;obtain⟨q1,q2⟩:=adn (r:=r) hv (.inl h1);refine xx ha hb ⟨by simpa using q1,?_⟩;rw[fZ,q2];exact hk rfl
    ·cases h
   ·rename_i m
    split at h
    ·rename_i h1;cases h;have h2:=xn (K:=K) hl hc hk;have hx:kG (SV.aY r cs)= .agg (SV.aY r cs):=eA (by rw[SV.aJ];simpa using h1.1);refine xx ha hb ⟨by rw[hx];simp only[AV.cells,SV.aJ,length_map,getD_some];exact h1.2,?_⟩
     have h3:dH (some m) (kG (SV.aY r cs)) f= .agg (SV.aY r ((cs.drop f).take m)):=by
      rw[hx];unfold dH;simp only
      split
      ·rename_i h4;obtain⟨rfl,_,h5⟩:=h4;simp only[AV.cells,SV.aJ,length_map]at h5;rw[List.drop_zero,List.take_of_length_le (by omega)]
      ·simp only[AV.cells,SV.aJ,map_take,map_drop]
     rw[h3];exact h2
    ·cases h
  ·cases h
 ·rename_i y f ha
  have hb:∀{K:KT},(f+n.getD 1<=(y.ev r).cells.length/\K (dH n (y.ev r) f) (bz s r))->wpOp P (.load n a) (bT s r) (bz s r) K:=by
   intro K h;rw[o_load,←aT,ha];simp only[SV.ev,qC,k1];exact h
  split at h
  ·split at h
   ·rename_i i;cases h;obtain⟨h1,h2⟩:=hk;refine hb ⟨Nat.succ_le_of_lt h1,?_⟩;rw[fZ];exact h2 rfl
   ·rename_i l
    split at h
    ·rename_i d hd;cases h;have au:=(List.getElem?_eq_some_iff.1 hd).1;refine hb ⟨by simp only[D.ev,AV.cells,D.aJ,length_map,getD_none];omega,?_⟩;rw[fZ];simp only[D.ev,AV.cells,D.aJ,List.getD,getElem?_map,hd];exact hk rfl
    ·cases h
   ·cases h;simp only[iX,PO.wp,l4.wp,D.ev,bq hl]at hk;refine hb ⟨Nat.succ_le_of_lt hk.1,?_⟩;rw[fZ];have h1:bT {s with nv:=s.nv+1} (r++ [y.ev r])=bT s r:=dX (s:=s) hl hc;have h2:=hk.2 h1;have h3:bz {s with nv:=s.nv+1} (r++ [y.ev r])=bz s r:=eW (s:=s) hl hc;rw[h3]at h2;simp only[SV.ev,D.ev,bq hl]at h2;exact h2
  ·rename_i m
   split at h
   ·rename_i h0;obtain⟨h0,_⟩:=h0;subst h0;cases h;obtain⟨h1,h2,h3,h4⟩:=hk;refine hb ⟨by simp[h2],?_⟩;rw[oB h1 h2];exact h4 rfl
   ·cases h;have h1:=kd (K:=K) hl hc hk;exact hb h1
 ·rename_i k l i f ha
  split at h
  ·rename_i q' jK;obtain⟨nl,e,sz⟩:=q';cases h;have h1:=kd (K:=K) hl hc hk;obtain⟨h2,h3,h4⟩:=h1;rw[o_load,←aT,ha];simp only[SV.ev,tk];rcases eU (eC jK) r with h5|⟨h5,h6,_⟩
   ·rw[h5,gC];exact⟨rfl,h2,h3,h4⟩
   ·rw[h6]at h2;simp at h2
  ·cases h
 ·rename_i y ha;cases h;have h1:=kd (K:=K) hl hc hk;simp only[PO.wp,ah9]at h1;rw[o_load,←aT,ha];simp only[SV.ev]
  split at h1
  ·rename_i z f hy;rw[hy,qC,k1];exact h1
  ·exact h1.elim
 ·cases h
theorem vP{s:SS}{k:Nat}{o:SO}{r r':List AV}{nv:Nat}{env:List (Nat×SV)}(hp:∃m,r'=r++m)(hl:r.length=s.nv)(hc:s.cl=true):
  bz {s with env:=env,aj:=s.aj.set k o,nv:=nv} r'=(bz s r).set k (o.ev r'):=by
 obtain⟨m,rfl⟩:=hp;have:=eW (s:=s) (r':=m) hl hc;simp only[bz,map_set]at this⊢;rw[this]
theorem ajL{s:SS}{m:Nat}{a b:aE}{q}(hb0:uz b=true)(h:aep s m (cE s a) (cE s b)=some q):dE P (.store m a b) s q:=by
 intro r hl hc hr gf K hk;unfold aep at h
 split at h
 ·rename_i k f ha
  split at h
  ·rename_i e cs ns vs hb he
   split at h
   ·rename_i my;obtain⟨g1,g2,g3,g4⟩:=my;cases h;rw[ch]at hk
    have qY:iX P ns r (λ r'=>bT {s with aj:=s.aj.set k (.box e (cs.take f++vs++cs.drop (f+m))),nv:=il s.nv ns} r'=bT s r->K .top (bz {s with aj:=s.aj.set k (.box e (cs.take f++vs++cs.drop (f+m))),nv:=il s.nv ns} r'))/\
      (cs.length=1->∀c∈SV.aY r cs,c.cI=true):=by
     by_cases h1:cs.length=1
     ·rw[if_pos h1]at hk;obtain⟨p1,p2⟩:=qw (g4 h1) hk;exact⟨p1,λ _=>p2⟩
     ·rw[if_neg h1]at hk;exact⟨hk,λ h=>(h1 h).elim⟩
    obtain⟨hk,nE⟩:=qY;obtain⟨r',⟨more,rfl⟩,hlen,hG,hE⟩:=kC he hl (rG hc hb0) hk;have hG:=hG (dX (s:=s) hl hc);rw[vP ⟨more,rfl⟩ hl hc]at hG;rw[aa5,←aT,←aT,ha];simp only[SV.ev,qc];rw[gH (iT hb) r];simp only[SO.ev,gC,List.getD_cons_zero,k1,List.set_cons_zero];have tM:vs.length=m:=g1;have hnl:(cs.take f++vs++cs.drop (f+m)).length=cs.length:=by simp;omega
    have lX:SV.aY (r++more) cs=SV.aY r cs:=aan λ c hm=>by
     rw[hl];exact ru.1 (SS.qU hc (mem_of_getElem? (iT hb))) c hm
    have fw:SV.aY (r++more) (cs.take f++vs++cs.drop (f+m))=(SV.aY r cs).take f++((cE s b).ev r).cells++(SV.aY r cs).drop (f+m):=by
     rw[hE.cells,←lX];simp only[SV.aJ,map_append,map_take,map_drop]
    have hw:f+m<=(kG (SV.aY r cs)).cells.length/\kG (SV.aY (r++more) (cs.take f++vs++cs.drop (f+m)))=lN (kG (SV.aY r cs)) f ((cE s b).ev r):=by
     by_cases h1:cs.length=1
     ·have hm1:m=1:=by rcases g3 with h|h;exact h;exact(h h1).elim
      have hf:f=0:=by omega
      subst hm1;subst hf;obtain⟨c,hcc⟩:=List.length_eq_one_iff.1 (show(SV.aY r cs).length=1 by rw[SV.aJ];simpa using h1);have hc1:=AV.gk (nE h1 c (by rw[hcc];simp));rw[fw,hcc];simp only[kG,hc1,List.length_singleton,List.take_zero,nil_append,zero_add,List.drop_one,List.tail_cons,append_nil];refine⟨le_refl _,?_⟩;rw[AV.gk (hE.one rfl)];unfold lN;rw[if_pos ⟨rfl,by rw[hc1,AV.gk (hE.one rfl)];rfl⟩]
     ·have hx:kG (SV.aY r cs)= .agg (SV.aY r cs):=eA (by rw[SV.aJ];simpa using h1);rw[hx,fw];refine⟨by simp only[AV.cells,SV.aJ,length_map];exact g2,?_⟩;rw[eA (by simp[SV.aJ,hE.len];omega)];unfold lN;have hlc:(AV.agg (SV.aY r cs)).cells.length=cs.length:=by simp[AV.cells,SV.aJ]
      by_cases h2:f=0/\((cE s b).ev r).cells.length=(AV.agg (SV.aY r cs)).cells.length
      ·rw[if_pos h2];obtain⟨rfl,h3⟩:=h2;rw[hlc,hE.len]at h3;rw[AV.uc (hE.agg (by omega))];simp only[AV.cells,List.take_zero,nil_append,zero_add];rw[List.drop_eq_nil_of_le (by rw[SV.aJ];simp;omega),append_nil]
      ·rw[if_neg h2,hE.len]
       rfl
    refine⟨rfl,Nat.one_pos,hE.len,hE.sto,hw.1,?_⟩;simp only[SO.ev,hnl,hw.2]at hG;exact hG
   ·cases h
  ·cases h
 ·rename_i k l i f ha
  split at h
  ·rename_i nl e sz ns d jK hd;simp only[Option.some.injEq]at h;subst h;have hnv:il s.nv (ns++ [mB m d])=s.nv:=by rw[iJ,yC hd,adI]
   simp only[ch,hnv]at hk;obtain⟨hk,hde⟩:=jM hd hk;obtain⟨hk,hE⟩:=uY hk;simp only[iX,PO.wp,jt]at hk;obtain⟨q1,q2,q3,q4,q5⟩:=hk;generalize pO:aS (l.ev r)=xs at*;generalize hv:AV.sl (xs.set (idxOf (i.ev r)) (lN (xs.getD (idxOf (i.ev r)) .top) f (d.ev r)))=v at q5;have hlv:(aS v).length=xs.length:=by rw[←hv];simp[aS]
   have eH:=eC jK
   have avd:l.cl r.length=true:=by
    have:=SS.qU hc (mem_of_getElem? eH);rw[hl];exact this
   have iu:bT {s with env:=s.env.map (λ p=>(p.1,p.2.rew k l (.x s.nv))),aj:=s.aj.set k (.row nl e sz (.x s.nv)),nv:=s.nv+1} (r++ [v])=bT s r:=by
    funext t
    simp only[bT];rw[tl (f:=SV.rew k l (.x s.nv)) rfl];have lX:=SS.oP hc t;have hold:(lk s.env t).ev (r++ [v])=(lk s.env t).ev r:=SV.cD _ (by rw[hl];exact lX);rw[←hold];generalize lk s.env t=w;cases w with
    |row k' l'=>
     simp only[SV.rew]
     split
     ·rename_i h1;have:=D.beq_eq _ _ h1.2;subst this;simp only[SV.ev,D.ev,bq hl,hlv,D.cD l' avd,pO]
     ·rfl
    |rp k' l' i' f'=>
     simp only[SV.rew]
     split
     ·rename_i h1;have:=D.beq_eq _ _ h1.2;subst this;simp only[SV.ev,D.ev,bq hl,hlv,D.cD l' avd,pO]
     ·rfl
    |_=>rfl
   have hG:=q5 iu;rw[vP ⟨[v],rfl⟩ hl hc]at hG;rw[aa5,←aT,←aT,ha,←hde];simp only[SV.ev,qc];have cr:xs≠[]:=by intro h0;rw[h0]at q1;simp at q1
   rcases eU eH r with h5|⟨h5,h6,_⟩
   ·rw[h5,gC,pO];refine⟨rfl,q1,q2,q3,q4,?_⟩;have alA:aS v≠[]:=by intro h0;rw[h0]at hlv;simp at hlv;exact cr (List.eq_nil_of_length_eq_zero hlv.symm)
    have:SO.ev (r++ [v]) (.row nl e sz (.x s.nv))= .live e sz (xs.set (idxOf (i.ev r)) (lN (xs.getD (idxOf (i.ev r)) .top) f (d.ev r))):=by
     cases nl<;>simp only[SO.ev,D.ev,bq hl,if_neg alA]<;>rw[←hv]<;>rfl
    rw[this]at hG;exact hG
   ·rw[pO]at h6;exact(cr h6).elim
  ·cases h
 ·cases h
end
end Go.Ab
namespace Go.Ab
section
variable {P:Program}
theorem cW:∀(a b:List Node) (nv:Nat),cu nv (a++b)=(cu nv a&&cu (il nv a) b)
 | [],b,nv=>by simp[cu,il]
 | .op o::a,b,nv=>by simp only[cons_append,cu,il,cW a b,Bool.and_assoc]
 | .aP c::a,b,nv=>by simp only[cons_append,cu,il,cW a b]
theorem sq(r:List AV)(τ:List D)(i:Nat):(D.aY r τ).getD i .top=(τ.getD i (.c .top)).ev r:=by
 rw[D.aJ];simp only[List.getD,getElem?_map];cases τ[i]? <;>rfl
theorem om{l:List AV}(h:AV.ad l=true)(σ:Nat->Nat)(i:Nat):(l.getD i .top).bO σ=l.getD i .top:=by
 refine cO _ ?_;simp only[List.getD];cases hl:l[i]? with
 |none=>rfl
 |some a=>exact a8 h a (mem_of_getElem? hl)
theorem abk{n k:Nat}{r:List AV}{τ:List D}{σ:Nat->Nat}(hn:AV.ad (D.aY r τ)=true):∀(v:SV),v.pat n k=true->(v.j0 τ σ).ev r=(v.ev (D.aY r τ)).bO σ:=by
 intro v h;cases v with
 |d x=>
  cases x with
  |x i=>simp only[SV.j0,SV.ev,D.ev];rw[om hn,sq]
  |c a=>simp only[SV.j0,SV.ev,D.ev];rw[cO a h]
  |_=>simp[SV.pat]at h
 |row m l=>
  cases l with
  |x i=>simp only[SV.j0,SV.ev,D.ev,AV.bO];rw[sq]
  |_=>simp[SV.pat]at h
 |ptr m f=>rfl
 |_=>simp[SV.pat]at h
theorem r9{n k:Nat}{r:List AV}{τ:List D}{σ:Nat->Nat}(hn:AV.ad (D.aY r τ)=true):∀(l:List SV),l.all (SV.pat n k)=true->SV.aY r (l.map (SV.j0 τ σ))=AV.pv σ (SV.aY (D.aY r τ) l)
 | [],_=>rfl
 |v::l,h=>by
  simp only[all_cons,and_eq_true]at h;simp only[map_cons,SV.aY,AV.pv,abk hn v h.1,r9 hn l h.2]
theorem aop(σ:Nat->Nat)(l:List AV):(kG l).bO σ=kG (AV.pv σ l):=by
 cases l with
 |nil=>rfl
 |cons a l=>cases l<;>rfl
theorem sa{n k:Nat}{r:List AV}{τ:List D}{σ:Nat->Nat}(hn:AV.ad (D.aY r τ)=true):∀(o:SO),o.pat n k=true->(o.j0 τ σ).ev r=(o.ev (D.aY r τ)).bO σ:=by
 intro o h;cases o with
 |dead=>rfl
 |box e cs=>
  simp only[SO.pat]at h;simp only[SO.j0,SO.ev,ae.bO,map_cons,map_nil,aop,r9 hn cs h,length_map]
 |row nl e s l=>
  cases l with
  |x i=>
   have hl:(aS ((D.aY r τ).getD i .top)).map (AV.bO σ)=aS ((D.aY r τ).getD i .top):=by
    rw[←ec];refine dG _ (cH ?_);simp only[List.getD];cases hx:(D.aY r τ)[i]? with
    |none=>rfl
    |some a=>exact a8 hn a (mem_of_getElem? hx)
   simp only[SO.j0];rw[oj,oj]
   show bX nl e s (aS ((τ.getD i (.c .top)).ev r))=(bX nl e s (aS ((D.aY r τ).getD i .top))).bO σ;rw[←sq];generalize aS ((D.aY r τ).getD i .top)=xs at hl;unfold bX
   split
   ·rfl
   ·simp only[ae.bO,hl]
  |_=>simp[SO.pat]at h
theorem abj{n k:Nat}{r:List AV}{τ:List D}{σ:Nat->Nat}(hn:AV.ad (D.aY r τ)=true):∀(v:SV),v.yV n k=true->(v.afB τ σ).ev r=(v.ev (D.aY r τ)).bO σ:=by
 intro v h;cases v with
 |aK cs=>simp only[SV.yV]at h;simp only[SV.afB,SV.ev,AV.bO,r9 hn cs h]
 |agg cs=>simp only[SV.yV]at h;simp only[SV.afB,SV.ev,AV.bO,r9 hn cs h]
 |_=>exact abk (n:=n) (k:=k) hn _ (by simpa only[SV.yV]using h)
theorem akk{n k:Nat}{l:List AV}(hn:AV.ad l=true):∀(v:SV),v.pat n k=true->(v.ev l).inScope k=true:=by
 intro v h;cases v with
 |d x=>
  cases x with
  |x i=>
   simp only[SV.ev,D.ev];refine bF _ ?_;simp only[List.getD];cases hx:l[i]? with
   |none=>rfl
   |some a=>exact a8 hn a (mem_of_getElem? hx)
  |c a=>exact bF _ h
  |_=>simp[SV.pat]at h
 |row m y=>
  cases y with
  |x i=>simp only[SV.pat,and_eq_true]at h;exact h.2
  |_=>simp[SV.pat]at h
 |ptr m f=>exact h
 |_=>simp[SV.pat]at h
theorem rE{n k:Nat}{l:List AV}(hn:AV.ad l=true):∀(vs:List SV),vs.all (SV.pat n k)=true->AV.cA k (SV.aY l vs)=true
 | [],_=>rfl
 |v::vs,h=>by
  simp only[all_cons,and_eq_true]at h;simp only[SV.aY,AV.cA,akk hn v h.1,rE hn vs h.2];rfl
theorem ary{k:Nat}{l:List AV}(h:AV.cA k l=true):(kG l).inScope k=true:=by
 unfold kG
 split
 ·simpa [AV.cA]using h
 ·exact h
theorem agv{n k:Nat}{l:List AV}(hn:AV.ad l=true):∀(o:SO),o.pat n k=true->(o.ev l).inScope k=true:=by
 intro o h;cases o with
 |dead=>rfl
 |box e cs=>
  simp only[SO.pat]at h;simp only[SO.ev,ae.inScope,AV.cA,Bool.and_true];exact ary (rE hn cs h)
 |row nl e s y=>
  cases y with
  |x i=>
   have:AV.cA k (aS (l.getD i .top))=true:=by
    refine ca _ (cH ?_);simp only[List.getD];cases hx:l[i]? with
    |none=>rfl
    |some a=>exact a8 hn a (mem_of_getElem? hx)
   rw[oj]
   show ae.inScope k (bX nl e s (aS (l.getD i .top)))=true;unfold bX
   split
   ·rfl
   ·exact this
  |_=>simp[SO.pat]at h
theorem qq{j:Nat}:∀{l:List Nat} {i n:Nat},posOf j l i=some n->i<=n/\l[n- i]? =some j
 | [],_,_,h=>by cases h
 |x::l,i,n,h=>by
  unfold posOf at h
  split at h
  ·cases h;rename_i hx;subst hx;exact⟨le_refl _,by simp⟩
  ·obtain⟨h1,h2⟩:=qq h;refine⟨by omega,?_⟩;rw[show n- i=(n- (i+1))+1 by omega,List.getElem?_cons_succ];exact h2
theorem w9{j:Nat}:∀{l:List Nat} {i:Nat},posOf j l i=none->j∉l
 | [],_,_=>by simp
 |x::l,i,h=>by
  unfold posOf at h
  split at h
  ·cases h
  ·rename_i hx;simp only[mem_cons,not_or];exact⟨λ h=>hx h.symm,w9 h⟩
theorem mN:∀{l:List Nat},tf l=true->∀{i j x:Nat},l[i]? =some x->l[j]? =some x->i=j
 | [],_,i,j,x,h,_=>by simp at h
 |y::l,h,i,j,x,h1,h2=>by
  simp only[tf,and_eq_true,Bool.not_eq_true',List.contains_eq_mem,decide_eq_false_iff_not]at h;cases i<;>cases j
  ·rfl
  ·simp at h1 h2;subst h1;exact(h.1 (mem_of_getElem? h2)).elim
  ·simp at h1 h2;subst h2;exact(h.1 (mem_of_getElem? h1)).elim
  ·simp at h1 h2;rw[mN h.2 h1 h2]
theorem uD{aj:List SO}{db:List Nat}{ps:List SO}:(fy aj db ps).length=aj.length+(ps.length- db.length):=by simp[fy]
theorem uC{aj:List SO}{db:List Nat}{ps:List SO}(hnd:tf db=true){i n:Nat}(hi:db[i]? =some n)(hn:n<aj.length)(hp:i<ps.length):(fy aj db ps)[n]? =ps[i]? :=by
 unfold fy;rw[getElem?_append_left (by simpa using hn),getElem?_map,List.getElem?_range hn];simp only[map_some];cases h:posOf n db 0 with
 |none=>exact(w9 h (mem_of_getElem? hi)).elim
 |some m=>
  obtain⟨_,h2⟩:=qq h;have:=mN hnd hi h2;simp only[Nat.sub_zero]at this;subst this;simp only[List.getD,getElem?_eq_getElem hp,getD_some]
theorem uB{aj:List SO}{db:List Nat}{ps:List SO}{n:Nat}(hn:n<aj.length)(h:n∉db):(fy aj db ps)[n]? =aj[n]? :=by
 unfold fy;rw[getElem?_append_left (by simpa using hn),getElem?_map,List.getElem?_range hn];simp only[map_some];cases hp:posOf n db 0 with
 |none=>simp only[List.getD,getElem?_eq_getElem hn,getD_some]
 |some m=>exact(h (mem_of_getElem? (qq hp).2)).elim
theorem acR{aj:List SO}{db:List Nat}{ps:List SO}{i:Nat}(hi:db.length<=i):(fy aj db ps)[aj.length+(i- db.length)]? =ps[i]? :=by
 unfold fy;rw[getElem?_append_right (by simp),length_map,List.length_range,List.getElem?_drop];congr 1;omega
theorem oJ{kn:List (Nat×Nat)}{τ:List D}{σ:Nat->Nat}{n k:Nat}:∀{ps vs:List SV} {ns:List Node},aak kn τ σ ps vs=some ns->ps.all (SV.pat n k)=true->∀{r:List AV} {G:List AV->Prop},AV.ad (D.aY r τ)=true->iX P ns r G->
  G r/\SV.aY r vs=AV.pv σ (SV.aY (D.aY r τ) ps)
 | [],[],ns,h,_,r,G,_,hw=>by cases h;exact⟨hw,rfl⟩
 |p::ps,v::vs,ns,h,hp,r,G,hn,hw=>by
  simp only[aak]at h
  split at h
  ·rename_i a b ha hb;cases h;simp only[all_cons,and_eq_true]at hp;rw[ch]at hw
   have hv:iX P b r (λ r'=>G r')/\v.ev r=(p.ev (D.aY r τ)).bO σ:=by
    unfold avT at ha
    split at ha
    ·rename_i i
     split at ha
     ·rename_i ms d hd
      split at ha
      ·rename_i hbq;cases ha;obtain⟨h1,h2⟩:=jM hd hw;refine⟨h1,?_⟩;rw[←h2,←D.beq_eq _ _ hbq];simp only[SV.ev,D.ev];rw[om hn,sq]
      ·cases ha
     ·cases ha
    ·split at ha
     ·rename_i hbq;cases ha;refine⟨hw,?_⟩;rw[←SV.beq_eq _ _ hbq,abk hn p hp.1]
     ·cases ha
   obtain⟨h3,h4⟩:=oJ hb hp.2 hn hv.1;exact⟨h3,by simp only[SV.aY,AV.pv,hv.2,h4]⟩
  ·cases h
 | [],_::_,_,h,_,_,_,_,_=>by simp[aak]at h
 |_::_,[],_,h,_,_,_,_,_=>by simp[aak]at h
theorem lJ{s:SS}{τ:List D}{σ:Nat->Nat}:∀{ps:List SO} {n:Nat},adr s τ σ n ps=true->∀i p,ps[i]? =some p->s.aj[σ (n+i)]? =some (p.j0 τ σ)
 | [],_,_,i,p,hi=>by simp at hi
 |q::ps,n,h,i,p,hi=>by
  simp only[adr,and_eq_true]at h;cases i with
  |zero=>
   simp at hi;subst hi;have h1:=h.1
   split at h1
   ·rename_i o ho;rw[add_zero,ho,SO.beq_eq h1]
   ·cases h1
  |succ i=>
   simp at hi;have:=lJ h.2 i p hi;rw[←this];congr 2;omega
theorem wU{r r':List AV}{ks:List (Nat×D×D)}(hk:∀q∈ks,q.2.1.ev r'=q.2.1.ev r/\(aS (q.2.1.ev r)).length=(aS (q.2.2.ev r')).length):
  ∀(v:SV),v.ev r'=v.ev r->(aaS ks v).ev r'=v.ev r:=by
 induction ks with
 |nil=>intro v h;exact h
 |cons q ks ih=>
  intro v h;simp only[aaS,foldl_cons];obtain⟨h1,h2⟩:=hk q (by simp)
  have key:(v.rew q.1 q.2.1 q.2.2).ev r'=v.ev r:=by
   rw[←h];cases v with
   |row m l=>
    simp only[SV.rew]
    split
    ·rename_i hc;have:=D.beq_eq _ _ hc.2;subst this;simp only[SV.ev,h1,h2]
    ·rfl
   |rp m l i f=>
    simp only[SV.rew]
    split
    ·rename_i hc;have:=D.beq_eq _ _ hc.2;subst this;simp only[SV.ev,h1,h2]
    ·rfl
   |_=>rfl
  have h3:∀(ks:List (Nat×D×D)),(∀q∈ks,q.2.1.ev r'=q.2.1.ev r/\(aS (q.2.1.ev r)).length=(aS (q.2.2.ev r')).length)->∀w:SV,w.ev r'=v.ev r->(ks.foldl (λ v q=>v.rew q.1 q.2.1 q.2.2) w).ev r'=v.ev r:=by
   intro ks
   induction ks with
   |nil=>intro _ w hw;exact hw
   |cons q ks ih2=>
    intro hk w hw;simp only[foldl_cons];refine ih2 (λ q hq=>hk q (by simp[hq])) _ ?_;obtain⟨h1,h2⟩:=hk q (by simp);rw[←hw];cases w with
    |row m l=>
     simp only[SV.rew]
     split
     ·rename_i hc;have:=D.beq_eq _ _ hc.2;subst this;simp only[SV.ev,h1,h2]
     ·rfl
    |rp m l i f=>
     simp only[SV.rew]
     split
     ·rename_i hc;have:=D.beq_eq _ _ hc.2;subst this;simp only[SV.ev,h1,h2]
     ·rfl
    |_=>rfl
  exact h3 ks (λ q hq=>hk q (by simp[hq])) _ key
theorem qP:∀{ks:List (Nat×D×D)} {r:List AV} {G:List AV->Prop},iX P (ks.map λ q=> .aP (.eql q.2.1 q.2.2)) r G->G r/\∀q∈ks,(aS (q.2.1.ev r)).length=(aS (q.2.2.ev r)).length
 | [],r,G,h=>⟨h,by simp⟩
 |q::ks,r,G,h=>by
  simp only[map_cons,iX,l4.wp]at h;obtain⟨h1,h2⟩:=h;obtain⟨h3,h4⟩:=qP h2;refine⟨h3,λ q' hq'=> ?_⟩;rcases List.mem_cons.1 hq' with rfl|hq'
  ·exact h1
  ·exact h4 q' hq'
theorem ac7{g:jw}{τ:List D}{σ:Nat->Nat}{nv n:Nat}(h:D.cls n τ=true):∀q∈rZ g τ σ nv,q.2.1.cl n=true:=by
 intro q hq;simp only[rZ,List.mem_filterMap]at hq;obtain⟨m,_,hm⟩:=hq
 split at hm
 ·rename_i i _ _;cases hm
  have key:∀i,(τ.getD i (.c .top)).cl n=true:=by
   intro i;simp only[List.getD];cases hx:τ[i]? with
   |none=>rfl
   |some d=>exact abN.1 h d (mem_of_getElem? hx)
  exact key _
 ·cases hm
theorem adv{r:List AV}{nv m:Nat}(hl:r.length=nv){outs:List AV}(ho:outs.length=m)(more:List AV):D.aY (r++ .aK outs::more) (nX nv m)=outs:=by
 rw[D.aJ,nX,map_map];apply ext_getElem
 ·simp[ho]
 ·intro i h1 h2;simp only[getElem_map,getElem_range,Function.comp_apply,D.ev]
  have:(r++AV.aK outs::more).getD nv .top= .aK outs:=by
   rw[List.getD,getElem?_append_right (by omega),hl,Nat.sub_self];rfl
  rw[this];simp only[ajG,List.getD,getElem?_eq_getElem h2,getD_some]
theorem ajP{s:SS}{f:FuncId}{gs:List jw}{args:List aE}{g:jw}{q}(h:wR s f (args.map (cE s)) g=some q):dE P (.ia gs f args) s q:=by
 intro r hl hc hr gf K hk;unfold wR at h
 split at h
 ·rename_i τ db hm;simp only at h
  split at h
  ·rename_i ns lW
   split at h
   ·rename_i my;obtain⟨g1,g2,g3,g4,g5,g6,g7⟩:=my;simp only[Option.some.injEq]at h;subst h;simp only[jw.ok,and_eq_true,decide_eq_true_eq]at g1;obtain⟨⟨⟨⟨p1,p2⟩,p3⟩,p4⟩,p5⟩:=g1;have hσ:∀n,eZ s.aj db n=if n<db.length then db.getD n 0 else s.aj.length+(n- db.length):=λ _=>rfl
    have alh:D.cls s.nv τ=true:=by
     have gf:=gf;simp only at gf;rw[cW,and_eq_true]at gf;have:=gf.2;simp only[cu,PO.cl,and_eq_true,g7]at this;exact this.1
    have nU:AV.ad (D.aY r τ)=true:=D.cG hr τ (by rw[hl];exact alh);simp only at hk;rw[ch]at hk;obtain⟨hk,nF⟩:=oJ lW p1 nU hk;simp only[iX,PO.wp]at hk;obtain⟨outs,cQ,hlen,hon,hk⟩:=hk;obtain⟨hk,heq⟩:=qP hk;have hl1:(r++ [AV.aK outs]).length=s.nv+1:=by simp[hl]
    have adi:∀d:D,d.cl s.nv=true->d.ev (r++ [.aK outs])=d.ev r:=λ d hd=>D.cD d (by rw[hl];exact hd)
    have hE:D.aY (r++ [.aK outs]) (nX s.nv g.m)=outs:=adv hl hlen [];have aly:AV.ad (D.aY (r++ [.aK outs]) (nX s.nv g.m))=true:=by rw[hE];exact hon
    have hK:=hk (by
     funext t
     simp only[bT]
     rw[tl (f:=aaS (rZ g τ (eZ s.aj db) s.nv)) (by
      generalize rZ g τ (eZ s.aj db) s.nv=ks
      induction ks with
      |nil=>rfl
      |cons a ks ih=>simp only[aaS,foldl_cons,SV.rew]at ih⊢;exact ih)]
     refine wU (λ q hq=> ?_) _ (SV.cD _ (by rw[hl];exact SS.oP hc t));have lX:=ac7 alh q hq;exact⟨adi _ lX,by rw[←adi _ lX];exact heq q hq⟩)
    have hin:∀i,i<g.aj.length->∃n,db[i]? =some n/\eZ s.aj db i=n/\n<s.aj.length:=by
     intro i hi;have ej:i<db.length:=by omega
     refine⟨db[i],getElem?_eq_getElem ej,?_,?_⟩
     ·rw[hσ,if_pos ej];simp[List.getD,ej]
     ·have:=List.all_eq_true.1 g4 db[i] (List.getElem_mem ej);simpa using this
    have hO1:(g.aj.map (SO.ev (D.aY r τ))).length=g.aj.length:=by simp
    have hO2:(g.cq.map (SO.ev outs)).length=g.cq.length:=by simp
    have mW:(g.res.afB (nX s.nv g.m) (eZ s.aj db)).ev (r++ [.aK outs])=(g.res.ev outs).bO (eZ s.aj db):=by
     rw[abj aly _ p4,hE]
    have alz:bz {s with env:=s.env.map (λ p=>(p.1,aaS (rZ g τ (eZ s.aj db) s.nv) p.2)),aj:=fy s.aj db (g.cq.map (SO.j0 (nX s.nv g.m) (eZ s.aj db))),nv:=s.nv+1} (r++ [.aK outs])=
     (fy s.aj db (g.cq.map (SO.j0 (nX s.nv g.m) (eZ s.aj db)))).map (SO.ev (r++ [.aK outs])):=rfl
    rw[mW,alz]at hK;refine⟨_,_,?_,hK⟩
    have:=js.frame (O:=bz s r) (pC:=(fy s.aj db (g.cq.map (SO.j0 (nX s.nv g.m) (eZ s.aj db)))).map (SO.ev (r++ [.aK outs]))) cQ (eZ s.aj db)
     (λ i hi=>by rw[hO1]at hi;obtain⟨n,_,h2,h3⟩:=hin i hi;rw[h2,dB];exact h3)
     (λ i hi=>by
      rw[hO1]at hi;have hp:g.aj[i]? =some g.aj[i]:=getElem?_eq_getElem hi;have h1:=lJ g6 i _ hp;rw[zero_add]at h1;simp only[bz,getElem?_map,h1,hp,map_some];rw[sa nU _ (List.all_eq_true.1 p2 _ (mem_of_getElem? hp))])
     (λ i j hi hj he=>by
      rw[hO1]at hi hj;obtain⟨n,a1,a2,_⟩:=hin i hi;obtain⟨m,b1,b2,_⟩:=hin j hj;rw[a2,b2]at he;subst he;exact mN g3 a1 b1)
     (λ i hi=>by rw[hO1]at hi;rw[hσ,if_neg (by omega),dB,hO1,g2])
     (λ a ha=>by rw[hO1];exact bP (rE nU _ p1) a ha)
     (λ ob ho=>by
      rw[hO1];obtain⟨o,hom,rfl⟩:=List.mem_map.1 ho;exact agv nU o (List.all_eq_true.1 p2 _ hom))
     (by rw[length_map,uD,dB,hO1,hO2,length_map,g2])
     (λ i hi=>by
      rw[hO2]at hi;have hp:g.cq[i]? =some g.cq[i]:=getElem?_eq_getElem hi
      have hev:((g.cq[i]).j0 (nX s.nv g.m) (eZ s.aj db)).ev (r++ [.aK outs])=((g.cq[i]).ev outs).bO (eZ s.aj db):=by
       rw[sa aly _ (List.all_eq_true.1 p3 _ (mem_of_getElem? hp)),hE]
      have hg:(fy s.aj db (g.cq.map (SO.j0 (nX s.nv g.m) (eZ s.aj db))))[eZ s.aj db i]? =some ((g.cq[i]).j0 (nX s.nv g.m) (eZ s.aj db)):=by
       by_cases au:i<g.aj.length
       ·obtain⟨n,a1,a2,a3⟩:=hin i au;rw[a2,uC g3 a1 a3 (by simpa using hi),getElem?_map,hp];rfl
       ·rw[hσ,if_neg (by omega),acR (by omega),getElem?_map,hp];rfl
      rw[getElem?_map,hg,getElem?_map,hp];simp only[map_some,hev])
     (λ n hn cd=>by
      rw[dB]at hn
      have:n∉db:=λ lV=>by
       obtain⟨i,hi⟩:=List.getElem?_of_mem lV;have hil:=(List.getElem?_eq_some_iff.1 hi).1;obtain⟨n',a1,a2,_⟩:=hin i (by omega);rw[hi]at a1;cases a1;exact cd i (by rw[hO1];omega) a2
      rw[getElem?_map,uB hn this];simp only[bz,getElem?_map];cases ho:s.aj[n]? with
      |none=>rfl
      |some o=>
       simp only[map_some];rw[SO.cD (r':=[.aK outs]) o (by rw[hl];exact SS.qU hc (mem_of_getElem? ho))])
    have ha:args.map (aE.ev (bT s r))=(SV.aY (D.aY r τ) g.args).map (AV.bO (eZ s.aj db)):=by
     rw[←ec,←nF,SV.aJ,map_map];apply map_congr_left;intro x _;simp only[Function.comp_apply,aT]
    rw[ha];exact this
   ·cases h
  ·cases h
 ·cases h
theorem aa1{n:Nat}{l:List AV}(hn:AV.ad l=true):∀(v:SV),v.pat n 0=true->(v.ev l).ag=true:=by
 intro v h;cases v with
 |d x=>
  cases x with
  |x i=>
   simp only[SV.ev,D.ev,List.getD];cases hx:l[i]? with
   |none=>rfl
   |some a=>exact a8 hn a (mem_of_getElem? hx)
  |c a=>exact h
  |_=>simp[SV.pat]at h
 |row m y=>cases y<;>simp[SV.pat]at h
 |ptr m f=>simp[SV.pat]at h
 |_=>simp[SV.pat]at h
theorem vS{n:Nat}{l:List AV}(hn:AV.ad l=true):∀(vs:List SV),vs.all (SV.pat n 0)=true->AV.ad (SV.aY l vs)=true
 | [],_=>rfl
 |v::vs,h=>by
  simp only[all_cons,and_eq_true]at h;simp only[SV.aY,AV.ad,aa1 hn v h.1,vS hn vs h.2];rfl
theorem anU{n:Nat}{l:List AV}(hn:AV.ad l=true):∀(v:SV),v.yV n 0=true->(v.ev l).ag=true:=by
 intro v h;cases v with
 |aK cs=>exact vS hn cs h
 |agg cs=>exact vS hn cs h
 |_=>exact aa1 (n:=n) hn _ h
theorem arz{l:List AV}(h:AV.ad l=true):(kG l).ag=true:=by
 unfold kG
 split
 ·simpa [AV.ad]using h
 ·exact h
theorem vT{n:Nat}{l:List AV}(hn:AV.ad l=true):∀(o:SO),o.pat n 0=true->(o.ev l).ad=true:=by
 intro o h;cases o with
 |dead=>rfl
 |box e cs=>
  simp only[SO.pat]at h;simp only[SO.ev,ae.ad,AV.ad,Bool.and_true];exact arz (vS hn cs h)
 |row nl e s y=>
  cases y with
  |x i=>
   have:AV.ad (aS (l.getD i .top))=true:=by
    refine cH ?_;simp only[List.getD];cases hx:l[i]? with
    |none=>rfl
    |some a=>exact a8 hn a (mem_of_getElem? hx)
   rw[oj]
   show ae.ad (bX nl e s (aS (l.getD i .top)))=true;unfold bX
   split
   ·rfl
   ·exact this
  |_=>simp[SO.pat]at h
theorem ahZ{a:AV}(h:a.ag=true):a.one=true:=by
 cases a<;>first|exact h|(simp[AV.ag]at h;done)
theorem afb{a:AV}(h:a.ag=true):refs a= []:=by
 cases a<;>first|rfl|(simp[AV.ag]at h;done)
theorem anT{n:Nat}{l:List AV}(hn:AV.ad l=true):∀(v:SV),v.pat n 1=true->(v.ev l).one=true:=by
 intro v h;cases v with
 |d x=>
  refine ahZ (aa1 (n:=n) hn (.d x) ?_);cases x<;>first|exact h|(simp[SV.pat]at h;done)
 |row m y=>
  cases y with
  |x i=>simp only[SV.pat,and_eq_true,decide_eq_true_eq]at h;simp only[SV.ev,AV.one,beq_iff_eq];omega
  |_=>simp[SV.pat]at h
 |ptr m f=>simp only[SV.pat,decide_eq_true_eq]at h;simp only[SV.ev,AV.one,beq_iff_eq];omega
 |_=>simp[SV.pat]at h
theorem zy{n k:Nat}{l:List AV}(hn:AV.ad l=true):∀(vs:List SV),vs.all (SV.pat n 1)=true->(vs.map ((AV.bO λ _=>k)∘SV.ev l)).flatMap refs=List.replicate (vs.filter SV.isR).length k
 | [],_=>rfl
 |v::vs,h=>by
  simp only[all_cons,and_eq_true]at h;simp only[map_cons,List.flatMap_cons,Function.comp_apply,zy hn vs h.2];cases v with
  |d x=>
   have:(SV.ev l (.d x)).ag=true:=aa1 (n:=n) hn (.d x) (by cases x<;>first|exact h.1|(simp[SV.pat]at h;done));rw[cO _ this,afb this];rfl
  |row m y=>rfl
  |ptr m f=>rfl
  |_=>simp[SV.pat]at h
theorem aht{s:SS}{f:FuncId}{gs:List jw}{args:List aE}{g:jw}{q}(xW:g.one=true)(h:wR s f (args.map (cE s)) g=some q):dE P (.jd gs f args) s q:=by
 intro r hl hc hr gf K hk;unfold wR at h
 split at h
 ·rename_i τ db hm;simp only at h
  split at h
  ·rename_i ns lW
   split at h
   ·rename_i my;obtain⟨g1,g2,g3,g4,g5,g6,g7⟩:=my;simp only[Option.some.injEq]at h;subst h;simp only[jw.ok,and_eq_true,decide_eq_true_eq]at g1;obtain⟨⟨⟨⟨p1,p2⟩,p3⟩,p4⟩,p5⟩:=g1;have hσ:∀n,eZ s.aj db n=if n<db.length then db.getD n 0 else s.aj.length+(n- db.length):=λ _=>rfl
    have alh:D.cls s.nv τ=true:=by
     have gf:=gf;simp only at gf;rw[cW,and_eq_true]at gf;have:=gf.2;simp only[cu,PO.cl,and_eq_true,g7]at this;exact this.1
    have nU:AV.ad (D.aY r τ)=true:=D.cG hr τ (by rw[hl];exact alh);simp only at hk;rw[ch]at hk;obtain⟨hk,nF⟩:=oJ lW p1 nU hk;simp only[iX,PO.wp]at hk;obtain⟨outs,cQ,hlen,hon,hk⟩:=hk;obtain⟨hk,heq⟩:=qP hk;have hl1:(r++ [AV.aK outs]).length=s.nv+1:=by simp[hl]
    have adi:∀d:D,d.cl s.nv=true->d.ev (r++ [.aK outs])=d.ev r:=λ d hd=>D.cD d (by rw[hl];exact hd)
    have hE:D.aY (r++ [.aK outs]) (nX s.nv g.m)=outs:=adv hl hlen [];have aly:AV.ad (D.aY (r++ [.aK outs]) (nX s.nv g.m))=true:=by rw[hE];exact hon
    have hK:=hk (by
     funext t
     simp only[bT]
     rw[tl (f:=aaS (rZ g τ (eZ s.aj db) s.nv)) (by
      generalize rZ g τ (eZ s.aj db) s.nv=ks
      induction ks with
      |nil=>rfl
      |cons a ks ih=>simp only[aaS,foldl_cons,SV.rew]at ih⊢;exact ih)]
     refine wU (λ q hq=> ?_) _ (SV.cD _ (by rw[hl];exact SS.oP hc t));have lX:=ac7 alh q hq;exact⟨adi _ lX,by rw[←adi _ lX];exact heq q hq⟩)
    have hin:∀i,i<g.aj.length->∃n,db[i]? =some n/\eZ s.aj db i=n/\n<s.aj.length:=by
     intro i hi;have ej:i<db.length:=by omega
     refine⟨db[i],getElem?_eq_getElem ej,?_,?_⟩
     ·rw[hσ,if_pos ej];simp[List.getD,ej]
     ·have:=List.all_eq_true.1 g4 db[i] (List.getElem_mem ej);simpa using this
    have hO1:(g.aj.map (SO.ev (D.aY r τ))).length=g.aj.length:=by simp
    have hO2:(g.cq.map (SO.ev outs)).length=g.cq.length:=by simp
    have mW:(g.res.afB (nX s.nv g.m) (eZ s.aj db)).ev (r++ [.aK outs])=(g.res.ev outs).bO (eZ s.aj db):=by
     rw[abj aly _ p4,hE]
    have alz:bz {s with env:=s.env.map (λ p=>(p.1,aaS (rZ g τ (eZ s.aj db) s.nv) p.2)),aj:=fy s.aj db (g.cq.map (SO.j0 (nX s.nv g.m) (eZ s.aj db))),nv:=s.nv+1} (r++ [.aK outs])=
     (fy s.aj db (g.cq.map (SO.j0 (nX s.nv g.m) (eZ s.aj db)))).map (SO.ev (r++ [.aK outs])):=rfl
    rw[mW,alz]at hK;simp only[jw.one,and_eq_true,decide_eq_true_eq]at xW;obtain⟨⟨⟨⟨⟨e1,e2⟩,e3⟩,e4⟩,e5⟩,e6⟩:=xW;obtain⟨o,ho⟩:∃o,g.aj= [o]:=List.length_eq_one_iff.1 e1;obtain⟨o',ho'⟩:∃o,g.cq= [o]:=List.length_eq_one_iff.1 e2;obtain⟨n,a1,a2,a3⟩:=hin 0 (by omega);have ap1:(g.res.ev outs).ag=true:=anU hon _ e5;have alN:∀v∈g.args,(v.ev (D.aY r τ)).one=true:=λ v hv=>anT nU v (by have:=List.all_eq_true.1 p1 v hv;rwa [e1]at this)
    have ha:args.map (aE.ev (bT s r))=(SV.aY (D.aY r τ) g.args).map (AV.bO λ _=>n):=by
     have h1:args.map (aE.ev (bT s r))=(SV.aY (D.aY r τ) g.args).map (AV.bO (eZ s.aj db)):=by
      rw[←ec,←nF,SV.aJ,map_map];apply map_congr_left;intro x _;simp only[Function.comp_apply,aT]
     rw[h1,SV.aJ,map_map,map_map];exact map_congr_left λ v hv=>agy a2 (alN v hv)
    refine⟨n,SV.aY (D.aY r τ) g.args,o.ev (D.aY r τ),g.res.ev outs,o'.ev outs,ha,?_,?_,?_,?_,ap1,?_,?_,?_⟩
    ·rw[SV.aJ,List.all_map];exact List.all_eq_true.2 λ v hv=>alN v hv
    ·have h1:(args.flatMap λ x=>refs (x.ev (bT s r)))=(args.map (aE.ev (bT s r))).flatMap refs:=by rw[List.flatMap_map]
     rw[h1,ha,SV.aJ,map_map,zy (k:=n) nU g.args (by rw[e1]at p1;exact p1),e6];rfl
    ·have h1:=lJ g6 0 o (by rw[ho];rfl);rw[zero_add,a2]at h1;simp only[bz,getElem?_map,h1,map_some];rw[sa nU o (by have:=List.all_eq_true.1 p2 o (by rw[ho];simp);exact this),b9 (vT nU o (List.all_eq_true.1 e3 o (by rw[ho];simp)))]
    ·exact vT nU o (List.all_eq_true.1 e3 o (by rw[ho];simp))
    ·exact vT hon o' (List.all_eq_true.1 e4 o' (by rw[ho'];simp))
    ·have:=cQ;unfold sF at this;rw[ho,ho']at this;exact this
    ·have agR:db.length=1:=by rw[g2,e1]
     have hO:(fy s.aj db (g.cq.map (SO.j0 (nX s.nv g.m) (eZ s.aj db)))).map (SO.ev (r++ [.aK outs]))=(bz s r).set n (o'.ev outs):=by
      apply ext_getElem?;intro j;by_cases hj:j=n
      ·subst hj;rw[getElem?_map,uC g3 a1 a3 (by rw[ho'];simp),getElem?_map,ho',List.getElem?_set_self (by rw[dB];exact a3)];simp only[List.getElem?_cons_zero,map_some];rw[sa aly o' (by have:=List.all_eq_true.1 p3 o' (by rw[ho'];simp);exact this),hE,b9 (vT hon o' (List.all_eq_true.1 e4 o' (by rw[ho'];simp)))]
      ·rw[getElem?_set_ne (λ h=>hj h.symm)];by_cases au:j<s.aj.length
       ·rw[getElem?_map,uB au (λ lV=>by
          obtain⟨i,hi⟩:=List.getElem?_of_mem lV;have hil:=(List.getElem?_eq_some_iff.1 hi).1;have:i=0:=by omega
          subst this;rw[a1]at hi;cases hi;exact hj rfl)]
        simp only[bz,getElem?_map];cases hx:s.aj[j]? with
        |none=>rfl
        |some ob=>
         simp only[map_some];rw[SO.cD (r':=[.aK outs]) ob (by rw[hl];exact SS.qU hc (mem_of_getElem? hx))]
       ·rw[getElem?_eq_none (by rw[length_map,uD,length_map,ho',agR];simp only[List.length_cons,length_nil];omega),getElem?_eq_none (by rw[dB];omega)]
     rw[hO,cO _ ap1]at hK;exact hK
   ·cases h
  ·cases h
 ·cases h
theorem zt{s:SS}{f:FuncId}{gs:List jw}{args:List aE}:∀{ls:List jw} {q},oi s f (args.map (cE s)) ls=some q->dE P (.ia gs f args) s q
 | [],_,h=>by cases h
 |g::ls,q,h=>by
  unfold oi at h
  split at h
  ·rename_i q' hq;cases h;exact ajP hq
  ·exact zt h
theorem qj{s:SS}{f:FuncId}{gs:List jw}{args:List aE}:∀{ls:List jw} {q},oi s f (args.map (cE s)) (ls.filter jw.one)=some q->dE P (.jd gs f args) s q
 | [],_,h=>by cases h
 |g::ls,q,h=>by
  by_cases hg:g.one=true
  ·rw[List.filter_cons_of_pos hg]at h;unfold oi at h
   split at h
   ·rename_i q' hq;cases h;exact aht hg hq
   ·exact qj h
  ·rw[List.filter_cons_of_neg hg]at h;exact qj h
theorem api{s:SS}{a:aE}{cs:List SV}{i:Nat}{v:SV}(ha:cE s a= .aK cs)(hi:cs[i]? =some v):dE P (.ext a i) s ([],v,s):=by
 intro r hl hc hr gf K hk;have hG:=hk rfl
 show(match a.ev (bT s r)with| .aK vs=>i<vs.length/\K (vs.getD i .top) (bz s r)|_=>False);rw[←aT,ha];simp only[SV.ev,SV.aJ];have au:=(List.getElem?_eq_some_iff.1 hi).1;refine⟨by simpa using au,?_⟩;simp only[List.getD,getElem?_map,hi,map_some,getD_some];exact hG
end
end Go.Ab
namespace Go.Ab
section
variable {P:Program}
theorem ama{s:SS}{off:Nat}{a:aE}{q}(h:aer s off (cE s a)=some q):dE P (.dz off a) s q:=by
 intro r hl hc hr gf K hk;unfold aer at h
 split at h
 ·rename_i k f ha
  split at h
  ·rename_i q' hb;cases h;obtain⟨e,cs⟩:=q';rw[o4,←aT,ha];simp only[SV.ev,nf];rw[gH (iT hb) r];simp only[SO.ev,gC,k1];exact⟨rfl,hk rfl⟩
  ·cases h
 ·rename_i k l i f ha
  split at h
  ·rename_i q' jK;obtain⟨e,sz⟩:=q';cases h;rw[o4,←aT,ha];simp only[SV.ev,nf];have:=gH (eC jK) r;simp only[SO.ev]at this;rw[this,gC,k1];exact⟨rfl,hk rfl⟩
  ·rename_i q' jK;obtain⟨e,sz⟩:=q';cases h;rw[o4,←aT,ha];simp only[SV.ev,nf];simp only[iX,l4.wp,afD]at hk
   split at hk
   ·obtain⟨h0,h1,hk⟩:=hk;rcases eU (eC jK) r with h5|⟨h5,h6,_⟩
    ·rw[h5,gC,k1];exact⟨rfl,hk trivial⟩
    ·rw[h6]at h1;simp at h1;omega
   ·exact hk.elim
  ·cases h
 ·rename_i y f ha;cases h;rw[o4,←aT,ha];simp only[SV.ev,oL,k1];exact hk rfl
 ·rename_i y ha;cases h;have h1:=kd (K:=K) hl hc hk;simp only[PO.wp,aiH]at h1;rw[o4,←aT,ha];simp only[SV.ev]
  split at h1
  ·rename_i z f hy;rw[hy,oL,k1];exact h1
  ·exact h1.elim
 ·cases h
theorem asl{s:SS}{off:Nat}{n:Option Nat}{a:aE}{q}(h:aqw s off n (cE s a)=some q):dE P (.yg off n a) s q:=by
 intro r hl hc hr gf K hk
 have hb:∀{A:AV},(cE s a).ev r=A->(A.isAgg=true/\off+n.getD 1<=A.cells.length/\K (dH n A off) (bz s r))->wpOp P (.yg off n a) (bT s r) (bz s r) K:=by
  intro A hA h;rw[apO,←aT,hA];exact h
 unfold aqw at h
 split at h
 ·rename_i cs ha
  split at h
  ·split at h
   ·rename_i v hv;cases h;have au:=(List.getElem?_eq_some_iff.1 hv).1;refine hb (A:= .agg (SV.aY r cs)) (by rw[ha];rfl) ⟨rfl,by simp only[AV.cells,SV.aJ,length_map,getD_none];omega,?_⟩;rw[fZ];simp only[AV.cells,SV.aJ,List.getD,getElem?_map,hv];exact hk rfl
   ·cases h
  ·rename_i m
   split at h
   ·rename_i h1;cases h;have h2:=xn (K:=K) hl hc hk;refine hb (A:= .agg (SV.aY r cs)) (by rw[ha];rfl) ⟨rfl,by simp only[AV.cells,SV.aJ,length_map,getD_some];exact h1,?_⟩
    have h3:dH (some m) (.agg (SV.aY r cs)) off= .agg (SV.aY r ((cs.drop off).take m)):=by
     unfold dH;simp only
     split
     ·rename_i h4;obtain⟨rfl,_,h5⟩:=h4;simp only[AV.cells,SV.aJ,length_map]at h5;rw[List.drop_zero,List.take_of_length_le (by omega)]
     ·simp only[AV.cells,SV.aJ,map_take,map_drop]
    rw[h3];exact h2
   ·cases h
 ·rename_i l ha
  split at h
  ·split at h
   ·rename_i d hd;cases h;have au:=(List.getElem?_eq_some_iff.1 hd).1;refine hb (A:= .agg (D.aY r l)) (by rw[ha];rfl) ⟨rfl,by simp only[AV.cells,D.aJ,length_map,getD_none];omega,?_⟩;rw[fZ];simp only[AV.cells,D.aJ,List.getD,getElem?_map,hd];exact hk rfl
   ·cases h
  ·cases h;exact hb (A:=(D.agg l).ev r) (by rw[ha];rfl) (kd (K:=K) hl hc hk)
 ·rename_i x _ ha;cases h;exact hb (A:=x.ev r) (by rw[ha];rfl) (kd (K:=K) hl hc hk)
 ·cases h
theorem alg{s:SS}{m:Nat}{a b:aE}{q}(h:aeq s m (cE s a) (cE s b)=some q):dE P (.kf m a b) s q:=by
 intro r hl hc hr gf K hk;unfold aeq at h
 split at h
 ·rename_i l i ha hb;cases h;rw[aa6,←aT,←aT,ha,hb];simp only[SV.ev];simp only[iX,PO.wp,lL]at hk
  split at hk
  ·rename_i xs _ j h1 h2;rw[h1,h2,z8,k1];obtain⟨q1,q2,q3,q4⟩:=hk;refine⟨q1,q2,q3,?_⟩;have h3:bT {s with nv:=s.nv+1} (r++ [xs.getD j.toNat .top])=bT s r:=dX (s:=s) hl hc;have h4:=q4 h3;have h5:bz {s with nv:=s.nv+1} (r++ [xs.getD j.toNat .top])=bz s r:=eW (s:=s) hl hc;rw[h5]at h4;simp only[SV.ev,D.ev,bq hl]at h4;exact h4
  ·exact hk.elim
 ·rename_i k l i ha hb
  split at h
  ·rename_i nl e sz jK
   split at h
   ·rename_i lj;subst lj;cases h;rw[aa6,←aT,←aT,ha,hb];simp only[SV.ev];simp only[iX,l4.wp,afD]at hk
    split at hk
    ·rename_i j h2;obtain⟨q1,q2,q3⟩:=hk;rw[h2,xU];have h3:=q3 trivial;simp only[SV.ev,h2,idxOf]at h3;rcases eU (eC jK) r with h5|⟨h5,h6,_⟩
     ·rw[h5,gC,k1];exact⟨rfl,rfl,q1,q2,h3⟩
     ·rw[h6]at q2;simp at q2;omega
    ·exact hk.elim
   ·cases h
  ·cases h
 ·cases h
theorem uo{O:List ae}{y:AV}{M:List AV->Prop}(h:jV [] y M):jV O y M:=by
 unfold jV at*
 split at h
 ·exact h
 ·exact h
 ·simp[tb]at h
 ·exact h.elim
theorem asQ{s:SS}{t m bytes k:Nat}{a b:aE}{l y:D}{nl:Bool}{e sz:Nat}(ha:cE s a= .row k l)(jK:cur s k l=some (nl,e,sz))(ar3:e=t/\sz=m)
  (hy:cE s b= .d y∨∃k' l',cE s b= .row k' l'/\(cur s k' l').isSome=true/\y= .sl l'):
  dE P (.app t m bytes a b) s ([.op (.app m bytes l y)],.row k (.x s.nv),{s with aj:=s.aj.set k (.row nl e sz (.x s.nv)),nv:=s.nv+1}):=by
 intro r hl hc hr gf K hk;obtain⟨rfl,rfl⟩:=ar3;rw[akv,←aT,←aT,ha]
 have afG:∀{M:List AV->Prop},jV [] (y.ev r) M->jV (bz s r) ((cE s b).ev r) M:=by
  intro M h;rcases hy with hy|⟨k',l',hy,hcu,rfl⟩
  ·rw[hy];exact uo h
  ·rw[hy];obtain⟨⟨nl',e',sz'⟩,hq⟩:=Option.isSome_iff_exists.1 hcu;simp only[D.ev,wy]at h;simp only[SV.ev,sJ];rcases eU (eC hq) r with h5|⟨h5,h6,_⟩
   ·rw[h5,kF];exact⟨rfl,h⟩
   ·rw[h5,mq,h6];rw[h6]at h;exact⟨rfl,h⟩
 refine afG ?_;simp only[iX,PO.wp,agc]at hk;refine oY hk λ ys _ hK=>⟨hK.1,?_⟩
 obtain⟨_,mY,jj,hK⟩:=hK;generalize pO:aS (l.ev r)=xs at*;have iu:bT {s with aj:=s.aj.set k (.row nl e sz (.x s.nv)),nv:=s.nv+1} (r++ [.sl (xs++ys)])=bT s r:=dX (s:=s) hl hc;have hG:=hK iu;rw[vP ⟨_,rfl⟩ hl hc]at hG;simp only[SV.ev,D.ev,bq hl,bG,List.length_append]at hG;simp only[SV.ev,pO,ta,k1];have eH:=eC jK;have au:k<(bz s r).length:=by rw[dB];exact(List.getElem?_eq_some_iff.1 eH).1
 have alo:∀{ob},(bz s r)[k]? =some ob->(bz s r).set k ob=bz s r:=by
  intro ob h;apply ext_getElem?;intro j;rw[getElem?_set]
  split
  ·rename_i hj;subst hj;rw[h]
  ·rfl
 rcases eU eH r with h5|⟨h5,h6,h7⟩
 ·rw[h5,pO,kF];refine⟨rfl,rfl,rfl,mY,jj,?_⟩;cases nl with
  |false=>simpa only[SO.ev,D.ev,bq hl,bG]using hG
  |true=>
   have cr:xs≠[]:=by
    intro h0;have:=gH eH r;simp only[SO.ev,pO,h0,if_true]at this;rw[this]at h5;cases h5
   have alA:xs++ys≠[]:=by simp[cr]
   simp only[SO.ev,D.ev,bq hl,bG,if_neg alA]at hG;exact hG
 ·rw[pO]at h6;subst h6;subst h7;rw[h5,mq];simp only[length_nil,zero_add]at mY jj;refine⟨rfl,rfl,rfl,mY,jj,λ h0=> ?_,λ h0=> ?_⟩
  ·subst h0;simp only[SO.ev,D.ev,bq hl,bG,append_nil,if_true,length_nil,add_zero]at hG;rw[alo h5]at hG;exact hG
  ·simp only[SO.ev,D.ev,bq hl,bG,nil_append,if_neg h0,length_nil,zero_add]at hG;exact hG
theorem apA{s:SS}{t m bytes:Nat}{a b:aE}{y:D}(ha:cE s a= .d (.c .aQ))
  (hy:cE s b= .d y∨∃k' l',cE s b= .row k' l'/\(cur s k' l').isSome=true/\y= .sl l'):
  dE P (.app t m bytes a b) s ([.op (.app m bytes (.c (.sl [])) y),.aP (.ne (.x s.nv))],.row s.aj.length (.x s.nv),{s with aj:=s.aj++ [.row false t m (.x s.nv)],nv:=s.nv+1}):=by
 intro r hl hc hr gf K hk;rw[akv,←aT,←aT,ha]
 have afG:∀{M:List AV->Prop},jV [] (y.ev r) M->jV (bz s r) ((cE s b).ev r) M:=by
  intro M h;rcases hy with hy|⟨k',l',hy,hcu,rfl⟩
  ·rw[hy];exact uo h
  ·rw[hy];obtain⟨⟨nl',e',sz'⟩,hq⟩:=Option.isSome_iff_exists.1 hcu;simp only[D.ev,wy]at h;simp only[SV.ev,sJ];rcases eU (eC hq) r with h5|⟨h5,h6,_⟩
   ·rw[h5,kF];exact⟨rfl,h⟩
   ·rw[h5,mq,h6];rw[h6]at h;exact⟨rfl,h⟩
 refine afG ?_;simp only[iX,PO.wp,agc,D.ev,bG,length_nil,zero_add,nil_append]at hk;refine oY hk λ ys _ hK=>⟨hK.1,?_⟩
 obtain⟨_,mY,jj,cr,hK⟩:=hK;simp only[D.ev,bq hl,bG]at cr;have iu:bT {s with aj:=s.aj++ [.row false t m (.x s.nv)],nv:=s.nv+1} (r++ [.sl ys])=bT s r:=dX (s:=s) hl hc;have hG:=hK iu
 have hO:bz {s with aj:=s.aj++ [.row false t m (.x s.nv)],nv:=s.nv+1} (r++ [.sl ys])=bz s r++ [.live t m ys]:=by
  simp only[bz,map_append,map_cons,map_nil,SO.ev,D.ev,bq hl,bG];congr 1;exact eW (s:=s) hl hc
 rw[hO]at hG;simp only[SV.ev,D.ev,bq hl,bG]at hG;simp only[SV.ev,D.ev,qv,k1,dB];exact⟨mY,jj,λ h0=>(cr h0).elim,λ _=>hG⟩
theorem asr{s:SS}{a:aE}{i j:Nat}(ha:cE s a= .d (.x j)):dE P (.ext a i) s ([.aP (.aK (.x j) i)],.d (.ext j i),s):=by
 intro r hl hc hr gf K hk;rw[apP,←aT,ha];simp only[iX,l4.wp,ahf]at hk;simp only[SV.ev]
 split at hk
 ·rename_i vs hv;rw[hv,ag1,k1];have h2:=hk.2 trivial;simp only[SV.ev,D.ev]at h2 hv;rw[hv]at h2;exact⟨hk.1,h2⟩
 ·exact hk.elim
theorem dy{s:SS}:∀{xs:List aE} {ns:List Node} {ds:List D} {b:Bool},gG s xs=some (ns,ds,b)->il s.nv ns=s.nv/\∀{r:List AV} {G:List AV->Prop},iX P ns r G->G r/\
  (AV.ad (D.aY r ds)=true->D.aY r ds=xs.map (λ x=>jl (bz s r) (x.ev (bT s r)))/\(b=false->AV.ad (xs.map (aE.ev (bT s r)))=true/\D.aY r ds=xs.map (aE.ev (bT s r))))
 | [],ns,ds,b,h=>by
   simp only[gG,Option.some.injEq,Prod.mk.injEq]at h;obtain⟨rfl,rfl,rfl⟩:=h;exact⟨rfl,λ hw=>⟨hw,λ _=>⟨rfl,λ _=>⟨rfl,rfl⟩⟩⟩⟩
 |x::xs,ns,ds,b,h=>by
  simp only[gG]at h
  split at h
  ·rename_i ns1 ds1 b1 h1;obtain⟨hn,ih⟩:=dy h1
   split at h
   ·rename_i k l hx
    split at h
    ·rename_i q jK;obtain⟨nl,e,sz⟩:=q;cases h;refine⟨hn,λ {r G} hw=> ?_⟩;obtain⟨h2,h3⟩:=ih hw;refine⟨h2,λ cd=> ?_⟩;simp only[D.aY,AV.ad,and_eq_true]at cd;obtain⟨h3,_⟩:=h3 cd.2;refine⟨?_,by simp⟩;simp only[D.aY,map_cons,h3,List.cons.injEq,and_true];rw[←aT,hx];simp only[SV.ev,D.ev,jl];rcases eU (eC jK) r with h5|⟨h5,h6,_⟩
     ·rw[h5];simp
     ·rw[h5,h6];simp
    ·cases h
   ·split at h
    ·rename_i ms d hd;cases h;refine⟨by rw[iJ,yC hd,hn],λ {r G} hw=> ?_⟩;rw[ch]at hw;obtain⟨hw,he⟩:=jM hd hw;obtain⟨h2,h3⟩:=ih hw;rw[aT]at he;refine⟨h2,λ cd=> ?_⟩;simp only[D.aY,AV.ad,and_eq_true]at cd;obtain⟨h3,h4⟩:=h3 cd.2;rw[he]at cd;refine⟨?_,λ hb=> ?_⟩
     ·simp only[D.aY,map_cons,h3,he,aai cd.1]
     ·obtain⟨g1,g2⟩:=h4 hb;simp only[D.aY,map_cons,AV.ad,g1,g2,he,cd.1,Bool.and_true,and_self]
    ·cases h
  ·cases h
theorem iv{s:SS}{r:List AV}(hl:r.length=s.nv)(hc:s.cl=true){ns:List Node}(hn:il s.nv ns=s.nv){o:PO}{K:KT}(h:iX P (nx s ns o).1 r (λ r'=>bT (nx s ns o).2.2 r'=bT s r->K ((nx s ns o).2.1.ev r') (bz (nx s ns o).2.2 r'))):
  iX P ns r λ r1=>r1=r->o.wp P r λ v=>K v (bz s r):=by
 simp only[nx,ch]at h;refine jU ns (λ m hw he=> ?_) h;rw[he]at hw;exact PO.n6 (o:=o) hw λ v hv=>ae9 (ns:=ns) (o:=o) hl hc hn hv
theorem pk{s:SS}{ns:List Node}(hn:il s.nv ns=s.nv){f:FuncId}{ds:List D}{b:Bool}(h:cu s.nv (nx s ns (.call f ds b)).1=true):D.cls s.nv ds=true:=by
 simp only[nx,cW,and_eq_true]at h;have:=h.2;simp only[cu,PO.cl,Bool.and_true,hn]at this;exact this
theorem ahN{s:SS}{r:List AV}{f:FuncId}{args:List aE}{ds:List D}{b:Bool}{K:KT}(cd:AV.ad (D.aY r ds)=true)
  (h1:D.aY r ds=args.map (λ x=>jl (bz s r) (x.ev (bT s r)))) (h2:b=false->AV.ad (args.map (aE.ev (bT s r)))=true)
  (h:(PO.call f ds b).wp P r λ v=>K v (bz s r)):xe P f (args.map λ x=>jl (bz s r) (x.ev (bT s r))) (args.map (aE.ev (bT s r))) (bz s r) K:=by
 obtain⟨res,q1,q2,q3,q4⟩:=h;rw[h1]at q1 cd;refine mK res q1 cd ?_
 have:yK (bz s r) (args.map (aE.ev (bT s r))) res=bz s r:=by
  cases b with
  |true=>exact sE (q3 rfl)
  |false=>exact qV (h2 rfl)
 rw[this];exact q4
theorem akj{s:SS}{f:FuncId}{args:List aE}{ns:List Node}{ds:List D}{b:Bool}(h:gG s args=some (ns,ds,b)):dE P (.lA f args) s (nx s ns (.call f ds b)):=by
 intro r hl hc hr gf K hk;obtain⟨hn,hs⟩:=dy (P:=P) h;obtain⟨hG,ha⟩:=hs (iv hl hc hn hk);have cd:=D.cG hr ds (by rw[hl];exact pk hn gf);obtain⟨h1,h2⟩:=ha cd;rw[agB];exact ahN cd h1 (λ hb=>(h2 hb).1) (hG rfl)
theorem akd{s:SS}{f:FuncId}{args:List aE}{ns:List Node}{ds:List D}(h:gG s args=some (ns,ds,false)):dE P (.jX f args) s (nx s ns (.call f ds false)):=by
 intro r hl hc hr gf K hk;obtain⟨hn,hs⟩:=dy (P:=P) h;obtain⟨hG,ha⟩:=hs (iv hl hc hn hk);have cd:=D.cG hr ds (by rw[hl];exact pk hn gf);obtain⟨h1,h2⟩:=(ha cd).2 rfl;obtain⟨res,q1,q2,q3,q4⟩:=hG rfl;rw[agA];rw[h2]at q1;exact kr res q1 h1 q4
theorem ahs{s:SS}{gs:List jw}{f:FuncId}{args:List aE}{ns:List Node}{ds:List D}(h:gG s args=some (ns,ds,false)):dE P (.ia gs f args) s (nx s ns (.call f ds false)):=by
 intro r hl hc hr gf K hk;obtain⟨hn,hs⟩:=dy (P:=P) h;obtain⟨hG,ha⟩:=hs (iv hl hc hn hk);have cd:=D.cG hr ds (by rw[hl];exact pk hn gf);obtain⟨h1,h2⟩:=(ha cd).2 rfl;obtain⟨res,q1,q2,q3,q4⟩:=hG rfl;rw[h2]at q1;refine⟨res,bz s r,?_,q4⟩;have:=js.fresh q1 h1 (bz s r);rwa [cO res q2,map_nil,append_nil]at this
theorem aj1{s:SS}{f:FuncId}{args:List aE}{ns:List Node}{ds:List D}{b:Bool}(h:gG s args=some (ns,ds,b)):dE P (.kS f args) s (nx s ns (.call f ds true)):=by
 intro r hl hc hr gf K hk;obtain⟨hn,hs⟩:=dy (P:=P) h;obtain⟨hG,ha⟩:=hs (iv hl hc hn hk);have cd:=D.cG hr ds (by rw[hl];exact pk hn gf);obtain⟨h1,h2⟩:=ha cd;obtain⟨res,q1,q2,q3,q4⟩:=hG rfl;rw[h1]at q1 cd;exact⟨res,q3 rfl,cd,q1,q4⟩
theorem zv{nl:Bool}{e s:Nat}{xs:List AV}(h:AV.ad xs=true)(t:Nat->Nat):(bX nl e s xs).bO t=bX nl e s xs:=by
 unfold bX
 split
 ·rfl
 ·simp only[ae.bO];rw[←ec,dG xs h]
theorem al7{s:SS}{ns:List Node}(hn:il s.nv ns=s.nv){nl:Bool}{e m:Nat}{f:FuncId}{ds:List D}(h:cu s.nv (nx s ns (.fK nl e m f ds)).1=true):D.cls s.nv ds=true:=by
 simp only[nx,cW,and_eq_true]at h;have:=h.2;simp only[cu,PO.cl,Bool.and_true,hn]at this;exact this
theorem al6{s:SS}{nl:Bool}{e m:Nat}{f:FuncId}{args:List aE}{ns:List Node}{ds:List D}{q}(h:gG s args=some (ns,ds,false))(hq:rI s nl e m (nx s ns (.fK nl e m f ds))=some q):dE P (.fK nl e m f args) s q:=by
 intro r hl hc hr gf K hk;obtain⟨hn,hs⟩:=dy (P:=P) h;have hq1:q.1=(nx s ns (.fK nl e m f ds)).1:=by simp only[rI,nx,Option.some.injEq]at hq;subst hq;rfl
 obtain⟨hG,ha⟩:=hs (acQ hq hn hl hc hk);have cd:=D.cG hr ds (by rw[hl];exact al7 hn (by rw[←hq1];exact gf));obtain⟨h1,h2⟩:=(ha cd).2 rfl;obtain⟨xs,q1,q2,q3⟩:=hG rfl;rw[h2]at q1;refine⟨.row 0 xs.length,bX nl e m xs,h1,q1,?_⟩;rw[zv q2,dB];simp only[AV.bO,add_zero];exact q3
def known(g:D):Option (FuncId×List D):=
 match g with
 | .c (.fn f [])=>some (f,[])
 | .fn f aX=>some (f,aX)
 |_=>none
theorem zE{s:SS}{g:aE}{x:D}{f:FuncId}{aX:List D}{args:List aE}{ns:List Node}{ds:List D}{b:Bool}(hg:cE s g= .d x)(hx:∀r,x.ev r= .fn f (D.aY r aX))(h:gG s args=some (ns,ds,b)):
  dE P (.jf g args) s (nx s ns (.call f (ds++aX) b)):=by
 intro r hl hc hr gf K hk;obtain⟨hn,hs⟩:=dy (P:=P) h;obtain⟨hG,ha⟩:=hs (iv hl hc hn hk);have cd:=D.cG hr (ds++aX) (by rw[hl];exact pk hn gf);have alO:D.aY r (ds++aX)=D.aY r ds++D.aY r aX:=by simp only[D.aJ,map_append]
 rw[alO]at cd;have tO:=cd;rw[aF,and_eq_true]at tO;obtain⟨h1,h2⟩:=ha tO.1;obtain⟨res,q1,q2,q3,q4⟩:=hG rfl;rw[xl,←aT,hg];simp only[SV.ev,hx,qu];rw[alO,h1]at q1;rw[h1]at cd;refine mK res q1 cd ?_
 have:yK (bz s r) (args.map (aE.ev (bT s r))) res=bz s r:=by
  cases b with
  |true=>exact sE (q3 rfl)
  |false=>exact qV (h2 rfl).1
 rw[this];exact q4
theorem adM{s:SS}{ns:List Node}(hn:il s.nv ns=s.nv){g:D}{ds:List D}{b:Bool}(h:cu s.nv (nx s ns (.eJ g ds b)).1=true):g.cl s.nv=true/\D.cls s.nv ds=true:=by
 simp only[nx,cW,and_eq_true]at h;have:=h.2;simp only[cu,PO.cl,Bool.and_true,hn,and_eq_true]at this;exact this
theorem ae2{s:SS}{g:aE}{x:D}{args:List aE}{ns:List Node}{ds:List D}{b:Bool}(hg:cE s g= .d x)(h:gG s args=some (ns,ds,b)):
  dE P (.jf g args) s (nx s ns (.eJ x ds b)):=by
 intro r hl hc hr gf K hk;obtain⟨hn,hs⟩:=dy (P:=P) h;obtain⟨hG,ha⟩:=hs (iv hl hc hn hk);obtain⟨hx,hds⟩:=adM hn gf;have tO:=D.cG hr ds (by rw[hl];exact hds);have hnx:=D.bK hr x (by rw[hl];exact hx);obtain⟨h1,h2⟩:=ha tO;have hG:=hG rfl;rw[xl,←aT,hg];simp only[PO.wp,oR]at hG;simp only[SV.ev]
 split at hG
 ·rename_i f aX hf;rw[hf]at hnx⊢;rw[qu];obtain⟨res,q1,q2,q3,q4⟩:=hG;rw[h1]at q1 tO;refine mK res q1 (by rw[aF,tO];exact hnx) ?_
  have:yK (bz s r) (args.map (aE.ev (bT s r))) res=bz s r:=by
   cases b with
   |true=>exact sE (q3 rfl)
   |false=>exact qV (h2 rfl).1
  rw[this];exact q4
 ·exact hG.elim
theorem zA{s:SS}{g:aE}{x:D}{f:FuncId}{aX:List D}{args:List aE}{ns:List Node}{ds:List D}(hg:cE s g= .d x)(hx:∀r,x.ev r= .fn f (D.aY r aX))(h:gG s args=some (ns,ds,false)):
  dE P (.ik g args) s (nx s ns (.call f (ds++aX) false)):=by
 intro r hl hc hr gf K hk;obtain⟨hn,hs⟩:=dy (P:=P) h;obtain⟨hG,ha⟩:=hs (iv hl hc hn hk);have cd:=D.cG hr (ds++aX) (by rw[hl];exact pk hn gf);have alO:D.aY r (ds++aX)=D.aY r ds++D.aY r aX:=by simp only[D.aJ,map_append]
 rw[alO]at cd;have tO:=cd;rw[aF,and_eq_true]at tO;obtain⟨h1,h2⟩:=(ha tO.1).2 rfl;obtain⟨res,q1,q2,q3,q4⟩:=hG rfl;rw[xk,←aT,hg];simp only[SV.ev,hx,qo];rw[alO,h2]at q1;rw[h2]at cd;exact kr res q1 cd q4
theorem aeR{s:SS}{g:aE}{x:D}{args:List aE}{ns:List Node}{ds:List D}(hg:cE s g= .d x)(h:gG s args=some (ns,ds,false)):
  dE P (.ik g args) s (nx s ns (.eJ x ds false)):=by
 intro r hl hc hr gf K hk;obtain⟨hn,hs⟩:=dy (P:=P) h;obtain⟨hG,ha⟩:=hs (iv hl hc hn hk);obtain⟨hx,hds⟩:=adM hn gf;have tO:=D.cG hr ds (by rw[hl];exact hds);have hnx:=D.bK hr x (by rw[hl];exact hx);obtain⟨h1,h2⟩:=(ha tO).2 rfl;have hG:=hG rfl;rw[xk,←aT,hg];simp only[PO.wp,oR]at hG;simp only[SV.ev]
 split at hG
 ·rename_i f aX hf;rw[hf]at hnx⊢;rw[qo];obtain⟨res,q1,q2,q3,q4⟩:=hG;rw[h2]at q1 tO;exact kr res q1 (by rw[aF,tO];exact hnx) q4
 ·exact hG.elim
theorem aon{s:SS}{f:FuncId}{aX:List aE}{ns:List Node}{ds:List D}(lX:D.cls s.nv ds=true)(h:gG s aX=some (ns,ds,false)):dE P (.tj f aX) s (done s ns (.d (.fn f ds))):=by
 intro r hl hc hr gf K hk;obtain⟨hn,hs⟩:=dy (P:=P) h;obtain⟨hG,ha⟩:=hs hk;have cd:=D.cG hr ds (by rw[hl];exact lX);obtain⟨h1,h2⟩:=(ha cd).2 rfl;have hG:=hG rfl;rw[akr,k1,←h2];exact hG
theorem aom{s:SS}{a:aE}{q}(h:xOp (.ov a) s=some q):dE P (.ov a) s q:=by
 intro r hl hc hr gf K hk;simp only[xOp]at h;rw[akq,←aT]
 split at h
 ·rename_i k f ha
  split at h
  ·rename_i q' hb;obtain⟨e,cs⟩:=q';cases h;rw[ha];simp only[SV.ev,zJ];rw[gH (iT hb) r];simp only[SO.ev,gC,k1];exact⟨rfl,hk rfl⟩
  ·cases h
 ·rename_i y f ha;cases h;rw[ha];simp only[SV.ev,qy,k1];exact hk rfl
 ·rename_i f l ha;cases h;rw[ha];simp only[SV.ev,D.ev,xo,k1];exact hk rfl
 ·rename_i x _ ha;cases h;rw[ha];simp only[SV.ev];simp only[iX,l4.wp,xK]at hk
  split at hk
  ·rename_i f cs hf;rw[hf,xo,k1];have:=hk trivial;simp only[SV.ev,hf]at this;exact this
  ·rename_i y f hf;rw[hf,qy,k1];have:=hk trivial;simp only[SV.ev,hf]at this;exact this
  ·exact hk.elim
 ·cases h
theorem ah2{r:List AV}(hr:AV.ad r=true):∀(ps:List (Nat×D)) (z:List AV),AV.ad z=true->ps.all (λ p=>p.2.cl r.length)=true->AV.ad (eQ z (ps.map λ p=>(p.1,p.2.ev r)))=true:=by
 intro ps
 induction ps with
 |nil=>intro z hz _;exact hz
 |cons p ps ih=>
  intro z hz hp;simp only[all_cons,and_eq_true]at hp;simp only[map_cons,eQ];refine ih _ (fE λ a ha=> ?_) hp.2;rcases List.mem_or_eq_of_mem_set ha with h|rfl
  ·exact a8 hz a h
  ·exact D.bK hr _ hp.1
theorem ai5{s:SS}{t m len:Nat}{z:AV}{ps:List (Nat×aE)}{ns:List Node}{qs:List (Nat×D)}(h:n4 s m len ps=some (ns,qs)):dE P (.ir t m len z ps) s (nx s ns (.pH z len qs)):=by
 intro r hl hc hr gf K hk;obtain⟨hn,hs⟩:=lK (P:=P) h;obtain⟨hG,eH⟩:=hs (iv hl hc hn hk);have hG:=hG rfl;simp only[PO.wp]at hG;simp only[wpOp];simp only[nx,cW,and_eq_true]at gf;have h2:=gf.2;simp only[cu,PO.cl,Bool.and_true,hn,and_eq_true]at h2;refine eH _ _ (by simp) ⟨ah2 hr qs _ (fE λ a ha=>by rw[List.eq_of_mem_replicate ha];exact h2.1) (by rw[hl];exact h2.2),hG⟩
theorem atU{s:SS}{o:PU}{args:List aE}{ns:List Node}{ds:List D}{b:Bool}(h:gG s args=some (ns,ds,b)):dE P (.pu o args) s (nx s ns (.pu o ds)):=by
 intro r hl hc hr gf K hk;obtain⟨hn,hs⟩:=dy (P:=P) h;obtain⟨hG,ha⟩:=hs (iv hl hc hn hk);simp only[nx,cW,and_eq_true]at gf;have h2:=gf.2;simp only[cu,PO.cl,Bool.and_true,hn]at h2;have cd:=D.cG hr ds (by rw[hl];exact h2);obtain⟨h1,_⟩:=ha cd;have hG:=hG rfl;simp only[PO.wp]at hG;rw[h1]at hG cd;exact⟨cd,hG⟩
theorem agk{e:Env}{O:List ae}{t m bytes:Nat}{a b:aE}{sb:ByteArray}(hb:b.ev e= .v (.string sb)){K:KT}(hm:m=1)(h:lB O (a.ev e) t m bytes (cf sb) K):wpOp P (.jN t m bytes a b) e O K:=by
 have h':gY O (a.ev e) t m bytes (cf sb) K=lB O (a.ev e) t m bytes (cf sb) K:=by
  unfold gY lB;cases a.ev e<;>first|rfl|(rename_i k l;cases O[k]? with|none=>rfl|some o=>cases o<;>rfl)
 simp only[wpOp,hb];refine⟨hm,?_⟩;have:(b.ev e= .v (.string sb)):=hb
 show gY O (a.ev e) t m bytes (cf sb) K;rw[h'];exact h
theorem apE{s:SS}{t m bytes k:Nat}{a b:aE}{l y:D}{nl:Bool}{e sz:Nat}(ha:cE s a= .row k l)(hy:cE s b= .d y)(jK:cur s k l=some (nl,e,sz))(ar3:e=t/\sz=m):
  dE P (.jN t m bytes a b) s ([.op (.jN m bytes l y)],.row k (.x s.nv),{s with aj:=s.aj.set k (.row nl e sz (.x s.nv)),nv:=s.nv+1}):=by
 intro r hl hc hr gf K hk;obtain⟨rfl,rfl⟩:=ar3;simp only[iX,PO.wp,yD]at hk
 split at hk
 case h_2=>exact hk.elim
 rename_i sb hsb;obtain⟨hm,mY,jj,hK⟩:=hk;have hbv:b.ev (bT s r)= .v (.string sb):=by rw[←aT,hy];exact hsb
 refine agk hbv hm ?_;rw[←aT,ha];have hlen:=iB sb;generalize cf sb=ys at*;rw[←hlen]at mY jj;generalize pO:aS (l.ev r)=xs at*;have iu:bT {s with aj:=s.aj.set k (.row nl e sz (.x s.nv)),nv:=s.nv+1} (r++ [.sl (xs++ys)])=bT s r:=dX (s:=s) hl hc;have hG:=hK iu;rw[vP ⟨_,rfl⟩ hl hc]at hG;simp only[SV.ev,D.ev,bq hl,bG,List.length_append]at hG;simp only[SV.ev,pO,ta,k1];have eH:=eC jK
 have alo:∀{ob},(bz s r)[k]? =some ob->(bz s r).set k ob=bz s r:=by
  intro ob h;apply ext_getElem?;intro j;rw[getElem?_set]
  split
  ·rename_i hj;subst hj;split
   ·rw[h]
   ·rename_i au;rw[getElem?_eq_none (by omega)]
  ·rfl
 rcases eU eH r with h5|⟨h5,h6,h7⟩
 ·rw[h5,pO,kF];refine⟨rfl,rfl,rfl,mY,jj,?_⟩;cases nl with
  |false=>simpa only[SO.ev,D.ev,bq hl,bG]using hG
  |true=>
   have cr:xs≠[]:=by
    intro h0;have:=gH eH r;simp only[SO.ev,pO,h0,if_true]at this;rw[this]at h5;cases h5
   have alA:xs++ys≠[]:=by simp[cr]
   simp only[SO.ev,D.ev,bq hl,bG,if_neg alA]at hG;exact hG
 ·rw[pO]at h6;subst h6;subst h7;rw[h5,mq];simp only[length_nil,zero_add]at mY jj;refine⟨rfl,rfl,rfl,mY,jj,λ h0=> ?_,λ h0=> ?_⟩
  ·subst h0;simp only[SO.ev,D.ev,bq hl,bG,append_nil,if_true,length_nil,add_zero]at hG;rw[alo h5]at hG;exact hG
  ·simp only[SO.ev,D.ev,bq hl,bG,nil_append,if_neg h0,length_nil,zero_add]at hG;exact hG
theorem amQ{s:SS}{t m bytes:Nat}{a b:aE}{y:D}(ha:cE s a= .d (.c .aQ))(hy:cE s b= .d y):
  dE P (.jN t m bytes a b) s ([.op (.jN m bytes (.c (.sl [])) y),.aP (.ne (.x s.nv))],.row s.aj.length (.x s.nv),{s with aj:=s.aj++ [.row false t m (.x s.nv)],nv:=s.nv+1}):=by
 intro r hl hc hr gf K hk;simp only[iX,PO.wp,yD]at hk
 split at hk
 case h_2=>exact hk.elim
 rename_i sb hsb;obtain⟨hm,mY,jj,cr,hK⟩:=hk;have hbv:b.ev (bT s r)= .v (.string sb):=by rw[←aT,hy];exact hsb
 refine agk hbv hm ?_;rw[←aT,ha];have hlen:=iB sb;generalize cf sb=ys at*;rw[←hlen]at mY jj;simp only[D.ev,bG,length_nil,zero_add,nil_append]at mY jj cr hK;simp only[D.ev,bq hl,bG]at cr;have iu:bT {s with aj:=s.aj++ [.row false t m (.x s.nv)],nv:=s.nv+1} (r++ [.sl ys])=bT s r:=dX (s:=s) hl hc;have hG:=hK iu
 have hO:bz {s with aj:=s.aj++ [.row false t m (.x s.nv)],nv:=s.nv+1} (r++ [.sl ys])=bz s r++ [.live t m ys]:=by
  simp only[bz,map_append,map_cons,map_nil,SO.ev,D.ev,bq hl,bG];congr 1;exact eW (s:=s) hl hc
 rw[hO]at hG;simp only[SV.ev,D.ev,bq hl,bG]at hG;simp only[SV.ev,D.ev,qv,k1,dB];exact⟨mY,jj,λ h0=>(cr h0).elim,λ _=>hG⟩
theorem lx{s:SS}{lo:Option aE}(h:zh s lo=true){r:List AV}{d:Int}(hd:lo=none->d=0){M:Int->Prop}(hm:M 0):fq d (bT s r) lo M:=by
 cases lo with
 |none=>rw[show fq d (bT s r) none M=M d from rfl,hd rfl];exact hm
 |some x=>
  simp only[zh]at h
  split at h
  ·rename_i k n hx;have:=of_decide_eq_true h;subst this;simp only[fq];rw[←aT,hx];exact hm
  ·cases h
theorem asx{s:SS}{m:Nat}{a:aE}{lo hi:Option aE}{q}(h:aqx s m (cE s a) lo hi=some q):dE P (.cut m a lo hi) s q:=by
 intro r hl hc hr gf K hk;unfold aqx at h
 split at h
 ·rename_i ha
  split at h
  ·rename_i hz;cases h;have hG:=hk rfl;simp only[wpOp];rw[←aT,ha];exact lx hz.1 (λ _=>rfl) (lx hz.2 (λ _=>rfl) ⟨rfl,rfl,hG⟩)
  ·cases h
 ·rename_i k l ha
  split at h
  ·rename_i nl e sz jK
   split at h
   ·rename_i my;obtain⟨rfl,z1,z2,z3⟩:=my;cases h;have eH:=eC jK
    have hk':(nl=true->aS (l.ev r)≠[])/\K (.row s.aj.length 0) (bz {s with aj:=s.aj.set k .dead++ [.row false e sz (.c (.sl []))]} r):=by
     cases nl
     ·exact⟨λ h=>(by cases h),hk rfl⟩
     ·simp only[if_true,iX,l4.wp]at hk;exact⟨λ _=>hk.1,hk.2 rfl⟩
    obtain⟨cr,hG⟩:=hk'
    have nV:(bz s r)[k]? =some (.live e sz (aS (l.ev r))):=by
     rw[gH eH r];cases nl
     ·rfl
     ·simp only[SO.ev];rw[if_neg (cr rfl)]
    have iu:bz {s with aj:=s.aj.set k .dead++ [.row false e sz (.c (.sl []))]} r=(bz s r).set k .dead++ [.live e sz []]:=by
     simp only[bz,map_append,map_set,map_cons,map_nil];rfl
    rw[iu]at hG;simp only[wpOp];rw[←aT,ha];simp only[SV.ev,nV];refine⟨by trivial,by trivial,lx z1 (λ _=>rfl) (lx z3 (λ h=>by rw[h]at z2;cases z2) ⟨rfl,rfl,?_⟩)⟩;rw[dB];exact hG
   ·cases h
  ·cases h
 ·cases h
theorem apD{s:SS}{t m bytes:Nat}{z:AV}{a b:aE}{y:D}(ha:cE s a= .d (.c .aQ))(hb:cE s b= .d y):
  dE P (.abS t m bytes z a b) s ([.op (.rep bytes z y y),.aP (.ne (.x s.nv))],.row s.aj.length (.x s.nv),{s with aj:=s.aj++ [.row false t m (.x s.nv)],nv:=s.nv+1}):=by
 intro r hl hc hr gf K hk;simp only[iX,PO.wp,acu]at hk
 split at hk
 ·rename_i n c hn oI;rw[hn]at oI;cases oI;obtain⟨q1,_,q3,q4,hk⟩:=hk;simp only[l4.wp,D.ev,bq hl,bG]at hk;obtain⟨cr,hK⟩:=hk
  have tN:0<n:=by
   rcases Int.lt_or_le 0 n with h|h
   ·exact h
   ·exact(cr (by rw[show n.toNat=0 by omega];rfl)).elim
  have iu:bT {s with aj:=s.aj++ [.row false t m (.x s.nv)],nv:=s.nv+1} (r++ [.sl (List.replicate n.toNat z)])=bT s r:=dX (s:=s) hl hc;have hG:=hK iu
  have hO:bz {s with aj:=s.aj++ [.row false t m (.x s.nv)],nv:=s.nv+1} (r++ [.sl (List.replicate n.toNat z)])=bz s r++ [.live t m (List.replicate n.toNat z)]:=by
   simp only[bz,map_append,map_cons,map_nil,SO.ev,D.ev,bq hl,bG];congr 1;exact eW (s:=s) hl hc
  rw[hO]at hG;simp only[SV.ev,D.ev,bq hl,bG,List.length_replicate]at hG;simp only[wpOp];rw[←aT,←aT,ha,hb];simp only[SV.ev,D.ev,hn];refine⟨tN,by simpa using q3,by simp only[maxLen];omega,?_⟩;rw[dB];exact hG
 ·exact hk.elim
theorem akU{s:SS}{a:aE}(ha:cE s a= .d (.c .aQ)):dE P (.cz a) s ([],.d (.c (.v (.int .i64 0))),s):=by
 intro r hl hc hr gf K hk;have hG:=hk rfl;simp only[wpOp];rw[←aT,ha];exact hG
theorem apq{s:SS}{a:aE}(ha:cE s a= .d (.c .aQ)):dE P (.pu .amt [a]) s ([],.d (.c (.v (.int .i64 0))),s):=by
 intro r hl hc hr gf K hk;have hG:=hk rfl;simp only[wpOp,map_cons,map_nil];rw[←aT,ha];exact⟨rfl,hG⟩
theorem aqv{op:dZ}{s:SS}{q:List Node×SV×SS}(uM:op.okc=true)(sn:s.cl=true)(hq:q.2.1.cl q.2.2.nv=true)(h:xOp op s=some q):dE P op s q:=by
 cases op<;>simp only[xOp]at h
 case stuck=>cases h;intro r hl hc hr gf K hk;exact hk.elim
 case ir t m len z ps=>
  split at h
  ·rename_i ns qs hx;cases h;exact ai5 hx
  ·cases h
 case abS t m bytes z a b=>
  split at h
  ·rename_i y ha hb;cases h;exact apD ha hb
  ·cases h
 case cut m a lo hi=>exact asx h
 case pu o args=>
  split at h
  ·split at h
   ·rename_i ha;cases h;exact apq ha
   ·cases h
  ·split at h
   ·rename_i ns ds b hx;cases h;exact atU hx
   ·cases h
 case jN t m bytes a b=>
  split at h
  ·rename_i k l y ha hb
   split at h
   ·rename_i nl e sz jK
    split at h
    ·rename_i hes;cases h;exact apE ha hb jK hes
    ·cases h
   ·cases h
  ·rename_i y ha hb;cases h;exact amQ ha hb
  ·cases h
 case bt a=>cases h;exact arv s a
 case pick c a b=>
  split at h
  ·rename_i t hc;cases h;exact akh hc
  ·rename_i x _ hc
   split at h
   ·rename_i na a' nb b' ha hb;cases h;exact anS hc ha hb
   ·cases h
  ·cases h
 case alloc t n z=>exact amV h
 case box t n a=>exact asI (rG sn uM) h
 case build z ps=>
  simp only[dZ.okc,and_eq_true]at uM;exact amB uM.2 uM.1 h
 case buildSlice t m len z ps=>exact ze h
 case gu k t n z=>exact age uM h
 case lg k t n a=>exact amE uM (rG sn uM) h
 case gr k t m len z ps=>
  simp only[dZ.okc,and_eq_true]at uM;exact af6 uM.1 uM.2 h
 case load n a=>exact aot h
 case store m a b=>exact ajL uM h
 case bin o a b=>
  split at h
  ·rename_i x y ha hb;cases h;exact asJ ha hb
  ·cases h
 case beq neg a b=>
  split at h
  ·rename_i x y ha hb;cases h;exact asK ha hb
  ·cases h
 case un o a=>
  split at h
  ·rename_i x ha;cases h;exact atB ha
  ·cases h
 case jo k a=>
  split at h
  ·rename_i x ha;cases h;exact apm ha
  ·cases h
 case dz off a=>exact ama h
 case yg off n a=>exact asl h
 case kf m a i=>exact alg h
 case eB a i=>
  split at h
  ·rename_i x y ha hb;cases h;exact aoH ha hb
  ·cases h
 case cL a lo hi=>
  split at h
  ·rename_i x dl dh ha h1 h2;cases h;exact ahm ha h1 h2
  ·cases h
 case cw m a lo hi=>
  split at h
  ·rename_i x dl dh ha h1 h2;cases h;exact ahn ha h1 h2
  ·cases h
 case mk t m bytes z n c=>
  split at h
  ·rename_i x y hn hc;exact auB hn hc h
  ·cases h
 case dI a=>
  split at h
  ·rename_i x ha;cases h;exact aov ha
  ·cases h
 case cz a=>
  split at h
  ·rename_i ha;cases h;exact akU ha
  ·rename_i x _ ha;cases h;exact aow ha
  ·rename_i k l ha
   split at h
   ·rename_i jK;cases h;exact akT ha (by rw[jK];rfl)
   ·cases h
  ·cases h
 case app t m bytes a b=>
  split at h
  ·rename_i k l ha
   split at h
   ·rename_i nl e sz jK
    split at h
    ·rename_i hes
     split at h
     ·rename_i y hy;cases h;refine asQ ha jK hes ?_
      split at hy
      ·rename_i y' hb;cases hy;exact .inl hb
      ·rename_i k' l' hb
       split at hy
       ·rename_i alm;cases hy;exact .inr ⟨k',l',hb,alm,rfl⟩
       ·cases hy
      ·cases hy
     ·cases h
    ·cases h
   ·cases h
  ·rename_i ha
   split at h
   ·rename_i y hy;cases h;refine apA ha ?_
    split at hy
    ·rename_i y' hb;cases hy;exact .inl hb
    ·rename_i k' l' hb
     split at hy
     ·rename_i alm;cases hy;exact .inr ⟨k',l',hb,alm,rfl⟩
     ·cases hy
    ·cases hy
   ·cases h
  ·cases h
 case ext a i=>
  split at h
  ·rename_i cs ha
   split at h
   ·rename_i v hv;cases h;exact api ha hv
   ·cases h
  ·rename_i j ha;cases h;exact asr ha
  ·cases h
 case ov a=>exact aom h
 case tj f aX=>
  split at h
  ·rename_i ns ds hx;cases h;refine aon ?_ hx;have:=(dy (P:=P) hx).1;simp only[done,SV.cl,D.cl,this]at hq;exact hq
  ·cases h
 case lA f args=>
  split at h
  ·rename_i ns ds b hx;cases h;exact akj hx
  ·cases h
 case jf g args=>
  split at h
  ·rename_i f ns ds b hg hx;cases h;have:=zE (P:=P) (f:=f) (aX:=[]) hg (λ r=>rfl) hx;rwa [append_nil]at this
  ·rename_i f aX ns ds b hg hx;cases h;exact zE hg (λ r=>rfl) hx
  ·rename_i x ns ds b _ _ hg hx;cases h;exact ae2 hg hx
  ·cases h
 case kS f args=>
  split at h
  ·rename_i ns ds b hx;cases h;exact aj1 hx
  ·cases h
 case fK nl e m f args=>
  split at h
  ·rename_i ns ds hx;exact al6 hx h
  ·cases h
 case jX f args=>
  split at h
  ·rename_i ns ds hx;cases h;exact akd hx
  ·cases h
 case jd gs f args=>exact qj h
 case ia gs f args=>
  split at h
  ·rename_i q' hq;cases h;exact zt hq
  ·split at h
   ·rename_i ns ds hx;cases h;exact ahs hx
   ·cases h
 case ik g args=>
  split at h
  ·rename_i f ns ds hg hx;cases h;have:=zA (P:=P) (f:=f) (aX:=[]) hg (λ r=>rfl) hx;rwa [append_nil]at this
  ·rename_i f aX ns ds hg hx;cases h;exact zA hg (λ r=>rfl) hx
  ·rename_i x ns ds _ _ hg hx;cases h;exact aeR hg hx
  ·cases h
 all_goals cases h
end
end Go.Ab
namespace Go.Ab
def Wk(n0:Nat)(s s':SS):Prop:=s'.nv=s.nv/\∀r:List AV,r.length=s.nv->AV.ad r=true->WK n0 (bT s r) (bz s r) (bT s' r) (bz s' r)
theorem Wk.refl(n0:Nat)(s:SS):Wk n0 s s:=⟨rfl,λ _ _ _=> .refl _ _ _⟩
theorem Wk.trans{n0:Nat}{s s' s'':SS}(h:Wk n0 s s')(k:Wk n0 s' s''):Wk n0 s s'':=
 ⟨k.1.trans h.1,λ r hl hr=>(h.2 r hl hr).trans (k.2 r (hl.trans h.1.symm) hr)⟩
theorem akQ(k:Nat)(v:SV):∀(l:List (Nat×SV)) (t:Nat),(t≠k->lk (l.map λ p=>(p.1,if p.1=k then v else p.2)) t=lk l t)/\(lk l k= .top∨lk (l.map λ p=>(p.1,if p.1=k then v else p.2)) k=v)
 | [],t=>⟨λ _=>rfl,.inl rfl⟩
 |(q,w)::l,t=>by
  obtain⟨h1,h2⟩:=akQ k v l t;simp only[map_cons,lk];refine⟨λ ht=> ?_,?_⟩
  ·by_cases hq:t=q
   ·subst hq;rw[if_pos rfl,if_pos rfl,if_neg ht]
   ·rw[if_neg hq,if_neg hq];exact h1 ht
  ·by_cases hq:k=q
   ·subst hq;rw[if_pos rfl,if_pos rfl];exact .inr (if_pos rfl)
   ·rw[if_neg hq,if_neg hq];exact h2
theorem tg{n0:Nat}{s:SS}{t m k:Nat}(h:lk s.env k= .d (.c .aQ)):Wk n0 s (mO s t m k):=by
 refine⟨rfl,λ r hl hr=> ?_⟩;refine WK.aa9 t m (by simp[bz,mO]) (by simp[bz,mO,SO.ev,D.ev,aS]) (λ j hj=> .inl ?_) λ q=> ?_
 ·simp only[bz,mO,map_append];rw[getElem?_append_left (by simpa [bz]using hj)]
 ·have:=akQ k (.row s.aj.length (.c (.sl []))) s.env q;by_cases hq:q=k
  ·subst hq;rcases this.2 with h1|h1
   ·rw[h]at h1;cases h1
   ·refine .inr ⟨by simp only[bT,h];rfl,?_⟩;simp only[bT,mO,h1,SV.ev,D.ev,aS,dB];rfl
  ·exact .inl (by simp only[bT,mO,this.1 hq])
theorem aff{n0:Nat}{s:SS}{k j t m e:Nat}{cs:List SV}(hb:lf s k=some (e,cs))(hj:cs[j]? =some (.d (.c .aQ))):Wk n0 s (jP s k j t m):=by
 have nV:=iT hb;have hk:k<s.aj.length:=(List.getElem?_eq_some_iff.1 nV).1;refine⟨by simp only[jP,hb],λ r hl hr=> ?_⟩
 have hO:bz (jP s k j t m) r=(bz s r).set k (.live e cs.length [kG ((SV.aY r cs).set j (.row s.aj.length 0))])++ [.nil t m]:=by
  simp only[jP,hb,bz,map_append,map_set,map_cons,map_nil,SO.ev,List.length_set,SV.aJ,SV.ev,D.ev,aS,length_nil,if_true]
 have hE:bT (jP s k j t m) r=bT s r:=by simp only[jP,hb];rfl
 rw[hO,hE];refine WK.aa9 t m (by simp) (by rw[getElem?_append_right (by simp)];simp) (λ i hi=> ?_) λ q=> .inl rfl
 rw[getElem?_append_left (by simpa using hi)];by_cases hik:i=k
 ·subst hik;refine .inr ⟨e,cs.length,[kG (SV.aY r cs)],[kG ((SV.aY r cs).set j (.row s.aj.length 0))],gH nV r,by rw[List.getElem?_set_self hi],rfl,λ i' y y' hy pN=> ?_⟩;cases i' with
  |succ i'=>simp at hy
  |zero=>
   simp at hy pN;subst hy;subst pN;rw[show(bz s r).length=s.aj.length from dB s r];have hcj:(SV.aY r cs)[j]? =some .aQ:=by rw[SV.aJ,getElem?_map,hj];rfl
   generalize SV.aY r cs=xs at hcj;have hjl:=(List.getElem?_eq_some_iff.1 hcj).1;by_cases h1:xs.length=1
   ·obtain⟨c,rfl⟩:=List.length_eq_one_iff.1 h1;have hj0:j=0:=by simp at hjl;exact hjl
    subst hj0;simp at hcj;subst hcj;refine⟨rfl,λ p c c' hc oI=> ?_⟩;cases p with
    |zero=>simp[kG,AV.cells]at hc oI;exact .inr ⟨hc.symm,oI.symm⟩
    |succ p=>simp[kG,AV.cells]at hc
   ·rw[eA h1,eA (by simpa using h1)];simp only[AV.cells];refine⟨by simp,λ p c c' hc oI=> ?_⟩;rw[getElem?_set]at oI
    split at oI
    ·rename_i hpj;subst hpj;rw[hcj]at hc;exact .inr ⟨(Option.some.inj hc).symm,(Option.some.inj oI).symm⟩
    ·rw[hc]at oI;exact .inl (Option.some.inj oI).symm
 ·rw[getElem?_set_ne (λ h=>hik h.symm)];exact .inl rfl
theorem Fr.cell{n:Nat}{xs:List AV}{a b:AV}(h:Fr n xs a b){j:Nat}{c d:AV}(hc:a.cells[j]? =some c)(hd:b.cells[j]? =some d):Fr n xs c d:=by
 cases h with
 |refl=>rw[hc]at hd;cases hd;exact .refl _
 |row=>
  cases j with
  |zero=>simp[AV.cells]at hc hd;subst hc;subst hd;exact .row
  |succ j=>simp[AV.cells]at hc
 |agg cs ds _ h=>exact h j c d hc hd
 |ptr a f ha=>
  cases j with
  |zero=>simp[AV.cells]at hc hd;subst hc;subst hd;exact .ptr a f ha
  |succ j=>simp[AV.cells]at hc
theorem Fr.kG{n:Nat}{xs:List AV}{cs ds:List AV}(hl:cs.length=ds.length)(h:∀(i:Nat) c d,cs[i]? =some c->ds[i]? =some d->Fr n xs c d):Fr n xs (kG cs) (kG ds):=by
 by_cases h1:cs.length=1
 ·obtain⟨c,rfl⟩:=List.length_eq_one_iff.1 h1;obtain⟨d,rfl⟩:=List.length_eq_one_iff.1 (show ds.length=1 by omega);exact h 0 c d rfl rfl
 ·rw[eA h1,eA (by omega)];exact .agg _ _ hl h
theorem aaj{n0:Nat}{s:SS}(n:Nat):Wk n0 s (abz s n):=by
 unfold abz
 split
 ·rename_i nl e sz l nV
  split
  ·rename_i lX;refine⟨rfl,λ r hl hr=> ?_⟩;have hn:=cH (D.bK hr l (by rw[hl];exact lX))
   have fr1:∀v:SV,Fr n (aS (l.ev r)) (v.ev r) ((v.jl n l).ev r):=by
    intro v;cases v with
    |row m k=>
     simp only[SV.jl]
     split
     ·rename_i h1;have:=D.beq_eq _ _ h1.2;obtain⟨rfl,_⟩:=h1;subst this;exact .row
     ·exact .refl _
    |_=>exact .refl _
   have hpt:∀cs:List SV,∀(i:Nat) c d,(SV.aY r cs)[i]? =some c->(SV.aY r (cs.map (SV.jl n l)))[i]? =some d->Fr n (aS (l.ev r)) c d:=by
    intro cs i c d hc hd;rw[SV.aJ,getElem?_map]at hc hd;rw[getElem?_map]at hd;cases hi:cs[i]? with
    |none=>rw[hi]at hc;simp at hc
    |some v=>rw[hi]at hc hd;simp at hc hd;subst hc;subst hd;exact fr1 v
   refine WK.jl (n:=n) (t:=e) (s:=sz) (xs:=aS (l.ev r)) ?_ hn (by simp[bz]) ?_ (λ m hm=> ?_) λ t=> ?_
   ·rcases eU nV r with h|⟨h,h',_⟩
    ·exact .inl h
    ·exact .inr ⟨h,h'⟩
   ·simp only[bz,map_set];rw[List.getElem?_set_self (by simpa using(List.getElem?_eq_some_iff.1 nV).1)];rfl
   ·simp only[bz,map_set];rw[getElem?_set_ne (λ h=>hm h.symm),map_map,getElem?_map,getElem?_map];cases ho:s.aj[m]? with
    |none=>exact .inl rfl
    |some o=>
     cases o with
     |box e' cs=>
      refine .inr ⟨e',cs.length,[kG (SV.aY r cs)],[kG (SV.aY r (cs.map (SV.jl n l)))],rfl,by simp[SO.jl,SO.ev],rfl,λ i y y' hy pN=> ?_⟩;cases i with
      |succ i=>simp at hy
      |zero=>
       simp at hy pN;subst hy;subst pN;have hf:=Fr.kG (n:=n) (xs:=aS (l.ev r)) (cs:=SV.aY r cs) (ds:=SV.aY r (cs.map (SV.jl n l))) (by simp[SV.aJ]) (hpt cs);exact⟨hf.width,λ j c c' hc oI=>hf.cell hc oI⟩
     |dead=>exact .inl rfl
     |row _ _ _ _=>exact .inl rfl
   ·simp only[bT];rw[tl (f:=SV.ase n l) rfl];generalize lk s.env t=v;cases v with
    |agg cs=>
     simp only[SV.ase,SV.ev];exact .agg _ _ (by simp[SV.aJ]) (hpt cs)
    |row m k=>exact fr1 (.row m k)
    |_=>exact .refl _
  ·exact .refl _ _
 ·exact .refl _ _
theorem arx(r:List AV)(ds:List D):(mkD ds).ev r=kG (D.aY r ds):=by
 unfold mkD
 split
 ·rfl
 ·rename_i h;cases ds with
  |nil=>rfl
  |cons a l=>cases l with
   |nil=>exact(h a rfl).elim
   |cons b l=>rfl
theorem tR{n0:Nat}{s:SS}(n:Nat):Wk n0 s (yd s n):=by
 unfold yd
 split
 ·rename_i e cs nV
  split
  ·rename_i ds hd
   split
   ·rename_i lX;refine⟨rfl,λ r hl hr=> ?_⟩;have sn:=sx hd;have hx:kG (SV.aY r cs)=(mkD ds).ev r:=by rw[sn,ph,arx]
    have hn:AV.ad [(mkD ds).ev r]=true:=by
     have:(mkD ds).cl r.length=true:=by
      rw[hl];unfold mkD
      split
      ·simpa [D.cls]using lX
      ·exact lX
     simp only[AV.ad,D.bK hr _ this];rfl
    have fr1:∀v:SV,Fr n [(mkD ds).ev r] (v.ev r) ((v.fbx n (mkD ds)).ev r):=by
     intro v;cases v with
     |ptr m f=>
      simp only[SV.fbx]
      split
      ·rename_i h1;subst h1;exact .ptr _ f rfl
      ·exact .refl _
     |_=>exact .refl _
    have fr2:∀v:SV,Fr n [(mkD ds).ev r] (v.ev r) ((v.fbc n (mkD ds)).ev r):=by
     intro v;cases v with
     |ptr m f=>
      simp only[SV.fbc]
      split
      ·rename_i h1;subst h1;exact .ptr _ f rfl
      ·exact .refl _
     |_=>exact .refl _
    have hpt:∀cs:List SV,∀(i:Nat) c d,(SV.aY r cs)[i]? =some c->(SV.aY r (cs.map (SV.fbc n (mkD ds))))[i]? =some d->Fr n [(mkD ds).ev r] c d:=by
     intro cs i c d hc hd;rw[SV.aJ,getElem?_map]at hc hd;rw[getElem?_map]at hd;cases hi:cs[i]? with
     |none=>rw[hi]at hc;simp at hc
     |some v=>rw[hi]at hc hd;simp at hc hd;subst hc;subst hd;exact fr2 v
    refine WK.jl (n:=n) (t:=e) (s:=cs.length) (xs:=[(mkD ds).ev r]) (.inl ?_) hn (by simp[bz]) ?_ (λ m hm=> ?_) λ t=> ?_
    ·have:=gH nV r;rw[this];simp only[SO.ev,hx]
    ·simp only[bz,map_set];rw[List.getElem?_set_self (by simpa using(List.getElem?_eq_some_iff.1 nV).1)];rfl
    ·simp only[bz,map_set];rw[getElem?_set_ne (λ h=>hm h.symm),map_map,getElem?_map,getElem?_map];cases ho:s.aj[m]? with
     |none=>exact .inl rfl
     |some o=>
      cases o with
      |box e' cs=>
       refine .inr ⟨e',cs.length,[kG (SV.aY r cs)],[kG (SV.aY r (cs.map (SV.fbc n (mkD ds))))],rfl,by simp[SO.fbx,SO.ev],rfl,λ i y y' hy pN=> ?_⟩;cases i with
       |succ i=>simp at hy
       |zero=>
        simp at hy pN;subst hy;subst pN;have hf:=Fr.kG (n:=n) (xs:=[(mkD ds).ev r]) (cs:=SV.aY r cs) (ds:=SV.aY r (cs.map (SV.fbc n (mkD ds)))) (by simp[SV.aJ]) (hpt cs);exact⟨hf.width,λ j c c' hc oI=>hf.cell hc oI⟩
      |dead=>exact .inl rfl
      |row _ _ _ _=>exact .inl rfl
    ·simp only[bT];rw[tl (f:=SV.fbx n (mkD ds)) rfl];exact fr1 _
   ·exact .refl _ _
  ·exact .refl _ _
 ·exact .refl _ _
theorem gB{n0:Nat}{α:Type}{f:SS->α->SS}(h:∀s a,Wk n0 s (f s a)):∀(l:List α) (s:SS),Wk n0 s (l.foldl f s)
 | [],s=> .refl _ _
 |a::l,s=>(h s a).trans (gB h l (f s a))
theorem gW{n0:Nat}(s:SS)(v:SV):Wk n0 s (nH s v):=gB (λ s n=>aaj n) _ s
theorem mA{n0:Nat}(s:SS)(l:List aE):Wk n0 s (tQ s l):=gB (λ s x=>gW s _) l s
theorem aiB{n0:Nat}(s:SS)(x:aE):Wk n0 s (afT s x):=by
 unfold afT
 split
 ·split
  ·exact(gB (λ s v=>gW s v) _ s).trans (tR _)
  ·exact .refl _ _
 ·exact gW _ _
theorem nd{n0:Nat}:∀(k:Nat) (s:SS) (n:Nat),Wk n0 s (su k s n)
 |0,s,n=> .refl _ _
 |k+1,s,n=>by
  unfold su
  split
  ·refine(gB (λ s v=> ?_) _ s).trans (tR _)
   split
   ·exact nd k s _
   ·exact gW _ _
  ·exact .refl _ _
theorem aiA{n0:Nat}(s:SS)(x:aE):Wk n0 s (yc s x):=by
 unfold yc
 split
 ·exact nd _ _ _
 ·exact .refl _ _
theorem afU{n0:Nat}(s:SS)(l:List aE):Wk n0 s (agU s l):=gB (λ s x=>by
 split
 ·exact gW _ _
 ·exact .refl _ _) l s
theorem nc{n0:Nat}(s:SS)(l:List aE):Wk n0 s (sr s l):=gB (λ s x=>by
 unfold yc
 split
 ·exact nd _ _ _
 ·exact .refl _ _) l s
theorem aiC{n0:Nat}(s:SS)(l:List SV):Wk n0 s (al0 s l):=gB (λ s v=>by
 split
 ·exact nd _ _ _
 ·exact gW _ _) l s
theorem anR{n0:Nat}(fl:List Nat)(op:dZ)(s:SS):Wk n0 s (aq3 fl op s):=by
 unfold aq3
 split
 ·split
  ·rename_i h;exact tg h
  ·exact .refl _ _
 ·split
  ·rename_i h;exact tg h
  ·exact .refl _ _
 ·exact gW _ _
 ·exact mA _ _
 ·split
  ·exact gW _ _
  ·exact .refl _ _
 ·exact gB (λ s x=>aiB s x) _ s
 ·split
  ·exact(afU _ _).trans (nc _ _)
  ·exact(mA _ _).trans (nc _ _)
 ·exact(mA _ _).trans (nc _ _)
 ·exact(mA _ _).trans (nc _ _)
 ·exact mA _ _
 ·split
  ·exact .refl _ _
  ·split
   ·refine gB (λ s p=> ?_) _ _
    split
    ·exact(gW _ _).trans (aiA _ _)
    ·exact .refl _ _
   ·exact .refl _ _
 ·exact .refl _ _
theorem aq4{n0:Nat}(fl:List Nat)(wk:Bool)(op:dZ)(s:SS):Wk n0 s (pre fl wk op s):=by
 unfold pre;split
 ·exact anR _ _ _
 ·exact .refl _ _
theorem ag3{n0:Nat}(s:SS)(c:Conv):Wk n0 s (c.run s):=by
 cases c with
 |slot k t m=>
  simp only[Conv.run]
  split
  ·rename_i h;exact tg h
  ·exact .refl _ _
 |cell k j t m=>
  simp only[Conv.run]
  split
  ·rename_i h
   split
   ·rename_i h2;exact aff h h2
   ·exact .refl _ _
  ·exact .refl _ _
 |fbx n=>
  simp only[Conv.run]
  split
  ·exact(gB (λ s v=>gW s v) _ s).trans (tR _)
  ·exact .refl _ _
 |asi n=>exact aaj n
theorem WK.azc{n0:Nat}{e:Env}{O O':List ae}(hlen:O'.length=O.length)(h:∀m:Nat,O'[m]? =O[m]? ∨O'[m]? =some .dead):WK n0 e O e O':=by
 intro I0 L0 O0 w0 I L w f h0 hg hr
 have dc:∀{m:Nat} {ob},O'[m]? =some ob->ob≠ .dead->O[m]? =some ob:=by
  intro m ob ho cr;rcases h m with h1|h1
  ·rw[←h1];exact ho
  ·rw[h1]at ho;cases ho;exact(cr rfl).elim
 have dp:Ext I L O I L O':=⟨λ _ _ _ h=>h,by omega,λ m _ ee k zs hz=> .inl ⟨zs,dc hz (by simp),le_refl _,λ _=>rfl⟩,λ m _ ee k h=>dc h (by simp),λ m _ a h=>⟨⟨a,dc h (by simp)⟩,rfl⟩,λ m _ a h=>⟨⟨a,dc h (by simp),rfl⟩,rfl⟩⟩;refine⟨I,L,hg.anr (by omega) (λ _ _ _ h=>h) (λ _ _ _ h=> .inl h) (λ m ee k zs hm=> ?_) (λ m ee k _ hm=>dc hm (by simp)) (λ m a hm=>dc hm (by simp)) (λ m a hm=>⟨dc hm (by simp),λ _ _ h=>h.mono dp⟩),λ t=>(hr t).mono dp⟩;have h1:=dc hm (by simp);exact⟨zs,h1,rfl,(hg.inv.obj m _ _ _ h1).congr rfl λ _ _ h=>h.mono dp,λ o=>hg.inv.dT m _ _ _ o h1⟩
theorem uG(t:List SO):∀(k:Nat) (l:List SO),(eg t k l).length=l.length
 |_,[]=>rfl
 |k,o::l=>by simp[eg,uG t (k+1) l]
theorem wm:∀(ts cs:List SV),(jz ts cs).length=cs.length
 | [],cs=>by cases cs<;>simp[jz]
 |t::ts,[]=>by cases t<;>simp[jz]
 |t::ts,c::cs=>by cases t<;>simp[jz,wm ts cs]
theorem wo:∀(ts cs:List SV) (j:Nat),(jz ts cs)[j]? =cs[j]? ∨(jz ts cs)[j]? =some .top
 | [],cs,j=>by cases cs<;>simp[jz]
 |t::ts,[],j=>by cases t<;>simp[jz]
 |t::ts,c::cs,j=>by
  cases j with
  |zero=>cases t<;>simp[jz]
  |succ j=>cases t<;>simpa [jz]using wo ts cs j
inductive am2:Option ae->Option ae->Prop
 |same (o):am2 o o
 |dead (o):am2 o (some .dead)
 |box (e s:Nat) (cs cs':List AV) (hl:cs'.length=cs.length) (hc:∀j:Nat,cs'[j]? =cs[j]? ∨cs'[j]? =some .top):am2 (some (.live e s [.agg cs])) (some (.live e s [.agg cs']))
theorem WK.ayV{n0:Nat}{e:Env}{O O':List ae}(hlen:O'.length=O.length)(h:∀m:Nat,am2 O[m]? O'[m]?):WK n0 e O e O':=by
 intro I0 L0 O0 w0 I L w f h0 hg hr
 have vG:∀{m:Nat} {ee k},O'[m]? =some (.nil ee k)->O[m]? =some (.nil ee k):=by
  intro m ee k ho;have:=h m;rw[ho]at this;generalize hq:O[m]? =q at this;cases this
  rfl
 have pP:∀{m:Nat} {ee k zs},O'[m]? =some (.live ee k zs)->∃xs,O[m]? =some (.live ee k xs)/\xs.length=zs.length/\(xs=zs∨∃cs cs',xs= [.agg cs]/\zs= [.agg cs']/\cs'.length=cs.length/\∀j:Nat,cs'[j]? =cs[j]? ∨cs'[j]? =some .top):=by
  intro m ee k zs ho;have:=h m;rw[ho]at this;generalize hq:O[m]? =q at this;cases this with
  |same=>exact⟨zs,rfl,rfl,.inl rfl⟩
  |box _ _ cs cs' hl hc=>exact⟨_,rfl,rfl,.inr ⟨cs,cs',rfl,rfl,hl,hc⟩⟩
 have dp:Ext I L O I L O':=⟨λ _ _ _ h=>h,by omega,λ m _ ee k zs hz=>by
  obtain⟨xs,h1,h2,_⟩:=pP hz;exact .inl ⟨xs,h1,by omega,λ _=>rfl⟩,λ m _ ee k h=>vG h,λ m _ a hm=>⟨⟨a,by
  have:=h m;rw[hm]at this;generalize hq:O[m]? =q at this;cases this
  rfl⟩,rfl⟩,λ m _ a hm=>⟨⟨a,by
  have:=h m;rw[hm]at this;generalize hq:O[m]? =q at this;cases this
  rfl,rfl⟩,rfl⟩⟩
 refine⟨I,L,hg.anr (by omega) (λ _ _ _ h=>h) (λ _ _ _ h=> .inl h) (λ m ee k zs hm=> ?_) (λ m ee k _ hm=>vG hm) (λ m a hm=>by
  have:=h m;rw[hm]at this;generalize hq:O[m]? =q at this;cases this
  rfl) (λ m a hm=>⟨by
  have:=h m;rw[hm]at this;generalize hq:O[m]? =q at this;cases this
  rfl,λ _ _ h=>h.mono dp⟩),λ t=>(hr t).mono dp⟩
 obtain⟨xs,h1,h2,h3⟩:=pP hm;refine⟨xs,h1,h2,?_,λ o=>hg.inv.dT m _ _ _ o h1⟩;have ho:=(hg.inv.obj m _ _ _ h1).congr rfl λ _ _ h=>h.mono dp
 rcases h3 with rfl|⟨cs,cs',rfl,rfl,hl,hc⟩
 ·exact ho
 ·obtain⟨c,k1,k2,k3,k4,k5,k6⟩:=ho;refine⟨c,k1,k2,by simpa using k3,k4,k5,λ i x hx=> ?_⟩
  match i,hx with
  |0,hx=>
   simp at hx;subst hx;obtain⟨q1,q2⟩:=k6 0 (.agg cs) rfl;refine⟨by simpa [AV.cells,hl]using q1,λ j a ha=> ?_⟩;simp only[AV.cells]at ha q2;rcases hc j with hj|hj
   ·exact q2 j a (by rw[←hj];exact ha)
   ·rw[hj]at ha;cases ha;have hjl:j<cs.length:=by rw[←hl];exact(List.getElem?_eq_some_iff.1 hj).1
    obtain⟨y,y1,y2,_⟩:=q2 j cs[j] (getElem?_eq_getElem hjl);exact⟨y,y1,y2,.top _⟩
theorem uH(r:List AV)(t:List SO):∀(k:Nat) (l:List SO) (m:Nat),am2 ((l.map (SO.ev r))[m]?) (((eg t k l).map (SO.ev r))[m]?)
 |_,[],m=>by simp only[eg];exact .same _
 |k,o::l,m=>by
  cases m with
  |zero=>
   simp only[eg,map_cons,List.getElem?_cons_zero];unfold amF
   split
   ·exact .dead _
   ·split
    ·split
     ·rename_i e ts _ _ e' cs h2;have h1:=wm ts cs;simp only[SO.ev,SV.aJ,h1]
      have ha:∀l:List SV,2<=l.length->kG (l.map (SV.ev r))= .agg (l.map (SV.ev r)):=λ l hl=>by
       match l,hl with
       |a::b::l,_=>rfl
      rw[ha _ h2,ha _ (by omega)];refine .box _ _ _ _ (by simp[h1]) λ j=> ?_
      simp only[getElem?_map];rcases wo ts cs j with h|h
      ·exact .inl (by rw[h])
      ·exact .inr (by rw[h];rfl)
     ·exact .same _
    ·exact .same _
   ·exact .same _
  |succ m=>simpa [eg]using uH r t (k+1) l m
section
variable {rb m:List AV} {vs:List D} {base:Nat}
theorem tv(hb:rb.length=base):∀(d e:D),(d.inst base vs).beq e=true->d.ev (rb++D.aY (rb++m) vs)=e.ev (rb++m):=by
 intro d e h;cases d with
 |x i=>
  simp only[D.inst]at h
  split at h
  ·rename_i hi;have:=D.beq_eq _ _ h;subst this;simp only[D.ev];rw[mz (by omega),mz (by omega)]
  ·rename_i hi;cases hv:vs[i- base]? with
   |none=>
    rw[List.getD,hv]at h;simp only[getD_none]at h;cases e<;>simp[D.beq,AV.ceq]at h
   |some d'=>
    rw[List.getD,hv]at h;simp only[getD_some]at h;have:=D.beq_eq _ _ h;subst this;simp only[D.ev,List.getD];rw[getElem?_append_right (by omega),hb,D.aJ,getElem?_map,hv]
    rfl
 |_=>
  simp only[D.inst]at h
  split at h
  ·rename_i lX;have:=D.beq_eq _ _ h;subst this;rw[D.cD _ (by rw[hb];exact lX),D.cD _ (by rw[hb];exact lX)]
  ·cases e<;>simp[D.beq,AV.ceq]at h
theorem agN(hb:rb.length=base):∀(v w:SV),(v.inst base vs).beq w=true->v.ev (rb++D.aY (rb++m) vs)=w.ev (rb++m):=by
 intro v w h;cases v with
 |d x=>cases w<;>simp only[SV.inst,SV.beq,false_eq_true]at h;exact(tv hb _ _ h)
 |row n l=>
  cases w<;>simp only[SV.inst,SV.beq,false_eq_true,and_eq_true,decide_eq_true_eq]at h
  obtain⟨rfl,h⟩:=h;exact(by simp only[SV.ev,tv hb _ _ h])
 |ptr n f=>
  cases w<;>simp only[SV.inst,SV.beq,false_eq_true,and_eq_true,decide_eq_true_eq]at h
  obtain⟨rfl,rfl⟩:=h
  rfl
 |rp n l i f=>
  cases w<;>simp only[SV.inst,SV.beq,false_eq_true,and_eq_true,decide_eq_true_eq]at h
  obtain⟨⟨⟨rfl,h1⟩,h2⟩,rfl⟩:=h;exact(by simp only[SV.ev,tv hb _ _ h1,tv hb _ _ h2])
 |ip x f=>
  cases w<;>simp only[SV.inst,SV.beq,false_eq_true,and_eq_true,decide_eq_true_eq]at h
  obtain⟨h,rfl⟩:=h;exact(by simp only[SV.ev,tv hb _ _ h])
 |agg cs=>
  simp only[SV.inst]at h
  split at h
  ·rename_i lX;have:=SV.beq_eq _ _ h;subst this;exact(by simp only[SV.ev];rw[SV.fL cs (by rw[hb];exact lX),SV.fL cs (by rw[hb];exact lX)])
  ·cases w<;>simp only[SV.beq,false_eq_true]at h
   rename_i e;cases e<;>simp[D.beq,AV.ceq]at h
 |aK cs=>
  simp only[SV.inst]at h
  split at h
  ·rename_i lX;have:=SV.beq_eq _ _ h;subst this;exact(by simp only[SV.ev];rw[SV.fL cs (by rw[hb];exact lX),SV.fL cs (by rw[hb];exact lX)])
  ·cases w<;>simp only[SV.beq,false_eq_true]at h
   rename_i e;cases e<;>simp[D.beq,AV.ceq]at h
 |top=>cases w<;>simp only[SV.inst,SV.beq,false_eq_true]at h;rfl
theorem ada(hb:rb.length=base):∀(cs ds:List SV),SV.ka (cs.map (SV.inst base vs)) ds=true->SV.aY (rb++D.aY (rb++m) vs) cs=SV.aY (rb++m) ds
 | [],[],_=>rfl
 |c::cs,d::ds,h=>by
  simp only[map_cons,SV.ka,and_eq_true]at h;simp only[SV.aY,agN hb c d h.1,ada hb cs ds h.2]
 | [],_::_,h=>by simp[SV.ka]at h
 |_::_,[],h=>by simp[SV.ka]at h
theorem aea:∀(cs ds:List SV),SV.ka cs ds=true->cs.length=ds.length
 | [],[],_=>rfl
 |c::cs,d::ds,h=>by
  simp only[SV.ka,and_eq_true]at h;simp[aea cs ds h.2]
 | [],_::_,h=>by simp[SV.ka]at h
 |_::_,[],h=>by simp[SV.ka]at h
theorem aoE(hb:rb.length=base):∀(a b:SO),(a.inst base vs).beq b=true->a.ev (rb++D.aY (rb++m) vs)=b.ev (rb++m):=by
 intro a b h;cases a with
 |dead=>cases b<;>simp only[SO.inst,SO.beq,false_eq_true]at h;rfl
 |box e cs=>
  cases b<;>simp only[SO.inst,SO.beq,false_eq_true,and_eq_true,decide_eq_true_eq]at h
  obtain⟨rfl,h⟩:=h;have h2:=aea _ _ h;simp only[length_map]at h2;simp only[SO.ev,ada hb _ _ h,h2]
 |row nl e s l=>
  cases b<;>simp only[SO.inst,SO.beq,false_eq_true,and_eq_true,decide_eq_true_eq]at h
  obtain⟨⟨⟨rfl,rfl⟩,rfl⟩,h⟩:=h;cases nl<;>simp only[SO.ev,tv hb _ _ h]
end
mutual
theorem SV.agp{k:Nat}{r:List AV}(hr:AV.ad r=true):∀(v:SV),v.sc k=true->v.cl r.length=true->(v.ev r).inScope k=true
 | .d x,_,h=>bF _ (D.bK hr x h)
 | .row n l,h,_=>h
 | .ptr n f,h,_=>h
 | .rp n l i f,h,_=>h
 | .ip x f,_,h=>bF (.bW (x.ev r) f) (D.bK hr x h)
 | .agg cs,h,h'=>by
   simp only[SV.sc]at h;simp only[SV.cl]at h';exact SV.aaN hr cs h h'
 | .aK cs,h,h'=>by
   simp only[SV.sc]at h;simp only[SV.cl]at h';exact SV.aaN hr cs h h'
 | .top,_,_=>rfl
theorem SV.aaN{k:Nat}{r:List AV}(hr:AV.ad r=true):∀(l:List SV),SV.scs k l=true->SV.cls r.length l=true->AV.cA k (SV.aY r l)=true
 | [],_,_=>rfl
 |v::l,h,h'=>by
  simp only[SV.scs,and_eq_true]at h;simp only[SV.cls,and_eq_true]at h';simp only[SV.aY,AV.cA,SV.agp hr v h.1 h'.1,SV.aaN hr l h.2 h'.2];rfl
end
theorem afg{k:Nat}{l:List AV}(h:AV.cA k l=true):(kG l).inScope k=true:=by
 unfold kG
 split
 ·simpa [AV.cA]using h
 ·exact h
theorem SO.agp{k:Nat}{r:List AV}(hr:AV.ad r=true)(o:SO)(h:o.sc k=true)(h':o.cl r.length=true):(o.ev r).inScope k=true:=by
 cases o with
 |dead=>rfl
 |box e cs=>
  simp only[SO.ev,ae.inScope,AV.cA,Bool.and_true];exact afg (SV.aaN hr cs h h')
 |row nl e s l=>
  have:=ca (k:=k) _ (cH (D.bK hr l h'));cases nl
  ·exact this
  ·simp only[SO.ev]
   split
   ·rfl
   ·exact this
theorem arD{l:List (Nat×SV)}{t:Nat}:lk l t= .top∨(t,lk l t)∈l:=by
 induction l with
 |nil=>exact .inl rfl
 |cons p l ih=>
  obtain⟨k,v⟩:=p;simp only[lk]
  split
  ·rename_i h;subst h;exact .inr (by simp)
  ·rcases ih with h|h
   ·exact .inl h
   ·exact .inr (by simp[h])
theorem nk{n0 base:Nat}{s t:SS}{vs:List D}(h:coerce n0 base s t=some vs){rb m:List AV}(hb:rb.length=base)(hl:(rb++m).length=s.nv)(hr:AV.ad (rb++m)=true):
  vs.length=t.nv- base/\vO rb (rb++D.aY (rb++m) vs) t.nv/\WK n0 (bT s (rb++m)) (bz s (rb++m)) (bT t (rb++D.aY (rb++m) vs)) (bz t (rb++D.aY (rb++m) vs)):=by
 unfold coerce at h;simp only at h
 split at h
 ·cases h
 ·rename_i l5 tM
  split at h
  ·rename_i my;cases h;obtain⟨c0,c1,c2,c3,c4,c5,c6,c7⟩:=my
   have hlen:vs.length=t.nv- base:=by
    have:=(mapM_some tM).1;simpa using this
   have hn:AV.ad (rb++D.aY (rb++m) vs)=true:=by
    rw[aF,and_eq_true]at hr⊢;exact⟨hr.1,D.cG (by rw[aF,and_eq_true];exact hr) vs (by rw[hl];exact c4)⟩
   have hl2:(rb++D.aY (rb++m) vs).length=t.nv:=by
    rw[List.length_append,D.aJ,length_map,hlen,hb];omega
   refine⟨hlen,⟨⟨_,rfl⟩,hl2,hn⟩,?_⟩
   have qY:WK n0 (bT s (rb++m)) (bz s (rb++m)) (bT s (rb++m)) ((eg t.aj 0 s.aj).map (SO.ev (rb++m))):=by
    exact WK.ayV (by simp[bz,uG]) λ j=>uH _ t.aj 0 s.aj j
   refine qY.trans (WK.forget (k:=t.aj.length) ?_ c0 (by simpa using c3) (λ ob ho=> ?_) λ q=> ?_)
   ·apply ext_getElem?;intro j;simp only[bz,List.getElem?_take,getElem?_map]
    split
    ·rename_i hj;have hj2:j<(eg t.aj 0 s.aj).length:=by omega
     have h1:t.aj[j]? =some t.aj[j]:=by simp[hj]
     have h2:(eg t.aj 0 s.aj)[j]? =some (eg t.aj 0 s.aj)[j]:=by simp[hj2]
     rw[h1,h2]
     have hz:(t.aj[j],(eg t.aj 0 s.aj)[j])∈t.aj.zip (eg t.aj 0 s.aj):=by
      apply mem_of_getElem? (i:=j);rw[List.getElem?_zip_eq_some];exact⟨h1,h2⟩
     have:=List.all_eq_true.1 c7 _ hz;simp only[and_eq_true]at this;simp only[map_some,aoE hb _ _ this.1]
    ·rename_i hj;rw[getElem?_eq_none (by omega)];rfl
   ·simp only[bz,mem_map]at ho;obtain⟨o,ho,rfl⟩:=ho;refine SO.agp hn o ?_ (by rw[hl2];exact SS.qU c5 ho);obtain⟨j,hj⟩:=List.getElem?_of_mem ho;have hjl:=(List.getElem?_eq_some_iff.1 hj).1;have h2:(eg t.aj 0 s.aj)[j]? =some ((eg t.aj 0 s.aj)[j]'(by omega)):=by simp[show j<(eg t.aj 0 s.aj).length by omega]
    have hz:(o,(eg t.aj 0 s.aj)[j]'(by omega))∈t.aj.zip (eg t.aj 0 s.aj):=by
     apply mem_of_getElem? (i:=j);rw[List.getElem?_zip_eq_some];exact⟨hj,h2⟩
    have:=List.all_eq_true.1 c7 _ hz;simp only[and_eq_true]at this;exact this.2
   ·simp only[bT];rcases arD (l:=t.env) (t:=q)with h|h
    ·rw[h];exact .inl rfl
    ·have:=List.all_eq_true.1 c6 _ h;simp only[and_eq_true]at this;exact .inr ⟨agN hb _ _ this.1,SV.agp hn _ this.2 (by rw[hl2];exact SS.oP c5 q)⟩
  ·cases h
end Go.Ab
namespace Go.Ab
section
variable {P:Program}
theorem vO.trans{r r1 r2:List AV}{n k:Nat}(h:vO r r1 n)(k':vO r1 r2 k):vO r r2 k:=by
 obtain⟨m,rfl⟩:=h.pre;obtain⟨m',rfl⟩:=k'.pre;exact⟨⟨m++m',by simp⟩,k'.len,k'.nor⟩
theorem ab7{L:AX->SS->List AV->Prop}{R:AV->Prop}{t:T}{r:List AV}:∀(Js S:List (List AV->Prop)),bD P L R (apj Js.length t) r (Js++S)=bD P L R t r S
 | [],S=>rfl
 |J::Js,S=>by simp only[List.length_cons,apj,cons_append,bD,ab7 Js S]
inductive agh:List (List AV->Prop)->List (List AV->Prop)->Prop
 |nil:agh [] []
 |cons {J J':List AV->Prop} {S S':List (List AV->Prop)}:(∀vs,J vs->J' vs)->agh S S'->agh (J::S) (J'::S')
theorem agh.refl:∀(S:List (List AV->Prop)),agh S S
 | []=> .nil
 |_::S=> .cons (λ _ h=>h) (agh.refl S)
theorem eE{L L':AX->SS->List AV->Prop}{R R':AV->Prop}(hL:∀x s r,L x s r->L' x s r)(hR:∀a,R a->R' a):∀(t:T) {r:List AV} {S S':List (List AV->Prop)},agh S S'->bD P L R t r S->bD P L' R' t r S'
 | .leaf x s,r,S,S',hs,h=>hL _ _ _ h
 | .ret d,r,S,S',hs,h=>hR _ h
 | .jump vs,r,S,S',hs,h=>by
   cases hs with
   |nil=>exact h
   |cons hJ _=>exact hJ _ h
 | .bn t,r,S,S',hs,h=>by
   cases hs with
   |nil=>exact h
   |cons _ hs=>exact eE hL hR t hs h
 | .op o t,r,S,S',hs,h=>PO.n6 h λ v hv=>eE hL hR t hs hv
 | .aP c t,r,S,S',hs,h=>l4.wp_mono h λ h=>eE hL hR t hs h
 | .ite c t f,r,S,S',hs,h=>by
   simp only[bD]at h⊢
   split at h
   ·exact⟨λ hb=>eE hL hR t hs (h.1 hb),λ hb=>eE hL hR f hs (h.2 hb)⟩
   ·exact h.elim
 | .bind k a b,r,S,S',hs,h=>eE hL hR a (.cons (λ vs hv hk=>eE hL hR b hs (hv hk)) hs) h
 | .loop init b,r,S,S',hs,h=>by
   obtain⟨J,n,h0,h1⟩:=h;exact⟨J,n,h0,λ n vs hJ hk=>eE hL hR b (.cons (λ _ h=>h) hs) (h1 n vs hJ hk)⟩
theorem gj{L:AX->SS->List AV->Prop}{R:AV->Prop}{k:AX->SS->Option T}:∀(t:T) {d:Nat} {t':T},t.fill k d=some t'->∀{r:List AV} {Js S:List (List AV->Prop)},Js.length=d->bD P L R t' r (Js++S)->
  bD P (λ x s r'=>∃t2,k x s=some t2/\bD P L R t2 r' S) R t r (Js++S)
 | .leaf x s,d,t',h,r,Js,S,hd,hw=>by
   simp only[T.fill,map_eq_some_iff]at h;obtain⟨t2,h1,rfl⟩:=h;subst hd;rw[ab7]at hw;exact⟨t2,h1,hw⟩
 | .ret d',d,t',h,r,Js,S,hd,hw=>by cases h;exact hw
 | .jump vs,d,t',h,r,Js,S,hd,hw=>by
   simp only[T.fill]at h
   split at h
   ·cases h
   ·cases h;exact hw
 | .bn t,d,t',h,r,Js,S,hd,hw=>by
   cases d with
   |zero=>simp[T.fill]at h
   |succ d=>
    simp only[T.fill,map_eq_some_iff]at h;obtain⟨t2,h1,rfl⟩:=h;cases Js with
    |nil=>cases hd
    |cons J Js=>
     simp only[cons_append,bD]at hw⊢;exact gj t h1 (by simpa using hd) hw
 | .op o t,d,t',h,r,Js,S,hd,hw=>by
   simp only[T.fill,map_eq_some_iff]at h;obtain⟨t2,h1,rfl⟩:=h;exact PO.n6 (o:=o) hw λ v hv=>gj t h1 hd hv
 | .aP c t,d,t',h,r,Js,S,hd,hw=>by
   simp only[T.fill,map_eq_some_iff]at h;obtain⟨t2,h1,rfl⟩:=h;exact l4.wp_mono (c:=c) hw λ hv=>gj t h1 hd hv
 | .ite c t f,d,t',h,r,Js,S,hd,hw=>by
   simp only[T.fill]at h
   split at h
   ·rename_i t2 f2 h1 h2;cases h;simp only[bD]at hw⊢
    split at hw
    ·exact⟨λ hb=>gj t h1 hd (hw.1 hb),λ hb=>gj f h2 hd (hw.2 hb)⟩
    ·exact hw.elim
   ·cases h
 | .bind m a b,d,t',h,r,Js,S,hd,hw=>by
   simp only[T.fill]at h
   split at h
   ·rename_i a2 b2 h1 h2;cases h;simp only[bD]at hw⊢;have:=gj a h1 (Js:=_::Js) (by simpa using hd) hw;exact eE (λ _ _ _ h=>h) (λ _ h=>h) a (.cons (λ vs hv hk=>gj b h2 hd (hv hk)) (.refl _)) this
   ·cases h
 | .loop init b,d,t',h,r,Js,S,hd,hw=>by
   simp only[T.fill,map_eq_some_iff]at h;obtain⟨t2,h1,rfl⟩:=h;obtain⟨J,n,h0,h2⟩:=hw;exact⟨J,n,h0,λ n vs hJ hk=>gj b h1 (Js:=_::Js) (by simpa using hd) (h2 n vs hJ hk)⟩
theorem ym{L:AX->SS->List AV->Prop}{R:AV->Prop}{k:AX->SS->Option T}{t t':T}(h:t.fill k 0=some t'){r:List AV}{S:List (List AV->Prop)}(hw:bD P L R t' r S):
 bD P (λ x s r'=>∃t2,k x s=some t2/\bD P L R t2 r' S) R t r S:=gj t h (Js:=[]) rfl hw
theorem nZ{op:dZ}{s:SS}{ns:List Node}{v:SV}{s':SS}(h:kb op s=some (ns,v,s')){r:List AV}(hl:r.length=s.nv)(hr:AV.ad r=true){G:List AV->Prop}(hw:iX P ns r G){K:KT}
  (hk:∀r',G r'->vO r r' s'.nv->bT s' r'=bT s r->K (v.ev r') (bz s' r')):wpOp P op (bT s r) (bz s r) K:=by
 unfold kb at h
 split at h
 ·rename_i h1
  split at h
  ·rename_i ns2 v2 s2 hx
   split at h
   ·rename_i h2;cases h;obtain⟨c1,c2,c3,c4⟩:=h2;refine aqv h1.2 h1.1 c3 hx r hl h1.1 hr c1 K ?_;refine wg ns hr (by rw[hl];exact c1) hw λ r' hm hG he=>hk r' hG ⟨hm.pre,?_,hm.nor⟩ he
    exact(hm.len.trans (by rw[hl])).trans c2
   ·cases h
  ·cases h
 ·cases h
theorem mf{e:Env}{t:Nat}{a:AV}(h:e t=a):e.set t a=e:=wP h
theorem pW{fl:List Nat}{n0:Nat}{L:AX->SS->List AV->Prop}{R:AV->Prop}{S:List (List AV->Prop)}{K:Env->List ae->Prop}:∀(ops:List aN) {s:SS} {t:T},nN fl true ops s=some t->∀{r:List AV},r.length=s.nv->AV.ad r=true->
  bD P L R t r S->(∀s' r',L .normal s' r'->vO r r' s'.nv->K (bT s' r') (bz s' r'))->ij P n0 ops (bT s r) (bz s r) K
 | [],s,t,h,r,hl,hr,hw,hk=>by
   simp only[nN,Option.some.injEq]at h;subst h;exact⟨_,_,.refl _ _ _,hk s r hw ⟨⟨[],by simp⟩,hl,hr⟩⟩
 |o::ops,s,t,h,r,hl,hr,hw,hk=>by
  have afK:Wk n0 s (pre fl true o.op s):=aq4 fl true o.op s;have tL:=afK.2 r hl hr;have hl0:r.length=(pre fl true o.op s).nv:=hl.trans afK.1.symm
  have step:∀{s0:SS} {ns:List Node} {v:SV} {s':SS} {t':T},kb o.op s0=some (ns,v,s')->nN fl true ops (s'.bI o.dst v)=some t'->r.length=s0.nv->bD P L R (wrap ns t') r S->
    wpOp P o.op (bT s0 r) (bz s0 r) λ x O'=>ij P n0 ops (bI (bT s0 r) o.dst x) O' K:=by
   intro s0 ns v s' t' hx ht hl0 hw;rw[n7]at hw;refine nZ hx hl0 hr hw λ r' hG hm he=> ?_
   rw[←he,←mb,←ma s' o.dst v r'];refine pW ops ht (by rw[o5];exact hm.len) hm.nor hG λ s2 r2 hL hm2=>hk s2 r2 hL (hm.trans hm2)
  have skip:∀{s0:SS} {t':T},nN fl true ops (s0.bI o.dst un)=some t'->r.length=s0.nv->bD P L R t' r S->ij P n0 ops (bI (bT s0 r) o.dst (.aK [])) (bz s0 r) K:=by
   intro s0 t' ht hl0 hw;have:(un).ev r= .aK []:=rfl;rw[←this,←mb,←ma s0 o.dst un r];exact pW ops ht (by rw[o5];exact hl0) hr hw hk
  simp only[nN]at h;simp only[ij]
  split at h
  ·rename_i hg
   split at h
   ·rename_i ns v s' hx;simp only[map_eq_some_iff]at h;obtain⟨t',ht,rfl⟩:=h;refine⟨_,_,tL,?_⟩;rw[hg];exact step hx ht hl0 hw
   ·cases h
  ·rename_i g want hg
   split at h
   ·rename_i b hb;have heb:bT s r g= .v (.bool b):=by simp only[bT,hb];rfl
    split at h
    ·rename_i nW
     split at h
     ·rename_i b' jr;have avx:bT (pre fl true o.op s) r g= .v (.bool b'):=by simp only[bT,jr];rfl
      split at h
      ·rename_i ayr;subst ayr
       split at h
       ·rename_i ns v s' hx;simp only[map_eq_some_iff]at h;obtain⟨t',ht,rfl⟩:=h;refine⟨_,_,tL,?_⟩;rw[hg];simp only[avx];rw[mf avx];refine⟨λ _=>step hx ht hl0 hw,λ h=> ?_⟩;cases b'<;>simp at h
       ·cases h
      ·cases h
     ·cases h
    ·rename_i nW;refine⟨_,_,.refl _ _ _,?_⟩;rw[hg];simp only[heb];have hbn:b= !want:=by cases b<;>cases want<;>simp_all
     refine⟨λ h=>(nW h).elim,λ _=> ?_⟩;rw[mf (by rw[heb,hbn])];exact skip h hl hw
   ·rename_i hb;have heb:bT s r g= .aK []:=by simp only[bT,hb];rfl
    refine⟨_,_,.refl _ _ _,?_⟩;rw[hg];simp only[heb];exact skip h hl hw
   ·split at h
    ·rename_i c hc;have hec:bT (pre fl true o.op s) r g=c.ev r:=by simp only[bT,hc];rfl
     split at h
     ·rename_i ns v s' hx
      split at h
      ·rename_i t1 t2 h1 h2;simp only[Option.some.injEq]at h;refine⟨_,_,tL,?_⟩;rw[hg];simp only[hec]
       have key:∃b,c.ev r= .v (.bool b)/\(b=want->bD P L R (wrap ns t1) r S)/\(b= !want->bD P L R t2 r S):=by
        subst h;cases want
        ·simp only[false_eq_true,if_false,bD]at hw
         split at hw
         ·rename_i b hb;exact⟨b,hb,hw.2,λ h=>hw.1 (by simpa using h)⟩
         ·exact hw.elim
        ·simp only[if_true,bD]at hw
         split at hw
         ·rename_i b hb;exact⟨b,hb,hw.1,λ h=>hw.2 (by simpa using h)⟩
         ·exact hw.elim
       obtain⟨b,hb,k1,k2⟩:=key;simp only[hb];have e1:∀b':Bool,(bT (pre fl true o.op s) r).set g (.v (.bool b'))=bT ((pre fl true o.op s).set g (.d (.c (.v (.bool b'))))) r:=λ b'=>by rw[vQ];rfl
       refine⟨λ nW=> ?_,λ nW=> ?_⟩
       ·rw[e1];exact step hx h1 hl0 (k1 nW)
       ·rw[e1];exact skip h2 hl0 (k2 nW)
      ·cases h
     ·cases h
    ·cases h
   ·cases h
theorem n3{fl:List Nat}{L:AX->SS->List AV->Prop}{R:AV->Prop}{S:List (List AV->Prop)}{K:Env->List ae->Prop}:∀(ops:List aN) {s:SS} {t:T},nN fl false ops s=some t->∀{r:List AV},r.length=s.nv->AV.ad r=true->
  bD P L R t r S->(∀s' r',L .normal s' r'->vO r r' s'.nv->K (bT s' r') (bz s' r'))->wpOps P ops (bT s r) (bz s r) K
 | [],s,t,h,r,hl,hr,hw,hk=>by
   simp only[nN,Option.some.injEq]at h;subst h;exact hk s r hw ⟨⟨[],by simp⟩,hl,hr⟩
 |o::ops,s,t,h,r,hl,hr,hw,hk=>by
  have afK:pre fl false o.op s=s:=rfl
  have step:∀{s0:SS} {ns:List Node} {v:SV} {s':SS} {t':T},kb o.op s0=some (ns,v,s')->nN fl false ops (s'.bI o.dst v)=some t'->r.length=s0.nv->bD P L R (wrap ns t') r S->
    wpOp P o.op (bT s0 r) (bz s0 r) λ x O'=>wpOps P ops (bI (bT s0 r) o.dst x) O' K:=by
   intro s0 ns v s' t' hx ht hl0 hw;rw[n7]at hw;refine nZ hx hl0 hr hw λ r' hG hm he=> ?_
   rw[←he,←mb,←ma s' o.dst v r'];refine n3 ops ht (by rw[o5];exact hm.len) hm.nor hG λ s2 r2 hL hm2=>hk s2 r2 hL (hm.trans hm2)
  have skip:∀{s0:SS} {t':T},nN fl false ops (s0.bI o.dst un)=some t'->r.length=s0.nv->bD P L R t' r S->wpOps P ops (bI (bT s0 r) o.dst (.aK [])) (bz s0 r) K:=by
   intro s0 t' ht hl0 hw;have:(un).ev r= .aK []:=rfl;rw[←this,←mb,←ma s0 o.dst un r];exact n3 ops ht (by rw[o5];exact hl0) hr hw hk
  simp only[nN,afK]at h;simp only[wpOps]
  split at h
  ·rename_i hg
   split at h
   ·rename_i ns v s' hx;simp only[map_eq_some_iff]at h;obtain⟨t',ht,rfl⟩:=h;rw[hg];exact step hx ht hl hw
   ·cases h
  ·rename_i g want hg
   split at h
   ·rename_i b hb;have heb:bT s r g= .v (.bool b):=by simp only[bT,hb];rfl
    rw[hg];simp only[heb]
    split at h
    ·rename_i nW;simp only[hb]at h;rw[if_pos nW]at h;subst nW
     split at h
     ·rename_i ns v s' hx;simp only[map_eq_some_iff]at h;obtain⟨t',ht,rfl⟩:=h;rw[mf heb];refine⟨λ _=>step hx ht hl hw,λ h=> ?_⟩;cases b<;>simp at h
     ·cases h
    ·rename_i nW;have hbn:b= !want:=by cases b<;>cases want<;>simp_all
     refine⟨λ h=>(nW h).elim,λ _=> ?_⟩;rw[mf (by rw[heb,hbn])];exact skip h hl hw
   ·rename_i hb;have heb:bT s r g= .aK []:=by simp only[bT,hb];rfl
    rw[hg];simp only[heb];exact skip h hl hw
   ·split at h
    ·rename_i c hc;have hec:bT s r g=c.ev r:=by simp only[bT,hc];rfl
     split at h
     ·rename_i ns v s' hx
      split at h
      ·rename_i t1 t2 h1 h2;simp only[Option.some.injEq]at h;rw[hg];simp only[hec]
       have key:∃b,c.ev r= .v (.bool b)/\(b=want->bD P L R (wrap ns t1) r S)/\(b= !want->bD P L R t2 r S):=by
        subst h;cases want
        ·simp only[false_eq_true,if_false,bD]at hw
         split at hw
         ·rename_i b hb;exact⟨b,hb,hw.2,λ h=>hw.1 (by simpa using h)⟩
         ·exact hw.elim
        ·simp only[if_true,bD]at hw
         split at hw
         ·rename_i b hb;exact⟨b,hb,hw.1,λ h=>hw.2 (by simpa using h)⟩
         ·exact hw.elim
       obtain⟨b,hb,k1,k2⟩:=key;simp only[hb];have e1:∀b':Bool,(bT s r).set g (.v (.bool b'))=bT (s.set g (.d (.c (.v (.bool b'))))) r:=λ b'=>by rw[vQ];rfl
       refine⟨λ nW=> ?_,λ nW=> ?_⟩
       ·rw[e1];exact step hx h1 hl (k1 nW)
       ·rw[e1];exact skip h2 hl (k2 nW)
      ·cases h
     ·cases h
    ·cases h
   ·cases h
theorem aeN{a:AV}(h:a.ag=true):refs a= []:=by
 cases a<;>first|rfl|(simp[AV.ag]at h)
theorem atP{s:SS}(hc:s.cl=true){r:List AV}(hl:r.length=s.nv)(hr:AV.ad r=true)(x:aE):refs (x.ev (bT s r))=rfS s x:=by
 cases x with
 |c a=>rfl
 |t n=>
  simp only[aE.ev,bT,rfS];have:=SS.oP hc n;generalize lk s.env n=v at this;cases v<;>try rfl
  exact aeN (D.bK hr _ (by rw[hl];exact this))
theorem afp{op:dZ}{s:SS}(hc:s.cl=true){r:List AV}(hl:r.length=s.nv)(hr:AV.ad r=true):ck op (bT s r) (bz s r).length=akZ op s:=by
 unfold ck akZ;rw[show(λ x=>refs (aE.ev (bT s r) x))=rfS s from funext λ x=>atP hc hl hr x,dB]
theorem wa{op:dZ}{s:SS}{q}(h:kb op s=some q):s.cl=true:=by
 unfold kb at h
 split at h
 ·rename_i h1;exact h1.1
 ·cases h
theorem ly{rows:List (List Nat)}{all:List aN}{L:AX->SS->List AV->Prop}{R:AV->Prop}{S:List (List AV->Prop)}{K:Env->List ae->Prop}:∀(ops:List aN) {acc:List ll} {s:SS} {t:T},kN rows all ops acc s=some t->∀{r:List AV},r.length=s.nv->AV.ad r=true->
  bD P L R t r S->(∀s' r',L .normal s' r'->vO r r' s'.nv->K (bT s' r') (bz s' r'))->dq P ops acc (bT s r) (bz s r) λ jZ e O=>kD rows (all.zip jZ)=true/\K e O
 | [],acc,s,t,h,r,hl,hr,hw,hk=>by
   simp only[kN]at h
   split at h
   ·rename_i hd;simp only[Option.some.injEq]at h;subst h;simp only[dq];exact⟨hd,hk s r hw ⟨⟨[],by simp⟩,hl,hr⟩⟩
   ·cases h
 |o::ops,acc,s,t,h,r,hl,hr,hw,hk=>by
  have step:∀{s0:SS} {ns:List Node} {v:SV} {s':SS} {t':T} {yF:List ll},kb o.op s0=some (ns,v,s')->kN rows all ops yF (s'.bI o.dst v)=some t'->r.length=s0.nv->bD P L R (wrap ns t') r S->
    wpOp P o.op (bT s0 r) (bz s0 r) λ x O'=>dq P ops yF (bI (bT s0 r) o.dst x) O' λ jZ e O=>kD rows (all.zip jZ)=true/\K e O:=by
   intro s0 ns v s' t' yF hx ht hl0 hw;rw[n7]at hw;refine nZ hx hl0 hr hw λ r' hG hm he=> ?_
   rw[←he,←mb,←ma s' o.dst v r'];refine ly ops ht (by rw[o5];exact hm.len) hm.nor hG λ s2 r2 hL hm2=>hk s2 r2 hL (hm.trans hm2)
  have skip:∀{s0:SS} {t':T} {yF:List ll},kN rows all ops yF (s0.bI o.dst un)=some t'->r.length=s0.nv->bD P L R t' r S->dq P ops yF (bI (bT s0 r) o.dst (.aK [])) (bz s0 r) λ jZ e O=>kD rows (all.zip jZ)=true/\K e O:=by
   intro s0 t' yF ht hl0 hw;have:(un).ev r= .aK []:=rfl;rw[←this,←mb,←ma s0 o.dst un r];exact ly ops ht (by rw[o5];exact hl0) hr hw hk
  simp only[kN]at h;simp only[dq]
  split at h
  ·rename_i hg
   split at h
   ·rename_i ns v s' hx;simp only[map_eq_some_iff]at h;obtain⟨t',ht,rfl⟩:=h;rw[hg];simp only[afp (wa hx) hl hr];exact step hx ht hl hw
   ·cases h
  ·rename_i g want hg
   split at h
   ·rename_i b hb;have heb:bT s r g= .v (.bool b):=by simp only[bT,hb];rfl
    rw[hg];simp only[heb]
    split at h
    ·rename_i nW;subst nW
     split at h
     ·rename_i ns v s' hx;simp only[map_eq_some_iff]at h;obtain⟨t',ht,rfl⟩:=h;rw[mf heb];refine⟨λ _=> ?_,λ h=> ?_⟩
      ·simp only[afp (wa hx) hl hr];exact step hx ht hl hw
      ·cases b<;>simp at h
     ·cases h
    ·rename_i nW;have hbn:b= !want:=by cases b<;>cases want<;>simp_all
     refine⟨λ h=>(nW h).elim,λ _=> ?_⟩;rw[mf (by rw[heb,hbn])];exact skip h hl hw
   ·rename_i hb;have heb:bT s r g= .aK []:=by simp only[bT,hb];rfl
    rw[hg];simp only[heb];exact skip h hl hw
   ·rename_i c _ _ hc;have hec:bT s r g=c.ev r:=by simp only[bT,hc];rfl
    split at h
    ·rename_i ns v s' hx
     split at h
     ·rename_i t1 t2 h1 h2;simp only[Option.some.injEq]at h;rw[hg];simp only[hec]
      have key:∃b,c.ev r= .v (.bool b)/\(b=want->bD P L R (wrap ns t1) r S)/\(b= !want->bD P L R t2 r S):=by
       subst h;cases want
       ·simp only[false_eq_true,if_false,bD]at hw
        split at hw
        ·rename_i b hb;exact⟨b,hb,hw.2,λ h=>hw.1 (by simpa using h)⟩
        ·exact hw.elim
       ·simp only[if_true,bD]at hw
        split at hw
        ·rename_i b hb;exact⟨b,hb,hw.1,λ h=>hw.2 (by simpa using h)⟩
        ·exact hw.elim
      obtain⟨b,hb,k1,k2⟩:=key;simp only[hb];have e1:∀b':Bool,(bT s r).set g (.v (.bool b'))=bT (s.set g (.d (.c (.v (.bool b'))))) r:=λ b'=>by rw[vQ];rfl
      have e2:∀b':Bool,bz s r=bz (s.set g (.d (.c (.v (.bool b'))))) r:=λ b'=>rfl
      refine⟨λ nW=> ?_,λ nW=> ?_⟩
      ·rw[e1,e2 want];simp only[afp (s:=s.set g (.d (.c (.v (.bool want))))) (wa hx) hl hr];exact step hx h1 hl (k1 nW)
      ·rw[e1,e2 (!want)];exact skip h2 hl (k2 nW)
     ·cases h
    ·cases h
   ·cases h
theorem abh{n0:Nat}(s:SS)(t m:Nat):Wk n0 s {s with aj:=s.aj++ [.row true t m (.c (.sl []))]}:=by
 refine⟨rfl,λ r hl hr=> ?_⟩;refine WK.aa9 t m (by simp[bz]) (by simp[bz,SO.ev,D.ev,aS]) (λ j hj=> .inl ?_) λ q=> .inl rfl
 simp only[bz,map_append];rw[getElem?_append_left (by simpa [bz]using hj)]
theorem ji{n0:Nat}:∀(ops:List aN) (s:SS),Wk n0 s (iE ops s).2/\(iE ops s).1.map aN.strip=ops.map aN.strip
 | [],s=>⟨.refl _ _,rfl⟩
 |o::r,s=>by
  obtain⟨g,d,op⟩:=o;simp only[iE]
  split
  ·rename_i _ t m z;obtain⟨h1,h2⟩:=ji (n0:=n0) r {s with aj:=s.aj++ [.row true t m (.c (.sl []))]};exact⟨(abh s t m).trans h1,by simp only[map_cons,h2];rfl⟩
  ·rename_i _ t m x;obtain⟨h1,h2⟩:=ji (n0:=n0) r {s with aj:=s.aj++ [.row true t m (.c (.sl []))]};exact⟨(abh s t m).trans h1,by simp only[map_cons,h2];rfl⟩
  ·rename_i _ t m len z ps;obtain⟨h1,h2⟩:=ji (n0:=n0) r {s with aj:=s.aj++ [.row true t m (.c (.sl []))]};exact⟨(abh s t m).trans h1,by simp only[map_cons,h2];rfl⟩
  ·obtain⟨h1,h2⟩:=ji (n0:=n0) r s;exact⟨h1,by simp only[map_cons,h2]⟩
theorem yp{rows:List (List Nat)}{ops:List aN}{n0:Nat}:∀(n:Nat) {s s1:SS} {al:List aN} {t:T},adB rows ops n s=some (s1,al,t)->Wk n0 s s1/\al.map aN.strip=ops.map aN.strip/\kN rows al al [] s1=some t
 |0,s,s1,al,t,h=>by simp[adB]at h
 |n+1,s,s1,al,t,h=>by
  simp only[adB]at h
  split at h
  ·rename_i t0 ht;cases h;exact⟨.refl _ _,rfl,ht⟩
  ·split at h
   ·split at h
    ·rename_i t0 ht;cases h;obtain⟨h1,h2⟩:=ji (n0:=n0) ops s;exact⟨h1,h2,ht⟩
    ·cases h
   ·obtain⟨q1,q2⟩:=yp n h;exact⟨(aiC _ _).trans q1,q2⟩
end
end Go.Ab
namespace Go.Ab
section
variable {P:Program}
theorem ak2(live:List Nat)(s:SS)(t:Nat):lk (ak4 live s).env t=if live.contains t=true then lk s.env t else .top:=by
 have key:∀(l:List Nat),lk (l.filterMap λ t=>match lk s.env t with| .top=>none|v=>some (t,v)) t=if l.contains t=true then lk s.env t else .top:=by
  intro l
  induction l with
  |nil=>rfl
  |cons q l ih=>
   simp only[List.filterMap_cons,List.contains_cons];by_cases hq:t=q
   ·subst hq;simp only[BEq.rfl,Bool.true_or,if_true]
    split
    ·rename_i h
     split at h
     ·rename_i h2;rw[h2]at ih⊢;rw[ih];simp
     ·cases h
    ·rename_i p h
     split at h
     ·cases h
     ·cases h;simp[lk]
   ·have hb:(t==q)=false:=by simpa using hq
    simp only[hb,Bool.false_or]
    split
    ·exact ih
    ·rename_i p h
     split at h
     ·cases h
     ·cases h;simp only[lk,if_neg hq];exact ih
 exact key live
theorem ak3(live:List Nat)(s:SS)(r:List AV):bT (ak4 live s) r=r7 live (bT s r):=by
 funext t
 simp only[bT,ak2,r7]
 split<;>rfl
theorem oH{n0:Nat}{body:SS->Option T}:∀(n:Nat) {s h s1 h1:SS} {t:T},tP body n s h=some (s1,h1,t)->Wk n0 s s1/\body h1=some t
 |0,s,h,s1,h1,t,hh=>by simp[tP]at hh
 |n+1,s,h,s1,h1,t,hh=>by
  simp only[tP]at hh
  split at hh
  ·cases hh
  ·rename_i t0 hb
   split at hh
   ·rename_i c hc
    split at hh
    ·cases hh
    ·obtain⟨q1,q2⟩:=oH n hh;exact⟨(ag3 s c).trans q1,q2⟩
   ·split at hh
    ·cases hh;exact⟨.refl _ _,hb⟩
    ·exact oH n hh
theorem pR{n0:Nat}{body:SS->Option T}:∀(n:Nat) {s s1:SS} {t:T},oN body n s=some (s1,t)->Wk n0 s s1/\body s1=some t
 |0,s,s1,t,hh=>by simp[oN]at hh
 |n+1,s,s1,t,hh=>by
  simp only[oN]at hh
  split at hh
  ·cases hh
  ·rename_i t0 hb
   split at hh
   ·split at hh
    ·rename_i c hc;obtain⟨q1,q2⟩:=pR n hh;exact⟨(ag3 s c).trans q1,q2⟩
    ·cases hh;exact⟨.refl _ _,hb⟩
   ·cases hh;exact⟨.refl _ _,hb⟩
theorem amj{b:aO}{q:List (List Nat)×List aN}(h:b.drawn=some q):b= .region (some q.1) q.2:=by
 cases b<;>simp only[aO.drawn,reduceCtorEq]at h
 rename_i d ops;cases d<;>simp only[reduceCtorEq,Option.some.injEq]at h
 subst h;rfl
theorem aie{b:aO}(h:b.afu=true):∃c,b= .j6 c:=by
 cases b<;>first|exact⟨_,rfl⟩|(simp[aO.afu]at h)
theorem ab6{n0:Nat}{fl:List Nat}(c:aO):∀{s:SS} {t:T},xC n0 fl c s=some t->∀{r:List AV},r.length=s.nv->AV.ad r=true->∀{L:AX->SS->List AV->Prop} {R:AV->Prop} {S:List (List AV->Prop)} {Q:AX->Env->List ae->Prop},
  bD P L R t r S->(∀x s' r',L x s' r'->vO r r' s'.nv->Q x (bT s' r') (bz s' r'))->ln P n0 c Q (bT s r) (bz s r):=by
 induction c with
 |skip=>
  intro s t h r hl hr L R S Q hw hq;simp only[xC,Option.some.injEq]at h;subst h;exact hq _ _ _ hw ⟨⟨[],by simp⟩,hl,hr⟩
 |region d ops=>
  intro s t h r hl hr L R S Q hw hq;cases d with
  |none=>exact n3 ops h hl hr hw λ s' r' hL hm=>hq _ _ _ hL hm
  |some rows=>exact⟨ops,rfl,ly ops h hl hr hw λ s' r' hL hm=>hq _ _ _ hL hm⟩
 |hD ops=>
  intro s t h r hl hr L R S Q hw hq;exact pW ops h hl hr hw λ s' r' hL hm=>hq _ _ _ hL hm
 |exit id=>
  intro s t h r hl hr L R S Q hw hq;simp only[xC,Option.some.injEq]at h;subst h;exact hq _ _ _ hw ⟨⟨[],by simp⟩,hl,hr⟩
 |ret=>
  intro s t h r hl hr L R S Q hw hq;simp only[xC,Option.some.injEq]at h;subst h;exact hq _ _ _ hw ⟨⟨[],by simp⟩,hl,hr⟩
 |seq a b iha ihb=>
  intro s t h r hl hr L R S Q hw hq;simp only[xC]at h
  split at h
  ·cases h
  ·rename_i t0 ha
   split at h
   ·rename_i my;obtain⟨b',rfl⟩:=aie my.1
    split at h
    ·rename_i t1 t2 h1 h2;cases h;simp only[bD]at hw;have hf:=ym h1 hw;refine iha ha hl hr hf λ x s' r' hL hm=> ?_
     obtain⟨t3,e3,w3⟩:=hL
     have zF:∀{x'},t3= .bn (.leaf x' s')->x'=x->Q x (bT s' r') (bz s' r'):=by
      intro x' h3 hx;subst h3;subst hx;simp only[bD]at w3;exact hq _ _ _ w3 hm
     cases x with
     |exit i=>cases e3;exact zF rfl rfl
     |ret=>cases e3;exact zF rfl rfl
     |normal=>
      simp only[map_eq_some_iff]at e3;obtain⟨vs,hco,rfl⟩:=e3;simp only[bD]at w3;obtain⟨m,rfl⟩:=hm.pre;obtain⟨c1,c2,c3⟩:=nk hco hl hm.len hm.nor;have w4:=w3 (by rw[D.aJ,length_map,c1]);obtain⟨e',O',tL,oI⟩:=ihb h2 c2.len c2.nor w4 λ x s2 r2 pB hm2=>hq x s2 r2 pB (c2.trans hm2)
      exact⟨e',O',c3.trans tL,oI⟩
    ·cases h
   ·have hf:=ym h hw;refine iha ha hl hr hf λ x s' r' hL hm=> ?_
    obtain⟨t3,e3,w3⟩:=hL;cases x with
    |exit i=>cases e3;exact hq _ _ _ w3 hm
    |ret=>cases e3;exact hq _ _ _ w3 hm
    |normal=>exact ihb e3 hm.len hm.nor w3 λ x s2 r2 pB hm2=>hq x s2 r2 pB (hm.trans hm2)
 |cond c a b iha ihb=>
  intro s t h r hl hr L R S Q hw hq;simp only[xC]at h;simp only[ln,←aT]
  split at h
  ·rename_i bb hc;rw[hc];simp only[SV.ev,D.ev]
   split at h
   ·rename_i hb;refine⟨λ _=>iha h hl hr hw hq,λ h=> ?_⟩;rw[hb]at h;cases h
   ·rename_i hb;refine⟨λ h=>(hb h).elim,λ _=>ihb h hl hr hw hq⟩
  ·rename_i d _ hc
   split at h
   ·rename_i t1 t2 h1 h2
    split at h
    ·cases h;rw[hc];simp only[bD]at hw;simp only[SV.ev]
     split at hw
     ·rename_i bb hb;rw[hb];exact⟨λ h=>iha h1 hl hr (hw.1 h) hq,λ h=>ihb h2 hl hr (hw.2 h) hq⟩
     ·exact hw.elim
    ·cases h
   ·cases h
  ·cases h
 |block id b ih=>
  intro s t h r hl hr L R S Q hw hq;simp only[xC]at h
  split at h
  ·cases h
  ·rename_i t0 hb;have hf:=ym h hw;refine ih hb hl hr hf λ x s' r' hL hm=> ?_
   obtain⟨t3,e3,w3⟩:=hL;cases x with
   |normal=>cases e3;exact hq _ _ _ w3 hm
   |ret=>cases e3;exact hq _ _ _ w3 hm
   |exit i=>
    simp only[Option.some.injEq]at e3;simp only
    split
    ·rename_i hi;rw[if_pos hi]at e3;subst e3;exact hq _ _ _ w3 hm
    ·rename_i hi;rw[if_neg hi]at e3;subst e3;exact hq _ _ _ w3 hm
 |loop b ih=>
  intro s t h r hl hr L R S Q hw hq;simp only[xC]at h
  split at h
  ·cases h
  ·rename_i s1 hd t0 hh;obtain⟨tL,hb⟩:=oH 8 hh
   split at h
   ·rename_i init hco
    split at h
    ·rename_i t1 h1;cases h;obtain⟨J,n,hJ0,afJ⟩:=hw;have hl1:r.length=s1.nv:=hl.trans tL.1.symm;obtain⟨c1,c2,c3⟩:=nk (rb:=r) (m:=[]) hco hl1 (by simpa using hl1) (by simpa using hr);simp only[append_nil]at c1 c2 c3;refine⟨λ n e O=>∃vs,J n vs/\vs.length=init.length/\vO r (r++vs) hd.nv/\e=bT hd (r++vs)/\O=bz hd (r++vs),n,⟨_,_,(tL.2 r hl hr).trans c3,D.aY r init,hJ0,by rw[D.aJ,length_map],c2,rfl,rfl⟩,?_⟩;rintro n e O ⟨vs,hJ,hlen,hm0,rfl,rfl⟩;have hf:=ym h1 (afJ n vs hJ hlen);refine ih hb hm0.len hm0.nor hf λ x s' r' hL hm=> ?_
     obtain⟨t3,e3,w3⟩:=hL;cases x with
     |exit i=>cases e3;simp only[bD]at w3;exact hq _ _ _ w3 (hm0.trans hm)
     |ret=>cases e3;simp only[bD]at w3;exact hq _ _ _ w3 (hm0.trans hm)
     |normal=>
      simp only[map_eq_some_iff]at e3;obtain⟨l5,ayl,rfl⟩:=e3;simp only[bD]at w3;obtain⟨m',au,hJ'⟩:=w3;obtain⟨m2,rfl⟩:=hm.pre;have l6:=hm.nor;have hml:=hm.len;rw[List.append_assoc]at l6 hml hJ'⊢;obtain⟨d1,d2,d3⟩:=nk (rb:=r) (m:=vs++m2) ayl hl1 hml l6;exact⟨m',_,_,au,d3,_,hJ',by rw[D.aJ,length_map,d1,c1],d2,rfl,rfl⟩
    ·cases h
   ·cases h
 |aU live c ih=>
  intro s t h r hl hr L R S Q hw hq;simp only[xC]at h
  split at h
  ·cases h
  ·rename_i t0 hb;have hf:=ym h hw;refine ih hb hl hr hf λ x s' r' hL hm=> ?_
   obtain⟨t3,e3,w3⟩:=hL;cases x with
   |exit i=>cases e3;exact hq _ _ _ w3 hm
   |ret=>cases e3;exact hq _ _ _ w3 hm
   |normal=>
    cases e3;simp only;rw[←ak3];exact hq _ _ _ w3 hm
 |j6 c ih=>
  intro s t h r hl hr L R S Q hw hq;simp only[xC]at h
  split at h
  ·split at h
   ·rename_i q hc;obtain⟨s1,t1⟩:=q;cases h;obtain⟨tL,hb⟩:=pR 6 hc;exact⟨_,_,tL.2 r hl hr,ih hb (hl.trans tL.1.symm) hr hw hq⟩
   ·cases h
  ·split at h
   ·rename_i q hd;simp only[map_eq_some_iff]at h;obtain⟨⟨s1,al,t1⟩,uO,rfl⟩:=h;obtain⟨tL,iu,hx⟩:=yp (n0:=n0) 6 uO;have hc:=amj hd;subst hc;exact⟨_,_,tL.2 r hl hr,al,iu,ly al hx (hl.trans tL.1.symm) hr hw λ s' r' hL hm=>hq _ _ _ hL hm⟩
   ·exact⟨_,_,.refl _ _ _,ih h hl hr hw hq⟩
theorem ea:∀(c:aO),c.weaken.strip=c.strip
 | .skip=>rfl
 | .region none ops=>rfl
 | .region (some rows) ops=>rfl
 | .seq a b=>by simp only[aO.weaken,aO.strip,ea a,ea b]
 | .cond c t f=>by simp only[aO.weaken,aO.strip,ea t,ea f]
 | .block id b=>by simp only[aO.weaken,aO.strip,ea b]
 | .loop b=>by simp only[aO.weaken,aO.strip,ea b]
 | .exit id=>rfl
 | .ret=>rfl
 | .aU l c=>by simp only[aO.weaken,aO.strip,ea c]
 | .j6 c=>by simp only[aO.weaken,aO.strip,ea c]
 | .hD ops=>rfl
def sG.weaken(A:sG):sG:={A with code:= .j6 A.code.weaken}
theorem cFn.weaken{f:FuncId}{A:sG}(h:cFn P f A):cFn P f A.weaken:=by
 obtain⟨fn,code,h1,h2,h3,h4,h5,h6,h7⟩:=h;exact⟨fn,code,h1,h2,h3,h4,h5,h6.trans (congrArg some (ea A.code).symm),h7⟩
def tW(n:Nat):SS:=⟨(List.range n).map λ i=>(i,.d (.x i)),[],n,[]⟩
theorem amg(args:List AV):∀t,bT (tW args.length) args t= .top∨bT (tW args.length) args t=nh args t:=by
 intro t
 have key:∀(n k:Nat),lk ((List.range' k n).map λ i=>(i,SV.d (.x i))) t=if k<=t/\t<k+n then .d (.x t)else .top:=by
  intro n
  induction n with
  |zero=>intro k;rw[if_neg (by omega)];rfl
  |succ n ih=>
   intro k;simp only[List.range'_succ,map_cons,lk,ih];by_cases h:t=k
   ·subst h;simp
   ·rw[if_neg h];by_cases h2:k+1<=t/\t<k+1+n
    ·rw[if_pos h2,if_pos (by omega)]
    ·rw[if_neg h2,if_neg (by omega)]
 simp only[bT,tW,List.range_eq_range'];rw[key]
 split
 ·rename_i h;refine .inr ?_;simp only[SV.ev,D.ev,nh,List.getD];have:t<args.length:=by omega
  rw[getElem?_eq_getElem this];rfl
 ·exact .inl rfl
inductive ud(O:List ae):AV->AV->Prop
 |refl (a:AV):a.ag=true->ud O a a
 |row (n t s:Nat) (xs:List AV):(O[n]? =some (.live t s xs)∨(O[n]? =some (.nil t s)/\xs= []))->AV.ad xs=true->ud O (.row n xs.length) (.sl xs)
 |agg (cs ds:List AV):cs.length=ds.length->(∀(i:Nat) c d,cs[i]? =some c->ds[i]? =some d->ud O c d)->ud O (.agg cs) (.agg ds)
 |aK (cs ds:List AV):cs.length=ds.length->(∀(i:Nat) c d,cs[i]? =some c->ds[i]? =some d->ud O c d)->ud O (.aK cs) (.aK ds)
theorem ud.sound{I:da}{L:Nat->Loc}{O:List ae}{w:World}(hi:Inv I L O w){a b:AV}(h:ud O a b):∀{x:Value},R I L O a x->R (allI I L O w) L [] b x:=by
 induction h with
 |refl a hn=>intro x hr;exact hr.ag (sD hi) hn
 |row n t s xs hO hn=>
  intro x hr;rcases hO with hO|⟨hO,rfl⟩
  ·have:=hr.e9 hO rfl;subst this;obtain⟨c,⟨j5,h1,dn⟩,h2,h3,h4,h5,h6⟩:=hi.obj n t s xs hO;have hlb:LB L O (L n).bc:= .inl ⟨n,t,s,xs,hO,rfl⟩;by_cases hx:xs= []
   ·subst hx;exact .me _ _
   ·refine(.sl xs (L n).bc 0 (L n).cap s (λ i j=>(c[i*s+j]?).getD undef) h3 hx (λ i x hx=>(h6 i x hx).1) (λ i x j d hx hj=> ?_) λ i x j d hx hj=> ?_)
    ·obtain⟨y,hy,ho,_⟩:=(h6 i x hx).2 j d hj;unfold allI;rw[if_pos hlb,zero_add,dV h1,hy];exact⟨rfl,ho⟩
    ·obtain⟨y,hy,ho,lI⟩:=(h6 i x hx).2 j d hj;rw[hy];exact lI.ag (sD hi) (fb (a8 hn x (mem_of_getElem? hx)) d (mem_of_getElem? hj))
  ·obtain⟨rfl,_⟩:=hr.lz hO;exact .me _ _
 |agg cs ds h _ ih=>
  intro x hr;cases hr with
  |agg _ vs hl hr=>
   refine .agg _ _ (by omega) λ i d v hd hv=> ?_
   have hc:cs[i]? =some (cs[i]'(by have:=(List.getElem?_eq_some_iff.1 hd).1;omega)):=by simp
   exact ih i _ _ hc hd (hr i _ v hc hv)
 |aK cs ds h _ ih=>
  intro x hr;cases hr with
  |aK _ vs hl hr=>
   refine .aK _ _ (by omega) λ i d v hd hv=> ?_
   have hc:cs[i]? =some (cs[i]'(by have:=(List.getElem?_eq_some_iff.1 hd).1;omega)):=by simp
   exact ih i _ _ hc hd (hr i _ v hc hv)
theorem ajZ{rs:List ff}{res:AV}{x:AX}(hx:x= .ret∨x= .normal){e:Env}{O:List ae}(h:fi e O rs [] λ xs=>ud O (b4 xs) res):lQ 0 rs res [] x e O:=by
 have key:∀(rs:List ff) (acc:List AV) (M M':List AV->Prop),(∀xs,M xs->M' xs)->fi e O rs acc M->fi e O rs acc M':=by
  intro rs
  induction rs with
  |nil=>intro acc M M' hm h;exact hm _ h
  |cons r rs ih=>
   intro acc M M' hm h;cases r with
   |tmp t=>exact ih _ _ _ hm h
   |cell t n=>
    simp only[fi,ff.get]at h⊢
    split at h
    ·split at h
     ·exact⟨h.1,ih _ _ _ hm h.2⟩
     ·exact h.elim
    ·exact h.elim
 have:fi e O rs [] λ xs=>∃e',WK 0 (λ t=>if t=0 then b4 xs else .top) O e' []/\e' 0=res:=by
  refine key rs _ _ _ (λ xs hp=>⟨λ t=>if t=0 then res else .top,?_,rfl⟩) h;intro I0 L0 O0 w0 I L w f hl hg hr;obtain rfl:O0= []:=List.eq_nil_of_length_eq_zero hl;refine⟨_,L,hg.all,λ t=> ?_⟩;by_cases ht:t=0
  ·subst ht;have h0:=hr 0;simp only[if_true]at h0⊢;exact hp.sound hg.inv h0
  ·simp only[if_neg ht];exact .top _
 rcases hx with rfl|rfl<;>exact this
section
variable {s:SS} {r:List AV}
theorem yi(hl:r.length=s.nv)(hr:AV.ad r=true)(hc:s.cl=true){v:SV}{d:D}(h:apf s v=some d)(hv:v.cl s.nv=true):ud (bz s r) (v.ev r) (d.ev r):=by
 unfold apf at h
 split at h
 ·cases h;exact .refl _ (D.bK hr _ (by rw[hl];exact hv))
 ·rename_i n l
  split at h
  ·rename_i jK;cases h;obtain⟨⟨nl,e,sz⟩,hq⟩:=Option.isSome_iff_exists.1 jK;have hn:=cH (D.bK hr l (by rw[hl];exact hv));simp only[SV.ev,D.ev];refine .row n e sz _ ?_ hn;rcases eU (eC hq) r with h|⟨h,h',_⟩
   ·exact .inl h
   ·exact .inr ⟨h,h'⟩
  ·cases h
 ·cases h
theorem uR(hl:r.length=s.nv)(hr:AV.ad r=true)(hc:s.cl=true):∀{vs:List SV} {ds:List D},ads s vs=some ds->SV.cls s.nv vs=true->vs.length=ds.length/\∀(i:Nat) c d,(SV.aY r vs)[i]? =some c->(D.aY r ds)[i]? =some d->ud (bz s r) c d
 | [],ds,h,_=>by simp only[ads,Option.some.injEq]at h;subst h;exact⟨rfl,by simp[SV.aY]⟩
 |v::vs,ds,h,lX=>by
  simp only[ads]at h
  split at h
  ·rename_i d ds' h1 h2;cases h;simp only[SV.cls,and_eq_true]at lX;obtain⟨k1,k2⟩:=uR hl hr hc h2 lX.2;refine⟨by simp[k1],λ i c d' hi ej=> ?_⟩;cases i with
   |zero=>
    simp only[SV.aY,D.aY,List.getElem?_cons_zero,Option.some.injEq]at hi ej;subst hi;subst ej;exact yi hl hr hc h1 lX.1
   |succ i=>exact k2 i c d' (by simpa [SV.aY]using hi) (by simpa [D.aY]using ej)
  ·cases h
theorem afW(hl:r.length=s.nv)(hr:AV.ad r=true)(hc:s.cl=true){v:SV}{d:D}(h:aso s v=some d)(hv:v.cl s.nv=true):ud (bz s r) (v.ev r) (d.ev r):=by
 unfold aso at h
 split at h
 ·rename_i cs;simp only[map_eq_some_iff]at h;obtain⟨ds,h1,rfl⟩:=h;obtain⟨k1,k2⟩:=uR hl hr hc h1 hv;exact .agg _ _ (by simp[SV.aJ,D.aJ,k1]) k2
 ·exact yi hl hr hc h hv
theorem uS(hl:r.length=s.nv)(hr:AV.ad r=true)(hc:s.cl=true):∀{rs:List ff} {ds:List D},yj s rs=some ds->∀(acc:List AV) (M:List AV->Prop),
  (∀xs:List AV,xs.length=ds.length->(∀(i:Nat) c d,xs[i]? =some c->(D.aY r ds)[i]? =some d->ud (bz s r) c d)->M (acc.reverse++xs))->fi (bT s r) (bz s r) rs acc M
 | [],ds,h,acc,M,hM=>by
   simp only[yj,Option.some.injEq]at h;subst h;have:=hM [] rfl (by simp);simpa [fi]using this
 |q::rs,ds,h,acc,M,hM=>by
  simp only[yj]at h
  split at h
  ·rename_i v hv
   split at h
   ·rename_i d ds' h1 h2;cases h
    have cont:∀{x:AV},x=v.ev r->v.cl s.nv=true->fi (bT s r) (bz s r) rs (x::acc) M:=by
     rintro x rfl lX;refine uS hl hr hc h2 _ _ λ xs hlen hx=> ?_
     have:=hM (v.ev r::xs) (by simp[hlen]) (λ i c d' hi ej=> ?_)
     ·simpa using this
     ·cases i with
      |zero=>
       simp only[D.aY,List.getElem?_cons_zero,Option.some.injEq]at hi ej;subst hi;subst ej;exact afW hl hr hc h1 lX
      |succ i=>exact hx i c d' (by simpa using hi) (by simpa [D.aY]using ej)
    cases q with
    |tmp t=>
     simp only[zx,Option.some.injEq]at hv;subst hv;exact cont rfl (SS.oP hc t)
    |cell t n=>
     simp only[zx]at hv
     split at hv
     ·rename_i k hk
      split at hv
      ·rename_i e cs hb;have nV:=iT hb;have ayn:SV.cls s.nv cs=true:=SS.qU hc (mem_of_getElem? nV);simp only[fi,ff.get,bT,hk,SV.ev];rw[gH nV r];simp only[SO.ev]
       split at hv
       ·cases hv
       ·rename_i m
        split at hv
        ·rename_i hm;cases hv;have hx:kG (SV.aY r cs)= .agg (SV.aY r cs):=eA (by rw[SV.aJ];simpa [hm.1]using hm.2);rw[hx];refine⟨by simp[AV.cells,SV.aJ,hm.1],?_⟩;rw[oB rfl (by simp[AV.cells,SV.aJ,hm.1])];exact cont rfl ayn
        ·cases hv
      ·cases hv
     ·cases hv
   ·cases h
  ·cases h
end
def asn(rs:List ff)(x:AX)(s:SS):Option T:=
 match x with
 | .exit _=>none
 |_=>if s.cl=true then(yj s rs).map .ret else none
def sG.left(fl:List Nat)(A:sG):Option T:=
 match xC 0 fl A.weaken.code (tW A.iw)with
 |some t=>t.fill (asn A.res) 0
 |none=>none
theorem ape{rs:List ff}{s:SS}{r:List AV}{ds:List D}(hl:r.length=s.nv)(hr:AV.ad r=true)(hc:s.cl=true)(h:yj s rs=some ds){x:AX}(hx:x= .ret∨x= .normal):lQ 0 rs (b4 (D.aY r ds)) [] x (bT s r) (bz s r):=by
 refine ajZ hx (uS hl hr hc h [] _ λ xs hlen pO=> ?_);simp only[reverse_nil,nil_append];by_cases h1:ds.length=1
 ·obtain⟨d,rfl⟩:=List.length_eq_one_iff.1 h1;obtain⟨a,rfl⟩:=List.length_eq_one_iff.1 (hlen.trans h1);exact pO 0 a (d.ev r) rfl rfl
 ·have p1:b4 xs= .aK xs:=by
    unfold b4;split
    ·simp at hlen;omega
    ·rfl
  have p2:b4 (D.aY r ds)= .aK (D.aY r ds):=by
   unfold b4;split
   ·rename_i h2;have:=congrArg List.length h2;rw[D.aJ]at this;simp at this;omega
   ·rfl
  rw[p1,p2];exact .aK _ _ (by rw[D.aJ];simpa using hlen) pO
theorem amo{f:FuncId}{A:sG}{fl:List Nat}{t:T}(hf:cFn P f A)(ht:A.left fl=some t){args:List AV}(hl:args.length=A.iw)(hn:AV.ad args=true){res:AV}
  (h:bD P (λ _ _ _=>False) (λ a=>a=res) t args []):aI P f args res:=by
 refine hH (hf.weaken) hl ?_;unfold sG.left at ht
 split at ht
 ·rename_i t0 h0;have hw:=ym ht h;have hs:=ab6 (P:=P) (fl:=fl) (sG.weaken A).code (s:=tW A.iw) h0 (r:=args) hl hn hw (Q:=lQ 0 A.res res []) λ x s r hL hm=> ?_
  ·obtain⟨e',O',tL,hc⟩:=hs;refine⟨e',O',?_,hc⟩;refine WK.trans ?_ tL;have he:bz (tW A.iw) args= []:=rfl;rw[he,←hl];exact WK.env (amg args)
  ·obtain⟨t2,e2,w2⟩:=hL
   have key:(x= .ret∨x= .normal)/\s.cl=true/\∃ds,yj s A.res=some ds/\t2= .ret ds:=by
    cases x with
    |exit i=>cases e2
    |ret=>
     simp only[asn]at e2
     split at e2
     ·rename_i hc;simp only[map_eq_some_iff]at e2;obtain⟨ds,h1,h2⟩:=e2;exact⟨.inl rfl,hc,ds,h1,h2.symm⟩
     ·cases e2
    |normal=>
     simp only[asn]at e2
     split at e2
     ·rename_i hc;simp only[map_eq_some_iff]at e2;obtain⟨ds,h1,h2⟩:=e2;exact⟨.inr rfl,hc,ds,h1,h2.symm⟩
     ·cases e2
   obtain⟨hx,hc,ds,h1,rfl⟩:=key;simp only[bD]at w2;subst w2;exact ape hm.len hm.nor hc h1 hx
 ·cases ht
end
end Go.Ab
namespace Go.Ab
theorem WK.anA{n0:Nat}{e e':Env}{O O1:List ae}(s:Nat->Nat)(hn0:n0<=O1.length)(hid:∀i,i<n0->s i=i)(hg:∀i,i<O1.length->O[s i]? =(O1[i]?).map (ae.bO s))(abv:∀i j,i<O1.length->j<O1.length->s i=s j->i=j)
  (hsO:∀ob∈O1,ob.inScope O1.length=true) (he:∀t,e' t= .top∨(e t=(e' t).bO s/\(e' t).inScope O1.length=true)):WK n0 e O e' O1:=by
 intro I0 L0 O0 w0 I L w f hl iN hr;have hi:=iN.inv
 have gz:∀{n e k ys},O1[n]? =some (.live e k ys)->O[s n]? =some (.live e k (ys.map (AV.bO s))):=by
  intro n e k ys hn;rw[hg n (List.getElem?_eq_some_iff.1 hn).1,hn];rfl
 have axh:∀{n e k:Nat},O1[n]? =some (.nil e k)->O[s n]? =some (.nil e k):=by
  intro n e k hn;rw[hg n (List.getElem?_eq_some_iff.1 hn).1,hn];rfl
 have iI:∀{n:Nat} {a:AV},O1[n]? =some (.own a)->O[s n]? =some (.own a):=by
  intro n a hn;rw[hg n (List.getElem?_eq_some_iff.1 hn).1,hn];rfl
 have mZ:∀{n:Nat} {g:fT},O1[n]? =some (.cN g)->O[s n]? =some (.cN (g.bO s)):=by
  intro n a hn;rw[hg n (List.getElem?_eq_some_iff.1 hn).1,hn];rfl
 have un:∀{a:AV} {x:Value},R I L O (a.bO s) x->a.inScope O1.length=true->R I (λ n=>L (s n)) O1 a x:=λ hr hsc=>R.ajF hg (λ _ _=>rfl) hr _ rfl hsc
 refine⟨I,λ n=>L (s n),⟨⟨hi.iy,λ n e k ys hn=> ?_,λ n n' e k ys e' k' pV hn mw hb=> ?_,λ n e k ys o hn=>hi.dT _ _ _ _ o (gz hn),hi.fix,hi.bc,
  ⟨λ n a hn=>hi.ow.tree _ a (iI hn),λ n a hn=>hi.ow.cell _ a (iI hn),λ n a hn=>hi.ow.iy _ a (iI hn),λ n a hn b o v hv m e k xs hm=>hi.ow.live _ a (iI hn) b o v hv _ _ _ _ (gz hm),
   λ n m a c hn hm b o o' v v' hv qX=>abv _ _ (List.getElem?_eq_some_iff.1 hn).1 (List.getElem?_eq_some_iff.1 hm).1 (hi.ow.sep _ _ a c (iI hn) (iI hm) b o o' v v' hv qX),λ n a hn=>hi.ow.deep _ a (iI hn)⟩,
  ⟨λ n g hn=>(hi.gh.ok _ _ (mZ hn)).un (λ _ _ hr hsc=>un hr hsc) (hsO _ (mem_of_getElem? hn)),λ n m a c hn hm hb=>abv _ _ (List.getElem?_eq_some_iff.1 hn).1 (List.getElem?_eq_some_iff.1 hm).1 (hi.gh.sep _ _ _ _ (mZ hn) (mZ hm) hb)⟩⟩,⟨iN.ext.iy,by omega,λ n hn e k xs hx=> ?_,λ n hn e k hx=> ?_,λ n hn a hx=>by
   have h1:=iI hx;have hs:=hid n (by omega);rw[hs]at h1;obtain⟨q1,q2⟩:=iN.ext.own n hn a h1;exact⟨q1,by show(L (s n)).val=_;rw[hs];exact q2⟩,λ n hn a hx=>by
   have h1:=mZ hx;have hs:=hid n (by omega);rw[hs]at h1;obtain⟨⟨q,q0,q1⟩,q2⟩:=iN.ext.cN n hn _ h1;exact⟨⟨q,q0,by rw[q1,fT.wW]⟩,by show(L (s n)).bc=_;rw[hs];exact q2⟩⟩,iN.mE,?_,iN.iM⟩,λ t=> ?_⟩
 ·obtain⟨c,⟨j5,q1,dn⟩,q2,q3,q4,q5,q6⟩:=hi.obj _ _ _ _ (gz hn);refine⟨c,⟨j5,q1,dn⟩,q2,by simpa using q3,q4,q5,λ i x hx=> ?_⟩;have jj:(ys.map (AV.bO s))[i]? =some (x.bO s):=by rw[getElem?_map,hx];rfl
  obtain⟨r1,r2⟩:=q6 i _ jj;rw[du,length_map]at r1;refine⟨r1,λ j a ha=> ?_⟩;obtain⟨y,hy,ho,lI⟩:=r2 j (a.bO s) (by rw[du,getElem?_map,ha];rfl);have hbo:=hsO _ (mem_of_getElem? hn);exact⟨y,hy,ho,un lI (b7 (bP hbo x (mem_of_getElem? hx)) a (mem_of_getElem? ha))⟩
 ·exact abv _ _ (List.getElem?_eq_some_iff.1 hn).1 (List.getElem?_eq_some_iff.1 mw).1 (hi.sep _ _ _ _ _ _ _ _ (gz hn) (gz mw) hb)
 ·have h1:=gz hx;have hs:=hid n (by omega);rw[hs]at h1;rcases iN.ext.obj n hn e k _ h1 with⟨zs,z1,z2,z3⟩|⟨z1,z2⟩
  ·exact .inl ⟨zs,z1,by simpa using z2,λ he=>by show L (s n)=_;rw[hs];exact z3 (by simpa using he)⟩
  ·exact .inr ⟨z1,by simpa using z2⟩
 ·have h1:=axh hx;rw[hid n (by omega)]at h1;exact iN.ext.nil n hn e k h1
 ·rintro b (⟨n,e,k,xs,hn,hb⟩|⟨n,a,o,v,hn,hb⟩|⟨n,a,hn,hb⟩)
  ·exact iN.lb b (.inl ⟨s n,_,_,_,gz hn,hb⟩)
  ·exact iN.lb b (.inr (.inl ⟨s n,a,o,v,iI hn,hb⟩))
  ·exact iN.lb b (.inr (.inr ⟨s n,_,mZ hn,hb⟩))
 ·rcases he t with h|⟨h,h'⟩
  ·rw[h];exact .top _
  ·have:=hr t;rw[h]at this;exact un this h'
section
variable {P:Program}
theorem aaZ{r:List AV}{v:SV}{d:D}(h:aeZ v=some d):d.ev r=v.ev r:=by
 unfold aeZ at h
 split at h
 ·cases h;rfl
 ·rename_i cs;simp only[map_eq_some_iff]at h;obtain⟨ds,h1,rfl⟩:=h;rw[sx h1];simp only[D.ev,SV.ev,ph]
 ·cases h;rfl
 ·cases h
theorem s8(r:List AV)(p v:SV):(xa p v).ev r=v.ev r:=by
 unfold xa
 split
 ·split
  ·rename_i d hd;simp only[SV.ev,aaZ hd]
  ·rfl
 ·rfl
theorem ahM(r:List AV)(p v:SV):(aaY p v).ev r=v.ev r:=by
 unfold aaY
 split
 ·rename_i ps vs;simp only[SV.ev,SV.aJ,map_map];congr 1;apply ext_getElem
  ·simp
  ·intro i h1 h2;simp only[getElem_map,getElem_range,Function.comp_apply,s8];simp only[length_map]at h2;simp only[List.getD,getElem?_eq_getElem h2,getD_some]
 ·rename_i ps vs;simp only[SV.ev,SV.aJ,map_map];congr 1;apply ext_getElem
  ·simp
  ·intro i h1 h2;simp only[getElem_map,getElem_range,Function.comp_apply,s8];simp only[length_map]at h2;simp only[List.getD,getElem?_eq_getElem h2,getD_some]
 ·exact s8 r _ _
theorem ahv{s:SS}{r:List AV}{a:ff}{v:SV}(h:zx s a=some v){K:AV->Prop}(hk:K (v.ev r)):a.get (bT s r) (bz s r) K:=by
 unfold zx at h
 split at h
 ·cases h;exact hk
 ·rename_i t n
  split at h
  ·rename_i k hlk
   split at h
   ·rename_i e cs hb
    split at h
    ·cases h
    ·rename_i m
     split at h
     ·rename_i my;cases h;simp only[ff.get,bT,hlk,SV.ev];rw[gH (iT hb) r];simp only[SO.ev];have hx:kG (SV.aY r cs)= .agg (SV.aY r cs):=eA (by rw[SV.aJ];simpa [my.1]using my.2);rw[hx];have hlen:(SV.aY r cs).length=m:=by rw[SV.aJ];simpa using my.1
      refine⟨by simp only[AV.cells,hlen,getD_some];first|exact le_refl _|trivial|done,?_⟩
      have:dH (some m) (.agg (SV.aY r cs)) 0= .agg (SV.aY r cs):=by
       show(if 0=0/\(AV.agg (SV.aY r cs)).isAgg=true/\(AV.agg (SV.aY r cs)).cells.length=m then _ else _)=_;rw[if_pos ⟨rfl,rfl,by simpa [AV.cells]using hlen⟩]
      rw[this];exact hk
     ·cases h
   ·cases h
  ·cases h
theorem o3{s:SS}{r:List AV}:∀{rs:List ff} {vs:List SV},wV s rs=some vs->∀(acc:List AV) (K:List AV->Prop),K (acc.reverse++SV.aY r vs)->fi (bT s r) (bz s r) rs acc K
 | [],vs,h,acc,K,hk=>by cases h;simpa [fi,SV.aY]using hk
 |a::rs,vs,h,acc,K,hk=>by
  simp only[wV]at h
  split at h
  ·rename_i v l5 h1 h2;cases h;simp only[fi];refine ahv h1 (o3 h2 _ _ ?_);simpa [SV.aY]using hk
  ·cases h
theorem xg(r:List AV)(vs:List SV):(uy vs).ev r=b4 (SV.aY r vs):=by
 cases vs with
 |nil=>rfl
 |cons v vs=>cases vs<;>rfl
theorem ahQ{l m:List AV}(hl:l.length=m.length)(h:b4 l=b4 m):l=m:=by
 rcases l with _|⟨a,_|⟨b,l⟩⟩<;>rcases m with _|⟨c,_|⟨d,m⟩⟩<;>simp[b4]at h hl⊢<;>exact h
def alZ(g:jw)(s:SS)(vs:List SV):SS:=
 let s2:SS:={s with env:=[(0,uy vs)]}
 (List.zip (match g.res with| .aK ps=>ps|p=>[p]) vs).foldl (λ (s:SS) (q:SV×SV)=>match q.1 with
  | .d _=>nH s q.2
  |_=>s) s2
def pf(g:jw)(rs:List ff)(s:SS):Option (List D×List Nat):=
 match wV s rs with
 |some vs=>oK g [.tmp 0] (alZ g s vs)
 |none=>none
def auu(aj:List SO)(ps cs:List SV):Option (Nat×Nat×Nat):=
 (List.range cs.length).findSome? λ j=>match ps.getD j .top,cs[j]? with
  | .row n _,some (.d (.c .aQ))=>match aj.getD n .dead with
    | .row true e m _=>some (j,e,m)
    |_=>none
  |_,_=>none
def afe(s:SS)(f:List SV->SV)(cs:List SV)(j e m:Nat):SS:={s with env:=[(0,f (cs.set j (.row s.aj.length (.c (.sl [])))))],aj:=s.aj++ [.row true e m (.c (.sl []))]}
def abD(g:jw)(s:SS)(f:List SV->SV)(ps cs:List SV):Option (List D×List Nat):=
 match auu g.cq ps cs with
 |some (j,e,m)=>match cs[j]? with
  |some (.d (.c .aQ))=>oK g [.tmp 0] (afe s f cs j e m)
  |_=>none
 |none=>none
def pd(g:jw)(rs:List ff)(s:SS):Option (List D×List Nat):=
 match wV s rs with
 |some vs=>match g.res,uy vs with
  | .agg ps,.agg cs=>abD g s .agg ps cs
  | .aK ps,.aK cs=>abD g s .aK ps cs
  |_,_=>none
 |none=>none
def al4(g:jw)(rs:List ff)(x:AX)(s:SS):Option T:=
 match x with
 | .exit _=>none
 |_=>match oK g rs s with
  |some (τ,_)=>some (.ret τ)
  |none=>match pf g rs s with
   |some (τ,_)=>some (.ret τ)
   |none=>match pd g rs s with
    |some (τ,_)=>some (.ret τ)
    |none=>some (.aP .no (.ret []))
def sG.soft(A:sG):sG:={A with code:= .j6 A.code}
theorem cFn.soft{f:FuncId}{A:sG}(h:cFn P f A):cFn P f A.soft:=by
 obtain⟨fn,code,h1,h2,h3,h4,h5,h6,h7⟩:=h;exact⟨fn,code,h1,h2,h3,h4,h5,h6,h7⟩
def sG.rR(fl:List Nat)(g:jw)(A:sG):Option T:=
 if g.ok=true/\g.args.length=A.iw then
  match(xC g.aj.length fl A.weaken.code (j3 g)).bind λ t=>t.fill (al4 g A.res) 0 with
  |some t=>some t
  |none=>(xC g.aj.length fl A.soft.code (j3 g)).bind λ t=>t.fill (al4 g A.res) 0
 else none
theorem abC{g:jw}{rs:List ff}{s1:SS}{τ:List D}{db:List Nat}(h:oK g rs s1=some (τ,db)){r:List AV}(hl1:r.length=s1.nv)(hr:AV.ad r=true){x:AX}(hx:x= .ret∨x= .normal):
  τ.length=g.m/\lQ g.aj.length rs (g.res.ev (D.aY r τ)) (g.cq.map (SO.ev (D.aY r τ))) x (bT s1 r) (bz s1 r):=by
 unfold oK at h
 ·split at h
  ·cases h
  ·rename_i vs tM
   split at h
   ·cases h
   ·rename_i τ' anh azA
    split at h
    ·rename_i my;simp only[Option.some.injEq,Prod.mk.injEq]at h;obtain⟨rfl,rfl⟩:=h;obtain⟨c1,c2,c3,c4,c5,c6,c7,c8,c9⟩:=my;refine⟨c8,?_⟩;simp only[jw.ok,and_eq_true,decide_eq_true_eq]at c2;obtain⟨⟨⟨⟨p1,p2⟩,p3⟩,p4⟩,p5⟩:=c2;have nU:AV.ad (D.aY r τ')=true:=D.cG hr τ' (by rw[hl1];exact c9);generalize hσ:yk s1 anh=σ at*
     have hin:∀i,i<g.cq.length->∃n,anh[i]? =some n/\σ i=n:=by
      intro i hi;have ej:i<anh.length:=by omega
      refine⟨anh[i],getElem?_eq_getElem ej,?_⟩;rw[←hσ];simp only[yk,if_pos ej,List.getD,getElem?_eq_getElem ej,getD_some]
     have hO2:(g.cq.map (SO.ev (D.aY r τ'))).length=g.cq.length:=by simp
     have mW:fi (bT s1 r) (bz s1 r) rs [] λ xs=>∃e',WK g.aj.length (λ t=>if t=0 then b4 xs else .top) (bz s1 r) e' (g.cq.map (SO.ev (D.aY r τ')))/\e' 0=g.res.ev (D.aY r τ'):=by
      refine o3 tM _ _ ?_;simp only[reverse_nil,nil_append];refine⟨λ t=>if t=0 then g.res.ev (D.aY r τ')else .top,.anA σ (by rw[hO2];exact p5) (λ i hi=> ?_) (λ i hi=> ?_) (λ i j hi hj he=> ?_) (λ ob ho=> ?_) (λ t=> ?_),rfl⟩
      ·have:=List.all_eq_true.1 c6 i (by simpa using hi);simpa using this
      ·rw[hO2]at hi;have hp:g.cq[i]? =some g.cq[i]:=getElem?_eq_getElem hi;have h1:=lJ c7 i _ hp;rw[zero_add]at h1;simp only[bz,getElem?_map,h1,hp,map_some];rw[sa nU _ (List.all_eq_true.1 p3 _ (mem_of_getElem? hp))]
      ·rw[hO2]at hi hj;obtain⟨n,a1,a2⟩:=hin i hi;obtain⟨m,b1,b2⟩:=hin j hj;rw[a2,b2]at he;subst he;exact mN c5 a1 b1
      ·rw[hO2];obtain⟨o,hom,rfl⟩:=List.mem_map.1 ho;exact agv nU o (List.all_eq_true.1 p3 _ hom)
      ·by_cases ht:t=0
       ·subst ht;refine .inr ⟨?_,?_⟩
        ·simp only[if_pos];rw[←xg,←ahM r g.res,←SV.beq_eq _ _ c3,abj nU _ p4]
        ·simp only[if_pos];rw[hO2];cases hgr:g.res with
         |aK cs=>
          rw[hgr]at p4;simp only[SV.yV]at p4;exact rE nU cs p4
         |agg cs=>
          rw[hgr]at p4;simp only[SV.yV]at p4;exact rE nU cs p4
         |_=>
          rw[hgr]at p4;exact akk (n:=g.m) nU _ (by simpa only[SV.yV]using p4)
       ·exact .inl (by simp[ht])
     rcases hx with rfl|rfl<;>exact mW
    ·cases h
theorem aiz{n0:Nat}(g:jw)(s:SS)(vs:List SV):Wk n0 {s with env:=[(0,uy vs)]} (alZ g s vs):=
 gB (λ s q=>by
  split
  ·exact gW _ _
  ·exact .refl _ _) _ _
theorem al3{g:jw}{rs:List ff}{s1:SS}{τ:List D}{db:List Nat}(h:pf g rs s1=some (τ,db)){r:List AV}(hl1:r.length=s1.nv)(hr:AV.ad r=true){x:AX}(hx:x= .ret∨x= .normal):
  τ.length=g.m/\lQ g.aj.length rs (g.res.ev (D.aY r τ)) (g.cq.map (SO.ev (D.aY r τ))) x (bT s1 r) (bz s1 r):=by
 unfold pf at h
 split at h
 ·rename_i vs tM;have hw:=aiz (n0:=g.aj.length) g s1 vs;obtain⟨h1,h2⟩:=abC h (r:=r) (hl1.trans hw.1.symm) hr (x:= .ret) (.inl rfl);refine⟨h1,?_⟩;have h3:=hw.2 r hl1 hr;simp only[lQ,fi,ff.get,List.reverse_cons,reverse_nil,nil_append,b4]at h2;obtain⟨e',h4,h5⟩:=h2
  have mW:fi (bT s1 r) (bz s1 r) rs [] λ xs=>∃e',WK g.aj.length (λ t=>if t=0 then b4 xs else .top) (bz s1 r) e' (g.cq.map (SO.ev (D.aY r τ)))/\e' 0=g.res.ev (D.aY r τ):=by
   refine o3 tM _ _ ?_;simp only[reverse_nil,nil_append];refine⟨e',?_,h5⟩
   have e1:(λ t=>if t=0 then b4 (SV.aY r vs)else .top)=bT {s1 with env:=[(0,uy vs)]} r:=by
    funext t
    simp only[bT,lk];by_cases ht:t=0
    ·simp only[if_pos ht,xg]
    ·simp only[if_neg ht,SV.ev]
   rw[e1];refine WK.trans h3 (WK.trans (WK.env λ t=> ?_) h4);by_cases ht:t=0
   ·right;subst ht;rfl
   ·left;simp only[if_neg ht]
  rcases hx with rfl|rfl<;>exact mW
 ·cases h
theorem WK.ayO{n0:Nat}{e e':Env}{O:List ae}(h:∀(I:da) (L:Nat->Loc) (t:Nat) (x:Value),R I L O (e t) x->R I L O (e' t) x):WK n0 e O e' O:=
 λ _ _ _ _ I L _ f _ hg hr=>⟨I,L,hg,λ t=>h I L t (f t) (hr t)⟩
theorem zK{I:da}{L:Nat->Loc}{O:List ae}{r:List AV}{cs:List SV}{vs:Array Value}{j n e m:Nat}(hj:cs[j]? =some (.d (.c .aQ)))(hn:O[n]? =some (.nil e m))(q1:(SV.aY r cs).length=vs.size)
  (q2:∀(i:Nat) (c:AV) (x:Value),(SV.aY r cs)[i]? =some c->vs[i]? =some x->R I L O c x):
  (SV.aY r (cs.set j (.row n (.c (.sl []))))).length=vs.size/\∀(i:Nat) (c:AV) (x:Value),(SV.aY r (cs.set j (.row n (.c (.sl [])))))[i]? =some c->vs[i]? =some x->R I L O c x:=by
 refine⟨by rw[←q1];simp[SV.aJ],λ i c x hc hv=> ?_⟩;rw[SV.aJ,getElem?_map,getElem?_set]at hc;by_cases hij:j=i
 ·subst hij;have hjl:j<cs.length:=(List.getElem?_eq_some_iff.1 hj).1;simp only[if_true,hjl,map_some,Option.some.injEq,SV.ev,D.ev,aS,length_nil]at hc;subst hc;have:=q2 j .aQ x (by rw[SV.aJ,getElem?_map,hj];rfl) hv;cases this;exact .eb _ e m hn
 ·rw[if_neg hij]at hc;exact q2 i c x (by rw[SV.aJ,getElem?_map];exact hc) hv
theorem ag0{g:jw}{rs:List ff}{s1:SS}{f:List SV->SV}{ps cs vs:List SV}{τ:List D}{db:List Nat}(tM:wV s1 rs=some vs)(hp:uy vs=f cs)(h:abD g s1 f ps cs=some (τ,db))
  (hf:∀(I:da) (L:Nat->Loc) (O:List ae) (r:List AV) (n e m j:Nat) (y:Value),cs[j]? =some (.d (.c .aQ))->O[n]? =some (.nil e m)->R I L O ((f cs).ev r) y->R I L O ((f (cs.set j (.row n (.c (.sl []))))).ev r) y)
  {r:List AV} (hl1:r.length=s1.nv) (hr:AV.ad r=true) {x:AX} (hx:x= .ret∨x= .normal):
  τ.length=g.m/\lQ g.aj.length rs (g.res.ev (D.aY r τ)) (g.cq.map (SO.ev (D.aY r τ))) x (bT s1 r) (bz s1 r):=by
 unfold abD at h
 split at h
 ·rename_i j e m hna
  split at h
  ·rename_i hj;obtain⟨h1,h2⟩:=abC h (r:=r) hl1 hr (x:= .ret) (.inl rfl);refine⟨h1,?_⟩;simp only[lQ,fi,ff.get,List.reverse_cons,reverse_nil,nil_append,b4]at h2;obtain⟨e',h4,h5⟩:=h2
   have mW:fi (bT s1 r) (bz s1 r) rs [] λ xs=>∃e',WK g.aj.length (λ t=>if t=0 then b4 xs else .top) (bz s1 r) e' (g.cq.map (SO.ev (D.aY r τ)))/\e' 0=g.res.ev (D.aY r τ):=by
    refine o3 tM _ _ ?_;simp only[reverse_nil,nil_append];refine⟨e',?_,h5⟩
    have hO:bz (afe s1 f cs j e m) r=bz s1 r++ [.nil e m]:=by
     simp only[afe,bz,map_append,map_cons,map_nil,SO.ev,D.ev,aS,if_true]
    have hOl:(bz s1 r).length=s1.aj.length:=dB s1 r;refine WK.trans (WK.aa9 (e':=λ t=>if t=0 then b4 (SV.aY r vs)else .top) (O':=bz s1 r++ [.nil e m]) e m (by simp) (by rw[getElem?_append_right (by simp)];simp) (λ i hi=> .inl (getElem?_append_left hi)) λ t=> .inl rfl) ?_;rw[←hO];refine WK.trans (e':=λ t=>if t=0 then(f (cs.set j (.row s1.aj.length (.c (.sl []))))).ev r else .top) (WK.ayO λ I L t y hy=> ?_) (WK.trans (WK.env λ t=> ?_) h4)
    ·by_cases ht:t=0
     ·simp only[if_pos ht]at hy⊢;rw[←xg,hp]at hy;exact hf I L _ r s1.aj.length e m j y hj (by rw[hO,←hOl,getElem?_append_right (by simp)];simp) hy
     ·simp only[if_neg ht]at hy⊢;exact .top _
    ·by_cases ht:t=0
     ·right;subst ht;rfl
     ·left;simp only[if_neg ht]
   rcases hx with rfl|rfl<;>exact mW
  ·cases h
 ·cases h
theorem al2{g:jw}{rs:List ff}{s1:SS}{τ:List D}{db:List Nat}(h:pd g rs s1=some (τ,db)){r:List AV}(hl1:r.length=s1.nv)(hr:AV.ad r=true){x:AX}(hx:x= .ret∨x= .normal):
  τ.length=g.m/\lQ g.aj.length rs (g.res.ev (D.aY r τ)) (g.cq.map (SO.ev (D.aY r τ))) x (bT s1 r) (bz s1 r):=by
 unfold pd at h
 split at h
 ·rename_i vs tM
  split at h
  ·rename_i ps cs _ hp;refine ag0 tM hp h (λ I L O r n e m j y hj hn hy=> ?_) hl1 hr hx;cases hy with
   |agg _ ws q1 q2=>obtain⟨p1,p2⟩:=zK hj hn q1 q2;exact .agg _ ws p1 p2
  ·rename_i ps cs _ hp;refine ag0 tM hp h (λ I L O r n e m j y hj hn hy=> ?_) hl1 hr hx;cases hy with
   |aK _ ws q1 q2=>obtain⟨p1,p2⟩:=zK hj hn q1 q2;exact .aK _ ws p1 p2
  ·cases h
 ·cases h
theorem adz(g:jw)(ins:List AV):∀t,bT (j3 g) ins t= .top∨bT (j3 g) ins t=nh (SV.aY ins g.args) t:=by
 intro t
 have key:∀(n k:Nat),lk ((List.range' k n).map λ i=>(i,g.args.getD i .top)) t= .top∨(t<k+n/\lk ((List.range' k n).map λ i=>(i,g.args.getD i .top)) t=g.args.getD t .top):=by
  intro n
  induction n with
  |zero=>intro k;exact .inl rfl
  |succ n ih=>
   intro k;simp only[List.range'_succ,map_cons,lk]
   split
   ·rename_i h;subst h;exact .inr ⟨by omega,rfl⟩
   ·rcases ih (k+1)with h|⟨h1,h2⟩
    ·exact .inl h
    ·exact .inr ⟨by omega,h2⟩
 have hr:(j3 g).env=(List.range' 0 g.args.length).map λ i=>(i,g.args.getD i .top):=by
  simp only[j3,List.range_eq_range']
 simp only[bT,hr];rcases key g.args.length 0 with h|⟨h1,h2⟩
 ·rw[h];exact .inl rfl
 ·rw[h2];refine .inr ?_;have ht:t<g.args.length:=by omega
  simp only[nh,SV.aJ,List.getD,getElem?_map,getElem?_eq_getElem ht,getD_some,map_some]
theorem wQ{f:FuncId}{A:sG}{c:aO}{fl:List Nat}{g:jw}{t0 t:T}(hf:cFn P f A)(alK:A.code= .j6 c)(hla:g.args.length=A.iw)(h0:xC g.aj.length fl A.code (j3 g)=some t0)(ht:t0.fill (al4 g A.res) 0=some t)
  {ins outs:List AV} (hl:ins.length=g.n) (hn:AV.ad ins=true) (ho:outs.length=g.m)
  (h:bD P (λ _ _ _=>False) (λ a=>a=b4 outs) t ins []):sF P f g ins outs:=by
 have hla:(SV.aY ins g.args).length=A.iw:=by rw[SV.aJ,length_map];exact hla
 have hlo:(g.aj.map (SO.ev ins)).length=g.aj.length:=by simp
 refine hH hf hla ?_;rw[hlo];have hw:=ym ht h;rw[alK]at h0⊢;have hs:=ab6 (P:=P) (n0:=g.aj.length) (fl:=fl) (.j6 c) (s:=j3 g) h0 (r:=ins) hl hn hw (Q:=lQ g.aj.length A.res (g.res.ev outs) (g.cq.map (SO.ev outs))) λ x s r hL hm=> ?_
 ·obtain⟨e',O',tL,hc⟩:=hs;refine⟨e',O',WK.trans ?_ tL,hc⟩;exact WK.env (adz g ins)
 ·obtain⟨t2,e2,w2⟩:=hL
  have key:(x= .ret∨x= .normal)/\∃τ db,(oK g A.res s=some (τ,db)∨pf g A.res s=some (τ,db)∨pd g A.res s=some (τ,db))/\t2= .ret τ:=by
   have one:(match oK g A.res s with|some (τ,_)=>some (T.ret τ)|none=>match pf g A.res s with|some (τ,_)=>some (T.ret τ)|none=>match pd g A.res s with|some (τ,_)=>some (T.ret τ)|none=>some (.aP .no (.ret [])))=some t2->∃τ db,(oK g A.res s=some (τ,db)∨pf g A.res s=some (τ,db)∨pd g A.res s=some (τ,db))/\t2= .ret τ:=by
    intro e2
    split at e2
    ·rename_i τ db x6;cases e2;exact⟨τ,db,.inl x6,rfl⟩
    ·split at e2
     ·rename_i τ db x6;cases e2;exact⟨τ,db,.inr (.inl x6),rfl⟩
     ·split at e2
      ·rename_i τ db x6;cases e2;exact⟨τ,db,.inr (.inr x6),rfl⟩
      ·cases e2;exact w2.elim
   cases x with
   |exit i=>cases e2
   |ret=>exact⟨.inl rfl,one e2⟩
   |normal=>exact⟨.inr rfl,one e2⟩
  obtain⟨hx,τ,db,x6,rfl⟩:=key
  obtain⟨hlen,auX⟩:τ.length=g.m/\lQ g.aj.length A.res (g.res.ev (D.aY r τ)) (g.cq.map (SO.ev (D.aY r τ))) x (bT s r) (bz s r):=by
   rcases x6 with x6|x6|x6
   ·exact abC x6 hm.len hm.nor hx
   ·exact al3 x6 hm.len hm.nor hx
   ·exact al2 x6 hm.len hm.nor hx
  simp only[bD]at w2;have:D.aY r τ=outs:=ahQ (by rw[D.aJ,length_map,hlen,ho]) w2;rw[this]at auX;exact auX
theorem ahr{f:FuncId}{A:sG}{fl:List Nat}{g:jw}{t:T}(hf:cFn P f A)(ht:A.rR fl g=some t){ins outs:List AV}(hl:ins.length=g.n)(hn:AV.ad ins=true)(ho:outs.length=g.m)
  (h:bD P (λ _ _ _=>False) (λ a=>a=b4 outs) t ins []):sF P f g ins outs:=by
 unfold sG.rR at ht
 split at ht
 ·rename_i my
  split at ht
  ·rename_i t' h1;cases ht;rw[Option.bind_eq_some_iff]at h1;obtain⟨t0,h2,h3⟩:=h1;exact wQ hf.weaken rfl my.2 h2 h3 hl hn ho h
  ·rw[Option.bind_eq_some_iff]at ht;obtain⟨t0,h2,h3⟩:=ht;exact wQ hf.soft rfl my.2 h2 h3 hl hn ho h
 ·cases ht
end
end Go.Ab
