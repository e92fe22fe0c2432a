/- Part of a proof: the functions that the law reaches, walked by the abstract logic of the texts Ab. -/
import Derived.Test.YtfebhekplhjigaaAbM3
open Nat(le_refl zero_add add_zero)
open Bool(and_eq_true false_eq_true)
open Option(map_eq_some_iff map_some getD_some getD_none)
open List(getElem?_append_left all_cons map_congr_left mem_of_getElem? map_cons mem_of_mem_drop mem_of_mem_take cons_append ext_getElem getElem_map getElem_range getElem?_eq_getElem map_map mem_cons map_id append_nil map_append map_nil length_map map_set mem_map map_take map_drop getElem?_map nil_append getElem?_append_right foldl_cons ext_getElem? getElem?_set_ne getElem?_eq_none length_nil getElem?_set reverse_nil reverse_cons)
set_option linter.unusedVariables false
set_option linter.unusedSimpArgs false
namespace Go.Ab
theorem qv{r r':List AV}{i:Nat}(h:i<r.length):(r++r').getD i .top=r.getD i .top:=by
 simp[List.getD,getElem?_append_left h]
mutual
theorem D.cz{r r':List AV}:∀(d:D),d.cl r.length=true->d.ev (r++r')=d.ev r
 | .x i,h=>by simp only[D.cl,decide_eq_true_eq]at h;simp only[D.ev,qv h]
 | .c a,h=>rfl
 | .cell i j,h=>by simp only[D.cl,decide_eq_true_eq]at h;simp only[D.ev,qv h]
 | .ext i j,h=>by simp only[D.cl,decide_eq_true_eq]at h;simp only[D.ev,qv h]
 | .sl l,h=>by simp only[D.cl]at h;simp only[D.ev,D.cz l h]
 | .agg l,h=>by simp only[D.cl]at h;simp only[D.ev,D.fD l h]
 | .fn f l,h=>by simp only[D.cl]at h;simp only[D.ev,D.fD l h]
 | .ip d f,h=>by simp only[D.cl]at h;simp only[D.ev,D.cz d h]
theorem D.fD{r r':List AV}:∀(l:List D),D.cls r.length l=true->D.aX (r++r') l=D.aX r l
 | [],_=>rfl
 |d::l,h=>by
  simp only[D.cls,and_eq_true]at h;simp only[D.aX,D.cz d h.1,D.fD l h.2]
end
mutual
theorem SV.cz{r r':List AV}:∀(v:SV),v.cl r.length=true->v.ev (r++r')=v.ev r
 | .d x,h=>D.cz x h
 | .row n l,h=>by simp only[SV.cl]at h;simp only[SV.ev,D.cz l h]
 | .ptr n f,h=>rfl
 | .rp n l i f,h=>by simp only[SV.cl,and_eq_true]at h;simp only[SV.ev,D.cz l h.1,D.cz i h.2]
 | .ip x f,h=>by simp only[SV.cl]at h;simp only[SV.ev,D.cz x h]
 | .agg cs,h=>by simp only[SV.cl]at h;simp only[SV.ev,SV.fD cs h]
 | .a9 cs,h=>by simp only[SV.cl]at h;simp only[SV.ev,SV.fD cs h]
 | .top,h=>rfl
theorem SV.fD{r r':List AV}:∀(l:List SV),SV.cls r.length l=true->SV.aX (r++r') l=SV.aX r l
 | [],_=>rfl
 |v::l,h=>by
  simp only[SV.cls,and_eq_true]at h;simp only[SV.aX,SV.cz v h.1,SV.fD l h.2]
end
theorem SO.cz{r r':List AV}(o:SO)(h:o.cl r.length=true):o.ev (r++r')=o.ev r:=by
 cases o with
 |dead=>rfl
 |box e cs=>simp only[SO.ev,SV.fD cs h]
 |row nl e s l=>cases nl<;>simp only[SO.ev,D.cz l h]
theorem asU{n:Nat}:∀{l:List (Nat×SV)},l.all (λ p=>p.2.cl n)=true->∀t,(lk l t).cl n=true
 | [],_,_=>rfl
 |(k,v)::l,h,t=>by
  simp only[all_cons,and_eq_true]at h;simp only[lk]
  split
  ·exact h.1
  ·exact asU h.2 t
theorem SS.rH{s:SS}(h:s.cl=true)(t:Nat):(lk s.env t).cl s.nv=true:=asU (and_eq_true _ _▸h).1 t
theorem SS.vL{s:SS}(h:s.cl=true){o:SO}(ho:o∈s.an):o.cl s.nv=true:=by
 have:=(and_eq_true _ _▸h:_/\_).2;exact List.all_eq_true.1 this o ho
theorem dW{s:SS}{r r':List AV}(hl:r.length=s.nv)(h:s.cl=true):bJ s (r++r')=bJ s r:=by
 funext t
 exact SV.cz _ (by rw[hl];exact SS.rH h t)
theorem eS{s:SS}{r r':List AV}(hl:r.length=s.nv)(h:s.cl=true):bp s (r++r')=bp s r:=by
 unfold bp;exact map_congr_left λ o ho=>SO.cz o (by rw[hl];exact SS.vL h ho)
theorem gl{l:List AV}(h:AV.ae l=true)(i:Nat):(l.getD i .top).ag=true:=by
 rw[List.getD];cases hi:l[i]? with
 |none=>rfl
 |some a=>exact aW h a (mem_of_getElem? hi)
theorem iS{a:AV}(h:a.ag=true):AV.ae a.cells=true:=by
 cases a<;>first|exact h|(simp only[AV.cells,AV.ae,h];rfl)
theorem cj{a:AV}(h:a.ag=true):AV.ae (aR a)=true:=by
 cases a<;>first|rfl|exact h
theorem aih{a:AV}(h:a.ag=true)(j:Nat):(am9 a j).ag=true:=by
 cases a<;>first|rfl|exact gl (by exact h) j
mutual
theorem D.bz{r:List AV}(hr:AV.ae r=true):∀(d:D),d.cl r.length=true->(d.ev r).ag=true
 | .x i,_=>gl hr i
 | .c a,h=>h
 | .cell i j,_=>gl (iS (gl hr i)) j
 | .ext i j,_=>aih (gl hr i) j
 | .sl l,h=>by simp only[D.cl]at h;exact cj (D.bz hr l h)
 | .agg l,h=>by simp only[D.cl]at h;exact D.cC hr l h
 | .fn f l,h=>by simp only[D.cl]at h;exact D.cC hr l h
 | .ip d f,h=>by simp only[D.cl]at h;exact D.bz hr d h
theorem D.cC{r:List AV}(hr:AV.ae r=true):∀(l:List D),D.cls r.length l=true->AV.ae (D.aX r l)=true
 | [],_=>rfl
 |d::l,h=>by
  simp only[D.cls,and_eq_true]at h;simp only[D.aX,AV.ae,D.bz hr d h.1,D.cC hr l h.2];rfl
end
theorem aD{a b:List AV}:AV.ae (a++b)=(AV.ae a&&AV.ae b):=by
 induction a with
 |nil=>simp[AV.ae]
 |cons x a ih=>simp[AV.ae,ih,Bool.and_assoc]
theorem fA{l:List AV}(h:∀a∈l,a.ag=true):AV.ae l=true:=by
 induction l with
 |nil=>rfl
 |cons x l ih=>simp only[AV.ae,h x (by simp),ih λ a ha=>h a (by simp[ha])];rfl
theorem AV.av1{a b:AV}(h:a.ceq b=true):a=b:=by
 unfold AV.ceq at h
 split at h<;>simp_all
mutual
theorem D.beq_eq:∀(a b:D),a.beq b=true->a=b
 | .x i,b,h=>by cases b<;>simp_all [D.beq]
 | .c a,b,h=>by
   cases b<;>simp_all only[D.beq,false_eq_true]
   rw[AV.av1 h]
 | .cell i j,b,h=>by cases b<;>simp_all [D.beq]
 | .ext i j,b,h=>by cases b<;>simp_all [D.beq]
 | .sl l,b,h=>by
   cases b<;>simp_all only[D.beq,false_eq_true]
   rw[D.beq_eq l _ h]
 | .agg l,b,h=>by
   cases b<;>simp_all only[D.beq,false_eq_true]
   rw[D.nf l _ h]
 | .fn f l,b,h=>by
   cases b<;>simp_all only[D.beq,false_eq_true,and_eq_true,decide_eq_true_eq]
   rw[D.nf l _ h.2]
 | .ip d f,b,h=>by
   cases b<;>simp_all only[D.beq,false_eq_true,and_eq_true,decide_eq_true_eq]
   rw[D.beq_eq d _ h.1]
theorem D.nf:∀(a b:List D),D.mJ a b=true->a=b
 | [],[],_=>rfl
 |a::as,b::bs,h=>by
  simp only[D.mJ,and_eq_true]at h;rw[D.beq_eq a b h.1,D.nf as bs h.2]
 | [],_::_,h=>by simp[D.mJ]at h
 |_::_,[],h=>by simp[D.mJ]at h
end
mutual
theorem SV.beq_eq:∀(a b:SV),a.beq b=true->a=b
 | .d x,b,h=>by
   cases b<;>simp_all only[SV.beq,false_eq_true]
   rw[D.beq_eq x _ h]
 | .row n l,b,h=>by
   cases b<;>simp_all only[SV.beq,false_eq_true,and_eq_true,decide_eq_true_eq]
   rw[D.beq_eq l _ h.2]
 | .ptr n f,b,h=>by cases b<;>simp_all [SV.beq]
 | .rp n l i f,b,h=>by
   cases b<;>simp_all only[SV.beq,false_eq_true,and_eq_true,decide_eq_true_eq]
   rw[D.beq_eq l _ h.1.1.2,D.beq_eq i _ h.1.2]
 | .ip x f,b,h=>by
   cases b<;>simp_all only[SV.beq,false_eq_true,and_eq_true,decide_eq_true_eq]
   rw[D.beq_eq x _ h.1]
 | .agg l,b,h=>by
   cases b<;>simp_all only[SV.beq,false_eq_true]
   rw[SV.nf l _ h]
 | .a9 l,b,h=>by
   cases b<;>simp_all only[SV.beq,false_eq_true]
   rw[SV.nf l _ h]
 | .top,b,h=>by cases b<;>simp_all [SV.beq]
theorem SV.nf:∀(a b:List SV),SV.mJ a b=true->a=b
 | [],[],_=>rfl
 |a::as,b::bs,h=>by
  simp only[SV.mJ,and_eq_true]at h;rw[SV.beq_eq a b h.1,SV.nf as bs h.2]
 | [],_::_,h=>by simp[SV.mJ]at h
 |_::_,[],h=>by simp[SV.mJ]at h
end
theorem SO.beq_eq{a b:SO}(h:a.beq b=true):a=b:=by
 cases a<;>cases b<;>simp_all only[SO.beq,false_eq_true,and_eq_true,decide_eq_true_eq]
 ·rw[SV.nf _ _ h.2]
 ·rw[D.beq_eq _ _ h.2]
theorem alG{l:List (Nat×SV)}{t k:Nat}(h:k≠t):lk (l.filter λ p=>p.1 !=t) k=lk l k:=by
 induction l with
 |nil=>rfl
 |cons p l ih=>
  obtain⟨q,v⟩:=p;simp only[List.filter_cons];by_cases hq:q=t
  ·subst hq;simp only[bne_self_eq_false,false_eq_true,if_false,lk,if_neg h,ih]
  ·simp only[bne_iff_ne,ne_eq,hq,not_false_eq_true,if_true,lk,ih]
theorem zJ(s:SS)(t:Nat)(v:SV)(r:List AV):bJ (s.set t v) r=(bJ s r).set t (v.ev r):=by
 funext k
 simp only[bJ,SS.set,lk,Env.set]
 split
 ·rfl
 ·rename_i h;rw[alG h]
theorem pV(s:SS)(d:Option Nat)(v:SV)(r:List AV):bJ (s.bB d v) r=bB (bJ s r) d (v.ev r):=by
 cases d with
 |none=>rfl
 |some t=>exact zJ s t v r
theorem pU(s:SS)(d:Option Nat)(v:SV)(r:List AV):bp (s.bB d v) r=bp s r:=by cases d<;>rfl
theorem tM(s:SS)(d:Option Nat)(v:SV):(s.bB d v).nv=s.nv:=by cases d<;>rfl
theorem aP(s:SS)(x:aC)(r:List AV):(cA s x).ev r=x.ev (bJ s r):=by cases x<;>rfl
theorem xK{f:SV->SV}(hf:f .top= .top):∀(l:List (Nat×SV)) (t:Nat),lk (l.map λ p=>(p.1,f p.2)) t=f (lk l t)
 | [],t=>hf.symm
 |(k,v)::l,t=>by
  simp only[map_cons,lk]
  split
  ·rfl
  ·exact xK hf l t
end Go.Ab
namespace Go.Ab
def kc(P:Program):List Node->List AV->(List AV->Prop)->Prop
 | [],r,K=>K r
 | .op o::ns,r,K=>o.wp P r λ v=>kc P ns (r++ [v]) K
 | .bI c::ns,r,K=>c.wp r (kc P ns r K)
section
variable {P:Program}
theorem sx{L:AX->SS->List AV->Prop}{R:AV->Prop}{t:T}{S:List (List AV->Prop)}:∀(ns:List Node) (r:List AV),bW P L R (wrap ns t) r S=kc P ns r λ r'=>bW P L R t r' S
 | [],r=>rfl
 | .op o::ns,r=>by simp only[wrap,bW,kc,sx ns]
 | .bI c::ns,r=>by simp only[wrap,bW,kc,sx ns]
theorem xE{c a b:AV}{O O':List aa}{K K':KT}(h:sP c a b O K)(hk:∀x,K x O->K' x O'):sP c a b O' K':=by
 unfold sP at*;split at h<;>first|exact hk _ h|exact h.elim
theorem aci{op:BinOp}{a b:AV}{O O':List aa}{K K':KT}(h:eM op a b O K)(hk:∀x,(∃v,x= .v v)->K x O->K' x O'):eM op a b O' K':=by
 unfold eM at*;split at h
 ·split at h<;>first|exact hk _ ⟨_,rfl⟩ h|exact h.elim
 ·exact h.elim
theorem aeq{op:UnOp}{a:AV}{O O':List aa}{K K':KT}(h:unK op a O K)(hk:∀x,(∃v,x= .v v)->K x O->K' x O'):unK op a O' K':=by
 unfold unK at*;split at h
 ·split at h<;>first|exact hk _ ⟨_,rfl⟩ h|exact h.elim
 ·exact h.elim
theorem ye{k:IntKind}{a:AV}{O O':List aa}{K K':KT}(h:aca k a O K)(hk:∀x,(∃v,x= .v v)->K x O->K' x O'):aca k a O' K':=by
 unfold aca at*;split at h<;>first|exact hk _ ⟨_,rfl⟩ h|exact h.elim
theorem pn{n:Option Nat}{a:AV}{f:Nat}(h:a.ag=true):(dt n a f).ag=true:=by
 unfold dt
 split
 ·exact gl (iS h) f
 ·split
  ·exact h
  ·exact fA λ x hx=>aW (iS h) x (mem_of_mem_drop (mem_of_mem_take hx))
theorem ahs{off:Nat}{n:Option Nat}{a:AV}{O O':List aa}{K K':KT}(h:amc off n a O K)(hk:∀x,(a.ag=true->x.ag=true)->K x O->K' x O'):amc off n a O' K':=
 ⟨h.1,h.2.1,hk _ pn h.2.2⟩
theorem xW{a i:AV}{O O':List aa}{K K':KT}(h:abC a i O K)(hk:∀x,(∃v,x= .v v)->K x O->K' x O'):abC a i O' K':=by
 unfold abC at*;split at h<;>first|exact⟨h.1,h.2.1,hk _ ⟨_,rfl⟩ h.2.2⟩|exact h.elim
theorem xM{a:AV}{O O':List aa}{K K':KT}(h:abc a O K)(hk:∀x,(∃v,x= .v v)->K x O->K' x O'):abc a O' K':=by
 unfold abc at*;split at h<;>first|exact hk _ ⟨_,rfl⟩ h|exact h.elim
theorem zS{d:Int}{x:Option AV}{M M':Int->Prop}(h:bnd d x M)(hm:∀i,M i->M' i):bnd d x M':=by
 unfold bnd at*;split at h<;>first|exact hm _ h|exact h.elim
theorem sK{a:AV}{lo hi:Option AV}{O O':List aa}{K K':KT}(h:o9 a lo hi O K)(hk:∀x,(∃v,x= .v v)->K x O->K' x O'):o9 a lo hi O' K':=by
 unfold o9 at*;split at h
 ·exact zS h λ l hl=>zS hl λ h' hh=>⟨hh.1,hh.2.1,hh.2.2.1,hk _ ⟨_,rfl⟩ hh.2.2.2⟩
 ·exact h.elim
theorem sL{s:Nat}{a:AV}{lo hi:Option AV}{O O':List aa}{K K':KT}(h:pa s a lo hi O K)(hk:∀x,(a.ag=true->x.ag=true)->K x O->K' x O'):pa s a lo hi O' K':=by
 unfold pa at*;split at h
 ·rename_i xs;exact zS h λ l hl=>zS hl λ h' hh=>⟨hh.1,hh.2.1,hh.2.2.1,hh.2.2.2.1,hk _ (λ hn=>fA λ x hx=>aW (by exact hn) x (mem_of_mem_take (mem_of_mem_drop hx))) hh.2.2.2.2⟩
 ·exact h.elim
theorem adP{a:AV}{O':List aa}{K K':KT}(h:po a [] K)(hk:∀x,(∃v,x= .v v)->K x []->K' x O'):po a O' K':=by
 unfold po at*
 split at h
 ·exact hk _ ⟨_,rfl⟩ h
 ·exact hk _ ⟨_,rfl⟩ h
 ·simp[aaS]at h
 ·exact h.elim
theorem abd{a:AV}{K K':KT}(h:po a [] K)(hk:∀x,(∃v,x= .v v)->K x []->K' x []):po a [] K':=adP h hk
theorem tD{y:AV}{M M':List AV->Prop}(h:mM [] y M)(hm:∀ys,(y.ag=true->AV.ae ys=true)->M ys->M' ys):mM [] y M':=by
 unfold mM at*
 split at h
 ·exact hm _ (λ _=>rfl) h
 ·exact hm _ (λ h=>h) h
 ·simp[aaS]at h
 ·exact h.elim
theorem alj{o:PU}{xs:List AV}{v:AV}(h:puF o xs=some v):v.ag=true:=by
 unfold puF at h
 split at h
 ·simp only[map_eq_some_iff]at h;obtain⟨l,_,rfl⟩:=h;rfl
 ·cases h;rfl
 ·cases h;rfl
 ·cases h;rfl
 ·cases h;rfl
 ·cases h;rfl
 ·cases h;rfl
 ·cases h;rfl
 ·cases h;rfl
 ·split at h
  ·cases h;rfl
  ·cases h
 ·split at h
  ·cases h;rfl
  ·cases h
 ·cases h
theorem ah5(s:ByteArray):AV.ae (cM s)=true:=fA λ a ha=>by
 obtain⟨c,_,rfl⟩:=List.mem_map.1 ha;rfl
theorem PO.wp_mono{r:List AV}(hr:AV.ae r=true){o:PO}(hc:cn r.length [.op o]=true){K K':AV->Prop}(h:o.wp P r K)(hk:∀v,v.ag=true->K v->K' v):o.wp P r K':=by
 have hv:∀x:AV,(∃v,x= .v v)->x.ag=true:=by rintro _ ⟨v,rfl⟩;rfl
 cases o<;>simp only[cn,PO.cl,Bool.and_true,and_eq_true]at hc<;>simp only[PO.wp]at h⊢
 case val x=>exact hk _ (D.bz hr x hc) h
 case pick c a b=>
  refine xE (K:=λ x _=>(x=a.ev r∨x=b.ev r)/\K x) (K':=λ x _=>K' x) ?_ (λ x hx=>hk x ?_ hx.2) (O:=[])
  ·simp only[sP]at h⊢
   split at h
   ·rename_i t _;exact⟨by cases t<;>simp,h⟩
   ·exact h.elim
  ·rcases hx.1 with rfl|rfl
   ·exact D.bz hr a hc.1.2
   ·exact D.bz hr b hc.2
 case bin op a b=>exact aci (K:=λ x _=>K x) (K':=λ x _=>K' x) h λ x hx hK=>hk x (hv x hx) hK
 case beq neg a b=>simp only[ajz]at h⊢;split at h<;>first|exact hk _ rfl h|exact h.elim
 case un op a=>exact aeq (K:=λ x _=>K x) (K':=λ x _=>K' x) h λ x hx hK=>hk x (hv x hx) hK
 case conv k a=>exact ye (K:=λ x _=>K x) (K':=λ x _=>K' x) h λ x hx hK=>hk x (hv x hx) hK
 case elem s l i=>
  simp only[wX]at h⊢
  split at h
  ·rename_i xs _ i hl _;refine⟨h.1,h.2.1,h.2.2.1,hk _ (gl ?_ _) h.2.2.2⟩;have:=D.bz hr l hc.1;rw[hl]at this;exact this
  ·exact h.elim
 case yK off n a=>exact ahs (K:=λ x _=>K x) (K':=λ x _=>K' x) h λ x hx hK=>hk x (hx (D.bz hr a hc)) hK
 case aa9 f m a=>exact⟨h.1,hk _ (pn (D.bz hr a hc)) h.2⟩
 case m6 a i=>exact xW (K:=λ x _=>K x) (K':=λ x _=>K' x) h λ x hx hK=>hk x (hv x hx) hK
 case fc nl e s f as=>obtain⟨xs,h1,h2,h3⟩:=h;exact⟨xs,h1,h2,hk _ h2 h3⟩
 case gy f g as=>obtain⟨os,h1,h2,h3,h4⟩:=h;exact⟨os,h1,h2,h3,hk _ h3 h4⟩
 case fW a lo hi=>exact sK (K:=λ x _=>K x) (K':=λ x _=>K' x) h λ x hx hK=>hk x (hv x hx) hK
 case cO s a lo hi=>exact sL (K:=λ x _=>K x) (K':=λ x _=>K' x) h λ x hx hK=>hk x (hx (D.bz hr a hc)) hK
 case mn a=>exact xM (K:=λ x _=>K x) (K':=λ x _=>K' x) h λ x hx hK=>hk x (hv x hx) hK
 case bl a=>exact abd (K:=λ x _=>K x) (K':=λ x _=>K' x) h λ x hx hK=>hk x (hv x hx) hK
 case mkl z n ps=>
  refine hk _ ?_ h
  have key:∀(ps:List (Nat×D)) (z:List AV),AV.ae z=true->ps.all (λ p=>p.2.cl r.length)=true->AV.ae (eJ z (ps.map λ p=>(p.1,p.2.ev r)))=true:=by
   intro ps
   induction ps with
   |nil=>intro z hz _;exact hz
   |cons p ps ih=>
    intro z hz hp;simp only[all_cons,and_eq_true]at hp;simp only[map_cons,eJ];refine ih _ (fA λ a ha=> ?_) hp.2;rcases List.mem_or_eq_of_mem_set ha with h|rfl
    ·exact aW hz a h
    ·exact D.bz hr _ hp.1
  exact key ps _ (fA λ a ha=>by rw[List.eq_of_mem_replicate ha];exact hc.1) hc.2
 case rep bytes z n c=>
  simp only[aiq]at h⊢
  split at h
  ·exact⟨h.1,h.2.1,h.2.2.1,h.2.2.2.1,hk _ (fA λ a ha=>by rw[List.eq_of_mem_replicate ha];exact hc) h.2.2.2.2⟩
  ·exact h.elim
 case app s b l y=>
  refine tD (M':=λ ys=>_/\_/\_/\K' _) h λ ys xj hK=>⟨hK.1,hK.2.1,hK.2.2.1,hk _ ?_ hK.2.2.2⟩
  show AV.ae _=true;rw[aD,cj (D.bz hr l hc.1),xj (D.bz hr y hc.2)];rfl
 case get l i f n=>exact⟨h.1,h.2.1,hk _ (pn (gl (cj (D.bz hr l hc)) _)) h.2.2⟩
 case set l i f m y=>
  obtain⟨h1,h2,h3,h4,h5⟩:=h;have hl:=cj (D.bz hr l hc.1);have hy:=D.bz hr y hc.2;refine⟨h1,h2,h3,h4,hk _ (fA λ a ha=> ?_) h5⟩;rcases List.mem_or_eq_of_mem_set ha with h|rfl
  ·exact aW hl a h
  ·have hx:=gl hl (idxOf (i.ev r));unfold u6
   split
   ·exact hy
   ·refine fA λ a ha=> ?_
    simp only[List.mem_append]at ha;rcases ha with(ha|ha)|ha
    ·exact aW (iS hx) a (mem_of_mem_take ha)
    ·exact aW (iS hy) a ha
    ·exact aW (iS hx) a (mem_of_mem_drop ha)
 case call f as b=>obtain⟨res,h1,h2,h3,h4⟩:=h;exact⟨res,h1,h2,h3,hk _ h2 h4⟩
 case eI g as b=>
  simp only[vM]at h⊢
  split at h
  ·obtain⟨res,h1,h2,h3,h4⟩:=h;exact⟨res,h1,h2,h3,hk _ h2 h4⟩
  ·exact h.elim
 case ldp n a=>
  simp only[aoi]at h⊢
  split at h
  ·rename_i y f hy;refine⟨h.1,hk _ (pn ?_) h.2⟩;have:=D.bz hr a hc;rw[hy]at this;exact this
  ·exact h.elim
 case pu o ds=>
  unfold puK at h⊢
  split at h
  ·rename_i v hv;exact hk _ (alj hv) h
  ·exact h.elim
 case mz s b l y=>
  simp only[aej]at h⊢
  split at h
  ·refine⟨h.1,h.2.1,h.2.2.1,hk _ ?_ h.2.2.2⟩
   show AV.ae _=true;rw[aD,cj (D.bz hr l hc.1),ah5];rfl
  ·exact h.elim
 case fap off a=>
  simp only[apz]at h⊢
  split at h
  ·rename_i y f hy;refine hk _ ?_ h;have:=D.bz hr a hc;rw[hy]at this;exact this
  ·exact h.elim
theorem rQ.wp_mono{r:List AV}{c:rQ}{K K':Prop}(h:c.wp r K)(hk:K->K'):c.wp r K':=by
 cases c
 case cells=>exact⟨h.1,h.2.1,h.2.2.1,hk h.2.2.2⟩
 case one=>exact⟨h.1,h.2.1,hk h.2.2⟩
 case lt=>exact⟨h.1,hk h.2⟩
 case a9 a j=>simp only[rQ.wp,am8]at h⊢;split at h<;>first|exact⟨h.1,hk h.2⟩|exact h.elim
 case idx l i=>simp only[rQ.wp,alU]at h⊢;split at h<;>first|exact⟨h.1,h.2.1,hk h.2.2⟩|exact h.elim
 case arC a=>simp only[rQ.wp,adX]at h⊢;split at h<;>first|exact hk h|exact h.elim
 case ne=>exact⟨h.1,hk h.2⟩
 case eql=>exact⟨h.1,hk h.2⟩
 case no=>exact h.elim
structure kO(r r':List AV)(n:Nat):Prop where
 pre:∃m,r'=r++m
 len:r'.length=n
 nor:AV.ae r'=true
theorem z5:∀(ns:List Node) {r:List AV} {K K':List AV->Prop},AV.ae r=true->cn r.length ns=true->kc P ns r K->(∀r',kO r r' (jd r.length ns)->K r'->K' r')->kc P ns r K'
 | [],r,K,K',hr,_,h,hk=>hk r ⟨⟨[],by simp⟩,rfl,hr⟩ h
 | .op o::ns,r,K,K',hr,hc,h,hk=>by
   have hc0:cn r.length [.op o]=true/\cn (r.length+1) ns=true:=by
    simp only[cn,and_eq_true,Bool.and_true]at hc⊢;exact hc
   refine PO.wp_mono hr hc0.1 h λ v hv hK=> ?_
   refine z5 ns (r:=r++ [v]) (by rw[aD,hr];simp[AV.ae,hv]) (by simpa using hc0.2) hK λ r' hm hK'=>hk r' ⟨?_,?_,hm.nor⟩ hK'
   ·obtain⟨m,rfl⟩:=hm.pre;exact⟨v::m,by simp⟩
   ·rw[hm.len];simp[jd]
 | .bI c::ns,r,K,K',hr,hc,h,hk=>rQ.wp_mono h λ h'=>z5 ns hr (by simpa [cn]using hc) h' hk
theorem cf:∀(a b:List Node) (r:List AV) (K:List AV->Prop),kc P (a++b) r K=kc P a r λ r'=>kc P b r' K
 | [],b,r,K=>rfl
 | .op o::a,b,r,K=>by simp only[cons_append,kc,cf a]
 | .bI c::a,b,r,K=>by simp only[cons_append,kc,cf a]
end
end Go.Ab
namespace Go.Ab
section
variable {P:Program}
theorem wY:∀{cs:List SV} {ds:List D},ajp cs=some ds->cs=ds.map .d
 | [],ds,h=>by simp[ajp]at h;subst h;rfl
 |v::l,ds,h=>by
  cases v<;>simp only[ajp,reduceCtorEq]at h
  split at h
  ·rename_i ds' hd;cases h;rw[wY hd];rfl
  ·cases h
theorem ug(r:List AV):∀(ds:List D),SV.aX r (ds.map .d)=D.aX r ds
 | []=>rfl
 |d::ds=>by simp only[map_cons,SV.aX,D.aX,SV.ev,ug r ds]
theorem D.aJ(r:List AV)(l:List D):D.aX r l=l.map (D.ev r):=by
 induction l with
 |nil=>rfl
 |cons a l ih=>simp[D.aX,ih]
theorem SV.aJ(r:List AV)(l:List SV):SV.aX r l=l.map (SV.ev r):=by
 induction l with
 |nil=>rfl
 |cons a l ih=>simp[SV.aX,ih]
theorem afJ{n:Nat}:∀{l:List D},D.cls n l=true↔∀d∈l,d.cl n=true
 | []=>by simp[D.cls]
 |a::l=>by simp[D.cls,afJ (l:=l)]
theorem vZ{n:Nat}:∀{l:List SV},SV.cls n l=true↔∀d∈l,d.cl n=true
 | []=>by simp[SV.cls]
 |a::l=>by simp[SV.cls,vZ (l:=l)]
theorem acf(r:List AV)(i m:Nat)(h:(r.getD i .top).cells.length=m):((List.range m).map λ j=>(r.getD i .top).cells.getD j .top)=(r.getD i .top).cells:=by
 generalize (r.getD i .top).cells=l at h⊢;subst h;apply ext_getElem
 ·simp
 ·intro k h1 h2;rw[getElem_map,getElem_range,List.getD,getElem?_eq_getElem h2];rfl
theorem ahy{kn:List (Nat×Nat)}{ds:List D}{i:Nat}(h:apD kn ds=some i):ds=(List.range ds.length).map λ j=> .cell i j:=by
 unfold apD at h
 split at h
 ·split at h
  ·cases h;rename_i hb;exact D.nf _ _ hb.2
  ·cases h
 ·cases h
theorem lR{kn:List (Nat×Nat)}{v:SV}{ns:List Node}{d:D}(h:asD kn v=some (ns,d)){r:List AV}{G:List AV->Prop}(hw:kc P ns r G):G r/\d.ev r=v.ev r:=by
 unfold asD at h
 split at h
 ·cases h;exact⟨hw,rfl⟩
 ·rename_i cs
  split at h
  ·rename_i ds hd;have hcs:=wY hd;subst hcs
   split at h
   ·rename_i i hi;cases h;have he:=ahy hi;simp only[kc,rQ.wp,D.ev]at hw;obtain⟨h1,h2,h3,h4⟩:=hw;refine⟨h4,?_⟩;simp only[D.ev,SV.ev,ug];rw[he,D.aJ,map_map];have:=acf r i _ h2;rw[AV.yn h1];congr 1;rw[←this]
    rfl
   ·cases h;exact⟨hw,by simp only[D.ev,SV.ev,ug]⟩
  ·cases h
 ·cases h;exact⟨hw,rfl⟩
 ·cases h
theorem acj{kn:List (Nat×Nat)}{v:SV}{ns:List Node}{d:D}(h:asD kn v=some (ns,d))(nv:Nat):jd nv ns=nv:=by
 unfold asD at h
 split at h
 ·cases h;rfl
 ·split at h
  ·split at h<;>cases h<;>rfl
  ·cases h
 ·cases h;rfl
 ·cases h
theorem jF(nv:Nat):∀(a b:List Node),jd nv (a++b)=jd (jd nv a) b:=by
 intro a
 induction a generalizing nv with
 |nil=>intro b;rfl
 |cons x a ih=>intro b;cases x<;>simp[jd,ih]
theorem dL{s:SS}{n:Nat}{l:D}{nl:Bool}{e sz:Nat}(h:cur s n l=some (nl,e,sz)):s.an[n]? =some (.row nl e sz l):=by
 unfold cur at h
 split at h
 ·rename_i l' ho
  split at h
  ·rename_i hb;cases h;rw[ho,D.beq_eq _ _ hb]
  ·cases h
 ·cases h
theorem j8{s:SS}{n e:Nat}{cs:List SV}(h:ov s n=some (e,cs)):s.an[n]? =some (.box e cs):=by
 unfold ov at h
 split at h
 ·rename_i ho;cases h;exact ho
 ·cases h
theorem fT{s:SS}{n:Nat}{o:SO}(h:s.an[n]? =some o)(r:List AV):(bp s r)[n]? =some (o.ev r):=by
 simp[bp,h]
theorem du(s:SS)(r:List AV):(bp s r).length=s.an.length:=by simp[bp]
theorem ew{cs:List AV}(h:cs.length≠1):nw cs= .agg cs:=by
 unfold nw
 split
 ·simp at h
 ·rfl
theorem vn{cs:List SV}(ht:pC cs=true){r:List AV}{G:List AV->Prop}(hw:kc P (lW cs) r G):G r/\∀c∈SV.aX r cs,c.bO=true:=by
 induction cs with
 |nil=>exact⟨hw,by simp[SV.aX]⟩
 |cons v l ih=>
  cases v with
  |d x=>
   simp only[lW,kc,rQ.wp]at hw;obtain⟨h1,h2,h3⟩:=hw;obtain⟨h4,h5⟩:=ih (by simpa [pC]using ht) h3;refine⟨h4,λ c hc=> ?_⟩;simp only[SV.aX,SV.ev,mem_cons]at hc;rcases hc with rfl|hc
   ·exact h2
   ·exact h5 c hc
  |top=>simp[pC]at ht
  |agg _=>simp[pC]at ht
  |a9 _=>simp[pC]at ht
  |_=>
   simp only[lW]at hw;obtain⟨h4,h5⟩:=ih (by simpa [pC]using ht) hw;refine⟨h4,λ c hc=> ?_⟩;simp only[SV.aX,SV.ev,mem_cons]at hc;rcases hc with rfl|hc
   ·rfl
   ·exact h5 c hc
theorem aka(cs:List SV)(nv:Nat):jd nv (lW cs)=nv:=by
 induction cs with
 |nil=>rfl
 |cons v l ih=>cases v<;>simp[lW,jd,ih]
structure amM(m:Nat)(a:AV)(cs:List AV):Prop where
 len:a.cells.length=m
 sto:a.storable=true
 cells:a.cells=cs
 kind:(a.bO||a.isAgg)=true
 one:m=1->a.bO=true
 agg:m≠1->a.isAgg=true
theorem pT{a:AV}(h:a.bO=true):a.storable=true:=by
 unfold AV.storable;rw[AV.gu h];simp[h]
theorem amM.nw{m:Nat}{a:AV}{cs:List AV}(h:amM m a cs):a=nw cs:=by
 by_cases hm:m=1
 ·have:=AV.gu (h.one hm);rw[←h.cells,this];rfl
 ·rw[ew (by rw[←h.cells,h.len];exact hm),←h.cells];exact AV.yn (h.agg hm)
theorem nc{nv m:Nat}{v:SV}{ns:List Node}{cs:List SV}(h:expand nv m v=some (ns,cs)){r:List AV}(hl:r.length=nv)(hv:v.cl nv=true){G:List AV->Prop}(hw:kc P ns r G):
  ∃r',(∃more,r'=r++more)/\r'.length=jd nv ns/\G r'/\amM m (v.ev r) (SV.aX r' cs):=by
 unfold expand at h
 split at h
 ·rename_i hm;subst hm;have one:∀{a:AV},a.bO=true->amM 1 a [a]:=λ {a} ha=>⟨by rw[AV.gu ha];rfl,pT ha,AV.gu ha,by rw[ha];rfl,λ _=>ha,λ h=>(h rfl).elim⟩
  split at h
  ·rename_i x;cases h;simp only[kc,rQ.wp]at hw;exact⟨r,⟨[],by simp⟩,hl,hw.2.2,one hw.2.1⟩
  ·cases h
  ·cases h
  ·cases h
  ·rename_i h1 h2 h4 h3;cases h;refine⟨r,⟨[],by simp⟩,hl,hw,?_⟩;cases v
   case d x=>exact(h1 x rfl).elim
   case agg x=>exact(h2 x rfl).elim
   case a9 x=>exact(h4 x rfl).elim
   case top=>exact(h3 rfl).elim
   all_goals exact one rfl
 ·rename_i hm;have agg:∀{a:AV} {cs:List AV},a.isAgg=true->a.cells.length=m->a.storable=true->a.cells=cs->amM m a cs:=λ {a cs} h1 h2 h3 h4=>⟨h2,h3,h4,by rw[h1];simp,λ h=>(hm h).elim,λ _=>h1⟩
  split at h
  ·rename_i cs'
   split at h
   ·rename_i hc;cases h;obtain⟨h1,h2⟩:=vn hc.2 hw;refine⟨r,⟨[],by simp⟩,by rw[aka,hl],h1,agg rfl ?_ ?_ rfl⟩
    ·simp[SV.ev,AV.cells,SV.aJ,hc.1]
    ·simp only[SV.ev,AV.storable,AV.cells,List.all_eq_true];exact h2
   ·cases h
  ·rename_i i;cases h;simp only[kc,rQ.wp,D.ev]at hw;obtain⟨h1,h2,h3,h4⟩:=hw;refine⟨r,⟨[],by simp⟩,hl,h4,agg h1 h2 h3 ?_⟩;simp only[SV.ev,D.ev];rw[←acf r i m h2,SV.aJ,map_map]
   rfl
  ·rename_i l
   split at h
   ·rename_i zu;cases h;simp only[kc,rQ.wp]at hw;obtain⟨h1,h2,h3,h4⟩:=hw;exact⟨r,⟨[],by simp⟩,hl,h4,agg h1 h2 h3 (by simp only[SV.ev,D.ev,AV.cells];rw[ug])⟩
   ·cases h
  ·rename_i l
   split at h
   ·rename_i zu;cases h;simp only[kc,rQ.wp]at hw;obtain⟨h1,h2,h3,h4⟩:=hw;refine⟨r,⟨[],by simp⟩,hl,h4,agg h1 h2 h3 ?_⟩;simp only[SV.ev,D.ev,AV.cells,SV.aJ,map_map];exact(map_id l).symm
   ·cases h
  ·rename_i x _ _ _;cases h;simp only[kc,PO.wp,rQ.wp]at hw;have hx:(r++ [x.ev r]).getD nv .top=x.ev r:=by simp[List.getD,←hl]
   simp only[D.ev,hx]at hw;obtain⟨h1,h2,h3,h4⟩:=hw;refine⟨r++ [x.ev r],⟨_,rfl⟩,by simp[jd,hl],h4,agg h1 h2 h3 ?_⟩;simp only[SV.ev];have:=acf (r++ [x.ev r]) nv m (by rw[hx];exact h2);rw[hx]at this;rw[←this,SV.aJ,map_map];apply map_congr_left;intro j _;simp only[Function.comp,SV.ev,D.ev,hx]
  ·cases h
theorem bm{r:List AV}{nv:Nat}(h:r.length=nv)(a:AV):(r++ [a]).getD nv .top=a:=by simp[List.getD,←h]
theorem D.zR{s:SS}{x:Option aC}{d:Option D}(h:acx s x=some d)(r:List AV):D.evo r d=x.map (aC.ev (bJ s r)):=by
 unfold acx at h
 split at h
 ·cases h;rfl
 ·rename_i o
  split at h
  ·rename_i y hy;cases h;have:=aP s o r;rw[hy]at this;simp only[D.evo,map_some,←this];rfl
  ·cases h
end
end Go.Ab
namespace Go.Ab
section
variable {P:Program}
theorem PO.sw{r:List AV}{o:PO}{K K':AV->Prop}(h:o.wp P r K)(hk:∀v,K v->K' v):o.wp P r K':=by
 cases o<;>simp only[PO.wp]at h⊢
 case val=>exact hk _ h
 case pick=>exact xE (K:=λ x _=>K x) (K':=λ x _=>K' x) h λ x hx=>hk x hx
 case bin=>exact aci (K:=λ x _=>K x) (K':=λ x _=>K' x) h λ x _ hx=>hk x hx
 case beq=>simp only[ajz]at h⊢;split at h<;>first|exact hk _ h|exact h.elim
 case un=>exact aeq (K:=λ x _=>K x) (K':=λ x _=>K' x) h λ x _ hx=>hk x hx
 case conv=>exact ye (K:=λ x _=>K x) (K':=λ x _=>K' x) h λ x _ hx=>hk x hx
 case elem=>simp only[wX]at h⊢;split at h<;>first|exact⟨h.1,h.2.1,h.2.2.1,hk _ h.2.2.2⟩|exact h.elim
 case yK=>exact ahs (K:=λ x _=>K x) (K':=λ x _=>K' x) h λ x _ hx=>hk x hx
 case aa9=>exact⟨h.1,hk _ h.2⟩
 case m6=>exact xW (K:=λ x _=>K x) (K':=λ x _=>K' x) h λ x _ hx=>hk x hx
 case fW=>exact sK (K:=λ x _=>K x) (K':=λ x _=>K' x) h λ x _ hx=>hk x hx
 case cO=>exact sL (K:=λ x _=>K x) (K':=λ x _=>K' x) h λ x _ hx=>hk x hx
 case mn=>exact xM (K:=λ x _=>K x) (K':=λ x _=>K' x) h λ x _ hx=>hk x hx
 case bl=>exact abd (K:=λ x _=>K x) (K':=λ x _=>K' x) h λ x _ hx=>hk x hx
 case mkl=>exact hk _ h
 case rep=>simp only[aiq]at h⊢;split at h<;>first|exact⟨h.1,h.2.1,h.2.2.1,h.2.2.2.1,hk _ h.2.2.2.2⟩|exact h.elim
 case app=>exact tD (M':=λ ys=>_/\_/\_/\K' _) h λ ys _ hK=>⟨hK.1,hK.2.1,hK.2.2.1,hk _ hK.2.2.2⟩
 case get=>exact⟨h.1,h.2.1,hk _ h.2.2⟩
 case set=>exact⟨h.1,h.2.1,h.2.2.1,h.2.2.2.1,hk _ h.2.2.2.2⟩
 case call=>obtain⟨res,h1,h2,h3,h4⟩:=h;exact⟨res,h1,h2,h3,hk _ h4⟩
 case fc=>obtain⟨xs,h1,h2,h3⟩:=h;exact⟨xs,h1,h2,hk _ h3⟩
 case gy=>obtain⟨os,h1,h2,h3,h4⟩:=h;exact⟨os,h1,h2,h3,hk _ h4⟩
 case eI=>
  simp only[vM]at h⊢
  split at h
  ·obtain⟨res,h1,h2,h3,h4⟩:=h;exact⟨res,h1,h2,h3,hk _ h4⟩
  ·exact h.elim
 case ldp=>simp only[aoi]at h⊢;split at h<;>first|exact⟨h.1,hk _ h.2⟩|exact h.elim
 case fap=>simp only[apz]at h⊢;split at h<;>first|exact hk _ h|exact h.elim
 case pu=>unfold puK at h⊢;split at h<;>first|exact hk _ h|exact h.elim
 case mz=>simp only[aej]at h⊢;split at h<;>first|exact⟨h.1,h.2.1,h.2.2.1,hk _ h.2.2.2⟩|exact h.elim
theorem ma:∀(ns:List Node) {r:List AV} {G G':List AV->Prop},(∀m,G (r++m)->G' (r++m))->kc P ns r G->kc P ns r G'
 | [],r,G,G',hg,h=>by have:=hg [];simp only[append_nil]at this;exact this h
 | .op o::ns,r,G,G',hg,h=>PO.sw h λ v hv=>ma ns (λ m hm=>by rw[List.append_assoc]at hm⊢;exact hg _ hm) hv
 | .bI c::ns,r,G,G',hg,h=>rQ.wp_mono h (ma ns hg)
def dy(P:Program)(op:dY)(s:SS)(q:List Node×SV×SS):Prop:=
 ∀(r:List AV),r.length=s.nv->s.cl=true->AV.ae r=true->cn s.nv q.1=true->∀K:KT,kc P q.1 r (λ r'=>bJ q.2.2 r'=bJ s r->K (q.2.1.ev r') (bp q.2.2 r'))->wpOp P op (bJ s r) (bp s r) K
theorem aiL{s:SS}{r:List AV}(hl:r.length=s.nv)(hc:s.cl=true){ns:List Node}(hn:jd s.nv ns=s.nv){o:PO}{K:KT}{x:AV}(h:bJ (nx s ns o).2.2 (r++ [x])=bJ s r->K ((nx s ns o).2.1.ev (r++ [x])) (bp (nx s ns o).2.2 (r++ [x]))):K x (bp s r):=by
 have h1:bJ (nx s ns o).2.2 (r++ [x])=bJ s r:=dW (s:=s) hl hc;have h2:=h h1;have h3:bp (nx s ns o).2.2 (r++ [x])=bp s r:=eS (s:=s) hl hc;rw[h3]at h2
 have h4:(nx s ns o).2.1.ev (r++ [x])=x:=by
  simp only[nx,SV.ev,D.ev,hn];exact bm hl x
 rwa [h4]at h2
theorem mP{s:SS}{r:List AV}(hl:r.length=s.nv)(hc:s.cl=true){o:PO}{K:KT}(h:kc P (nx s [] o).1 r (λ r'=>bJ (nx s [] o).2.2 r'=bJ s r->K ((nx s [] o).2.1.ev r') (bp (nx s [] o).2.2 r'))):o.wp P r λ v=>K v (bp s r):=
 PO.sw (o:=o) h λ _ hv=>aiL (ns:=[]) (o:=o) hl hc rfl hv
theorem auu(s:SS)(a:aC):dy P (.aq a) s ([],cA s a,s):=by
 intro r hl hc hr gj K h;have:=h rfl;rwa [aP]at this
theorem ap9{s:SS}{t n:Nat}{z:AV}{q}(h:aib s t n z=some q):dy P (.alloc t n z) s q:=by
 intro r hl hc hr gj K hk;unfold aib at h
 split at h
 ·rename_i hn;cases h;have:=hk rfl;simp only[bp,map_append,map_cons,map_nil,SO.ev,SV.aX,SV.ev,D.ev,nw]at this;simp only[wpOp];rw[du,hn.1];exact this
 ·split at h
  ·rename_i cs _
   split at h
   ·rename_i hn;cases h;have:=hk rfl
    have he:SV.aX r (cs.map λ a=> .d (.c a))=cs:=by
     rw[SV.aJ,map_map];exact map_id cs
    simp only[bp,map_append,map_cons,map_nil,SO.ev,he,length_map,SV.ev]at this;rw[ew (by rw[hn.2];exact hn.1),hn.2]at this;simp only[wpOp];rw[du];exact this
   ·cases h
  ·cases h
theorem av6{s:SS}{t n:Nat}{a:aC}{q}(ha:(cA s a).cl s.nv=true)(h:atA s t n (cA s a)=some q):dy P (.box t n a) s q:=by
 intro r hl hc hr gj K hk;unfold atA at h
 split at h
 ·rename_i ns cs he
  split at h
  ·rename_i hcs;cases h;obtain⟨r',⟨more,rfl⟩,hlen,hG,hE⟩:=nc he hl ha hk;have hG:=hG (dW (s:=s) hl hc);simp only[wpOp,←aP]
   have oh:bp {s with an:=s.an++ [.box t cs],nv:=jd s.nv ns} (r++more)=bp s r++ [.live t n [(cA s a).ev r]]:=by
    simp only[bp,map_append,map_cons,map_nil,SO.ev];rw[hE.nw,hcs];congr 1;exact eS (s:=s) hl hc
   rw[oh]at hG;rw[du];exact⟨hE.len,hE.sto,hG⟩
  ·cases h
 ·cases h
theorem vC{s:SS}{k t m:Nat}(h:kept s k t m=true)(r:List AV):(bp s r)[k]? =some (.nil t m):=by
 unfold kept at h
 split at h
 ·rename_i t' m' ho;simp only[and_eq_true,decide_eq_true_eq]at h;obtain⟨rfl,rfl⟩:=h;rw[fT ho r];simp[SO.ev,D.ev,aR]
 ·cases h
theorem ajC{s:SS}{k t n:Nat}{z:AV}{q}(hz:z.ag=true)(h:zZ s k t n z=some q):dy P (.gx k t n z) s q:=by
 intro r hl hc hr gj K hk;unfold zZ at h
 split at h
 ·rename_i hkp;have hO:=vC hkp r
  have fin:∀cs:List AV,cs.length=n->nw cs=z->q=([],.ptr k 0,{s with an:=s.an.set k (.box t (cs.map λ a=> .d (.c a)))})->wpOp P (.gx k t n z) (bJ s r) (bp s r) K:=by
   rintro cs hcs hz' rfl;have:=hk rfl
   have hev:SV.aX r (cs.map λ a=>SV.d (.c a))=cs:=by
    rw[SV.aJ,map_map]
    conv=>rhs;rw[←map_id cs]
    rfl
   simp only[bp,map_set,SO.ev,hev,hz',length_map,hcs]at this;exact⟨hz,hO,this⟩
  split at h
  ·rename_i hn;cases h;exact fin [z] hn.1.symm rfl rfl
  ·split at h
   ·rename_i cs _
    split at h
    ·rename_i hn;cases h;exact fin cs hn.2 (ew (by rw[hn.2];exact hn.1)) rfl
    ·cases h
   ·cases h
 ·cases h
theorem apX{s:SS}{k t n:Nat}{a:aC}{q}(oS:a.okc=true)(ha:(cA s a).cl s.nv=true)(h:aia s k t n (cA s a)=some q):dy P (.oz k t n a) s q:=by
 intro r hl hc hr gj K hk;unfold aia at h
 split at h
 ·rename_i hkp;have hO:=vC hkp r
  split at h
  ·rename_i ns cs he
   split at h
   ·rename_i hcs;cases h;obtain⟨r',⟨more,rfl⟩,hlen,hG,hE⟩:=nc he hl ha hk;have hG:=hG (dW (s:=s) hl hc);simp only[wpOp,←aP]
    have oh:bp {s with an:=s.an.set k (.box t cs),nv:=jd s.nv ns} (r++more)=(bp s r).set k (.live t n [(cA s a).ev r]):=by
     simp only[bp,map_set,SO.ev];rw[hE.nw,hcs];congr 1;exact eS (s:=s) hl hc
    rw[oh]at hG;exact⟨oS,hO,hE.len,hE.sto,hG⟩
   ·cases h
  ·cases h
 ·cases h
theorem av7{s:SS}{o:BinOp}{a b:aC}{x y:D}(ha:cA s a= .d x)(hb:cA s b= .d y):dy P (.bin o a b) s (nx s [] (.bin o x y)):=by
 intro r hl hc hr gj K hk;rw[aaV,←aP,←aP,ha,hb];exact aci (O:=[]) (K:=λ x _=>K x (bp s r)) (mP hl hc hk) λ v _ hv=>hv
theorem av8{s:SS}{neg:Bool}{a b:aC}{x y:D}(ha:cA s a= .d x)(hb:cA s b= .d y):dy P (.beq neg a b) s (nx s [] (.beq neg x y)):=by
 intro r hl hc hr gj K hk;have h1:=mP (K:=K) hl hc hk;simp only[PO.wp,ajz]at h1;simp only[wpOp,←aP,ha,hb,SV.ev]
 split at h1
 ·rename_i p q hp hq;rw[hp,hq];exact h1
 ·exact h1.elim
theorem awT{s:SS}{o:UnOp}{a:aC}{x:D}(ha:cA s a= .d x):dy P (.un o a) s (nx s [] (.un o x)):=by
 intro r hl hc hr gj K hk;rw[aiJ,←aP,ha];exact aeq (O:=[]) (K:=λ x _=>K x (bp s r)) (mP hl hc hk) λ v _ hv=>hv
theorem asf{s:SS}{k:IntKind}{a:aC}{x:D}(ha:cA s a= .d x):dy P (.kG k a) s (nx s [] (.conv k x)):=by
 intro r hl hc hr gj K hk;rw[vu,←aP,ha];exact ye (O:=[]) (K:=λ x _=>K x (bp s r)) (mP hl hc hk) λ v _ hv=>hv
theorem arG{s:SS}{a b:aC}{x y:D}(ha:cA s a= .d x)(hb:cA s b= .d y):dy P (.m6 a b) s (nx s [] (.m6 x y)):=by
 intro r hl hc hr gj K hk;rw[vt,←aP,←aP,ha,hb];exact xW (O:=[]) (K:=λ x _=>K x (bp s r)) (mP hl hc hk) λ v _ hv=>hv
theorem arw{s:SS}{a:aC}{x:D}(ha:cA s a= .d x):dy P (.mn a) s (nx s [] (.mn x)):=by
 intro r hl hc hr gj K hk;rw[vq,←aP,ha];exact xM (O:=[]) (K:=λ x _=>K x (bp s r)) (mP hl hc hk) λ v _ hv=>hv
theorem arx{s:SS}{a:aC}{x:D}(ha:cA s a= .d x):dy P (.bl a) s (nx s [] (.bl x)):=by
 intro r hl hc hr gj K hk;rw[sR,←aP,ha];exact adP (K:=λ x _=>K x (bp s r)) (mP hl hc hk) λ v _ hv=>hv
theorem bA(xs:List AV):aR (.sl xs)=xs:=rfl
theorem eO{s:SS}{n e sz:Nat}{nl:Bool}{l:D}(h:s.an[n]? =some (.row nl e sz l))(r:List AV):
  (bp s r)[n]? =some (.live e sz (aR (l.ev r)))∨((bp s r)[n]? =some (.nil e sz)/\aR (l.ev r)= []/\nl=true):=by
 have:=fT h r;cases nl with
 |false=>exact .inl this
 |true=>
  simp only[SO.ev]at this
  split at this
  ·rename_i hx;exact .inr ⟨this,hx,rfl⟩
  ·exact .inl this
theorem aog{s:SS}{a:aC}{k:Nat}{l:D}(ha:cA s a= .row k l)(kB:(cur s k l).isSome=true):dy P (.bl a) s (nx s [] (.bl (.sl l))):=by
 intro r hl hc hr gj K hk;rw[sR,←aP,ha];obtain⟨⟨nl,e,sz⟩,hq⟩:=Option.isSome_iff_exists.1 kB;have ho:=dL hq;have hf:=mP hl hc hk;simp only[PO.wp,D.ev,mo,k1]at hf;simp only[SV.ev,po];rcases eO ho r with h|⟨h,hx,_⟩
 ·rw[h,eP];exact⟨rfl,hf⟩
 ·rw[hx]at hf⊢;rw[h,ib];exact⟨rfl,hf⟩
theorem akY{s:SS}{a:aC}{lo hi:Option aC}{x:D}{dl dh:Option D}(ha:cA s a= .d x)(h1:acx s lo=some dl)(h2:acx s hi=some dh):dy P (.fW a lo hi) s (nx s [] (.fW x dl dh)):=by
 intro r hl hc hr gj K hk;rw[nS,←aP,ha,←D.zR h1,←D.zR h2];exact sK (O:=[]) (K:=λ x _=>K x (bp s r)) (mP hl hc hk) λ v _ hv=>hv
theorem akZ{s:SS}{m:Nat}{a:aC}{lo hi:Option aC}{x:D}{dl dh:Option D}(ha:cA s a= .d x)(h1:acx s lo=some dl)(h2:acx s hi=some dh):dy P (.cO m a lo hi) s (nx s [] (.cO m x dl dh)):=by
 intro r hl hc hr gj K hk;rw[nT,←aP,ha,←D.zR h1,←D.zR h2];exact sL (O:=[]) (K:=λ x _=>K x (bp s r)) (mP hl hc hk) λ v _ hv=>hv
theorem aq1{s:SS}{c a b:aC}{x:D}{na nb:List Node}{y z:D}(pL:cA s c= .d x)(ha:asD s.kn (cA s a)=some (na,y))(hb:asD s.kn (cA s b)=some (nb,z)):dy P (.pick c a b) s (nx s (na++nb) (.pick x y z)):=by
 intro r hl hc hr gj K hk;have h1:jd s.nv (na++nb)=s.nv:=by rw[jF,acj ha,acj hb]
 simp only[nx,cf]at hk;obtain⟨hk,e1⟩:=lR ha hk;obtain⟨hk,e2⟩:=lR hb hk;rw[sQ,←aP,←aP,←aP,pL,←e1,←e2];have:=PO.sw (o:= .pick x y z) hk λ v hv=>aiL (o:= .pick x y z) (K:=K) hl hc h1 hv
 exact xE (O:=[]) (K:=λ x _=>K x (bp s r)) this λ v hv=>hv
theorem anQ{s:SS}{c a b:aC}{t:Bool}(pL:cA s c= .d (.c (.v (.bool t)))):dy P (.pick c a b) s ([],if t then cA s a else cA s b,s):=by
 intro r hl hc hr gj K hk;have:=hk rfl;rw[sQ,←aP,pL];simp only[SV.ev,D.ev,sP];cases t<;>simpa [aP]using this
theorem aaW{s:SS}{r:List AV}(hl:r.length=s.nv)(hc:s.cl=true){ns:List Node}{cs:List SV}{K:KT}
  (h:kc P (norm s ns cs).1 r (λ r2=>bJ (norm s ns cs).2.2 r2=bJ s r->K ((norm s ns cs).2.1.ev r2) (bp (norm s ns cs).2.2 r2))):kc P ns r (λ r2=>K (.agg (SV.aX r2 cs)) (bp s r)):=by
 unfold norm at h
 split at h
 ·rename_i ms x hx;simp only[done,cf]at h;refine ma ns (λ m h2=> ?_) h;obtain⟨h3,h4⟩:=lR hx h2;have h5:=h3 (dW (s:=s) hl hc);simp only[SV.ev]at h5 h4;rw[h4]at h5;have:bp {s with nv:=jd s.nv (ns++ms)} (r++m)=bp s r:=eS (s:=s) hl hc;rwa [this]at h5
 ·simp only[done]at h;refine ma ns (λ m h2=> ?_) h;have h5:=h2 (dW (s:=s) hl hc);simp only[SV.ev]at h5;have:bp {s with nv:=jd s.nv ns} (r++m)=bp s r:=eS (s:=s) hl hc;rwa [this]at h5
end
end Go.Ab
namespace Go.Ab
section
variable {P:Program}
theorem ad8{r m:List AV}{cs:List SV}(h:∀c∈cs,c.cl r.length=true):SV.aX (r++m) cs=SV.aX r cs:=SV.fD cs (vZ.2 h)
theorem ami{nv m:Nat}{v:SV}{ns:List Node}{cs:List SV}(h:expand nv m v=some (ns,cs))(hv:v.cl nv=true):∀c∈cs,c.cl (jd nv ns)=true:=by
 unfold expand at h
 split at h
 ·split at h
  ·cases h;simpa [SV.cl,jd]using hv
  ·cases h
  ·cases h
  ·cases h
  ·cases h;simpa [jd]using hv
 ·split at h
  ·split at h
   ·cases h;rw[aka];exact vZ.1 hv
   ·cases h
  ·cases h;simp only[mem_map,jd];rintro c ⟨j,_,rfl⟩;exact hv
  ·split at h
   ·cases h;simp only[mem_map,jd];rintro c ⟨d,hd,rfl⟩;exact afJ.1 (by simpa [SV.cl,D.cl]using hv) d hd
   ·cases h
  ·split at h
   ·cases h;simp only[mem_map,jd];rintro c ⟨d,hd,rfl⟩;exact aW (by simpa [SV.cl,D.cl,AV.ag]using hv) d hd
   ·cases h
  ·cases h;simp only[mem_map,jd];rintro c ⟨j,_,rfl⟩;simp[SV.cl,D.cl]
  ·cases h
mutual
theorem yS{n m:Nat}(h:n<=m):∀(d:D),d.cl n=true->d.cl m=true
 | .x i=>by simp only[D.cl,decide_eq_true_eq];omega
 | .c a=>id
 | .cell i j=>by simp only[D.cl,decide_eq_true_eq];omega
 | .ext i j=>by simp only[D.cl,decide_eq_true_eq];omega
 | .sl l=>by simpa only[D.cl]using yS h l
 | .agg l=>by simpa only[D.cl]using ajr h l
 | .fn f l=>by simpa only[D.cl]using ajr h l
 | .ip d f=>by simpa only[D.cl]using yS h d
theorem ajr{n m:Nat}(h:n<=m):∀(l:List D),D.cls n l=true->D.cls m l=true
 | []=>id
 |d::l=>by
  simp only[D.cls,and_eq_true];exact λ q=>⟨yS h d q.1,ajr h l q.2⟩
end
mutual
theorem aeJ{n m:Nat}(h:n<=m):∀(v:SV),v.cl n=true->v.cl m=true
 | .d x=>yS h x
 | .row k l=>yS h l
 | .ptr k f=>id
 | .rp k l i f=>by simp only[SV.cl,and_eq_true];exact λ q=>⟨yS h l q.1,yS h i q.2⟩
 | .ip x f=>yS h x
 | .agg cs=>by simpa only[SV.cl]using aeI h cs
 | .a9 cs=>by simpa only[SV.cl]using aeI h cs
 | .top=>id
theorem aeI{n m:Nat}(h:n<=m):∀(l:List SV),SV.cls n l=true->SV.cls m l=true
 | []=>id
 |d::l=>by
  simp only[SV.cls,and_eq_true];exact λ q=>⟨aeJ h d q.1,aeI h l q.2⟩
end
theorem aeW:∀(ns:List Node) (nv:Nat),nv<=jd nv ns
 | [],nv=>le_refl _
 | .op o::ns,nv=>Nat.le_trans (Nat.le_succ _) (aeW ns (nv+1))
 | .bI c::ns,nv=>aeW ns nv
theorem wi{s:SS}(h:s.cl=true){x:aC}(hx:yx x=true):(cA s x).cl s.nv=true:=by
 cases x with
 |t n=>exact SS.rH h n
 |c a=>exact hx
theorem yv{s:SS}(hc:s.cl=true):∀(ps:List (Nat×Nat×aC)) (ns:List Node) (cs:List SV) {ns':List Node} {cs':List SV},zW s ns cs ps=some (ns',cs')->ps.all (λ p=>yx p.2.2)=true->(∀c∈cs,c.cl (jd s.nv ns)=true)->
  ∃ms,ns'=ns++ms/\∀(r:List AV),r.length=s.nv->∀(r1:List AV),(∃m,r1=r++m)->r1.length=jd s.nv ns->∀{M:AV->Prop} {G:List AV->Prop},kc P ms r1 G->(∀m,G (r1++m)->M (.agg (SV.aX (r1++m) cs')))->jP (bJ s r) (SV.aX r1 cs) ps M
 | [],ns,cs,ns',cs',h,_,_=>by
   simp only[zW,Option.some.injEq,Prod.mk.injEq]at h;obtain⟨rfl,rfl⟩:=h;refine⟨[],by simp,λ r _ r1 _ _ M G hw hG=> ?_⟩;have:=hG [] (by rw[append_nil];exact hw);simpa [jP]using this
 |(off,size,x)::ps,ns,cs,ns',cs',h,ho,hcs=>by
  simp only[zW]at h
  split at h
  ·rename_i ms vs he
   split at h
   ·rename_i hv;simp only[all_cons,and_eq_true]at ho;have hx:(cA s x).cl (jd s.nv ns)=true:=aeJ (aeW ns s.nv) _ (wi hc ho.1);have hvc:=ami he hx
    obtain⟨ms',rfl,ih⟩:=yv hc ps _ _ h ho.2 (by
     intro c hm;rw[jF];simp only[List.mem_append]at hm;have hle:=aeW ms (jd s.nv ns);rcases hm with(hm|hm)|hm
     ·exact aeJ hle c (hcs c (mem_of_mem_take hm))
     ·exact hvc c hm
     ·exact aeJ hle c (hcs c (mem_of_mem_drop hm)))
    refine⟨ms++ms',by simp,λ r hl r1 hp uC M G hw hG=> ?_⟩;rw[cf]at hw;obtain⟨r2,⟨m,rfl⟩,hl2,hw2,hE⟩:=nc he uC hx hw
    have hev:(cA s x).ev r1=x.ev (bJ s r):=by
     obtain⟨m0,rfl⟩:=hp;rw[SV.cz _ (by rw[hl];exact wi hc ho.1),aP]
    rw[hev]at hE;simp only[jP];refine⟨hE.len,hE.kind,by rw[SV.aJ,length_map];exact hv.2,?_⟩;have aCa:SV.aX (r1++m) cs=SV.aX r1 cs:=ad8 (by rw[uC];exact hcs)
    have h1:(SV.aX r1 cs).take off++(x.ev (bJ s r)).cells++(SV.aX r1 cs).drop (off+size)=SV.aX (r1++m) (cs.take off++vs++cs.drop (off+size)):=by
     rw[hE.cells,←aCa];simp only[SV.aJ,map_append,map_take,map_drop]
    rw[h1]
    exact ih r hl (r1++m) (by obtain⟨m0,rfl⟩:=hp;exact⟨m0++m,by simp⟩) (by rw[hl2,jF]) hw2 λ m' hm'=>by
     rw[List.append_assoc]at hm'⊢;exact hG _ hm'
   ·cases h
  ·cases h
theorem apW{s:SS}{z:List AV}{ps:List (Nat×Nat×aC)}{q}(ho:ps.all (λ p=>yx p.2.2)=true)(hz:AV.ae z=true)(h:ah9 s z ps=some q):dy P (.build z ps) s q:=by
 intro r hl hc hr gj K hk;unfold ah9 at h
 split at h
 ·rename_i ns cs hp;cases h
  obtain⟨ms,rfl,hs⟩:=yv (P:=P) hc ps [] _ hp ho (by
   simp only[mem_map];rintro c ⟨a,ha,rfl⟩;exact aW hz a ha)
  have:=aaW (K:=K) hl hc hk
  have he:SV.aX r (z.map λ a=> .d (.c a))=z:=by
   rw[SV.aJ,map_map];exact map_id z
  have h2:=hs r hl r ⟨[],by simp⟩ (by simp[hl,jd]) (M:=λ a=>K a (bp s r)) this (λ m hm=>hm);rw[he]at h2;exact h2
 ·cases h
theorem yT{m:Nat}{d:D}{r:List AV}{G:List AV->Prop}(h:kc P [qz m d] r G):G r/\amM m (d.ev r) (d.ev r).cells:=by
 unfold qz at h
 split at h
 ·rename_i hm;subst hm;obtain⟨h1,h2,h3⟩:=h;exact⟨h3,h1,pT h2,rfl,by rw[h2];rfl,λ _=>h2,λ h=>(h rfl).elim⟩
 ·rename_i hm;obtain⟨h1,h2,h3,h4⟩:=h;exact⟨h4,h2,h3,rfl,by rw[h1];simp,λ h=>(hm h).elim,λ _=>h1⟩
theorem ahF(m:Nat)(d:D)(nv:Nat):jd nv [qz m d]=nv:=by unfold qz;split<;>rfl
theorem pv{s:SS}{m len:Nat}:∀{ps:List (Nat×aC)} {ns:List Node} {qs:List (Nat×D)},su s m len ps=some (ns,qs)->jd s.nv ns=s.nv/\∀{r:List AV} {G:List AV->Prop},kc P ns r G->G r/\
  ∀(z:List AV) (M:List AV->Prop),z.length=len->M (eJ z (qs.map λ p=>(p.1,p.2.ev r)))->pA (bJ s r) m z ps M
 | [],ns,qs,h=>by
   simp only[su,Option.some.injEq,Prod.mk.injEq]at h;obtain⟨rfl,rfl⟩:=h;exact⟨rfl,λ hw=>⟨hw,λ z M _ hM=>hM⟩⟩
 |(i,x)::ps,ns,qs,h=>by
  simp only[su]at h
  split at h
  ·rename_i ns1 d ms qs1 h1 h2
   split at h
   ·rename_i hi;cases h;obtain⟨h3,ih⟩:=pv h2;refine⟨?_,λ {r G} hw=> ?_⟩
    ·rw[show ns1++qz m d::ms=ns1++([qz m d]++ms) by simp,jF,jF,acj h1,ahF,h3]
    ·rw[show ns1++qz m d::ms=ns1++([qz m d]++ms) by simp,cf]at hw;obtain⟨hw,he⟩:=lR h1 hw;rw[cf]at hw;obtain⟨hw,hE⟩:=yT hw;obtain⟨hG,cU⟩:=ih hw;refine⟨hG,λ z M hz hM=> ?_⟩;rw[he,aP]at hE;simp only[pA];refine⟨hE.len,hE.sto,by omega,cU _ M (by simpa using hz) ?_⟩;simp only[map_cons,eJ,he,aP]at hM;exact hM
   ·cases h
  ·cases h
theorem aaY{s:SS}{t m:Nat}{ns:List Node}{o:PO}{q}(h:newRow s t m (nx s ns o)=some q)(hn:jd s.nv ns=s.nv){r:List AV}(hl:r.length=s.nv)(hc:s.cl=true){K:KT}
  (hk:kc P q.1 r (λ r'=>bJ q.2.2 r'=bJ s r->K (q.2.1.ev r') (bp q.2.2 r'))):
  kc P ns r λ r1=>r1=r->o.wp P r λ v=>K (.row s.an.length (aR v).length) (bp s r++ [.live t m (aR v)]):=by
 simp only[newRow,nx,Option.some.injEq]at h;subst h;simp only[cf]at hk;refine ma ns (λ mm hw he=> ?_) hk;rw[he]at hw;refine PO.sw (o:=o) hw λ v hv=> ?_
 have h1:bJ {s with an:=s.an++ [.row false t m (.x (jd s.nv ns))],nv:=jd s.nv ns+1} (r++ [v])=bJ s r:=dW (s:=s) hl hc;have h2:=hv h1
 have h3:bp {s with an:=s.an++ [.row false t m (.x (jd s.nv ns))],nv:=jd s.nv ns+1} (r++ [v])=bp s r++ [.live t m (aR v)]:=by
  simp only[bp,map_append,map_cons,map_nil,SO.ev,D.ev,hn,bm hl];congr 1;exact eS (s:=s) hl hc
 rw[h3]at h2;simp only[SV.ev,D.ev,hn,bm hl]at h2;exact h2
theorem p7(nl:Bool)(e s:Nat)(l:D)(r:List AV):(SO.row nl e s l).ev r=b6 nl e s (aR (l.ev r)):=by
 cases nl
 ·simp only[SO.ev,b6,false_eq_true,false_and,if_false]
 ·simp only[SO.ev,b6,true_and]
theorem agI{s:SS}{nl:Bool}{t m:Nat}{ns:List Node}{o:PO}{q}(h:wj s nl t m (nx s ns o)=some q)(hn:jd s.nv ns=s.nv){r:List AV}(hl:r.length=s.nv)(hc:s.cl=true){K:KT}
  (hk:kc P q.1 r (λ r'=>bJ q.2.2 r'=bJ s r->K (q.2.1.ev r') (bp q.2.2 r'))):
  kc P ns r λ r1=>r1=r->o.wp P r λ v=>K (.row s.an.length (aR v).length) (bp s r++ [b6 nl t m (aR v)]):=by
 simp only[wj,nx,Option.some.injEq]at h;subst h;simp only[cf]at hk;refine ma ns (λ mm hw he=> ?_) hk;rw[he]at hw;refine PO.sw (o:=o) hw λ v hv=> ?_
 have h1:bJ {s with an:=s.an++ [.row nl t m (.x (jd s.nv ns))],nv:=jd s.nv ns+1} (r++ [v])=bJ s r:=dW (s:=s) hl hc;have h2:=hv h1
 have h3:bp {s with an:=s.an++ [.row nl t m (.x (jd s.nv ns))],nv:=jd s.nv ns+1} (r++ [v])=bp s r++ [b6 nl t m (aR v)]:=by
  simp only[bp,map_append,map_cons,map_nil,p7,D.ev,hn,bm hl];congr 1;exact eS (s:=s) hl hc
 rw[h3]at h2;simp only[SV.ev,D.ev,hn,bm hl]at h2;exact h2
theorem ada{s:SS}{t m len:Nat}{z:AV}{ps:List (Nat×aC)}{q}(h:sv s t m len z ps=some q):dy P (.buildSlice t m len z ps) s q:=by
 intro r hl hc hr gj K hk;unfold sv at h
 split at h
 ·rename_i ns qs hp;obtain⟨hn,hs⟩:=pv (P:=P) hp;have h1:=aaY h hn hl hc hk;obtain⟨hG,cU⟩:=hs h1;have hG:=hG rfl;simp only[PO.wp]at hG;simp only[wpOp,du];refine cU _ _ (by simp) ?_;rw[bA]at hG
  have hlen:(eJ (List.replicate len z) (qs.map λ p=>(p.1,p.2.ev r))).length=len:=by
   have:∀(ps:List (Nat×AV)) (z:List AV),(eJ z ps).length=z.length:=by
    intro ps
    induction ps with
    |nil=>intro z;rfl
    |cons p ps ih=>intro z;simp[eJ,ih]
   rw[this];simp
  rw[hlen]at hG;exact hG
 ·cases h
theorem ajv{s:SS}{k t m len:Nat}{z:AV}{ps:List (Nat×aC)}{q}(hz:z.ag=true)(hp':ps.all (λ p=>p.2.okc)=true)(h:zY s k t m len z ps=some q):dy P (.gw k t m len z ps) s q:=by
 intro r hl hc hr gj K hk;unfold zY at h
 split at h
 ·rename_i hkp;have hO:=vC hkp r
  split at h
  ·rename_i ns qs hp;cases h;obtain⟨hn,hs⟩:=pv (P:=P) hp;simp only[cf,kc,rQ.wp,PO.wp]at hk;refine⟨hz,hp',?_⟩
   have pr:kc P ns r λ r1=>r1=r->∃xs,xs=eJ (List.replicate len z) (qs.map λ p=>(p.1,p.2.ev r))/\xs≠[]/\K (.row k xs.length) ((bp s r).set k (.live t m xs)):=by
    refine ma ns (λ mm hw he=> ?_) hk;rw[he]at hw;obtain⟨h1,h2⟩:=hw;simp only[D.ev,bm hl,bA]at h1;have e1:bJ {s with an:=s.an.set k (.row false t m (.x s.nv)),nv:=s.nv+1} (r++ [.sl (eJ (List.replicate len z) (qs.map λ p=>(p.1,p.2.ev r)))])=bJ s r:=dW (s:=s) hl hc;have h2:=h2 e1
    have e2:bp {s with an:=s.an.set k (.row false t m (.x s.nv)),nv:=s.nv+1} (r++ [.sl (eJ (List.replicate len z) (qs.map λ p=>(p.1,p.2.ev r)))])=(bp s r).set k (.live t m (eJ (List.replicate len z) (qs.map λ p=>(p.1,p.2.ev r)))):=by
     simp only[bp,map_set,SO.ev,D.ev,bm hl,bA];congr 1;exact eS (s:=s) hl hc
    rw[e2]at h2;simp only[SV.ev,D.ev,bm hl,bA]at h2;exact⟨_,rfl,h1,h2⟩
   obtain⟨hG,cU⟩:=hs pr;obtain⟨xs,rh,bk,hK⟩:=hG rfl;refine cU _ _ (by simp) ?_;rw[←rh]
   have hlen:xs.length=len:=by
    have:∀(ps:List (Nat×AV)) (z:List AV),(eJ z ps).length=z.length:=by
     intro ps
     induction ps with
     |nil=>intro z;rfl
     |cons p ps ih=>intro z;simp[eJ,ih]
    rw[rh,this];simp
   rw[hlen]at hK;exact⟨hO,bk,hK⟩
  ·cases h
 ·cases h
theorem axM{s:SS}{t m bytes:Nat}{z:AV}{n c:aC}{x y:D}{q}(hn:cA s n= .d x)(pL:cA s c= .d y)(h:newRow s t m (nx s [] (.rep bytes z x y))=some q):dy P (.mk t m bytes z n c) s q:=by
 intro r hl hc hr gj K hk;have h1:=aaY h rfl hl hc hk;have h1:=h1 rfl;simp only[PO.wp,aiq]at h1;rw[aiK,←aP,←aP,hn,pL];simp only[SV.ev]
 split at h1
 ·rename_i a b h2 h3;rw[h2,h3,vz];simp only[bA,List.length_replicate]at h1;rw[du];exact h1
 ·exact h1.elim
theorem ahr{cs:List SV}{r:List AV}{f:Nat}{v:SV}(h:cs[f]? =some v)(hc:cs.length≠1∨(v.ev r).cells= [v.ev r]):f+1<=(nw (SV.aX r cs)).cells.length/\(nw (SV.aX r cs)).cells.getD f .top=v.ev r:=by
 have aw:=(List.getElem?_eq_some_iff.1 h).1;have he:(SV.aX r cs)[f]? =some (v.ev r):=by rw[SV.aJ,getElem?_map,h];rfl
 by_cases h1:cs.length=1
 ·rcases hc with hc|hc
  ·exact(hc h1).elim
  ·have hf:f=0:=by omega
   subst hf
   have:SV.aX r cs= [v.ev r]:=by
    have hl:(SV.aX r cs).length=1:=by rw[SV.aJ];simpa using h1
    obtain⟨a,ha⟩:=List.length_eq_one_iff.1 hl;rw[ha]at he⊢;simp at he;rw[he]
   rw[this];simp[nw,hc]
 ·rw[ew (by rw[SV.aJ];simpa using h1)];simp only[AV.cells];refine⟨by rw[SV.aJ];simp;omega,by simp[List.getD,he]⟩
theorem aba{s:SS}{a:aC}{k f e:Nat}{cs:List SV}(ha:cA s a= .ptr k f)(hb:ov s k=some (e,cs)){n:Option Nat}{r:List AV}{K:KT}
  (h:f+n.getD 1<=(nw (SV.aX r cs)).cells.length/\K (dt n (nw (SV.aX r cs)) f) (bp s r)):wpOp P (.load n a) (bJ s r) (bp s r) K:=by
 rw[pB,←aP,ha];simp only[SV.ev,jZ];rw[fT (j8 hb) r];simp only[SO.ev,cX,List.getD_cons_zero,k1];exact⟨rfl,Nat.one_pos,h.1,h.2⟩
theorem arv{s:SS}{n:Option Nat}{a:aC}{q}(h:am1 s n (cA s a)=some q):dy P (.load n a) s q:=by
 intro r hl hc hr gj K hk;unfold am1 at h
 split at h
 ·rename_i k f ha
  split at h
  ·rename_i e cs hb
   split at h
   ·split at h
    ·rename_i v hv
     split at h
     ·rename_i h1
      split at h
      ·rename_i ht;cases h;obtain⟨hG,abJ⟩:=vn ht hk;have kU:=AV.gu (abJ (v.ev r) (by simp[SV.aX]));obtain⟨q1,q2⟩:=ahr (r:=r) hv (.inr kU);refine aba ha hb ⟨by simpa using q1,?_⟩;rw[cR,q2];exact hG rfl
      ·cases h
     ·rename_i h1;cases h;obtain⟨q1,q2⟩:=ahr (r:=r) hv (.inl h1);refine aba ha hb ⟨by simpa using q1,?_⟩;rw[cR,q2];exact hk rfl
    ·cases h
   ·rename_i m
    split at h
    ·rename_i h1;cases h;have h2:=aaW (K:=K) hl hc hk;have hx:nw (SV.aX r cs)= .agg (SV.aX r cs):=ew (by rw[SV.aJ];simpa using h1.1);refine aba ha hb ⟨by rw[hx];simp only[AV.cells,SV.aJ,length_map,getD_some];exact h1.2,?_⟩
     have h3:dt (some m) (nw (SV.aX r cs)) f= .agg (SV.aX r ((cs.drop f).take m)):=by
      rw[hx];unfold dt;simp only
      split
      ·rename_i h4;obtain⟨rfl,_,h5⟩:=h4;simp only[AV.cells,SV.aJ,length_map]at h5;rw[List.drop_zero,List.take_of_length_le (by omega)]
      ·simp only[AV.cells,SV.aJ,map_take,map_drop]
     rw[h3];exact h2
    ·cases h
  ·cases h
 ·rename_i y f ha
  have hb:∀{K:KT},(f+n.getD 1<=(y.ev r).cells.length/\K (dt n (y.ev r) f) (bp s r))->wpOp P (.load n a) (bJ s r) (bp s r) K:=by
   intro K h;rw[pB,←aP,ha];simp only[SV.ev,ig,k1];exact h
  split at h
  ·split at h
   ·rename_i i;cases h;obtain⟨h1,h2⟩:=hk;refine hb ⟨Nat.succ_le_of_lt h1,?_⟩;rw[cR];exact h2 rfl
   ·rename_i l
    split at h
    ·rename_i d hd;cases h;have aw:=(List.getElem?_eq_some_iff.1 hd).1;refine hb ⟨by simp only[D.ev,AV.cells,D.aJ,length_map,getD_none];omega,?_⟩;rw[cR];simp only[D.ev,AV.cells,D.aJ,List.getD,getElem?_map,hd];exact hk rfl
    ·cases h
   ·cases h;simp only[kc,PO.wp,rQ.wp,D.ev,bm hl]at hk;refine hb ⟨Nat.succ_le_of_lt hk.1,?_⟩;rw[cR];have h1:bJ {s with nv:=s.nv+1} (r++ [y.ev r])=bJ s r:=dW (s:=s) hl hc;have h2:=hk.2 h1;have h3:bp {s with nv:=s.nv+1} (r++ [y.ev r])=bp s r:=eS (s:=s) hl hc;rw[h3]at h2;simp only[SV.ev,D.ev,bm hl]at h2;exact h2
  ·rename_i m
   split at h
   ·rename_i h0;obtain⟨h0,_⟩:=h0;subst h0;cases h;obtain⟨h1,h2,h3,h4⟩:=hk;refine hb ⟨by simp[h2],?_⟩;rw[fN h1 h2];exact h4 rfl
   ·cases h;have h1:=mP (K:=K) hl hc hk;exact hb h1
 ·rename_i k l i f ha
  split at h
  ·rename_i q' kB;obtain⟨nl,e,sz⟩:=q';cases h;have h1:=mP (K:=K) hl hc hk;obtain⟨h2,h3,h4⟩:=h1;rw[pB,←aP,ha];simp only[SV.ev,jZ];rcases eO (dL kB) r with h5|⟨h5,h6,_⟩
   ·rw[h5,cX];exact⟨rfl,h2,h3,h4⟩
   ·rw[h6]at h2;simp at h2
  ·cases h
 ·rename_i y ha;cases h;have h1:=mP (K:=K) hl hc hk;simp only[PO.wp,aoi]at h1;rw[pB,←aP,ha];simp only[SV.ev]
  split at h1
  ·rename_i z f hy;rw[hy,ig,k1];exact h1
  ·exact h1.elim
 ·cases h
theorem zI{s:SS}{k:Nat}{o:SO}{r r':List AV}{nv:Nat}{env:List (Nat×SV)}(hp:∃m,r'=r++m)(hl:r.length=s.nv)(hc:s.cl=true):
  bp {s with env:=env,an:=s.an.set k o,nv:=nv} r'=(bp s r).set k (o.ev r'):=by
 obtain⟨m,rfl⟩:=hp;have:=eS (s:=s) (r':=m) hl hc;simp only[bp,map_set]at this⊢;rw[this]
theorem anh{s:SS}{m:Nat}{a b:aC}{q}(hb0:yx b=true)(h:ah6 s m (cA s a) (cA s b)=some q):dy P (.store m a b) s q:=by
 intro r hl hc hr gj K hk;unfold ah6 at h
 split at h
 ·rename_i k f ha
  split at h
  ·rename_i e cs ns vs hb he
   split at h
   ·rename_i qu;obtain⟨g1,g2,g3,g4⟩:=qu;cases h;rw[cf]at hk
    have xk:kc P ns r (λ r'=>bJ {s with an:=s.an.set k (.box e (cs.take f++vs++cs.drop (f+m))),nv:=jd s.nv ns} r'=bJ s r->K .top (bp {s with an:=s.an.set k (.box e (cs.take f++vs++cs.drop (f+m))),nv:=jd s.nv ns} r'))/\
      (cs.length=1->∀c∈SV.aX r cs,c.bO=true):=by
     by_cases h1:cs.length=1
     ·rw[if_pos h1]at hk;obtain⟨p1,p2⟩:=vn (g4 h1) hk;exact⟨p1,λ _=>p2⟩
     ·rw[if_neg h1]at hk;exact⟨hk,λ h=>(h1 h).elim⟩
    obtain⟨hk,kU⟩:=xk;obtain⟨r',⟨more,rfl⟩,hlen,hG,hE⟩:=nc he hl (wi hc hb0) hk;have hG:=hG (dW (s:=s) hl hc);rw[zI ⟨more,rfl⟩ hl hc]at hG;rw[pe,←aP,←aP,ha];simp only[SV.ev,gS];rw[fT (j8 hb) r];simp only[SO.ev,cX,List.getD_cons_zero,k1,List.set_cons_zero];have vR:vs.length=m:=g1;have hnl:(cs.take f++vs++cs.drop (f+m)).length=cs.length:=by simp;omega
    have mS:SV.aX (r++more) cs=SV.aX r cs:=ad8 λ c hm=>by
     rw[hl];exact vZ.1 (SS.vL hc (mem_of_getElem? (j8 hb))) c hm
    have dE:SV.aX (r++more) (cs.take f++vs++cs.drop (f+m))=(SV.aX r cs).take f++((cA s b).ev r).cells++(SV.aX r cs).drop (f+m):=by
     rw[hE.cells,←mS];simp only[SV.aJ,map_append,map_take,map_drop]
    have hw:f+m<=(nw (SV.aX r cs)).cells.length/\nw (SV.aX (r++more) (cs.take f++vs++cs.drop (f+m)))=u6 (nw (SV.aX r cs)) f ((cA s b).ev r):=by
     by_cases h1:cs.length=1
     ·have hm1:m=1:=by rcases g3 with h|h;exact h;exact(h h1).elim
      have hf:f=0:=by omega
      subst hm1;subst hf;obtain⟨c,hcc⟩:=List.length_eq_one_iff.1 (show(SV.aX r cs).length=1 by rw[SV.aJ];simpa using h1);have hc1:=AV.gu (kU h1 c (by rw[hcc];simp));rw[dE,hcc];simp only[nw,hc1,List.length_singleton,List.take_zero,nil_append,zero_add,List.drop_one,List.tail_cons,append_nil];refine⟨le_refl _,?_⟩;rw[AV.gu (hE.one rfl)];unfold u6;rw[if_pos ⟨rfl,by rw[hc1,AV.gu (hE.one rfl)];rfl⟩]
     ·have hx:nw (SV.aX r cs)= .agg (SV.aX r cs):=ew (by rw[SV.aJ];simpa using h1);rw[hx,dE];refine⟨by simp only[AV.cells,SV.aJ,length_map];exact g2,?_⟩;rw[ew (by simp[SV.aJ,hE.len];omega)];unfold u6;have hlc:(AV.agg (SV.aX r cs)).cells.length=cs.length:=by simp[AV.cells,SV.aJ]
      by_cases h2:f=0/\((cA s b).ev r).cells.length=(AV.agg (SV.aX r cs)).cells.length
      ·rw[if_pos h2];obtain⟨rfl,h3⟩:=h2;rw[hlc,hE.len]at h3;rw[AV.yn (hE.agg (by omega))];simp only[AV.cells,List.take_zero,nil_append,zero_add];rw[List.drop_eq_nil_of_le (by rw[SV.aJ];simp;omega),append_nil]
      ·rw[if_neg h2,hE.len]
       rfl
    refine⟨rfl,Nat.one_pos,hE.len,hE.sto,hw.1,?_⟩;simp only[SO.ev,hnl,hw.2]at hG;exact hG
   ·cases h
  ·cases h
 ·rename_i k l i f ha
  split at h
  ·rename_i nl e sz ns d kB hd;simp only[Option.some.injEq]at h;subst h;have hnv:jd s.nv (ns++ [qz m d])=s.nv:=by rw[jF,acj hd,ahF]
   simp only[cf,hnv]at hk;obtain⟨hk,hde⟩:=lR hd hk;obtain⟨hk,hE⟩:=yT hk;simp only[kc,PO.wp,aqH]at hk;obtain⟨q1,q2,q3,q4,q5⟩:=hk;generalize rh:aR (l.ev r)=xs at*;generalize hv:AV.sl (xs.set (idxOf (i.ev r)) (u6 (xs.getD (idxOf (i.ev r)) .top) f (d.ev r)))=v at q5;have hlv:(aR v).length=xs.length:=by rw[←hv];simp[aR]
   have cU:=dL kB
   have ayC:l.cl r.length=true:=by
    have:=SS.vL hc (mem_of_getElem? cU);rw[hl];exact this
   have pK:bJ {s with env:=s.env.map (λ p=>(p.1,p.2.rew k l (.x s.nv))),an:=s.an.set k (.row nl e sz (.x s.nv)),nv:=s.nv+1} (r++ [v])=bJ s r:=by
    funext t
    simp only[bJ];rw[xK (f:=SV.rew k l (.x s.nv)) rfl];have mS:=SS.rH hc t;have hold:(lk s.env t).ev (r++ [v])=(lk s.env t).ev r:=SV.cz _ (by rw[hl];exact mS);rw[←hold];generalize lk s.env t=w;cases w with
    |row k' l'=>
     simp only[SV.rew]
     split
     ·rename_i h1;have:=D.beq_eq _ _ h1.2;subst this;simp only[SV.ev,D.ev,bm hl,hlv,D.cz l' ayC,rh]
     ·rfl
    |rp k' l' i' f'=>
     simp only[SV.rew]
     split
     ·rename_i h1;have:=D.beq_eq _ _ h1.2;subst this;simp only[SV.ev,D.ev,bm hl,hlv,D.cz l' ayC,rh]
     ·rfl
    |_=>rfl
   have hG:=q5 pK;rw[zI ⟨[v],rfl⟩ hl hc]at hG;rw[pe,←aP,←aP,ha,←hde];simp only[SV.ev,gS];have bk:xs≠[]:=by intro h0;rw[h0]at q1;simp at q1
   rcases eO cU r with h5|⟨h5,h6,_⟩
   ·rw[h5,cX,rh];refine⟨rfl,q1,q2,q3,q4,?_⟩;have ahj:aR v≠[]:=by intro h0;rw[h0]at hlv;simp at hlv;exact bk (List.eq_nil_of_length_eq_zero hlv.symm)
    have:SO.ev (r++ [v]) (.row nl e sz (.x s.nv))= .live e sz (xs.set (idxOf (i.ev r)) (u6 (xs.getD (idxOf (i.ev r)) .top) f (d.ev r))):=by
     cases nl<;>simp only[SO.ev,D.ev,bm hl,if_neg ahj]<;>rw[←hv]<;>rfl
    rw[this]at hG;exact hG
   ·rw[rh]at h6;exact(bk h6).elim
  ·cases h
 ·cases h
end
end Go.Ab
namespace Go.Ab
section
variable {P:Program}
theorem cQ:∀(a b:List Node) (nv:Nat),cn nv (a++b)=(cn nv a&&cn (jd nv a) b)
 | [],b,nv=>by simp[cn,jd]
 | .op o::a,b,nv=>by simp only[cons_append,cn,jd,cQ a b,Bool.and_assoc]
 | .bI c::a,b,nv=>by simp only[cons_append,cn,jd,cQ a b]
theorem wT(r:List AV)(τ:List D)(i:Nat):(D.aX r τ).getD i .top=(τ.getD i (.c .top)).ev r:=by
 rw[D.aJ];simp only[List.getD,getElem?_map];cases τ[i]? <;>rfl
theorem sO{l:List AV}(h:AV.ae l=true)(σ:Nat->Nat)(i:Nat):(l.getD i .top).bj σ=l.getD i .top:=by
 refine dI _ ?_;simp only[List.getD];cases hl:l[i]? with
 |none=>rfl
 |some a=>exact aW h a (mem_of_getElem? hl)
theorem ae9{n k:Nat}{r:List AV}{τ:List D}{σ:Nat->Nat}(hn:AV.ae (D.aX r τ)=true):∀(v:SV),v.pat n k=true->(v.mr τ σ).ev r=(v.ev (D.aX r τ)).bj σ:=by
 intro v h;cases v with
 |d x=>
  cases x with
  |x i=>simp only[SV.mr,SV.ev,D.ev];rw[sO hn,wT]
  |c a=>simp only[SV.mr,SV.ev,D.ev];rw[dI a h]
  |_=>simp[SV.pat]at h
 |row m l=>
  cases l with
  |x i=>simp only[SV.mr,SV.ev,D.ev,AV.bj];rw[wT]
  |_=>simp[SV.pat]at h
 |ptr m f=>rfl
 |_=>simp[SV.pat]at h
theorem wH{n k:Nat}{r:List AV}{τ:List D}{σ:Nat->Nat}(hn:AV.ae (D.aX r τ)=true):∀(l:List SV),l.all (SV.pat n k)=true->SV.aX r (l.map (SV.mr τ σ))=AV.sa σ (SV.aX (D.aX r τ) l)
 | [],_=>rfl
 |v::l,h=>by
  simp only[all_cons,and_eq_true]at h;simp only[map_cons,SV.aX,AV.sa,ae9 hn v h.1,wH hn l h.2]
theorem arq(σ:Nat->Nat)(l:List AV):(nw l).bj σ=nw (AV.sa σ l):=by
 cases l with
 |nil=>rfl
 |cons a l=>cases l<;>rfl
theorem wI{n k:Nat}{r:List AV}{τ:List D}{σ:Nat->Nat}(hn:AV.ae (D.aX r τ)=true):∀(o:SO),o.pat n k=true->(o.mr τ σ).ev r=(o.ev (D.aX r τ)).bj σ:=by
 intro o h;cases o with
 |dead=>rfl
 |box e cs=>
  simp only[SO.pat]at h;simp only[SO.mr,SO.ev,aa.bj,map_cons,map_nil,arq,wH hn cs h,length_map]
 |row nl e s l=>
  cases l with
  |x i=>
   have hl:(aR ((D.aX r τ).getD i .top)).map (AV.bj σ)=aR ((D.aX r τ).getD i .top):=by
    rw[←eF];refine e8 _ (cj ?_);simp only[List.getD];cases hx:(D.aX r τ)[i]? with
    |none=>rfl
    |some a=>exact aW hn a (mem_of_getElem? hx)
   simp only[SO.mr];rw[p7,p7]
   show b6 nl e s (aR ((τ.getD i (.c .top)).ev r))=(b6 nl e s (aR ((D.aX r τ).getD i .top))).bj σ;rw[←wT];generalize aR ((D.aX r τ).getD i .top)=xs at hl;unfold b6
   split
   ·rfl
   ·simp only[aa.bj,hl]
  |_=>simp[SO.pat]at h
theorem ae8{n k:Nat}{r:List AV}{τ:List D}{σ:Nat->Nat}(hn:AV.ae (D.aX r τ)=true):∀(v:SV),v.acO n k=true->(v.ai2 τ σ).ev r=(v.ev (D.aX r τ)).bj σ:=by
 intro v h;cases v with
 |a9 cs=>simp only[SV.acO]at h;simp only[SV.ai2,SV.ev,AV.bj,wH hn cs h]
 |agg cs=>simp only[SV.acO]at h;simp only[SV.ai2,SV.ev,AV.bj,wH hn cs h]
 |_=>exact ae9 (n:=n) (k:=k) hn _ (by simpa only[SV.acO]using h)
theorem anT{n k:Nat}{l:List AV}(hn:AV.ae l=true):∀(v:SV),v.pat n k=true->(v.ev l).inScope k=true:=by
 intro v h;cases v with
 |d x=>
  cases x with
  |x i=>
   simp only[SV.ev,D.ev];refine bU _ ?_;simp only[List.getD];cases hx:l[i]? with
   |none=>rfl
   |some a=>exact aW hn a (mem_of_getElem? hx)
  |c a=>exact bU _ h
  |_=>simp[SV.pat]at h
 |row m y=>
  cases y with
  |x i=>simp only[SV.pat,and_eq_true]at h;exact h.2
  |_=>simp[SV.pat]at h
 |ptr m f=>exact h
 |_=>simp[SV.pat]at h
theorem we{n k:Nat}{l:List AV}(hn:AV.ae l=true):∀(vs:List SV),vs.all (SV.pat n k)=true->AV.cD k (SV.aX l vs)=true
 | [],_=>rfl
 |v::vs,h=>by
  simp only[all_cons,and_eq_true]at h;simp only[SV.aX,AV.cD,anT hn v h.1,we hn vs h.2];rfl
theorem auy{k:Nat}{l:List AV}(h:AV.cD k l=true):(nw l).inScope k=true:=by
 unfold nw
 split
 ·simpa [AV.cD]using h
 ·exact h
theorem aj7{n k:Nat}{l:List AV}(hn:AV.ae l=true):∀(o:SO),o.pat n k=true->(o.ev l).inScope k=true:=by
 intro o h;cases o with
 |dead=>rfl
 |box e cs=>
  simp only[SO.pat]at h;simp only[SO.ev,aa.inScope,AV.cD,Bool.and_true];exact auy (we hn cs h)
 |row nl e s y=>
  cases y with
  |x i=>
   have:AV.cD k (aR (l.getD i .top))=true:=by
    refine cP _ (cj ?_);simp only[List.getD];cases hx:l[i]? with
    |none=>rfl
    |some a=>exact aW hn a (mem_of_getElem? hx)
   rw[p7]
   show aa.inScope k (b6 nl e s (aR (l.getD i .top)))=true;unfold b6
   split
   ·rfl
   ·exact this
  |_=>simp[SO.pat]at h
theorem vm{j:Nat}:∀{l:List Nat} {i n:Nat},posOf j l i=some n->i<=n/\l[n- i]? =some j
 | [],_,_,h=>by cases h
 |x::l,i,n,h=>by
  unfold posOf at h
  split at h
  ·cases h;rename_i hx;subst hx;exact⟨le_refl _,by simp⟩
  ·obtain⟨h1,h2⟩:=vm h;refine⟨by omega,?_⟩;rw[show n- i=(n- (i+1))+1 by omega,List.getElem?_cons_succ];exact h2
theorem aaI{j:Nat}:∀{l:List Nat} {i:Nat},posOf j l i=none->j∉l
 | [],_,_=>by simp
 |x::l,i,h=>by
  unfold posOf at h
  split at h
  ·cases h
  ·rename_i hx;simp only[mem_cons,not_or];exact⟨λ h=>hx h.symm,aaI h⟩
theorem qX:∀{l:List Nat},xH l=true->∀{i j x:Nat},l[i]? =some x->l[j]? =some x->i=j
 | [],_,i,j,x,h,_=>by simp at h
 |y::l,h,i,j,x,h1,h2=>by
  simp only[xH,and_eq_true,Bool.not_eq_true',List.contains_eq_mem,decide_eq_false_iff_not]at h;cases i<;>cases j
  ·rfl
  ·simp at h1 h2;subst h1;exact(h.1 (mem_of_getElem? h2)).elim
  ·simp at h1 h2;subst h2;exact(h.1 (mem_of_getElem? h1)).elim
  ·simp at h1 h2;rw[qX h.2 h1 h2]
theorem yB{an:List SO}{cW:List Nat}{ps:List SO}:(fw an cW ps).length=an.length+(ps.length- cW.length):=by simp[fw]
theorem yA{an:List SO}{cW:List Nat}{ps:List SO}(hnd:xH cW=true){i n:Nat}(hi:cW[i]? =some n)(hn:n<an.length)(hp:i<ps.length):(fw an cW ps)[n]? =ps[i]? :=by
 unfold fw;rw[getElem?_append_left (by simpa using hn),getElem?_map,List.getElem?_range hn];simp only[map_some];cases h:posOf n cW 0 with
 |none=>exact(aaI h (mem_of_getElem? hi)).elim
 |some m=>
  obtain⟨_,h2⟩:=vm h;have:=qX hnd hi h2;simp only[Nat.sub_zero]at this;subst this;simp only[List.getD,getElem?_eq_getElem hp,getD_some]
theorem yz{an:List SO}{cW:List Nat}{ps:List SO}{n:Nat}(hn:n<an.length)(h:n∉cW):(fw an cW ps)[n]? =an[n]? :=by
 unfold fw;rw[getElem?_append_left (by simpa using hn),getElem?_map,List.getElem?_range hn];simp only[map_some];cases hp:posOf n cW 0 with
 |none=>simp only[List.getD,getElem?_eq_getElem hn,getD_some]
 |some m=>exact(h (mem_of_getElem? (vm hp).2)).elim
theorem agJ{an:List SO}{cW:List Nat}{ps:List SO}{i:Nat}(hi:cW.length<=i):(fw an cW ps)[an.length+(i- cW.length)]? =ps[i]? :=by
 unfold fw;rw[getElem?_append_right (by simp),length_map,List.length_range,List.getElem?_drop];congr 1;omega
theorem tf{kn:List (Nat×Nat)}{τ:List D}{σ:Nat->Nat}{n k:Nat}:∀{ps vs:List SV} {ns:List Node},ad5 kn τ σ ps vs=some ns->ps.all (SV.pat n k)=true->∀{r:List AV} {G:List AV->Prop},AV.ae (D.aX r τ)=true->kc P ns r G->
  G r/\SV.aX r vs=AV.sa σ (SV.aX (D.aX r τ) ps)
 | [],[],ns,h,_,r,G,_,hw=>by cases h;exact⟨hw,rfl⟩
 |p::ps,v::vs,ns,h,hp,r,G,hn,hw=>by
  simp only[ad5]at h
  split at h
  ·rename_i a b ha hb;cases h;simp only[all_cons,and_eq_true]at hp;rw[cf]at hw
   have hv:kc P b r (λ r'=>G r')/\v.ev r=(p.ev (D.aX r τ)).bj σ:=by
    unfold azk at ha
    split at ha
    ·rename_i i
     split at ha
     ·rename_i ms d hd
      split at ha
      ·rename_i hbq;cases ha;obtain⟨h1,h2⟩:=lR hd hw;refine⟨h1,?_⟩;rw[←h2,←D.beq_eq _ _ hbq];simp only[SV.ev,D.ev];rw[sO hn,wT]
      ·cases ha
     ·cases ha
    ·split at ha
     ·rename_i hbq;cases ha;refine⟨hw,?_⟩;rw[←SV.beq_eq _ _ hbq,ae9 hn p hp.1]
     ·cases ha
   obtain⟨h3,h4⟩:=tf hb hp.2 hn hv.1;exact⟨h3,by simp only[SV.aX,AV.sa,hv.2,h4]⟩
  ·cases h
 | [],_::_,_,h,_,_,_,_,_=>by simp[ad5]at h
 |_::_,[],_,h,_,_,_,_,_=>by simp[ad5]at h
theorem pt{s:SS}{τ:List D}{σ:Nat->Nat}:∀{ps:List SO} {n:Nat},ahv s τ σ n ps=true->∀i p,ps[i]? =some p->s.an[σ (n+i)]? =some (p.mr τ σ)
 | [],_,_,i,p,hi=>by simp at hi
 |q::ps,n,h,i,p,hi=>by
  simp only[ahv,and_eq_true]at h;cases i with
  |zero=>
   simp at hi;subst hi;have h1:=h.1
   split at h1
   ·rename_i o ho;rw[add_zero,ho,SO.beq_eq h1]
   ·cases h1
  |succ i=>
   simp at hi;have:=pt h.2 i p hi;rw[←this];congr 2;omega
theorem aay{r r':List AV}{ks:List (Nat×D×D)}(hk:∀q∈ks,q.2.1.ev r'=q.2.1.ev r/\(aR (q.2.1.ev r)).length=(aR (q.2.2.ev r')).length):
  ∀(v:SV),v.ev r'=v.ev r->(aeN ks v).ev r'=v.ev r:=by
 induction ks with
 |nil=>intro v h;exact h
 |cons q ks ih=>
  intro v h;simp only[aeN,foldl_cons];obtain⟨h1,h2⟩:=hk q (by simp)
  have key:(v.rew q.1 q.2.1 q.2.2).ev r'=v.ev r:=by
   rw[←h];cases v with
   |row m l=>
    simp only[SV.rew]
    split
    ·rename_i hc;have:=D.beq_eq _ _ hc.2;subst this;simp only[SV.ev,h1,h2]
    ·rfl
   |rp m l i f=>
    simp only[SV.rew]
    split
    ·rename_i hc;have:=D.beq_eq _ _ hc.2;subst this;simp only[SV.ev,h1,h2]
    ·rfl
   |_=>rfl
  have h3:∀(ks:List (Nat×D×D)),(∀q∈ks,q.2.1.ev r'=q.2.1.ev r/\(aR (q.2.1.ev r)).length=(aR (q.2.2.ev r')).length)->∀w:SV,w.ev r'=v.ev r->(ks.foldl (λ v q=>v.rew q.1 q.2.1 q.2.2) w).ev r'=v.ev r:=by
   intro ks
   induction ks with
   |nil=>intro _ w hw;exact hw
   |cons q ks ih2=>
    intro hk w hw;simp only[foldl_cons];refine ih2 (λ q hq=>hk q (by simp[hq])) _ ?_;obtain⟨h1,h2⟩:=hk q (by simp);rw[←hw];cases w with
    |row m l=>
     simp only[SV.rew]
     split
     ·rename_i hc;have:=D.beq_eq _ _ hc.2;subst this;simp only[SV.ev,h1,h2]
     ·rfl
    |rp m l i f=>
     simp only[SV.rew]
     split
     ·rename_i hc;have:=D.beq_eq _ _ hc.2;subst this;simp only[SV.ev,h1,h2]
     ·rfl
    |_=>rfl
  exact h3 ks (λ q hq=>hk q (by simp[hq])) _ key
theorem vJ:∀{ks:List (Nat×D×D)} {r:List AV} {G:List AV->Prop},kc P (ks.map λ q=> .bI (.eql q.2.1 q.2.2)) r G->G r/\∀q∈ks,(aR (q.2.1.ev r)).length=(aR (q.2.2.ev r)).length
 | [],r,G,h=>⟨h,by simp⟩
 |q::ks,r,G,h=>by
  simp only[map_cons,kc,rQ.wp]at h;obtain⟨h1,h2⟩:=h;obtain⟨h3,h4⟩:=vJ h2;refine⟨h3,λ q' hq'=> ?_⟩;rcases List.mem_cons.1 hq' with rfl|hq'
  ·exact h1
  ·exact h4 q' hq'
theorem ag3{g:iW}{τ:List D}{σ:Nat->Nat}{nv n:Nat}(h:D.cls n τ=true):∀q∈wF g τ σ nv,q.2.1.cl n=true:=by
 intro q hq;simp only[wF,List.mem_filterMap]at hq;obtain⟨m,_,hm⟩:=hq
 split at hm
 ·rename_i i _ _;cases hm
  have key:∀i,(τ.getD i (.c .top)).cl n=true:=by
   intro i;simp only[List.getD];cases hx:τ[i]? with
   |none=>rfl
   |some d=>exact afJ.1 h d (mem_of_getElem? hx)
  exact key _
 ·cases hm
theorem ahx{r:List AV}{nv m:Nat}(hl:r.length=nv){outs:List AV}(ho:outs.length=m)(more:List AV):D.aX (r++ .a9 outs::more) (sk nv m)=outs:=by
 rw[D.aJ,sk,map_map];apply ext_getElem
 ·simp[ho]
 ·intro i h1 h2;simp only[getElem_map,getElem_range,Function.comp_apply,D.ev]
  have:(r++AV.a9 outs::more).getD nv .top= .a9 outs:=by
   rw[List.getD,getElem?_append_right (by omega),hl,Nat.sub_self];rfl
  rw[this];simp only[am9,List.getD,getElem?_eq_getElem h2,getD_some]
theorem anq{s:SS}{f:FuncId}{gs:List iW}{args:List aC}{g:iW}{q}(h:aav s f (args.map (cA s)) g=some q):dy P (.gy gs f args) s q:=by
 intro r hl hc hr gj K hk;unfold aav at h
 split at h
 ·rename_i τ cW hm;simp only at h
  split at h
  ·rename_i ns mH
   split at h
   ·rename_i qu;obtain⟨g1,g2,g3,g4,g5,g6,g7⟩:=qu;simp only[Option.some.injEq]at h;subst h;simp only[iW.ok,and_eq_true,decide_eq_true_eq]at g1;obtain⟨⟨⟨⟨p1,p2⟩,p3⟩,p4⟩,p5⟩:=g1;have hσ:∀n,eY s.an cW n=if n<cW.length then cW.getD n 0 else s.an.length+(n- cW.length):=λ _=>rfl
    have aoG:D.cls s.nv τ=true:=by
     have gj:=gj;simp only at gj;rw[cQ,and_eq_true]at gj;have:=gj.2;simp only[cn,PO.cl,and_eq_true,g7]at this;exact this.1
    have sf:AV.ae (D.aX r τ)=true:=D.cC hr τ (by rw[hl];exact aoG);simp only at hk;rw[cf]at hk;obtain⟨hk,kV⟩:=tf mH p1 sf hk;simp only[kc,PO.wp]at hk;obtain⟨outs,eL,hlen,hon,hk⟩:=hk;obtain⟨hk,heq⟩:=vJ hk;have uC:(r++ [AV.a9 outs]).length=s.nv+1:=by simp[hl]
    have ahk:∀d:D,d.cl s.nv=true->d.ev (r++ [.a9 outs])=d.ev r:=λ d hd=>D.cz d (by rw[hl];exact hd)
    have hE:D.aX (r++ [.a9 outs]) (sk s.nv g.m)=outs:=ahx hl hlen [];have aoT:AV.ae (D.aX (r++ [.a9 outs]) (sk s.nv g.m))=true:=by rw[hE];exact hon
    have hK:=hk (by
     funext t
     simp only[bJ]
     rw[xK (f:=aeN (wF g τ (eY s.an cW) s.nv)) (by
      generalize wF g τ (eY s.an cW) s.nv=ks
      induction ks with
      |nil=>rfl
      |cons a ks ih=>simp only[aeN,foldl_cons,SV.rew]at ih⊢;exact ih)]
     refine aay (λ q hq=> ?_) _ (SV.cz _ (by rw[hl];exact SS.rH hc t));have mS:=ag3 aoG q hq;exact⟨ahk _ mS,by rw[←ahk _ mS];exact heq q hq⟩)
    have hin:∀i,i<g.an.length->∃n,cW[i]? =some n/\eY s.an cW i=n/\n<s.an.length:=by
     intro i hi;have ei:i<cW.length:=by omega
     refine⟨cW[i],getElem?_eq_getElem ei,?_,?_⟩
     ·rw[hσ,if_pos ei];simp[List.getD,ei]
     ·have:=List.all_eq_true.1 g4 cW[i] (List.getElem_mem ei);simpa using this
    have zx:(g.an.map (SO.ev (D.aX r τ))).length=g.an.length:=by simp
    have hO2:(g.ck.map (SO.ev outs)).length=g.ck.length:=by simp
    have qp:(g.res.ai2 (sk s.nv g.m) (eY s.an cW)).ev (r++ [.a9 outs])=(g.res.ev outs).bj (eY s.an cW):=by
     rw[ae8 aoT _ p4,hE]
    have aoU:bp {s with env:=s.env.map (λ p=>(p.1,aeN (wF g τ (eY s.an cW) s.nv) p.2)),an:=fw s.an cW (g.ck.map (SO.mr (sk s.nv g.m) (eY s.an cW))),nv:=s.nv+1} (r++ [.a9 outs])=
     (fw s.an cW (g.ck.map (SO.mr (sk s.nv g.m) (eY s.an cW)))).map (SO.ev (r++ [.a9 outs])):=rfl
    rw[qp,aoU]at hK;refine⟨_,_,?_,hK⟩
    have:=cF.frame (O:=bp s r) (oR:=(fw s.an cW (g.ck.map (SO.mr (sk s.nv g.m) (eY s.an cW)))).map (SO.ev (r++ [.a9 outs]))) eL (eY s.an cW)
     (λ i hi=>by rw[zx]at hi;obtain⟨n,_,h2,h3⟩:=hin i hi;rw[h2,du];exact h3)
     (λ i hi=>by
      rw[zx]at hi;have hp:g.an[i]? =some g.an[i]:=getElem?_eq_getElem hi;have h1:=pt g6 i _ hp;rw[zero_add]at h1;simp only[bp,getElem?_map,h1,hp,map_some];rw[wI sf _ (List.all_eq_true.1 p2 _ (mem_of_getElem? hp))])
     (λ i j hi hj he=>by
      rw[zx]at hi hj;obtain⟨n,a1,a2,_⟩:=hin i hi;obtain⟨m,b1,b2,_⟩:=hin j hj;rw[a2,b2]at he;subst he;exact qX g3 a1 b1)
     (λ i hi=>by rw[zx]at hi;rw[hσ,if_neg (by omega),du,zx,g2])
     (λ a ha=>by rw[zx];exact bG (we sf _ p1) a ha)
     (λ ob ho=>by
      rw[zx];obtain⟨o,hom,rfl⟩:=List.mem_map.1 ho;exact aj7 sf o (List.all_eq_true.1 p2 _ hom))
     (by rw[length_map,yB,du,zx,hO2,length_map,g2])
     (λ i hi=>by
      rw[hO2]at hi;have hp:g.ck[i]? =some g.ck[i]:=getElem?_eq_getElem hi
      have hev:((g.ck[i]).mr (sk s.nv g.m) (eY s.an cW)).ev (r++ [.a9 outs])=((g.ck[i]).ev outs).bj (eY s.an cW):=by
       rw[wI aoT _ (List.all_eq_true.1 p3 _ (mem_of_getElem? hp)),hE]
      have hg:(fw s.an cW (g.ck.map (SO.mr (sk s.nv g.m) (eY s.an cW))))[eY s.an cW i]? =some ((g.ck[i]).mr (sk s.nv g.m) (eY s.an cW)):=by
       by_cases aw:i<g.an.length
       ·obtain⟨n,a1,a2,a3⟩:=hin i aw;rw[a2,yA g3 a1 a3 (by simpa using hi),getElem?_map,hp];rfl
       ·rw[hσ,if_neg (by omega),agJ (by omega),getElem?_map,hp];rfl
      rw[getElem?_map,hg,getElem?_map,hp];simp only[map_some,hev])
     (λ n hn b8=>by
      rw[du]at hn
      have:n∉cW:=λ iP=>by
       obtain⟨i,hi⟩:=List.getElem?_of_mem iP;have hil:=(List.getElem?_eq_some_iff.1 hi).1;obtain⟨n',a1,a2,_⟩:=hin i (by omega);rw[hi]at a1;cases a1;exact b8 i (by rw[zx];omega) a2
      rw[getElem?_map,yz hn this];simp only[bp,getElem?_map];cases ho:s.an[n]? with
      |none=>rfl
      |some o=>
       simp only[map_some];rw[SO.cz (r':=[.a9 outs]) o (by rw[hl];exact SS.vL hc (mem_of_getElem? ho))])
    have ha:args.map (aC.ev (bJ s r))=(SV.aX (D.aX r τ) g.args).map (AV.bj (eY s.an cW)):=by
     rw[←eF,←kV,SV.aJ,map_map];apply map_congr_left;intro x _;simp only[Function.comp_apply,aP]
    rw[ha];exact this
   ·cases h
  ·cases h
 ·cases h
theorem aeR{n:Nat}{l:List AV}(hn:AV.ae l=true):∀(v:SV),v.pat n 0=true->(v.ev l).ag=true:=by
 intro v h;cases v with
 |d x=>
  cases x with
  |x i=>
   simp only[SV.ev,D.ev,List.getD];cases hx:l[i]? with
   |none=>rfl
   |some a=>exact aW hn a (mem_of_getElem? hx)
  |c a=>exact h
  |_=>simp[SV.pat]at h
 |row m y=>cases y<;>simp[SV.pat]at h
 |ptr m f=>simp[SV.pat]at h
 |_=>simp[SV.pat]at h
theorem zL{n:Nat}{l:List AV}(hn:AV.ae l=true):∀(vs:List SV),vs.all (SV.pat n 0)=true->AV.ae (SV.aX l vs)=true
 | [],_=>rfl
 |v::vs,h=>by
  simp only[all_cons,and_eq_true]at h;simp only[SV.aX,AV.ae,aeR hn v h.1,zL hn vs h.2];rfl
theorem aq3{n:Nat}{l:List AV}(hn:AV.ae l=true):∀(v:SV),v.acO n 0=true->(v.ev l).ag=true:=by
 intro v h;cases v with
 |a9 cs=>exact zL hn cs h
 |agg cs=>exact zL hn cs h
 |_=>exact aeR (n:=n) hn _ h
theorem auz{l:List AV}(h:AV.ae l=true):(nw l).ag=true:=by
 unfold nw
 split
 ·simpa [AV.ae]using h
 ·exact h
theorem zM{n:Nat}{l:List AV}(hn:AV.ae l=true):∀(o:SO),o.pat n 0=true->(o.ev l).ae=true:=by
 intro o h;cases o with
 |dead=>rfl
 |box e cs=>
  simp only[SO.pat]at h;simp only[SO.ev,aa.ae,AV.ae,Bool.and_true];exact auz (zL hn cs h)
 |row nl e s y=>
  cases y with
  |x i=>
   have:AV.ae (aR (l.getD i .top))=true:=by
    refine cj ?_;simp only[List.getD];cases hx:l[i]? with
    |none=>rfl
    |some a=>exact aW hn a (mem_of_getElem? hx)
   rw[p7]
   show aa.ae (b6 nl e s (aR (l.getD i .top)))=true;unfold b6
   split
   ·rfl
   ·exact this
  |_=>simp[SO.pat]at h
theorem alu{a:AV}(h:a.ag=true):a.one=true:=by
 cases a<;>first|exact h|(simp[AV.ag]at h;done)
theorem aiM{a:AV}(h:a.ag=true):refs a= []:=by
 cases a<;>first|rfl|(simp[AV.ag]at h;done)
theorem aq2{n:Nat}{l:List AV}(hn:AV.ae l=true):∀(v:SV),v.pat n 1=true->(v.ev l).one=true:=by
 intro v h;cases v with
 |d x=>
  refine alu (aeR (n:=n) hn (.d x) ?_);cases x<;>first|exact h|(simp[SV.pat]at h;done)
 |row m y=>
  cases y with
  |x i=>simp only[SV.pat,and_eq_true,decide_eq_true_eq]at h;simp only[SV.ev,AV.one,beq_iff_eq];omega
  |_=>simp[SV.pat]at h
 |ptr m f=>simp only[SV.pat,decide_eq_true_eq]at h;simp only[SV.ev,AV.one,beq_iff_eq];omega
 |_=>simp[SV.pat]at h
theorem adx{n k:Nat}{l:List AV}(hn:AV.ae l=true):∀(vs:List SV),vs.all (SV.pat n 1)=true->(vs.map ((AV.bj λ _=>k)∘SV.ev l)).flatMap refs=List.replicate (vs.filter SV.isR).length k
 | [],_=>rfl
 |v::vs,h=>by
  simp only[all_cons,and_eq_true]at h;simp only[map_cons,List.flatMap_cons,Function.comp_apply,adx hn vs h.2];cases v with
  |d x=>
   have:(SV.ev l (.d x)).ag=true:=aeR (n:=n) hn (.d x) (by cases x<;>first|exact h.1|(simp[SV.pat]at h;done));rw[dI _ this,aiM this];rfl
  |row m y=>rfl
  |ptr m f=>rfl
  |_=>simp[SV.pat]at h
theorem ak2{s:SS}{f:FuncId}{gs:List iW}{args:List aC}{g:iW}{q}(abJ:g.one=true)(h:aav s f (args.map (cA s)) g=some q):dy P (.ko gs f args) s q:=by
 intro r hl hc hr gj K hk;unfold aav at h
 split at h
 ·rename_i τ cW hm;simp only at h
  split at h
  ·rename_i ns mH
   split at h
   ·rename_i qu;obtain⟨g1,g2,g3,g4,g5,g6,g7⟩:=qu;simp only[Option.some.injEq]at h;subst h;simp only[iW.ok,and_eq_true,decide_eq_true_eq]at g1;obtain⟨⟨⟨⟨p1,p2⟩,p3⟩,p4⟩,p5⟩:=g1;have hσ:∀n,eY s.an cW n=if n<cW.length then cW.getD n 0 else s.an.length+(n- cW.length):=λ _=>rfl
    have aoG:D.cls s.nv τ=true:=by
     have gj:=gj;simp only at gj;rw[cQ,and_eq_true]at gj;have:=gj.2;simp only[cn,PO.cl,and_eq_true,g7]at this;exact this.1
    have sf:AV.ae (D.aX r τ)=true:=D.cC hr τ (by rw[hl];exact aoG);simp only at hk;rw[cf]at hk;obtain⟨hk,kV⟩:=tf mH p1 sf hk;simp only[kc,PO.wp]at hk;obtain⟨outs,eL,hlen,hon,hk⟩:=hk;obtain⟨hk,heq⟩:=vJ hk;have uC:(r++ [AV.a9 outs]).length=s.nv+1:=by simp[hl]
    have ahk:∀d:D,d.cl s.nv=true->d.ev (r++ [.a9 outs])=d.ev r:=λ d hd=>D.cz d (by rw[hl];exact hd)
    have hE:D.aX (r++ [.a9 outs]) (sk s.nv g.m)=outs:=ahx hl hlen [];have aoT:AV.ae (D.aX (r++ [.a9 outs]) (sk s.nv g.m))=true:=by rw[hE];exact hon
    have hK:=hk (by
     funext t
     simp only[bJ]
     rw[xK (f:=aeN (wF g τ (eY s.an cW) s.nv)) (by
      generalize wF g τ (eY s.an cW) s.nv=ks
      induction ks with
      |nil=>rfl
      |cons a ks ih=>simp only[aeN,foldl_cons,SV.rew]at ih⊢;exact ih)]
     refine aay (λ q hq=> ?_) _ (SV.cz _ (by rw[hl];exact SS.rH hc t));have mS:=ag3 aoG q hq;exact⟨ahk _ mS,by rw[←ahk _ mS];exact heq q hq⟩)
    have hin:∀i,i<g.an.length->∃n,cW[i]? =some n/\eY s.an cW i=n/\n<s.an.length:=by
     intro i hi;have ei:i<cW.length:=by omega
     refine⟨cW[i],getElem?_eq_getElem ei,?_,?_⟩
     ·rw[hσ,if_pos ei];simp[List.getD,ei]
     ·have:=List.all_eq_true.1 g4 cW[i] (List.getElem_mem ei);simpa using this
    have zx:(g.an.map (SO.ev (D.aX r τ))).length=g.an.length:=by simp
    have hO2:(g.ck.map (SO.ev outs)).length=g.ck.length:=by simp
    have qp:(g.res.ai2 (sk s.nv g.m) (eY s.an cW)).ev (r++ [.a9 outs])=(g.res.ev outs).bj (eY s.an cW):=by
     rw[ae8 aoT _ p4,hE]
    have aoU:bp {s with env:=s.env.map (λ p=>(p.1,aeN (wF g τ (eY s.an cW) s.nv) p.2)),an:=fw s.an cW (g.ck.map (SO.mr (sk s.nv g.m) (eY s.an cW))),nv:=s.nv+1} (r++ [.a9 outs])=
     (fw s.an cW (g.ck.map (SO.mr (sk s.nv g.m) (eY s.an cW)))).map (SO.ev (r++ [.a9 outs])):=rfl
    rw[qp,aoU]at hK;simp only[iW.one,and_eq_true,decide_eq_true_eq]at abJ;obtain⟨⟨⟨⟨⟨e1,e2⟩,e3⟩,e4⟩,e5⟩,e6⟩:=abJ;obtain⟨o,ho⟩:∃o,g.an= [o]:=List.length_eq_one_iff.1 e1;obtain⟨o',ho'⟩:∃o,g.ck= [o]:=List.length_eq_one_iff.1 e2;obtain⟨n,a1,a2,a3⟩:=hin 0 (by omega);have as7:(g.res.ev outs).ag=true:=aq3 hon _ e5;have apc:∀v∈g.args,(v.ev (D.aX r τ)).one=true:=λ v hv=>aq2 sf v (by have:=List.all_eq_true.1 p1 v hv;rwa [e1]at this)
    have ha:args.map (aC.ev (bJ s r))=(SV.aX (D.aX r τ) g.args).map (AV.bj λ _=>n):=by
     have h1:args.map (aC.ev (bJ s r))=(SV.aX (D.aX r τ) g.args).map (AV.bj (eY s.an cW)):=by
      rw[←eF,←kV,SV.aJ,map_map];apply map_congr_left;intro x _;simp only[Function.comp_apply,aP]
     rw[h1,SV.aJ,map_map,map_map];exact map_congr_left λ v hv=>akb a2 (apc v hv)
    refine⟨n,SV.aX (D.aX r τ) g.args,o.ev (D.aX r τ),g.res.ev outs,o'.ev outs,ha,?_,?_,?_,?_,as7,?_,?_,?_⟩
    ·rw[SV.aJ,List.all_map];exact List.all_eq_true.2 λ v hv=>apc v hv
    ·have h1:(args.flatMap λ x=>refs (x.ev (bJ s r)))=(args.map (aC.ev (bJ s r))).flatMap refs:=by rw[List.flatMap_map]
     rw[h1,ha,SV.aJ,map_map,adx (k:=n) sf g.args (by rw[e1]at p1;exact p1),e6];rfl
    ·have h1:=pt g6 0 o (by rw[ho];rfl);rw[zero_add,a2]at h1;simp only[bp,getElem?_map,h1,map_some];rw[wI sf o (by have:=List.all_eq_true.1 p2 o (by rw[ho];simp);exact this),fy (zM sf o (List.all_eq_true.1 e3 o (by rw[ho];simp)))]
    ·exact zM sf o (List.all_eq_true.1 e3 o (by rw[ho];simp))
    ·exact zM hon o' (List.all_eq_true.1 e4 o' (by rw[ho'];simp))
    ·have:=eL;unfold zE at this;rw[ho,ho']at this;exact this
    ·have akp:cW.length=1:=by rw[g2,e1]
     have hO:(fw s.an cW (g.ck.map (SO.mr (sk s.nv g.m) (eY s.an cW)))).map (SO.ev (r++ [.a9 outs]))=(bp s r).set n (o'.ev outs):=by
      apply ext_getElem?;intro j;by_cases hj:j=n
      ·subst hj;rw[getElem?_map,yA g3 a1 a3 (by rw[ho'];simp),getElem?_map,ho',List.getElem?_set_self (by rw[du];exact a3)];simp only[List.getElem?_cons_zero,map_some];rw[wI aoT o' (by have:=List.all_eq_true.1 p3 o' (by rw[ho'];simp);exact this),hE,fy (zM hon o' (List.all_eq_true.1 e4 o' (by rw[ho'];simp)))]
      ·rw[getElem?_set_ne (λ h=>hj h.symm)];by_cases aw:j<s.an.length
       ·rw[getElem?_map,yz aw (λ iP=>by
          obtain⟨i,hi⟩:=List.getElem?_of_mem iP;have hil:=(List.getElem?_eq_some_iff.1 hi).1;have:i=0:=by omega
          subst this;rw[a1]at hi;cases hi;exact hj rfl)]
        simp only[bp,getElem?_map];cases hx:s.an[j]? with
        |none=>rfl
        |some ob=>
         simp only[map_some];rw[SO.cz (r':=[.a9 outs]) ob (by rw[hl];exact SS.vL hc (mem_of_getElem? hx))]
       ·rw[getElem?_eq_none (by rw[length_map,yB,length_map,ho',akp];simp only[List.length_cons,length_nil];omega),getElem?_eq_none (by rw[du];omega)]
     rw[hO,dI _ as7]at hK;exact hK
   ·cases h
  ·cases h
 ·cases h
theorem ads{s:SS}{f:FuncId}{gs:List iW}{args:List aC}:∀{ls:List iW} {q},sN s f (args.map (cA s)) ls=some q->dy P (.gy gs f args) s q
 | [],_,h=>by cases h
 |g::ls,q,h=>by
  unfold sN at h
  split at h
  ·rename_i q' hq;cases h;exact anq hq
  ·exact ads h
theorem vg{s:SS}{f:FuncId}{gs:List iW}{args:List aC}:∀{ls:List iW} {q},sN s f (args.map (cA s)) (ls.filter iW.one)=some q->dy P (.ko gs f args) s q
 | [],_,h=>by cases h
 |g::ls,q,h=>by
  by_cases hg:g.one=true
  ·rw[List.filter_cons_of_pos hg]at h;unfold sN at h
   split at h
   ·rename_i q' hq;cases h;exact ak2 hg hq
   ·exact vg h
  ·rw[List.filter_cons_of_neg hg]at h;exact vg h
theorem asc{s:SS}{a:aC}{cs:List SV}{i:Nat}{v:SV}(ha:cA s a= .a9 cs)(hi:cs[i]? =some v):dy P (.ext a i) s ([],v,s):=by
 intro r hl hc hr gj K hk;have hG:=hk rfl
 show(match a.ev (bJ s r)with| .a9 vs=>i<vs.length/\K (vs.getD i .top) (bp s r)|_=>False);rw[←aP,ha];simp only[SV.ev,SV.aJ];have aw:=(List.getElem?_eq_some_iff.1 hi).1;refine⟨by simpa using aw,?_⟩;simp only[List.getD,getElem?_map,hi,map_some,getD_some];exact hG
end
end Go.Ab
namespace Go.Ab
section
variable {P:Program}
theorem apA{s:SS}{off:Nat}{a:aC}{q}(h:ah8 s off (cA s a)=some q):dy P (.aB off a) s q:=by
 intro r hl hc hr gj K hk;unfold ah8 at h
 split at h
 ·rename_i k f ha
  split at h
  ·rename_i q' hb;cases h;obtain⟨e,cs⟩:=q';rw[ky,←aP,ha];simp only[SV.ev,gn];rw[fT (j8 hb) r];simp only[SO.ev,cX,k1];exact⟨rfl,hk rfl⟩
  ·cases h
 ·rename_i k l i f ha
  split at h
  ·rename_i q' kB;obtain⟨e,sz⟩:=q';cases h;rw[ky,←aP,ha];simp only[SV.ev,gn];have:=fT (dL kB) r;simp only[SO.ev]at this;rw[this,cX,k1];exact⟨rfl,hk rfl⟩
  ·rename_i q' kB;obtain⟨e,sz⟩:=q';cases h;rw[ky,←aP,ha];simp only[SV.ev,gn];simp only[kc,rQ.wp,alU]at hk
   split at hk
   ·obtain⟨h0,h1,hk⟩:=hk;rcases eO (dL kB) r with h5|⟨h5,h6,_⟩
    ·rw[h5,cX,k1];exact⟨rfl,hk trivial⟩
    ·rw[h6]at h1;simp at h1;omega
   ·exact hk.elim
  ·cases h
 ·rename_i y f ha;cases h;rw[ky,←aP,ha];simp only[SV.ev,fP,k1];exact hk rfl
 ·rename_i y ha;cases h;have h1:=mP (K:=K) hl hc hk;simp only[PO.wp,apz]at h1;rw[ky,←aP,ha];simp only[SV.ev]
  split at h1
  ·rename_i z f hy;rw[hy,fP,k1];exact h1
  ·exact h1.elim
 ·cases h
theorem avM{s:SS}{off:Nat}{n:Option Nat}{a:aC}{q}(h:aty s off n (cA s a)=some q):dy P (.yK off n a) s q:=by
 intro r hl hc hr gj K hk
 have hb:∀{A:AV},(cA s a).ev r=A->(A.isAgg=true/\off+n.getD 1<=A.cells.length/\K (dt n A off) (bp s r))->wpOp P (.yK off n a) (bJ s r) (bp s r) K:=by
  intro A hA h;rw[aaT,←aP,hA];exact h
 unfold aty at h
 split at h
 ·rename_i cs ha
  split at h
  ·split at h
   ·rename_i v hv;cases h;have aw:=(List.getElem?_eq_some_iff.1 hv).1;refine hb (A:= .agg (SV.aX r cs)) (by rw[ha];rfl) ⟨rfl,by simp only[AV.cells,SV.aJ,length_map,getD_none];omega,?_⟩;rw[cR];simp only[AV.cells,SV.aJ,List.getD,getElem?_map,hv];exact hk rfl
   ·cases h
  ·rename_i m
   split at h
   ·rename_i h1;cases h;have h2:=aaW (K:=K) hl hc hk;refine hb (A:= .agg (SV.aX r cs)) (by rw[ha];rfl) ⟨rfl,by simp only[AV.cells,SV.aJ,length_map,getD_some];exact h1,?_⟩
    have h3:dt (some m) (.agg (SV.aX r cs)) off= .agg (SV.aX r ((cs.drop off).take m)):=by
     unfold dt;simp only
     split
     ·rename_i h4;obtain⟨rfl,_,h5⟩:=h4;simp only[AV.cells,SV.aJ,length_map]at h5;rw[List.drop_zero,List.take_of_length_le (by omega)]
     ·simp only[AV.cells,SV.aJ,map_take,map_drop]
    rw[h3];exact h2
   ·cases h
 ·rename_i l ha
  split at h
  ·split at h
   ·rename_i d hd;cases h;have aw:=(List.getElem?_eq_some_iff.1 hd).1;refine hb (A:= .agg (D.aX r l)) (by rw[ha];rfl) ⟨rfl,by simp only[AV.cells,D.aJ,length_map,getD_none];omega,?_⟩;rw[cR];simp only[AV.cells,D.aJ,List.getD,getElem?_map,hd];exact hk rfl
   ·cases h
  ·cases h;exact hb (A:=(D.agg l).ev r) (by rw[ha];rfl) (mP (K:=K) hl hc hk)
 ·rename_i x _ ha;cases h;exact hb (A:=x.ev r) (by rw[ha];rfl) (mP (K:=K) hl hc hk)
 ·cases h
theorem aoF{s:SS}{m:Nat}{a b:aC}{q}(h:ah7 s m (cA s a) (cA s b)=some q):dy P (.bg m a b) s q:=by
 intro r hl hc hr gj K hk;unfold ah7 at h
 split at h
 ·rename_i l i ha hb;cases h;rw[pf,←aP,←aP,ha,hb];simp only[SV.ev];simp only[kc,PO.wp,wX]at hk
  split at hk
  ·rename_i xs _ j h1 h2;rw[h1,h2,lH,k1];obtain⟨q1,q2,q3,q4⟩:=hk;refine⟨q1,q2,q3,?_⟩;have h3:bJ {s with nv:=s.nv+1} (r++ [xs.getD j.toNat .top])=bJ s r:=dW (s:=s) hl hc;have h4:=q4 h3;have h5:bp {s with nv:=s.nv+1} (r++ [xs.getD j.toNat .top])=bp s r:=eS (s:=s) hl hc;rw[h5]at h4;simp only[SV.ev,D.ev,bm hl]at h4;exact h4
  ·exact hk.elim
 ·rename_i k l i ha hb
  split at h
  ·rename_i nl e sz kB
   split at h
   ·rename_i ta;subst ta;cases h;rw[pf,←aP,←aP,ha,hb];simp only[SV.ev];simp only[kc,rQ.wp,alU]at hk
    split at hk
    ·rename_i j h2;obtain⟨q1,q2,q3⟩:=hk;rw[h2,iw];have h3:=q3 trivial;simp only[SV.ev,h2,idxOf]at h3;rcases eO (dL kB) r with h5|⟨h5,h6,_⟩
     ·rw[h5,cX,k1];exact⟨rfl,rfl,q1,q2,h3⟩
     ·rw[h6]at q2;simp at q2;omega
    ·exact hk.elim
   ·cases h
  ·cases h
 ·cases h
theorem yp{O:List aa}{y:AV}{M:List AV->Prop}(h:mM [] y M):mM O y M:=by
 unfold mM at*
 split at h
 ·exact h
 ·exact h
 ·simp[aaS]at h
 ·exact h.elim
theorem awe{s:SS}{t m bytes k:Nat}{a b:aC}{l y:D}{nl:Bool}{e sz:Nat}(ha:cA s a= .row k l)(kB:cur s k l=some (nl,e,sz))(avg:e=t/\sz=m)
  (hy:cA s b= .d y∨∃k' l',cA s b= .row k' l'/\(cur s k' l').isSome=true/\y= .sl l'):
  dy P (.app t m bytes a b) s ([.op (.app m bytes l y)],.row k (.x s.nv),{s with an:=s.an.set k (.row nl e sz (.x s.nv)),nv:=s.nv+1}):=by
 intro r hl hc hr gj K hk;obtain⟨rfl,rfl⟩:=avg;rw[yy,←aP,←aP,ha]
 have ai8:∀{M:List AV->Prop},mM [] (y.ev r) M->mM (bp s r) ((cA s b).ev r) M:=by
  intro M h;rcases hy with hy|⟨k',l',hy,hcu,rfl⟩
  ·rw[hy];exact yp h
  ·rw[hy];obtain⟨⟨nl',e',vQ⟩,hq⟩:=Option.isSome_iff_exists.1 hcu;simp only[D.ev,mc]at h;simp only[SV.ev,jR];rcases eO (dL hq) r with h5|⟨h5,h6,_⟩
   ·rw[h5,eP];exact⟨rfl,h⟩
   ·rw[h5,ib,h6];rw[h6]at h;exact⟨rfl,h⟩
 refine ai8 ?_;simp only[kc,PO.wp,amI]at hk;refine tD hk λ ys _ hK=>⟨hK.1,?_⟩
 obtain⟨_,rn,kA,hK⟩:=hK;generalize rh:aR (l.ev r)=xs at*;have pK:bJ {s with an:=s.an.set k (.row nl e sz (.x s.nv)),nv:=s.nv+1} (r++ [.sl (xs++ys)])=bJ s r:=dW (s:=s) hl hc;have hG:=hK pK;rw[zI ⟨_,rfl⟩ hl hc]at hG;simp only[SV.ev,D.ev,bm hl,bA,List.length_append]at hG;simp only[SV.ev,rh,jW,k1];have cU:=dL kB;have aw:k<(bp s r).length:=by rw[du];exact(List.getElem?_eq_some_iff.1 cU).1
 have aoM:∀{ob},(bp s r)[k]? =some ob->(bp s r).set k ob=bp s r:=by
  intro ob h;apply ext_getElem?;intro j;rw[getElem?_set]
  split
  ·rename_i hj;subst hj;rw[h]
  ·rfl
 rcases eO cU r with h5|⟨h5,h6,h7⟩
 ·rw[h5,rh,eP];refine⟨rfl,rfl,rfl,rn,kA,?_⟩;cases nl with
  |false=>simpa only[SO.ev,D.ev,bm hl,bA]using hG
  |true=>
   have bk:xs≠[]:=by
    intro h0;have:=fT cU r;simp only[SO.ev,rh,h0,if_true]at this;rw[this]at h5;cases h5
   have ahj:xs++ys≠[]:=by simp[bk]
   simp only[SO.ev,D.ev,bm hl,bA,if_neg ahj]at hG;exact hG
 ·rw[rh]at h6;subst h6;subst h7;rw[h5,ib];simp only[length_nil,zero_add]at rn kA;refine⟨rfl,rfl,rfl,rn,kA,λ h0=> ?_,λ h0=> ?_⟩
  ·subst h0;simp only[SO.ev,D.ev,bm hl,bA,append_nil,if_true,length_nil,add_zero]at hG;rw[aoM h5]at hG;exact hG
  ·simp only[SO.ev,D.ev,bm hl,bA,nil_append,if_neg h0,length_nil,zero_add]at hG;exact hG
theorem ast{s:SS}{t m bytes:Nat}{a b:aC}{y:D}(ha:cA s a= .d (.c .aA))
  (hy:cA s b= .d y∨∃k' l',cA s b= .row k' l'/\(cur s k' l').isSome=true/\y= .sl l'):
  dy P (.app t m bytes a b) s ([.op (.app m bytes (.c (.sl [])) y),.bI (.ne (.x s.nv))],.row s.an.length (.x s.nv),{s with an:=s.an++ [.row false t m (.x s.nv)],nv:=s.nv+1}):=by
 intro r hl hc hr gj K hk;rw[yy,←aP,←aP,ha]
 have ai8:∀{M:List AV->Prop},mM [] (y.ev r) M->mM (bp s r) ((cA s b).ev r) M:=by
  intro M h;rcases hy with hy|⟨k',l',hy,hcu,rfl⟩
  ·rw[hy];exact yp h
  ·rw[hy];obtain⟨⟨nl',e',vQ⟩,hq⟩:=Option.isSome_iff_exists.1 hcu;simp only[D.ev,mc]at h;simp only[SV.ev,jR];rcases eO (dL hq) r with h5|⟨h5,h6,_⟩
   ·rw[h5,eP];exact⟨rfl,h⟩
   ·rw[h5,ib,h6];rw[h6]at h;exact⟨rfl,h⟩
 refine ai8 ?_;simp only[kc,PO.wp,amI,D.ev,bA,length_nil,zero_add,nil_append]at hk;refine tD hk λ ys _ hK=>⟨hK.1,?_⟩
 obtain⟨_,rn,kA,bk,hK⟩:=hK;simp only[D.ev,bm hl,bA]at bk;have pK:bJ {s with an:=s.an++ [.row false t m (.x s.nv)],nv:=s.nv+1} (r++ [.sl ys])=bJ s r:=dW (s:=s) hl hc;have hG:=hK pK
 have hO:bp {s with an:=s.an++ [.row false t m (.x s.nv)],nv:=s.nv+1} (r++ [.sl ys])=bp s r++ [.live t m ys]:=by
  simp only[bp,map_append,map_cons,map_nil,SO.ev,D.ev,bm hl,bA];congr 1;exact eS (s:=s) hl hc
 rw[hO]at hG;simp only[SV.ev,D.ev,bm hl,bA]at hG;simp only[SV.ev,D.ev,ia,k1,du];exact⟨rn,kA,λ h0=>(bk h0).elim,λ _=>hG⟩
theorem avR{s:SS}{a:aC}{i j:Nat}(ha:cA s a= .d (.x j)):dy P (.ext a i) s ([.bI (.a9 (.x j) i)],.d (.ext j i),s):=by
 intro r hl hc hr gj K hk;rw[aaU,←aP,ha];simp only[kc,rQ.wp,am8]at hk;simp only[SV.ev]
 split at hk
 ·rename_i vs hv;rw[hv,rD,k1];have h2:=hk.2 trivial;simp only[SV.ev,D.ev]at h2 hv;rw[hv]at h2;exact⟨hk.1,h2⟩
 ·exact hk.elim
theorem dr{s:SS}:∀{xs:List aC} {ns:List Node} {ds:List D} {b:Bool},gI s xs=some (ns,ds,b)->jd s.nv ns=s.nv/\∀{r:List AV} {G:List AV->Prop},kc P ns r G->G r/\
  (AV.ae (D.aX r ds)=true->D.aX r ds=xs.map (λ x=>jL (bp s r) (x.ev (bJ s r)))/\(b=false->AV.ae (xs.map (aC.ev (bJ s r)))=true/\D.aX r ds=xs.map (aC.ev (bJ s r))))
 | [],ns,ds,b,h=>by
   simp only[gI,Option.some.injEq,Prod.mk.injEq]at h;obtain⟨rfl,rfl,rfl⟩:=h;exact⟨rfl,λ hw=>⟨hw,λ _=>⟨rfl,λ _=>⟨rfl,rfl⟩⟩⟩⟩
 |x::xs,ns,ds,b,h=>by
  simp only[gI]at h
  split at h
  ·rename_i ns1 ds1 b1 h1;obtain⟨hn,ih⟩:=dr h1
   split at h
   ·rename_i k l hx
    split at h
    ·rename_i q kB;obtain⟨nl,e,sz⟩:=q;cases h;refine⟨hn,λ {r G} hw=> ?_⟩;obtain⟨h2,h3⟩:=ih hw;refine⟨h2,λ b8=> ?_⟩;simp only[D.aX,AV.ae,and_eq_true]at b8;obtain⟨h3,_⟩:=h3 b8.2;refine⟨?_,by simp⟩;simp only[D.aX,map_cons,h3,List.cons.injEq,and_true];rw[←aP,hx];simp only[SV.ev,D.ev,jL];rcases eO (dL kB) r with h5|⟨h5,h6,_⟩
     ·rw[h5];simp
     ·rw[h5,h6];simp
    ·cases h
   ·split at h
    ·rename_i ms d hd;cases h;refine⟨by rw[jF,acj hd,hn],λ {r G} hw=> ?_⟩;rw[cf]at hw;obtain⟨hw,he⟩:=lR hd hw;obtain⟨h2,h3⟩:=ih hw;rw[aP]at he;refine⟨h2,λ b8=> ?_⟩;simp only[D.aX,AV.ae,and_eq_true]at b8;obtain⟨h3,h4⟩:=h3 b8.2;rw[he]at b8;refine⟨?_,λ hb=> ?_⟩
     ·simp only[D.aX,map_cons,h3,he,lJ b8.1]
     ·obtain⟨g1,g2⟩:=h4 hb;simp only[D.aX,map_cons,AV.ae,g1,g2,he,b8.1,Bool.and_true,and_self]
    ·cases h
  ·cases h
theorem jl{s:SS}{r:List AV}(hl:r.length=s.nv)(hc:s.cl=true){ns:List Node}(hn:jd s.nv ns=s.nv){o:PO}{K:KT}(h:kc P (nx s ns o).1 r (λ r'=>bJ (nx s ns o).2.2 r'=bJ s r->K ((nx s ns o).2.1.ev r') (bp (nx s ns o).2.2 r'))):
  kc P ns r λ r1=>r1=r->o.wp P r λ v=>K v (bp s r):=by
 simp only[nx,cf]at h;refine ma ns (λ m hw he=> ?_) h;rw[he]at hw;exact PO.sw (o:=o) hw λ v hv=>aiL (ns:=ns) (o:=o) hl hc hn hv
theorem uh{s:SS}{ns:List Node}(hn:jd s.nv ns=s.nv){f:FuncId}{ds:List D}{b:Bool}(h:cn s.nv (nx s ns (.call f ds b)).1=true):D.cls s.nv ds=true:=by
 simp only[nx,cQ,and_eq_true]at h;have:=h.2;simp only[cn,PO.cl,Bool.and_true,hn]at this;exact this
theorem alm{s:SS}{r:List AV}{f:FuncId}{args:List aC}{ds:List D}{b:Bool}{K:KT}(b8:AV.ae (D.aX r ds)=true)
  (h1:D.aX r ds=args.map (λ x=>jL (bp s r) (x.ev (bJ s r)))) (h2:b=false->AV.ae (args.map (aC.ev (bJ s r)))=true)
  (h:(PO.call f ds b).wp P r λ v=>K v (bp s r)):aaN P f (args.map λ x=>jL (bp s r) (x.ev (bJ s r))) (args.map (aC.ev (bJ s r))) (bp s r) K:=by
 obtain⟨res,q1,q2,q3,q4⟩:=h;rw[h1]at q1 b8;refine qT res q1 b8 ?_
 have:zD (bp s r) (args.map (aC.ev (bJ s r))) res=bp s r:=by
  cases b with
  |true=>exact kH (q3 rfl)
  |false=>exact vN (h2 rfl)
 rw[this];exact q4
theorem anS{s:SS}{f:FuncId}{args:List aC}{ns:List Node}{ds:List D}{b:Bool}(h:gI s args=some (ns,ds,b)):dy P (.pb f args) s (nx s ns (.call f ds b)):=by
 intro r hl hc hr gj K hk;obtain⟨hn,hs⟩:=dr (P:=P) h;obtain⟨hG,ha⟩:=hs (jl hl hc hn hk);have b8:=D.cC hr ds (by rw[hl];exact uh hn gj);obtain⟨h1,h2⟩:=ha b8;rw[qW];exact alm b8 h1 (λ hb=>(h2 hb).1) (hG rfl)
theorem anJ{s:SS}{f:FuncId}{args:List aC}{ns:List Node}{ds:List D}(h:gI s args=some (ns,ds,false)):dy P (.mN f args) s (nx s ns (.call f ds false)):=by
 intro r hl hc hr gj K hk;obtain⟨hn,hs⟩:=dr (P:=P) h;obtain⟨hG,ha⟩:=hs (jl hl hc hn hk);have b8:=D.cC hr ds (by rw[hl];exact uh hn gj);obtain⟨h1,h2⟩:=(ha b8).2 rfl;obtain⟨res,q1,q2,q3,q4⟩:=hG rfl;rw[qV];rw[h2]at q1;exact qQ res q1 h1 q4
theorem ak1{s:SS}{gs:List iW}{f:FuncId}{args:List aC}{ns:List Node}{ds:List D}(h:gI s args=some (ns,ds,false)):dy P (.gy gs f args) s (nx s ns (.call f ds false)):=by
 intro r hl hc hr gj K hk;obtain⟨hn,hs⟩:=dr (P:=P) h;obtain⟨hG,ha⟩:=hs (jl hl hc hn hk);have b8:=D.cC hr ds (by rw[hl];exact uh hn gj);obtain⟨h1,h2⟩:=(ha b8).2 rfl;obtain⟨res,q1,q2,q3,q4⟩:=hG rfl;rw[h2]at q1;refine⟨res,bp s r,?_,q4⟩;have:=cF.fresh q1 h1 (bp s r);rwa [dI res q2,map_nil,append_nil]at this
theorem anx{s:SS}{f:FuncId}{args:List aC}{ns:List Node}{ds:List D}{b:Bool}(h:gI s args=some (ns,ds,b)):dy P (.nR f args) s (nx s ns (.call f ds true)):=by
 intro r hl hc hr gj K hk;obtain⟨hn,hs⟩:=dr (P:=P) h;obtain⟨hG,ha⟩:=hs (jl hl hc hn hk);have b8:=D.cC hr ds (by rw[hl];exact uh hn gj);obtain⟨h1,h2⟩:=ha b8;obtain⟨res,q1,q2,q3,q4⟩:=hG rfl;rw[h1]at q1 b8;exact⟨res,q3 rfl,b8,q1,q4⟩
theorem adu{nl:Bool}{e s:Nat}{xs:List AV}(h:AV.ae xs=true)(t:Nat->Nat):(b6 nl e s xs).bj t=b6 nl e s xs:=by
 unfold b6
 split
 ·rfl
 ·simp only[aa.bj];rw[←eF,e8 xs h]
theorem apx{s:SS}{ns:List Node}(hn:jd s.nv ns=s.nv){nl:Bool}{e m:Nat}{f:FuncId}{ds:List D}(h:cn s.nv (nx s ns (.fc nl e m f ds)).1=true):D.cls s.nv ds=true:=by
 simp only[nx,cQ,and_eq_true]at h;have:=h.2;simp only[cn,PO.cl,Bool.and_true,hn]at this;exact this
theorem apw{s:SS}{nl:Bool}{e m:Nat}{f:FuncId}{args:List aC}{ns:List Node}{ds:List D}{q}(h:gI s args=some (ns,ds,false))(hq:wj s nl e m (nx s ns (.fc nl e m f ds))=some q):dy P (.fc nl e m f args) s q:=by
 intro r hl hc hr gj K hk;obtain⟨hn,hs⟩:=dr (P:=P) h;have hq1:q.1=(nx s ns (.fc nl e m f ds)).1:=by simp only[wj,nx,Option.some.injEq]at hq;subst hq;rfl
 obtain⟨hG,ha⟩:=hs (agI hq hn hl hc hk);have b8:=D.cC hr ds (by rw[hl];exact apx hn (by rw[←hq1];exact gj));obtain⟨h1,h2⟩:=(ha b8).2 rfl;obtain⟨xs,q1,q2,q3⟩:=hG rfl;rw[h2]at q1;refine⟨.row 0 xs.length,b6 nl e m xs,h1,q1,?_⟩;rw[adu q2,du];simp only[AV.bj,add_zero];exact q3
def known(g:D):Option (FuncId×List D):=
 match g with
 | .c (.fn f [])=>some (f,[])
 | .fn f aV=>some (f,aV)
 |_=>none
theorem adB{s:SS}{g:aC}{x:D}{f:FuncId}{aV:List D}{args:List aC}{ns:List Node}{ds:List D}{b:Bool}(hg:cA s g= .d x)(hx:∀r,x.ev r= .fn f (D.aX r aV))(h:gI s args=some (ns,ds,b)):
  dy P (.kx g args) s (nx s ns (.call f (ds++aV) b)):=by
 intro r hl hc hr gj K hk;obtain⟨hn,hs⟩:=dr (P:=P) h;obtain⟨hG,ha⟩:=hs (jl hl hc hn hk);have b8:=D.cC hr (ds++aV) (by rw[hl];exact uh hn gj);have apd:D.aX r (ds++aV)=D.aX r ds++D.aX r aV:=by simp only[D.aJ,map_append]
 rw[apd]at b8;have xY:=b8;rw[aD,and_eq_true]at xY;obtain⟨h1,h2⟩:=ha xY.1;obtain⟨res,q1,q2,q3,q4⟩:=hG rfl;rw[mh,←aP,hg];simp only[SV.ev,hx,hH];rw[apd,h1]at q1;rw[h1]at b8;refine qT res q1 b8 ?_
 have:zD (bp s r) (args.map (aC.ev (bJ s r))) res=bp s r:=by
  cases b with
  |true=>exact kH (q3 rfl)
  |false=>exact vN (h2 rfl).1
 rw[this];exact q4
theorem ahG{s:SS}{ns:List Node}(hn:jd s.nv ns=s.nv){g:D}{ds:List D}{b:Bool}(h:cn s.nv (nx s ns (.eI g ds b)).1=true):g.cl s.nv=true/\D.cls s.nv ds=true:=by
 simp only[nx,cQ,and_eq_true]at h;have:=h.2;simp only[cn,PO.cl,Bool.and_true,hn,and_eq_true]at this;exact this
theorem aiF{s:SS}{g:aC}{x:D}{args:List aC}{ns:List Node}{ds:List D}{b:Bool}(hg:cA s g= .d x)(h:gI s args=some (ns,ds,b)):
  dy P (.kx g args) s (nx s ns (.eI x ds b)):=by
 intro r hl hc hr gj K hk;obtain⟨hn,hs⟩:=dr (P:=P) h;obtain⟨hG,ha⟩:=hs (jl hl hc hn hk);obtain⟨hx,hds⟩:=ahG hn gj;have xY:=D.cC hr ds (by rw[hl];exact hds);have hnx:=D.bz hr x (by rw[hl];exact hx);obtain⟨h1,h2⟩:=ha xY;have hG:=hG rfl;rw[mh,←aP,hg];simp only[PO.wp,vM]at hG;simp only[SV.ev]
 split at hG
 ·rename_i f aV hf;rw[hf]at hnx⊢;rw[hH];obtain⟨res,q1,q2,q3,q4⟩:=hG;rw[h1]at q1 xY;refine qT res q1 (by rw[aD,xY];exact hnx) ?_
  have:zD (bp s r) (args.map (aC.ev (bJ s r))) res=bp s r:=by
   cases b with
   |true=>exact kH (q3 rfl)
   |false=>exact vN (h2 rfl).1
  rw[this];exact q4
 ·exact hG.elim
theorem ady{s:SS}{g:aC}{x:D}{f:FuncId}{aV:List D}{args:List aC}{ns:List Node}{ds:List D}(hg:cA s g= .d x)(hx:∀r,x.ev r= .fn f (D.aX r aV))(h:gI s args=some (ns,ds,false)):
  dy P (.jc g args) s (nx s ns (.call f (ds++aV) false)):=by
 intro r hl hc hr gj K hk;obtain⟨hn,hs⟩:=dr (P:=P) h;obtain⟨hG,ha⟩:=hs (jl hl hc hn hk);have b8:=D.cC hr (ds++aV) (by rw[hl];exact uh hn gj);have apd:D.aX r (ds++aV)=D.aX r ds++D.aX r aV:=by simp only[D.aJ,map_append]
 rw[apd]at b8;have xY:=b8;rw[aD,and_eq_true]at xY;obtain⟨h1,h2⟩:=(ha xY.1).2 rfl;obtain⟨res,q1,q2,q3,q4⟩:=hG rfl;rw[mg,←aP,hg];simp only[SV.ev,hx,gZ];rw[apd,h2]at q1;rw[h2]at b8;exact qQ res q1 b8 q4
theorem aiw{s:SS}{g:aC}{x:D}{args:List aC}{ns:List Node}{ds:List D}(hg:cA s g= .d x)(h:gI s args=some (ns,ds,false)):
  dy P (.jc g args) s (nx s ns (.eI x ds false)):=by
 intro r hl hc hr gj K hk;obtain⟨hn,hs⟩:=dr (P:=P) h;obtain⟨hG,ha⟩:=hs (jl hl hc hn hk);obtain⟨hx,hds⟩:=ahG hn gj;have xY:=D.cC hr ds (by rw[hl];exact hds);have hnx:=D.bz hr x (by rw[hl];exact hx);obtain⟨h1,h2⟩:=(ha xY).2 rfl;have hG:=hG rfl;rw[mg,←aP,hg];simp only[PO.wp,vM]at hG;simp only[SV.ev]
 split at hG
 ·rename_i f aV hf;rw[hf]at hnx⊢;rw[gZ];obtain⟨res,q1,q2,q3,q4⟩:=hG;rw[h2]at q1 xY;exact qQ res q1 (by rw[aD,xY];exact hnx) q4
 ·exact hG.elim
theorem aro{s:SS}{f:FuncId}{aV:List aC}{ns:List Node}{ds:List D}(mS:D.cls s.nv ds=true)(h:gI s aV=some (ns,ds,false)):dy P (.vw f aV) s (done s ns (.d (.fn f ds))):=by
 intro r hl hc hr gj K hk;obtain⟨hn,hs⟩:=dr (P:=P) h;obtain⟨hG,ha⟩:=hs hk;have b8:=D.cC hr ds (by rw[hl];exact mS);obtain⟨h1,h2⟩:=(ha b8).2 rfl;have hG:=hG rfl;rw[vp,k1,←h2];exact hG
theorem arn{s:SS}{a:aC}{q}(h:xOp (.bQ a) s=some q):dy P (.bQ a) s q:=by
 intro r hl hc hr gj K hk;simp only[xOp]at h;rw[vo,←aP]
 split at h
 ·rename_i k f ha
  split at h
  ·rename_i q' hb;obtain⟨e,cs⟩:=q';cases h;rw[ha];simp only[SV.ev,lv];rw[fT (j8 hb) r];simp only[SO.ev,cX,k1];exact⟨rfl,hk rfl⟩
  ·cases h
 ·rename_i y f ha;cases h;rw[ha];simp only[SV.ev,ic,k1];exact hk rfl
 ·rename_i f l ha;cases h;rw[ha];simp only[SV.ev,D.ev,mi,k1];exact hk rfl
 ·rename_i x _ ha;cases h;rw[ha];simp only[SV.ev];simp only[kc,rQ.wp,adX]at hk
  split at hk
  ·rename_i f cs hf;rw[hf,mi,k1];have:=hk trivial;simp only[SV.ev,hf]at this;exact this
  ·rename_i y f hf;rw[hf,ic,k1];have:=hk trivial;simp only[SV.ev,hf]at this;exact this
  ·exact hk.elim
 ·cases h
theorem alB{r:List AV}(hr:AV.ae r=true):∀(ps:List (Nat×D)) (z:List AV),AV.ae z=true->ps.all (λ p=>p.2.cl r.length)=true->AV.ae (eJ z (ps.map λ p=>(p.1,p.2.ev r)))=true:=by
 intro ps
 induction ps with
 |nil=>intro z hz _;exact hz
 |cons p ps ih=>
  intro z hz hp;simp only[all_cons,and_eq_true]at hp;simp only[map_cons,eJ];refine ih _ (fA λ a ha=> ?_) hp.2;rcases List.mem_or_eq_of_mem_set ha with h|rfl
  ·exact aW hz a h
  ·exact D.bz hr _ hp.1
theorem amC{s:SS}{t m len:Nat}{z:AV}{ps:List (Nat×aC)}{ns:List Node}{qs:List (Nat×D)}(h:su s m len ps=some (ns,qs)):dy P (.jf t m len z ps) s (nx s ns (.mkl z len qs)):=by
 intro r hl hc hr gj K hk;obtain⟨hn,hs⟩:=pv (P:=P) h;obtain⟨hG,cU⟩:=hs (jl hl hc hn hk);have hG:=hG rfl;simp only[PO.wp]at hG;simp only[wpOp];simp only[nx,cQ,and_eq_true]at gj;have h2:=gj.2;simp only[cn,PO.cl,Bool.and_true,hn,and_eq_true]at h2;refine cU _ _ (by simp) ⟨alB hr qs _ (fA λ a ha=>by rw[List.eq_of_mem_replicate ha];exact h2.1) (by rw[hl];exact h2.2),hG⟩
theorem aw8{s:SS}{o:PU}{args:List aC}{ns:List Node}{ds:List D}{b:Bool}(h:gI s args=some (ns,ds,b)):dy P (.pu o args) s (nx s ns (.pu o ds)):=by
 intro r hl hc hr gj K hk;obtain⟨hn,hs⟩:=dr (P:=P) h;obtain⟨hG,ha⟩:=hs (jl hl hc hn hk);simp only[nx,cQ,and_eq_true]at gj;have h2:=gj.2;simp only[cn,PO.cl,Bool.and_true,hn]at h2;have b8:=D.cC hr ds (by rw[hl];exact h2);obtain⟨h1,_⟩:=ha b8;have hG:=hG rfl;simp only[PO.wp]at hG;rw[h1]at hG b8;exact⟨b8,hG⟩
theorem ajK{e:Env}{O:List aa}{t m bytes:Nat}{a b:aC}{sb:ByteArray}(hb:b.ev e= .v (.string sb)){K:KT}(hm:m=1)(h:pc O (a.ev e) t m bytes (cM sb) K):wpOp P (.mz t m bytes a b) e O K:=by
 have h':iB O (a.ev e) t m bytes (cM sb) K=pc O (a.ev e) t m bytes (cM sb) K:=by
  unfold iB pc;cases a.ev e<;>first|rfl|(rename_i k l;cases O[k]? with|none=>rfl|some o=>cases o<;>rfl)
 simp only[wpOp,hb];refine⟨hm,?_⟩;have:(b.ev e= .v (.string sb)):=hb
 show iB O (a.ev e) t m bytes (cM sb) K;rw[h'];exact h
theorem asx{s:SS}{t m bytes k:Nat}{a b:aC}{l y:D}{nl:Bool}{e sz:Nat}(ha:cA s a= .row k l)(hy:cA s b= .d y)(kB:cur s k l=some (nl,e,sz))(avg:e=t/\sz=m):
  dy P (.mz t m bytes a b) s ([.op (.mz m bytes l y)],.row k (.x s.nv),{s with an:=s.an.set k (.row nl e sz (.x s.nv)),nv:=s.nv+1}):=by
 intro r hl hc hr gj K hk;obtain⟨rfl,rfl⟩:=avg;simp only[kc,PO.wp,aej]at hk
 split at hk
 case h_2=>exact hk.elim
 rename_i sb hsb;obtain⟨hm,rn,kA,hK⟩:=hk;have hbv:b.ev (bJ s r)= .v (.string sb):=by rw[←aP,hy];exact hsb
 refine ajK hbv hm ?_;rw[←aP,ha];have hlen:=o5 sb;generalize cM sb=ys at*;rw[←hlen]at rn kA;generalize rh:aR (l.ev r)=xs at*;have pK:bJ {s with an:=s.an.set k (.row nl e sz (.x s.nv)),nv:=s.nv+1} (r++ [.sl (xs++ys)])=bJ s r:=dW (s:=s) hl hc;have hG:=hK pK;rw[zI ⟨_,rfl⟩ hl hc]at hG;simp only[SV.ev,D.ev,bm hl,bA,List.length_append]at hG;simp only[SV.ev,rh,jW,k1];have cU:=dL kB
 have aoM:∀{ob},(bp s r)[k]? =some ob->(bp s r).set k ob=bp s r:=by
  intro ob h;apply ext_getElem?;intro j;rw[getElem?_set]
  split
  ·rename_i hj;subst hj;split
   ·rw[h]
   ·rename_i aw;rw[getElem?_eq_none (by omega)]
  ·rfl
 rcases eO cU r with h5|⟨h5,h6,h7⟩
 ·rw[h5,rh,eP];refine⟨rfl,rfl,rfl,rn,kA,?_⟩;cases nl with
  |false=>simpa only[SO.ev,D.ev,bm hl,bA]using hG
  |true=>
   have bk:xs≠[]:=by
    intro h0;have:=fT cU r;simp only[SO.ev,rh,h0,if_true]at this;rw[this]at h5;cases h5
   have ahj:xs++ys≠[]:=by simp[bk]
   simp only[SO.ev,D.ev,bm hl,bA,if_neg ahj]at hG;exact hG
 ·rw[rh]at h6;subst h6;subst h7;rw[h5,ib];simp only[length_nil,zero_add]at rn kA;refine⟨rfl,rfl,rfl,rn,kA,λ h0=> ?_,λ h0=> ?_⟩
  ·subst h0;simp only[SO.ev,D.ev,bm hl,bA,append_nil,if_true,length_nil,add_zero]at hG;rw[aoM h5]at hG;exact hG
  ·simp only[SO.ev,D.ev,bm hl,bA,nil_append,if_neg h0,length_nil,zero_add]at hG;exact hG
theorem ap6{s:SS}{t m bytes:Nat}{a b:aC}{y:D}(ha:cA s a= .d (.c .aA))(hy:cA s b= .d y):
  dy P (.mz t m bytes a b) s ([.op (.mz m bytes (.c (.sl [])) y),.bI (.ne (.x s.nv))],.row s.an.length (.x s.nv),{s with an:=s.an++ [.row false t m (.x s.nv)],nv:=s.nv+1}):=by
 intro r hl hc hr gj K hk;simp only[kc,PO.wp,aej]at hk
 split at hk
 case h_2=>exact hk.elim
 rename_i sb hsb;obtain⟨hm,rn,kA,bk,hK⟩:=hk;have hbv:b.ev (bJ s r)= .v (.string sb):=by rw[←aP,hy];exact hsb
 refine ajK hbv hm ?_;rw[←aP,ha];have hlen:=o5 sb;generalize cM sb=ys at*;rw[←hlen]at rn kA;simp only[D.ev,bA,length_nil,zero_add,nil_append]at rn kA bk hK;simp only[D.ev,bm hl,bA]at bk;have pK:bJ {s with an:=s.an++ [.row false t m (.x s.nv)],nv:=s.nv+1} (r++ [.sl ys])=bJ s r:=dW (s:=s) hl hc;have hG:=hK pK
 have hO:bp {s with an:=s.an++ [.row false t m (.x s.nv)],nv:=s.nv+1} (r++ [.sl ys])=bp s r++ [.live t m ys]:=by
  simp only[bp,map_append,map_cons,map_nil,SO.ev,D.ev,bm hl,bA];congr 1;exact eS (s:=s) hl hc
 rw[hO]at hG;simp only[SV.ev,D.ev,bm hl,bA]at hG;simp only[SV.ev,D.ev,ia,k1,du];exact⟨rn,kA,λ h0=>(bk h0).elim,λ _=>hG⟩
theorem o0{s:SS}{lo:Option aC}(h:adg s lo=true){r:List AV}{d:Int}(hd:lo=none->d=0){M:Int->Prop}(hm:M 0):fq d (bJ s r) lo M:=by
 cases lo with
 |none=>rw[show fq d (bJ s r) none M=M d from rfl,hd rfl];exact hm
 |some x=>
  simp only[adg]at h
  split at h
  ·rename_i k n hx;have:=of_decide_eq_true h;subst this;simp only[fq];rw[←aP,hx];exact hm
  ·cases h
theorem avX{s:SS}{m:Nat}{a:aC}{lo hi:Option aC}{q}(h:atz s m (cA s a) lo hi=some q):dy P (.cut m a lo hi) s q:=by
 intro r hl hc hr gj K hk;unfold atz at h
 split at h
 ·rename_i ha
  split at h
  ·rename_i hz;cases h;have hG:=hk rfl;simp only[wpOp];rw[←aP,ha];exact o0 hz.1 (λ _=>rfl) (o0 hz.2 (λ _=>rfl) ⟨rfl,rfl,hG⟩)
  ·cases h
 ·rename_i k l ha
  split at h
  ·rename_i nl e sz kB
   split at h
   ·rename_i qu;obtain⟨rfl,z1,z2,z3⟩:=qu;cases h;have cU:=dL kB
    have pr:(nl=true->aR (l.ev r)≠[])/\K (.row s.an.length 0) (bp {s with an:=s.an.set k .dead++ [.row false e sz (.c (.sl []))]} r):=by
     cases nl
     ·exact⟨λ h=>(by cases h),hk rfl⟩
     ·simp only[if_true,kc,rQ.wp]at hk;exact⟨λ _=>hk.1,hk.2 rfl⟩
    obtain⟨bk,hG⟩:=pr
    have oh:(bp s r)[k]? =some (.live e sz (aR (l.ev r))):=by
     rw[fT cU r];cases nl
     ·rfl
     ·simp only[SO.ev];rw[if_neg (bk rfl)]
    have pK:bp {s with an:=s.an.set k .dead++ [.row false e sz (.c (.sl []))]} r=(bp s r).set k .dead++ [.live e sz []]:=by
     simp only[bp,map_append,map_set,map_cons,map_nil];rfl
    rw[pK]at hG;simp only[wpOp];rw[←aP,ha];simp only[SV.ev,oh];refine⟨by trivial,by trivial,o0 z1 (λ _=>rfl) (o0 z3 (λ h=>by rw[h]at z2;cases z2) ⟨rfl,rfl,?_⟩)⟩;rw[du];exact hG
   ·cases h
  ·cases h
 ·cases h
theorem asw{s:SS}{t m bytes:Nat}{z:AV}{a b:aC}{y:D}(ha:cA s a= .d (.c .aA))(hb:cA s b= .d y):
  dy P (.afO t m bytes z a b) s ([.op (.rep bytes z y y),.bI (.ne (.x s.nv))],.row s.an.length (.x s.nv),{s with an:=s.an++ [.row false t m (.x s.nv)],nv:=s.nv+1}):=by
 intro r hl hc hr gj K hk;simp only[kc,PO.wp,aiq]at hk
 split at hk
 ·rename_i n c hn pL;rw[hn]at pL;cases pL;obtain⟨q1,_,q3,q4,hk⟩:=hk;simp only[rQ.wp,D.ev,bm hl,bA]at hk;obtain⟨bk,hK⟩:=hk
  have vE:0<n:=by
   rcases Int.lt_or_le 0 n with h|h
   ·exact h
   ·exact(bk (by rw[show n.toNat=0 by omega];rfl)).elim
  have pK:bJ {s with an:=s.an++ [.row false t m (.x s.nv)],nv:=s.nv+1} (r++ [.sl (List.replicate n.toNat z)])=bJ s r:=dW (s:=s) hl hc;have hG:=hK pK
  have hO:bp {s with an:=s.an++ [.row false t m (.x s.nv)],nv:=s.nv+1} (r++ [.sl (List.replicate n.toNat z)])=bp s r++ [.live t m (List.replicate n.toNat z)]:=by
   simp only[bp,map_append,map_cons,map_nil,SO.ev,D.ev,bm hl,bA];congr 1;exact eS (s:=s) hl hc
  rw[hO]at hG;simp only[SV.ev,D.ev,bm hl,bA,List.length_replicate]at hG;simp only[wpOp];rw[←aP,←aP,ha,hb];simp only[SV.ev,D.ev,hn];refine⟨vE,by simpa using q3,by simp only[maxLen];omega,?_⟩;rw[du];exact hG
 ·exact hk.elim
theorem aoh{s:SS}{a:aC}(ha:cA s a= .d (.c .aA)):dy P (.bl a) s ([],.d (.c (.v (.int .i64 0))),s):=by
 intro r hl hc hr gj K hk;have hG:=hk rfl;simp only[wpOp];rw[←aP,ha];exact hG
theorem asn{s:SS}{a:aC}(ha:cA s a= .d (.c .aA)):dy P (.pu .dT [a]) s ([],.d (.c (.v (.int .i64 0))),s):=by
 intro r hl hc hr gj K hk;have hG:=hk rfl;simp only[wpOp,map_cons,map_nil];rw[←aP,ha];exact⟨rfl,hG⟩
theorem atx{op:dY}{s:SS}{q:List Node×SV×SS}(oS:op.okc=true)(hcs:s.cl=true)(hq:q.2.1.cl q.2.2.nv=true)(h:xOp op s=some q):dy P op s q:=by
 cases op<;>simp only[xOp]at h
 case stuck=>cases h;intro r hl hc hr gj K hk;exact hk.elim
 case jf t m len z ps=>
  split at h
  ·rename_i ns qs hx;cases h;exact amC hx
  ·cases h
 case afO t m bytes z a b=>
  split at h
  ·rename_i y ha hb;cases h;exact asw ha hb
  ·cases h
 case cut m a lo hi=>exact avX h
 case pu o args=>
  split at h
  ·split at h
   ·rename_i ha;cases h;exact asn ha
   ·cases h
  ·split at h
   ·rename_i ns ds b hx;cases h;exact aw8 hx
   ·cases h
 case mz t m bytes a b=>
  split at h
  ·rename_i k l y ha hb
   split at h
   ·rename_i nl e sz kB
    split at h
    ·rename_i hes;cases h;exact asx ha hb kB hes
    ·cases h
   ·cases h
  ·rename_i y ha hb;cases h;exact ap6 ha hb
  ·cases h
 case aq a=>cases h;exact auu s a
 case pick c a b=>
  split at h
  ·rename_i t hc;cases h;exact anQ hc
  ·rename_i x _ hc
   split at h
   ·rename_i na a' nb b' ha hb;cases h;exact aq1 hc ha hb
   ·cases h
  ·cases h
 case alloc t n z=>exact ap9 h
 case box t n a=>exact av6 (wi hcs oS) h
 case build z ps=>
  simp only[dY.okc,and_eq_true]at oS;exact apW oS.2 oS.1 h
 case buildSlice t m len z ps=>exact ada h
 case gx k t n z=>exact ajC oS h
 case oz k t n a=>exact apX oS (wi hcs oS) h
 case gw k t m len z ps=>
  simp only[dY.okc,and_eq_true]at oS;exact ajv oS.1 oS.2 h
 case load n a=>exact arv h
 case store m a b=>exact anh oS h
 case bin o a b=>
  split at h
  ·rename_i x y ha hb;cases h;exact av7 ha hb
  ·cases h
 case beq neg a b=>
  split at h
  ·rename_i x y ha hb;cases h;exact av8 ha hb
  ·cases h
 case un o a=>
  split at h
  ·rename_i x ha;cases h;exact awT ha
  ·cases h
 case kG k a=>
  split at h
  ·rename_i x ha;cases h;exact asf ha
  ·cases h
 case aB off a=>exact apA h
 case yK off n a=>exact avM h
 case bg m a i=>exact aoF h
 case m6 a i=>
  split at h
  ·rename_i x y ha hb;cases h;exact arG ha hb
  ·cases h
 case fW a lo hi=>
  split at h
  ·rename_i x dl dh ha h1 h2;cases h;exact akY ha h1 h2
  ·cases h
 case cO m a lo hi=>
  split at h
  ·rename_i x dl dh ha h1 h2;cases h;exact akZ ha h1 h2
  ·cases h
 case mk t m bytes z n c=>
  split at h
  ·rename_i x y hn hc;exact axM hn hc h
  ·cases h
 case mn a=>
  split at h
  ·rename_i x ha;cases h;exact arw ha
  ·cases h
 case bl a=>
  split at h
  ·rename_i ha;cases h;exact aoh ha
  ·rename_i x _ ha;cases h;exact arx ha
  ·rename_i k l ha
   split at h
   ·rename_i kB;cases h;exact aog ha (by rw[kB];rfl)
   ·cases h
  ·cases h
 case app t m bytes a b=>
  split at h
  ·rename_i k l ha
   split at h
   ·rename_i nl e sz kB
    split at h
    ·rename_i hes
     split at h
     ·rename_i y hy;cases h;refine awe ha kB hes ?_
      split at hy
      ·rename_i y' hb;cases hy;exact .inl hb
      ·rename_i k' l' hb
       split at hy
       ·rename_i aoK;cases hy;exact .inr ⟨k',l',hb,aoK,rfl⟩
       ·cases hy
      ·cases hy
     ·cases h
    ·cases h
   ·cases h
  ·rename_i ha
   split at h
   ·rename_i y hy;cases h;refine ast ha ?_
    split at hy
    ·rename_i y' hb;cases hy;exact .inl hb
    ·rename_i k' l' hb
     split at hy
     ·rename_i aoK;cases hy;exact .inr ⟨k',l',hb,aoK,rfl⟩
     ·cases hy
    ·cases hy
   ·cases h
  ·cases h
 case ext a i=>
  split at h
  ·rename_i cs ha
   split at h
   ·rename_i v hv;cases h;exact asc ha hv
   ·cases h
  ·rename_i j ha;cases h;exact avR ha
  ·cases h
 case bQ a=>exact arn h
 case vw f aV=>
  split at h
  ·rename_i ns ds hx;cases h;refine aro ?_ hx;have:=(dr (P:=P) hx).1;simp only[done,SV.cl,D.cl,this]at hq;exact hq
  ·cases h
 case pb f args=>
  split at h
  ·rename_i ns ds b hx;cases h;exact anS hx
  ·cases h
 case kx g args=>
  split at h
  ·rename_i f ns ds b hg hx;cases h;have:=adB (P:=P) (f:=f) (aV:=[]) hg (λ r=>rfl) hx;rwa [append_nil]at this
  ·rename_i f aV ns ds b hg hx;cases h;exact adB hg (λ r=>rfl) hx
  ·rename_i x ns ds b _ _ hg hx;cases h;exact aiF hg hx
  ·cases h
 case nR f args=>
  split at h
  ·rename_i ns ds b hx;cases h;exact anx hx
  ·cases h
 case fc nl e m f args=>
  split at h
  ·rename_i ns ds hx;exact apw hx h
  ·cases h
 case mN f args=>
  split at h
  ·rename_i ns ds hx;cases h;exact anJ hx
  ·cases h
 case ko gs f args=>exact vg h
 case gy gs f args=>
  split at h
  ·rename_i q' hq;cases h;exact ads hq
  ·split at h
   ·rename_i ns ds hx;cases h;exact ak1 hx
   ·cases h
 case jc g args=>
  split at h
  ·rename_i f ns ds hg hx;cases h;have:=ady (P:=P) (f:=f) (aV:=[]) hg (λ r=>rfl) hx;rwa [append_nil]at this
  ·rename_i f aV ns ds hg hx;cases h;exact ady hg (λ r=>rfl) hx
  ·rename_i x ns ds _ _ hg hx;cases h;exact aiw hg hx
  ·cases h
 all_goals cases h
end
end Go.Ab
namespace Go.Ab
def Wk(n0:Nat)(s s':SS):Prop:=s'.nv=s.nv/\∀r:List AV,r.length=s.nv->AV.ae r=true->WK n0 (bJ s r) (bp s r) (bJ s' r) (bp s' r)
theorem Wk.refl(n0:Nat)(s:SS):Wk n0 s s:=⟨rfl,λ _ _ _=> .refl _ _ _⟩
theorem Wk.trans{n0:Nat}{s s' s'':SS}(h:Wk n0 s s')(k:Wk n0 s' s''):Wk n0 s s'':=
 ⟨k.1.trans h.1,λ r hl hr=>(h.2 r hl hr).trans (k.2 r (hl.trans h.1.symm) hr)⟩
theorem aod(k:Nat)(v:SV):∀(l:List (Nat×SV)) (t:Nat),(t≠k->lk (l.map λ p=>(p.1,if p.1=k then v else p.2)) t=lk l t)/\(lk l k= .top∨lk (l.map λ p=>(p.1,if p.1=k then v else p.2)) k=v)
 | [],t=>⟨λ _=>rfl,.inl rfl⟩
 |(q,w)::l,t=>by
  obtain⟨h1,h2⟩:=aod k v l t;simp only[map_cons,lk];refine⟨λ ht=> ?_,?_⟩
  ·by_cases hq:t=q
   ·subst hq;rw[if_pos rfl,if_pos rfl,if_neg ht]
   ·rw[if_neg hq,if_neg hq];exact h1 ht
  ·by_cases hq:k=q
   ·subst hq;rw[if_pos rfl,if_pos rfl];exact .inr (if_pos rfl)
   ·rw[if_neg hq,if_neg hq];exact h2
theorem xI{n0:Nat}{s:SS}{t m k:Nat}(h:lk s.env k= .d (.c .aA)):Wk n0 s (qY s t m k):=by
 refine⟨rfl,λ r hl hr=> ?_⟩;refine WK.aaX t m (by simp[bp,qY]) (by simp[bp,qY,SO.ev,D.ev,aR]) (λ j hj=> .inl ?_) λ q=> ?_
 ·simp only[bp,qY,map_append];rw[getElem?_append_left (by simpa [bp]using hj)]
 ·have:=aod k (.row s.an.length (.c (.sl []))) s.env q;by_cases hq:q=k
  ·subst hq;rcases this.2 with h1|h1
   ·rw[h]at h1;cases h1
   ·refine .inr ⟨by simp only[bJ,h];rfl,?_⟩;simp only[bJ,qY,h1,SV.ev,D.ev,aR,du];rfl
  ·exact .inl (by simp only[bJ,qY,this.1 hq])
theorem aiP{n0:Nat}{s:SS}{k j t m e:Nat}{cs:List SV}(hb:ov s k=some (e,cs))(hj:cs[j]? =some (.d (.c .aA))):Wk n0 s (qZ s k j t m):=by
 have oh:=j8 hb;have hk:k<s.an.length:=(List.getElem?_eq_some_iff.1 oh).1;refine⟨by simp only[qZ,hb],λ r hl hr=> ?_⟩
 have hO:bp (qZ s k j t m) r=(bp s r).set k (.live e cs.length [nw ((SV.aX r cs).set j (.row s.an.length 0))])++ [.nil t m]:=by
  simp only[qZ,hb,bp,map_append,map_set,map_cons,map_nil,SO.ev,List.length_set,SV.aJ,SV.ev,D.ev,aR,length_nil,if_true]
 have hE:bJ (qZ s k j t m) r=bJ s r:=by simp only[qZ,hb];rfl
 rw[hO,hE];refine WK.aaX t m (by simp) (by rw[getElem?_append_right (by simp)];simp) (λ i hi=> ?_) λ q=> .inl rfl
 rw[getElem?_append_left (by simpa using hi)];by_cases hik:i=k
 ·subst hik;refine .inr ⟨e,cs.length,[nw (SV.aX r cs)],[nw ((SV.aX r cs).set j (.row s.an.length 0))],fT oh r,by rw[List.getElem?_set_self hi],rfl,λ i' y y' hy mR=> ?_⟩;cases i' with
  |succ i'=>simp at hy
  |zero=>
   simp at hy mR;subst hy;subst mR;rw[show(bp s r).length=s.an.length from du s r];have hcj:(SV.aX r cs)[j]? =some .aA:=by rw[SV.aJ,getElem?_map,hj];rfl
   generalize SV.aX r cs=xs at hcj;have hjl:=(List.getElem?_eq_some_iff.1 hcj).1;by_cases h1:xs.length=1
   ·obtain⟨c,rfl⟩:=List.length_eq_one_iff.1 h1;have hj0:j=0:=by simp at hjl;exact hjl
    subst hj0;simp at hcj;subst hcj;refine⟨rfl,λ p c c' hc pL=> ?_⟩;cases p with
    |zero=>simp[nw,AV.cells]at hc pL;exact .inr ⟨hc.symm,pL.symm⟩
    |succ p=>simp[nw,AV.cells]at hc
   ·rw[ew h1,ew (by simpa using h1)];simp only[AV.cells];refine⟨by simp,λ p c c' hc pL=> ?_⟩;rw[getElem?_set]at pL
    split at pL
    ·rename_i hpj;subst hpj;rw[hcj]at hc;exact .inr ⟨(Option.some.inj hc).symm,(Option.some.inj pL).symm⟩
    ·rw[hc]at pL;exact .inl (Option.some.inj pL).symm
 ·rw[getElem?_set_ne (λ h=>hik h.symm)];exact .inl rfl
theorem Fr.cell{n:Nat}{xs:List AV}{a b:AV}(h:Fr n xs a b){j:Nat}{c d:AV}(hc:a.cells[j]? =some c)(hd:b.cells[j]? =some d):Fr n xs c d:=by
 cases h with
 |refl=>rw[hc]at hd;cases hd;exact .refl _
 |row=>
  cases j with
  |zero=>simp[AV.cells]at hc hd;subst hc;subst hd;exact .row
  |succ j=>simp[AV.cells]at hc
 |agg cs ds _ h=>exact h j c d hc hd
 |ptr a f ha=>
  cases j with
  |zero=>simp[AV.cells]at hc hd;subst hc;subst hd;exact .ptr a f ha
  |succ j=>simp[AV.cells]at hc
theorem Fr.nw{n:Nat}{xs:List AV}{cs ds:List AV}(hl:cs.length=ds.length)(h:∀(i:Nat) c d,cs[i]? =some c->ds[i]? =some d->Fr n xs c d):Fr n xs (nw cs) (nw ds):=by
 by_cases h1:cs.length=1
 ·obtain⟨c,rfl⟩:=List.length_eq_one_iff.1 h1;obtain⟨d,rfl⟩:=List.length_eq_one_iff.1 (show ds.length=1 by omega);exact h 0 c d rfl rfl
 ·rw[ew h1,ew (by omega)];exact .agg _ _ hl h
theorem ad2{n0:Nat}{s:SS}(n:Nat):Wk n0 s (afx s n):=by
 unfold afx
 split
 ·rename_i nl e sz l oh
  split
  ·rename_i mS;refine⟨rfl,λ r hl hr=> ?_⟩;have hn:=cj (D.bz hr l (by rw[hl];exact mS))
   have fr1:∀v:SV,Fr n (aR (l.ev r)) (v.ev r) ((v.jL n l).ev r):=by
    intro v;cases v with
    |row m k=>
     simp only[SV.jL]
     split
     ·rename_i h1;have:=D.beq_eq _ _ h1.2;obtain⟨rfl,_⟩:=h1;subst this;exact .row
     ·exact .refl _
    |_=>exact .refl _
   have hpt:∀cs:List SV,∀(i:Nat) c d,(SV.aX r cs)[i]? =some c->(SV.aX r (cs.map (SV.jL n l)))[i]? =some d->Fr n (aR (l.ev r)) c d:=by
    intro cs i c d hc hd;rw[SV.aJ,getElem?_map]at hc hd;rw[getElem?_map]at hd;cases hi:cs[i]? with
    |none=>rw[hi]at hc;simp at hc
    |some v=>rw[hi]at hc hd;simp at hc hd;subst hc;subst hd;exact fr1 v
   refine WK.jL (n:=n) (t:=e) (s:=sz) (xs:=aR (l.ev r)) ?_ hn (by simp[bp]) ?_ (λ m hm=> ?_) λ t=> ?_
   ·rcases eO oh r with h|⟨h,h',_⟩
    ·exact .inl h
    ·exact .inr ⟨h,h'⟩
   ·simp only[bp,map_set];rw[List.getElem?_set_self (by simpa using(List.getElem?_eq_some_iff.1 oh).1)];rfl
   ·simp only[bp,map_set];rw[getElem?_set_ne (λ h=>hm h.symm),map_map,getElem?_map,getElem?_map];cases ho:s.an[m]? with
    |none=>exact .inl rfl
    |some o=>
     cases o with
     |box e' cs=>
      refine .inr ⟨e',cs.length,[nw (SV.aX r cs)],[nw (SV.aX r (cs.map (SV.jL n l)))],rfl,by simp[SO.jL,SO.ev],rfl,λ i y y' hy mR=> ?_⟩;cases i with
      |succ i=>simp at hy
      |zero=>
       simp at hy mR;subst hy;subst mR;have hf:=Fr.nw (n:=n) (xs:=aR (l.ev r)) (cs:=SV.aX r cs) (ds:=SV.aX r (cs.map (SV.jL n l))) (by simp[SV.aJ]) (hpt cs);exact⟨hf.width,λ j c c' hc pL=>hf.cell hc pL⟩
     |dead=>exact .inl rfl
     |row _ _ _ _=>exact .inl rfl
   ·simp only[bJ];rw[xK (f:=SV.avH n l) rfl];generalize lk s.env t=v;cases v with
    |agg cs=>
     simp only[SV.avH,SV.ev];exact .agg _ _ (by simp[SV.aJ]) (hpt cs)
    |row m k=>exact fr1 (.row m k)
    |_=>exact .refl _
  ·exact .refl _ _
 ·exact .refl _ _
theorem auw(r:List AV)(ds:List D):(mkD ds).ev r=nw (D.aX r ds):=by
 unfold mkD
 split
 ·rfl
 ·rename_i h;cases ds with
  |nil=>rfl
  |cons a l=>cases l with
   |nil=>exact(h a rfl).elim
   |cons b l=>rfl
theorem x9{n0:Nat}{s:SS}(n:Nat):Wk n0 s (abZ s n):=by
 unfold abZ
 split
 ·rename_i e cs oh
  split
  ·rename_i ds hd
   split
   ·rename_i mS;refine⟨rfl,λ r hl hr=> ?_⟩;have hcs:=wY hd;have hx:nw (SV.aX r cs)=(mkD ds).ev r:=by rw[hcs,ug,auw]
    have hn:AV.ae [(mkD ds).ev r]=true:=by
     have:(mkD ds).cl r.length=true:=by
      rw[hl];unfold mkD
      split
      ·simpa [D.cls]using mS
      ·exact mS
     simp only[AV.ae,D.bz hr _ this];rfl
    have fr1:∀v:SV,Fr n [(mkD ds).ev r] (v.ev r) ((v.fbx n (mkD ds)).ev r):=by
     intro v;cases v with
     |ptr m f=>
      simp only[SV.fbx]
      split
      ·rename_i h1;subst h1;exact .ptr _ f rfl
      ·exact .refl _
     |_=>exact .refl _
    have fr2:∀v:SV,Fr n [(mkD ds).ev r] (v.ev r) ((v.fbc n (mkD ds)).ev r):=by
     intro v;cases v with
     |ptr m f=>
      simp only[SV.fbc]
      split
      ·rename_i h1;subst h1;exact .ptr _ f rfl
      ·exact .refl _
     |_=>exact .refl _
    have hpt:∀cs:List SV,∀(i:Nat) c d,(SV.aX r cs)[i]? =some c->(SV.aX r (cs.map (SV.fbc n (mkD ds))))[i]? =some d->Fr n [(mkD ds).ev r] c d:=by
     intro cs i c d hc hd;rw[SV.aJ,getElem?_map]at hc hd;rw[getElem?_map]at hd;cases hi:cs[i]? with
     |none=>rw[hi]at hc;simp at hc
     |some v=>rw[hi]at hc hd;simp at hc hd;subst hc;subst hd;exact fr2 v
    refine WK.jL (n:=n) (t:=e) (s:=cs.length) (xs:=[(mkD ds).ev r]) (.inl ?_) hn (by simp[bp]) ?_ (λ m hm=> ?_) λ t=> ?_
    ·have:=fT oh r;rw[this];simp only[SO.ev,hx]
    ·simp only[bp,map_set];rw[List.getElem?_set_self (by simpa using(List.getElem?_eq_some_iff.1 oh).1)];rfl
    ·simp only[bp,map_set];rw[getElem?_set_ne (λ h=>hm h.symm),map_map,getElem?_map,getElem?_map];cases ho:s.an[m]? with
     |none=>exact .inl rfl
     |some o=>
      cases o with
      |box e' cs=>
       refine .inr ⟨e',cs.length,[nw (SV.aX r cs)],[nw (SV.aX r (cs.map (SV.fbc n (mkD ds))))],rfl,by simp[SO.fbx,SO.ev],rfl,λ i y y' hy mR=> ?_⟩;cases i with
       |succ i=>simp at hy
       |zero=>
        simp at hy mR;subst hy;subst mR;have hf:=Fr.nw (n:=n) (xs:=[(mkD ds).ev r]) (cs:=SV.aX r cs) (ds:=SV.aX r (cs.map (SV.fbc n (mkD ds)))) (by simp[SV.aJ]) (hpt cs);exact⟨hf.width,λ j c c' hc pL=>hf.cell hc pL⟩
      |dead=>exact .inl rfl
      |row _ _ _ _=>exact .inl rfl
    ·simp only[bJ];rw[xK (f:=SV.fbx n (mkD ds)) rfl];exact fr1 _
   ·exact .refl _ _
  ·exact .refl _ _
 ·exact .refl _ _
theorem gB{n0:Nat}{α:Type}{f:SS->α->SS}(h:∀s a,Wk n0 s (f s a)):∀(l:List α) (s:SS),Wk n0 s (l.foldl f s)
 | [],s=> .refl _ _
 |a::l,s=>(h s a).trans (gB h l (f s a))
theorem iz{n0:Nat}(s:SS)(v:SV):Wk n0 s (rW s v):=gB (λ s n=>ad2 n) _ s
theorem qx{n0:Nat}(s:SS)(l:List aC):Wk n0 s (x8 s l):=gB (λ s x=>iz s _) l s
theorem ama{n0:Nat}(s:SS)(x:aC):Wk n0 s (aji s x):=by
 unfold aji
 split
 ·split
  ·exact(gB (λ s v=>iz s v) _ s).trans (x9 _)
  ·exact .refl _ _
 ·exact iz _ _
theorem rA{n0:Nat}:∀(k:Nat) (s:SS) (n:Nat),Wk n0 s (wV k s n)
 |0,s,n=> .refl _ _
 |k+1,s,n=>by
  unfold wV
  split
  ·refine(gB (λ s v=> ?_) _ s).trans (x9 _)
   split
   ·exact rA k s _
   ·exact iz _ _
  ·exact .refl _ _
theorem al9{n0:Nat}(s:SS)(x:aC):Wk n0 s (abY s x):=by
 unfold abY
 split
 ·exact rA _ _ _
 ·exact .refl _ _
theorem ajj{n0:Nat}(s:SS)(l:List aC):Wk n0 s (aky s l):=gB (λ s x=>by
 split
 ·exact iz _ _
 ·exact .refl _ _) l s
theorem ru{n0:Nat}(s:SS)(l:List aC):Wk n0 s (wU s l):=gB (λ s x=>by
 unfold abY
 split
 ·exact rA _ _ _
 ·exact .refl _ _) l s
theorem amb{n0:Nat}(s:SS)(l:List SV):Wk n0 s (apr s l):=gB (λ s v=>by
 split
 ·exact rA _ _ _
 ·exact iz _ _) l s
theorem aq0{n0:Nat}(fl:List Nat)(op:dY)(s:SS):Wk n0 s (at0 fl op s):=by
 unfold at0
 split
 ·split
  ·rename_i h;exact xI h
  ·exact .refl _ _
 ·split
  ·rename_i h;exact xI h
  ·exact .refl _ _
 ·exact iz _ _
 ·exact qx _ _
 ·split
  ·exact iz _ _
  ·exact .refl _ _
 ·exact gB (λ s x=>ama s x) _ s
 ·split
  ·exact(ajj _ _).trans (ru _ _)
  ·exact(qx _ _).trans (ru _ _)
 ·exact(qx _ _).trans (ru _ _)
 ·exact(qx _ _).trans (ru _ _)
 ·exact qx _ _
 ·split
  ·exact .refl _ _
  ·split
   ·refine gB (λ s p=> ?_) _ _
    split
    ·exact(iz _ _).trans (al9 _ _)
    ·exact .refl _ _
   ·exact .refl _ _
 ·exact .refl _ _
theorem at1{n0:Nat}(fl:List Nat)(wk:Bool)(op:dY)(s:SS):Wk n0 s (pre fl wk op s):=by
 unfold pre;split
 ·exact aq0 _ _ _
 ·exact .refl _ _
theorem akB{n0:Nat}(s:SS)(c:Conv):Wk n0 s (c.run s):=by
 cases c with
 |slot k t m=>
  simp only[Conv.run]
  split
  ·rename_i h;exact xI h
  ·exact .refl _ _
 |cell k j t m=>
  simp only[Conv.run]
  split
  ·rename_i h
   split
   ·rename_i h2;exact aiP h h2
   ·exact .refl _ _
  ·exact .refl _ _
 |fbx n=>
  simp only[Conv.run]
  split
  ·exact(gB (λ s v=>iz s v) _ s).trans (x9 _)
  ·exact .refl _ _
 |avK n=>exact ad2 n
theorem WK.aop{n0:Nat}{e:Env}{O O':List aa}(hlen:O'.length=O.length)(h:∀m:Nat,O'[m]? =O[m]? ∨O'[m]? =some .dead):WK n0 e O e O':=by
 intro I0 L0 O0 w0 I L w f h0 hg hr
 have bX:∀{m:Nat} {ob},O'[m]? =some ob->ob≠ .dead->O[m]? =some ob:=by
  intro m ob ho bk;rcases h m with h1|h1
  ·rw[←h1];exact ho
  ·rw[h1]at ho;cases ho;exact(bk rfl).elim
 have cH:Ext I L O I L O':=⟨λ _ _ _ h=>h,by omega,λ m _ ee k zs hz=> .inl ⟨zs,bX hz (by simp),le_refl _,λ _=>rfl⟩,λ m _ ee k h=>bX h (by simp),λ m _ a h=>⟨⟨a,bX h (by simp)⟩,rfl⟩,λ m _ a h=>⟨⟨a,bX h (by simp),rfl⟩,rfl⟩⟩;refine⟨I,L,hg.agc (by omega) (λ _ _ _ h=>h) (λ _ _ _ h=> .inl h) (λ m ee k zs hm=> ?_) (λ m ee k _ hm=>bX hm (by simp)) (λ m a hm=>bX hm (by simp)) (λ m a hm=>⟨bX hm (by simp),λ _ _ h=>h.mono cH⟩),λ t=>(hr t).mono cH⟩;have h1:=bX hm (by simp);exact⟨zs,h1,rfl,(hg.inv.obj m _ _ _ h1).congr rfl λ _ _ h=>h.mono cH,λ o=>hg.inv.cT m _ _ _ o h1⟩
theorem yD(t:List SO):∀(k:Nat) (l:List SO),(ef t k l).length=l.length
 |_,[]=>rfl
 |k,o::l=>by simp[ef,yD t (k+1) l]
theorem z9:∀(ts cs:List SV),(k9 ts cs).length=cs.length
 | [],cs=>by cases cs<;>simp[k9]
 |t::ts,[]=>by cases t<;>simp[k9]
 |t::ts,c::cs=>by cases t<;>simp[k9,z9 ts cs]
theorem aaa:∀(ts cs:List SV) (j:Nat),(k9 ts cs)[j]? =cs[j]? ∨(k9 ts cs)[j]? =some .top
 | [],cs,j=>by cases cs<;>simp[k9]
 |t::ts,[],j=>by cases t<;>simp[k9]
 |t::ts,c::cs,j=>by
  cases j with
  |zero=>cases t<;>simp[k9]
  |succ j=>cases t<;>simpa [k9]using aaa ts cs j
inductive aqj:Option aa->Option aa->Prop
 |same (o):aqj o o
 |dead (o):aqj o (some .dead)
 |box (e s:Nat) (cs cs':List AV) (hl:cs'.length=cs.length) (hc:∀j:Nat,cs'[j]? =cs[j]? ∨cs'[j]? =some .top):aqj (some (.live e s [.agg cs])) (some (.live e s [.agg cs']))
theorem WK.aCL{n0:Nat}{e:Env}{O O':List aa}(hlen:O'.length=O.length)(h:∀m:Nat,aqj O[m]? O'[m]?):WK n0 e O e O':=by
 intro I0 L0 O0 w0 I L w f h0 hg hr
 have zt:∀{m:Nat} {ee k},O'[m]? =some (.nil ee k)->O[m]? =some (.nil ee k):=by
  intro m ee k ho;have:=h m;rw[ho]at this;generalize hq:O[m]? =q at this;cases this
  rfl
 have uQ:∀{m:Nat} {ee k zs},O'[m]? =some (.live ee k zs)->∃xs,O[m]? =some (.live ee k xs)/\xs.length=zs.length/\(xs=zs∨∃cs cs',xs= [.agg cs]/\zs= [.agg cs']/\cs'.length=cs.length/\∀j:Nat,cs'[j]? =cs[j]? ∨cs'[j]? =some .top):=by
  intro m ee k zs ho;have:=h m;rw[ho]at this;generalize hq:O[m]? =q at this;cases this with
  |same=>exact⟨zs,rfl,rfl,.inl rfl⟩
  |box _ _ cs cs' hl hc=>exact⟨_,rfl,rfl,.inr ⟨cs,cs',rfl,rfl,hl,hc⟩⟩
 have cH:Ext I L O I L O':=⟨λ _ _ _ h=>h,by omega,λ m _ ee k zs hz=>by
  obtain⟨xs,h1,h2,_⟩:=uQ hz;exact .inl ⟨xs,h1,by omega,λ _=>rfl⟩,λ m _ ee k h=>zt h,λ m _ a hm=>⟨⟨a,by
  have:=h m;rw[hm]at this;generalize hq:O[m]? =q at this;cases this
  rfl⟩,rfl⟩,λ m _ a hm=>⟨⟨a,by
  have:=h m;rw[hm]at this;generalize hq:O[m]? =q at this;cases this
  rfl,rfl⟩,rfl⟩⟩
 refine⟨I,L,hg.agc (by omega) (λ _ _ _ h=>h) (λ _ _ _ h=> .inl h) (λ m ee k zs hm=> ?_) (λ m ee k _ hm=>zt hm) (λ m a hm=>by
  have:=h m;rw[hm]at this;generalize hq:O[m]? =q at this;cases this
  rfl) (λ m a hm=>⟨by
  have:=h m;rw[hm]at this;generalize hq:O[m]? =q at this;cases this
  rfl,λ _ _ h=>h.mono cH⟩),λ t=>(hr t).mono cH⟩
 obtain⟨xs,h1,h2,h3⟩:=uQ hm;refine⟨xs,h1,h2,?_,λ o=>hg.inv.cT m _ _ _ o h1⟩;have ho:=(hg.inv.obj m _ _ _ h1).congr rfl λ _ _ h=>h.mono cH
 rcases h3 with rfl|⟨cs,cs',rfl,rfl,hl,hc⟩
 ·exact ho
 ·obtain⟨c,k1,k2,k3,k4,k5,k6⟩:=ho;refine⟨c,k1,k2,by simpa using k3,k4,k5,λ i x hx=> ?_⟩
  match i,hx with
  |0,hx=>
   simp at hx;subst hx;obtain⟨q1,q2⟩:=k6 0 (.agg cs) rfl;refine⟨by simpa [AV.cells,hl]using q1,λ j a ha=> ?_⟩;simp only[AV.cells]at ha q2;rcases hc j with hj|hj
   ·exact q2 j a (by rw[←hj];exact ha)
   ·rw[hj]at ha;cases ha;have hjl:j<cs.length:=by rw[←hl];exact(List.getElem?_eq_some_iff.1 hj).1
    obtain⟨y,y1,y2,_⟩:=q2 j cs[j] (getElem?_eq_getElem hjl);exact⟨y,y1,y2,.top _⟩
theorem yE(r:List AV)(t:List SO):∀(k:Nat) (l:List SO) (m:Nat),aqj ((l.map (SO.ev r))[m]?) (((ef t k l).map (SO.ev r))[m]?)
 |_,[],m=>by simp only[ef];exact .same _
 |k,o::l,m=>by
  cases m with
  |zero=>
   simp only[ef,map_cons,List.getElem?_cons_zero];unfold apZ
   split
   ·exact .dead _
   ·split
    ·split
     ·rename_i e ts _ _ e' cs h2;have h1:=z9 ts cs;simp only[SO.ev,SV.aJ,h1]
      have ha:∀l:List SV,2<=l.length->nw (l.map (SV.ev r))= .agg (l.map (SV.ev r)):=λ l hl=>by
       match l,hl with
       |a::b::l,_=>rfl
      rw[ha _ h2,ha _ (by omega)];refine .box _ _ _ _ (by simp[h1]) λ j=> ?_
      simp only[getElem?_map];rcases aaa ts cs j with h|h
      ·exact .inl (by rw[h])
      ·exact .inr (by rw[h];rfl)
     ·exact .same _
    ·exact .same _
   ·exact .same _
  |succ m=>simpa [ef]using yE r t (k+1) l m
section
variable {rb m:List AV} {vs:List D} {base:Nat}
theorem xS(hb:rb.length=base):∀(d e:D),(d.inst base vs).beq e=true->d.ev (rb++D.aX (rb++m) vs)=e.ev (rb++m):=by
 intro d e h;cases d with
 |x i=>
  simp only[D.inst]at h
  split at h
  ·rename_i hi;have:=D.beq_eq _ _ h;subst this;simp only[D.ev];rw[qv (by omega),qv (by omega)]
  ·rename_i hi;cases hv:vs[i- base]? with
   |none=>
    rw[List.getD,hv]at h;simp only[getD_none]at h;cases e<;>simp[D.beq,AV.ceq]at h
   |some d'=>
    rw[List.getD,hv]at h;simp only[getD_some]at h;have:=D.beq_eq _ _ h;subst this;simp only[D.ev,List.getD];rw[getElem?_append_right (by omega),hb,D.aJ,getElem?_map,hv]
    rfl
 |_=>
  simp only[D.inst]at h
  split at h
  ·rename_i mS;have:=D.beq_eq _ _ h;subst this;rw[D.cz _ (by rw[hb];exact mS),D.cz _ (by rw[hb];exact mS)]
  ·cases e<;>simp[D.beq,AV.ceq]at h
theorem akk(hb:rb.length=base):∀(v w:SV),(v.inst base vs).beq w=true->v.ev (rb++D.aX (rb++m) vs)=w.ev (rb++m):=by
 intro v w h;cases v with
 |d x=>cases w<;>simp only[SV.inst,SV.beq,false_eq_true]at h;exact(xS hb _ _ h)
 |row n l=>
  cases w<;>simp only[SV.inst,SV.beq,false_eq_true,and_eq_true,decide_eq_true_eq]at h
  obtain⟨rfl,h⟩:=h;exact(by simp only[SV.ev,xS hb _ _ h])
 |ptr n f=>
  cases w<;>simp only[SV.inst,SV.beq,false_eq_true,and_eq_true,decide_eq_true_eq]at h
  obtain⟨rfl,rfl⟩:=h
  rfl
 |rp n l i f=>
  cases w<;>simp only[SV.inst,SV.beq,false_eq_true,and_eq_true,decide_eq_true_eq]at h
  obtain⟨⟨⟨rfl,h1⟩,h2⟩,rfl⟩:=h;exact(by simp only[SV.ev,xS hb _ _ h1,xS hb _ _ h2])
 |ip x f=>
  cases w<;>simp only[SV.inst,SV.beq,false_eq_true,and_eq_true,decide_eq_true_eq]at h
  obtain⟨h,rfl⟩:=h;exact(by simp only[SV.ev,xS hb _ _ h])
 |agg cs=>
  simp only[SV.inst]at h
  split at h
  ·rename_i mS;have:=SV.beq_eq _ _ h;subst this;exact(by simp only[SV.ev];rw[SV.fD cs (by rw[hb];exact mS),SV.fD cs (by rw[hb];exact mS)])
  ·cases w<;>simp only[SV.beq,false_eq_true]at h
   rename_i e;cases e<;>simp[D.beq,AV.ceq]at h
 |a9 cs=>
  simp only[SV.inst]at h
  split at h
  ·rename_i mS;have:=SV.beq_eq _ _ h;subst this;exact(by simp only[SV.ev];rw[SV.fD cs (by rw[hb];exact mS),SV.fD cs (by rw[hb];exact mS)])
  ·cases w<;>simp only[SV.beq,false_eq_true]at h
   rename_i e;cases e<;>simp[D.beq,AV.ceq]at h
 |top=>cases w<;>simp only[SV.inst,SV.beq,false_eq_true]at h;rfl
theorem ag6(hb:rb.length=base):∀(cs ds:List SV),SV.mJ (cs.map (SV.inst base vs)) ds=true->SV.aX (rb++D.aX (rb++m) vs) cs=SV.aX (rb++m) ds
 | [],[],_=>rfl
 |c::cs,d::ds,h=>by
  simp only[map_cons,SV.mJ,and_eq_true]at h;simp only[SV.aX,akk hb c d h.1,ag6 hb cs ds h.2]
 | [],_::_,h=>by simp[SV.mJ]at h
 |_::_,[],h=>by simp[SV.mJ]at h
theorem ahN:∀(cs ds:List SV),SV.mJ cs ds=true->cs.length=ds.length
 | [],[],_=>rfl
 |c::cs,d::ds,h=>by
  simp only[SV.mJ,and_eq_true]at h;simp[ahN cs ds h.2]
 | [],_::_,h=>by simp[SV.mJ]at h
 |_::_,[],h=>by simp[SV.mJ]at h
theorem arD(hb:rb.length=base):∀(a b:SO),(a.inst base vs).beq b=true->a.ev (rb++D.aX (rb++m) vs)=b.ev (rb++m):=by
 intro a b h;cases a with
 |dead=>cases b<;>simp only[SO.inst,SO.beq,false_eq_true]at h;rfl
 |box e cs=>
  cases b<;>simp only[SO.inst,SO.beq,false_eq_true,and_eq_true,decide_eq_true_eq]at h
  obtain⟨rfl,h⟩:=h;have h2:=ahN _ _ h;simp only[length_map]at h2;simp only[SO.ev,ag6 hb _ _ h,h2]
 |row nl e s l=>
  cases b<;>simp only[SO.inst,SO.beq,false_eq_true,and_eq_true,decide_eq_true_eq]at h
  obtain⟨⟨⟨rfl,rfl⟩,rfl⟩,h⟩:=h;cases nl<;>simp only[SO.ev,xS hb _ _ h]
end
mutual
theorem SV.aj0{k:Nat}{r:List AV}(hr:AV.ae r=true):∀(v:SV),v.sc k=true->v.cl r.length=true->(v.ev r).inScope k=true
 | .d x,_,h=>bU _ (D.bz hr x h)
 | .row n l,h,_=>h
 | .ptr n f,h,_=>h
 | .rp n l i f,h,_=>h
 | .ip x f,_,h=>bU (.bV (x.ev r) f) (D.bz hr x h)
 | .agg cs,h,h'=>by
   simp only[SV.sc]at h;simp only[SV.cl]at h';exact SV.aeH hr cs h h'
 | .a9 cs,h,h'=>by
   simp only[SV.sc]at h;simp only[SV.cl]at h';exact SV.aeH hr cs h h'
 | .top,_,_=>rfl
theorem SV.aeH{k:Nat}{r:List AV}(hr:AV.ae r=true):∀(l:List SV),SV.scs k l=true->SV.cls r.length l=true->AV.cD k (SV.aX r l)=true
 | [],_,_=>rfl
 |v::l,h,h'=>by
  simp only[SV.scs,and_eq_true]at h;simp only[SV.cls,and_eq_true]at h';simp only[SV.aX,AV.cD,SV.aj0 hr v h.1 h'.1,SV.aeH hr l h.2 h'.2];rfl
end
theorem aiQ{k:Nat}{l:List AV}(h:AV.cD k l=true):(nw l).inScope k=true:=by
 unfold nw
 split
 ·simpa [AV.cD]using h
 ·exact h
theorem SO.aj0{k:Nat}{r:List AV}(hr:AV.ae r=true)(o:SO)(h:o.sc k=true)(h':o.cl r.length=true):(o.ev r).inScope k=true:=by
 cases o with
 |dead=>rfl
 |box e cs=>
  simp only[SO.ev,aa.inScope,AV.cD,Bool.and_true];exact aiQ (SV.aeH hr cs h h')
 |row nl e s l=>
  have:=cP (k:=k) _ (cj (D.bz hr l h'));cases nl
  ·exact this
  ·simp only[SO.ev]
   split
   ·rfl
   ·exact this
theorem auC{l:List (Nat×SV)}{t:Nat}:lk l t= .top∨(t,lk l t)∈l:=by
 induction l with
 |nil=>exact .inl rfl
 |cons p l ih=>
  obtain⟨k,v⟩:=p;simp only[lk]
  split
  ·rename_i h;subst h;exact .inr (by simp)
  ·rcases ih with h|h
   ·exact .inl h
   ·exact .inr (by simp[h])
theorem rG{n0 base:Nat}{s t:SS}{vs:List D}(h:coerce n0 base s t=some vs){rb m:List AV}(hb:rb.length=base)(hl:(rb++m).length=s.nv)(hr:AV.ae (rb++m)=true):
  vs.length=t.nv- base/\kO rb (rb++D.aX (rb++m) vs) t.nv/\WK n0 (bJ s (rb++m)) (bp s (rb++m)) (bJ t (rb++D.aX (rb++m) vs)) (bp t (rb++D.aX (rb++m) vs)):=by
 unfold coerce at h;simp only at h
 split at h
 ·cases h
 ·rename_i vs' vR
  split at h
  ·rename_i qu;cases h;obtain⟨c0,c1,c2,c3,c4,c5,c6,c7⟩:=qu
   have hlen:vs.length=t.nv- base:=by
    have:=(mapM_some vR).1;simpa using this
   have hn:AV.ae (rb++D.aX (rb++m) vs)=true:=by
    rw[aD,and_eq_true]at hr⊢;exact⟨hr.1,D.cC (by rw[aD,and_eq_true];exact hr) vs (by rw[hl];exact c4)⟩
   have hl2:(rb++D.aX (rb++m) vs).length=t.nv:=by
    rw[List.length_append,D.aJ,length_map,hlen,hb];omega
   refine⟨hlen,⟨⟨_,rfl⟩,hl2,hn⟩,?_⟩
   have xk:WK n0 (bJ s (rb++m)) (bp s (rb++m)) (bJ s (rb++m)) ((ef t.an 0 s.an).map (SO.ev (rb++m))):=by
    exact WK.aCL (by simp[bp,yD]) λ j=>yE _ t.an 0 s.an j
   refine xk.trans (WK.forget (k:=t.an.length) ?_ c0 (by simpa using c3) (λ ob ho=> ?_) λ q=> ?_)
   ·apply ext_getElem?;intro j;simp only[bp,List.getElem?_take,getElem?_map]
    split
    ·rename_i hj;have hj2:j<(ef t.an 0 s.an).length:=by omega
     have h1:t.an[j]? =some t.an[j]:=by simp[hj]
     have h2:(ef t.an 0 s.an)[j]? =some (ef t.an 0 s.an)[j]:=by simp[hj2]
     rw[h1,h2]
     have hz:(t.an[j],(ef t.an 0 s.an)[j])∈t.an.zip (ef t.an 0 s.an):=by
      apply mem_of_getElem? (i:=j);rw[List.getElem?_zip_eq_some];exact⟨h1,h2⟩
     have:=List.all_eq_true.1 c7 _ hz;simp only[and_eq_true]at this;simp only[map_some,arD hb _ _ this.1]
    ·rename_i hj;rw[getElem?_eq_none (by omega)];rfl
   ·simp only[bp,mem_map]at ho;obtain⟨o,ho,rfl⟩:=ho;refine SO.aj0 hn o ?_ (by rw[hl2];exact SS.vL c5 ho);obtain⟨j,hj⟩:=List.getElem?_of_mem ho;have hjl:=(List.getElem?_eq_some_iff.1 hj).1;have h2:(ef t.an 0 s.an)[j]? =some ((ef t.an 0 s.an)[j]'(by omega)):=by simp[show j<(ef t.an 0 s.an).length by omega]
    have hz:(o,(ef t.an 0 s.an)[j]'(by omega))∈t.an.zip (ef t.an 0 s.an):=by
     apply mem_of_getElem? (i:=j);rw[List.getElem?_zip_eq_some];exact⟨hj,h2⟩
    have:=List.all_eq_true.1 c7 _ hz;simp only[and_eq_true]at this;exact this.2
   ·simp only[bJ];rcases auC (l:=t.env) (t:=q)with h|h
    ·rw[h];exact .inl rfl
    ·have:=List.all_eq_true.1 c6 _ h;simp only[and_eq_true]at this;exact .inr ⟨akk hb _ _ this.1,SV.aj0 hn _ this.2 (by rw[hl2];exact SS.rH c5 q)⟩
  ·cases h
end Go.Ab
namespace Go.Ab
section
variable {P:Program}
theorem kO.trans{r r1 r2:List AV}{n k:Nat}(h:kO r r1 n)(k':kO r1 r2 k):kO r r2 k:=by
 obtain⟨m,rfl⟩:=h.pre;obtain⟨m',rfl⟩:=k'.pre;exact⟨⟨m++m',by simp⟩,k'.len,k'.nor⟩
theorem af3{L:AX->SS->List AV->Prop}{R:AV->Prop}{t:T}{r:List AV}:∀(Js S:List (List AV->Prop)),bW P L R (asd Js.length t) r (Js++S)=bW P L R t r S
 | [],S=>rfl
 |J::Js,S=>by simp only[List.length_cons,asd,cons_append,bW,af3 Js S]
inductive ajF:List (List AV->Prop)->List (List AV->Prop)->Prop
 |nil:ajF [] []
 |cons {J J':List AV->Prop} {S S':List (List AV->Prop)}:(∀vs,J vs->J' vs)->ajF S S'->ajF (J::S) (J'::S')
theorem ajF.refl:∀(S:List (List AV->Prop)),ajF S S
 | []=> .nil
 |_::S=> .cons (λ _ h=>h) (ajF.refl S)
theorem ez{L L':AX->SS->List AV->Prop}{R R':AV->Prop}(hL:∀x s r,L x s r->L' x s r)(hR:∀a,R a->R' a):∀(t:T) {r:List AV} {S S':List (List AV->Prop)},ajF S S'->bW P L R t r S->bW P L' R' t r S'
 | .leaf x s,r,S,S',hs,h=>hL _ _ _ h
 | .ret d,r,S,S',hs,h=>hR _ h
 | .jump vs,r,S,S',hs,h=>by
   cases hs with
   |nil=>exact h
   |cons hJ _=>exact hJ _ h
 | .eB t,r,S,S',hs,h=>by
   cases hs with
   |nil=>exact h
   |cons _ hs=>exact ez hL hR t hs h
 | .op o t,r,S,S',hs,h=>PO.sw h λ v hv=>ez hL hR t hs hv
 | .bI c t,r,S,S',hs,h=>rQ.wp_mono h λ h=>ez hL hR t hs h
 | .ite c t f,r,S,S',hs,h=>by
   simp only[bW]at h⊢
   split at h
   ·exact⟨λ hb=>ez hL hR t hs (h.1 hb),λ hb=>ez hL hR f hs (h.2 hb)⟩
   ·exact h.elim
 | .bind k a b,r,S,S',hs,h=>ez hL hR a (.cons (λ vs hv hk=>ez hL hR b hs (hv hk)) hs) h
 | .loop init b,r,S,S',hs,h=>by
   obtain⟨J,n,h0,h1⟩:=h;exact⟨J,n,h0,λ n vs hJ hk=>ez hL hR b (.cons (λ _ h=>h) hs) (h1 n vs hJ hk)⟩
theorem gm{L:AX->SS->List AV->Prop}{R:AV->Prop}{k:AX->SS->Option T}:∀(t:T) {d:Nat} {t':T},t.fill k d=some t'->∀{r:List AV} {Js S:List (List AV->Prop)},Js.length=d->bW P L R t' r (Js++S)->
  bW P (λ x s r'=>∃t2,k x s=some t2/\bW P L R t2 r' S) R t r (Js++S)
 | .leaf x s,d,t',h,r,Js,S,hd,hw=>by
   simp only[T.fill,map_eq_some_iff]at h;obtain⟨t2,h1,rfl⟩:=h;subst hd;rw[af3]at hw;exact⟨t2,h1,hw⟩
 | .ret d',d,t',h,r,Js,S,hd,hw=>by cases h;exact hw
 | .jump vs,d,t',h,r,Js,S,hd,hw=>by
   simp only[T.fill]at h
   split at h
   ·cases h
   ·cases h;exact hw
 | .eB t,d,t',h,r,Js,S,hd,hw=>by
   cases d with
   |zero=>simp[T.fill]at h
   |succ d=>
    simp only[T.fill,map_eq_some_iff]at h;obtain⟨t2,h1,rfl⟩:=h;cases Js with
    |nil=>cases hd
    |cons J Js=>
     simp only[cons_append,bW]at hw⊢;exact gm t h1 (by simpa using hd) hw
 | .op o t,d,t',h,r,Js,S,hd,hw=>by
   simp only[T.fill,map_eq_some_iff]at h;obtain⟨t2,h1,rfl⟩:=h;exact PO.sw (o:=o) hw λ v hv=>gm t h1 hd hv
 | .bI c t,d,t',h,r,Js,S,hd,hw=>by
   simp only[T.fill,map_eq_some_iff]at h;obtain⟨t2,h1,rfl⟩:=h;exact rQ.wp_mono (c:=c) hw λ hv=>gm t h1 hd hv
 | .ite c t f,d,t',h,r,Js,S,hd,hw=>by
   simp only[T.fill]at h
   split at h
   ·rename_i t2 f2 h1 h2;cases h;simp only[bW]at hw⊢
    split at hw
    ·exact⟨λ hb=>gm t h1 hd (hw.1 hb),λ hb=>gm f h2 hd (hw.2 hb)⟩
    ·exact hw.elim
   ·cases h
 | .bind m a b,d,t',h,r,Js,S,hd,hw=>by
   simp only[T.fill]at h
   split at h
   ·rename_i a2 b2 h1 h2;cases h;simp only[bW]at hw⊢;have:=gm a h1 (Js:=_::Js) (by simpa using hd) hw;exact ez (λ _ _ _ h=>h) (λ _ h=>h) a (.cons (λ vs hv hk=>gm b h2 hd (hv hk)) (.refl _)) this
   ·cases h
 | .loop init b,d,t',h,r,Js,S,hd,hw=>by
   simp only[T.fill,map_eq_some_iff]at h;obtain⟨t2,h1,rfl⟩:=h;obtain⟨J,n,h0,h2⟩:=hw;exact⟨J,n,h0,λ n vs hJ hk=>gm b h1 (Js:=_::Js) (by simpa using hd) (h2 n vs hJ hk)⟩
theorem yN{L:AX->SS->List AV->Prop}{R:AV->Prop}{k:AX->SS->Option T}{t t':T}(h:t.fill k 0=some t'){r:List AV}{S:List (List AV->Prop)}(hw:bW P L R t' r S):
 bW P (λ x s r'=>∃t2,k x s=some t2/\bW P L R t2 r' S) R t r S:=gm t h (Js:=[]) rfl hw
theorem so{op:dY}{s:SS}{ns:List Node}{v:SV}{s':SS}(h:mK op s=some (ns,v,s')){r:List AV}(hl:r.length=s.nv)(hr:AV.ae r=true){G:List AV->Prop}(hw:kc P ns r G){K:KT}
  (hk:∀r',G r'->kO r r' s'.nv->bJ s' r'=bJ s r->K (v.ev r') (bp s' r')):wpOp P op (bJ s r) (bp s r) K:=by
 unfold mK at h
 split at h
 ·rename_i h1
  split at h
  ·rename_i ns2 v2 s2 hx
   split at h
   ·rename_i h2;cases h;obtain⟨c1,c2,c3,c4⟩:=h2;refine atx h1.2 h1.1 c3 hx r hl h1.1 hr c1 K ?_;refine z5 ns hr (by rw[hl];exact c1) hw λ r' hm hG he=>hk r' hG ⟨hm.pre,?_,hm.nor⟩ he
    exact(hm.len.trans (by rw[hl])).trans c2
   ·cases h
  ·cases h
 ·cases h
theorem pY{e:Env}{t:Nat}{a:AV}(h:e t=a):e.set t a=e:=aat h
theorem uZ{fl:List Nat}{n0:Nat}{L:AX->SS->List AV->Prop}{R:AV->Prop}{S:List (List AV->Prop)}{K:Env->List aa->Prop}:∀(ops:List aH) {s:SS} {t:T},r8 fl true ops s=some t->∀{r:List AV},r.length=s.nv->AV.ae r=true->
  bW P L R t r S->(∀s' r',L .normal s' r'->kO r r' s'.nv->K (bJ s' r') (bp s' r'))->gF P n0 ops (bJ s r) (bp s r) K
 | [],s,t,h,r,hl,hr,hw,hk=>by
   simp only[r8,Option.some.injEq]at h;subst h;exact⟨_,_,.refl _ _ _,hk s r hw ⟨⟨[],by simp⟩,hl,hr⟩⟩
 |o::ops,s,t,h,r,hl,hr,hw,hk=>by
  have ajd:Wk n0 s (pre fl true o.op s):=at1 fl true o.op s;have hwk:=ajd.2 r hl hr;have zQ:r.length=(pre fl true o.op s).nv:=hl.trans ajd.1.symm
  have step:∀{s0:SS} {ns:List Node} {v:SV} {s':SS} {t':T},mK o.op s0=some (ns,v,s')->r8 fl true ops (s'.bB o.dst v)=some t'->r.length=s0.nv->bW P L R (wrap ns t') r S->
    wpOp P o.op (bJ s0 r) (bp s0 r) λ x O'=>gF P n0 ops (bB (bJ s0 r) o.dst x) O' K:=by
   intro s0 ns v s' t' hx ht zQ hw;rw[sx]at hw;refine so hx zQ hr hw λ r' hG hm he=> ?_
   rw[←he,←pV,←pU s' o.dst v r'];refine uZ ops ht (by rw[tM];exact hm.len) hm.nor hG λ s2 r2 hL hm2=>hk s2 r2 hL (hm.trans hm2)
  have skip:∀{s0:SS} {t':T},r8 fl true ops (s0.bB o.dst un)=some t'->r.length=s0.nv->bW P L R t' r S->gF P n0 ops (bB (bJ s0 r) o.dst (.a9 [])) (bp s0 r) K:=by
   intro s0 t' ht zQ hw;have:(un).ev r= .a9 []:=rfl;rw[←this,←pV,←pU s0 o.dst un r];exact uZ ops ht (by rw[tM];exact zQ) hr hw hk
  simp only[r8]at h;simp only[gF]
  split at h
  ·rename_i hg
   split at h
   ·rename_i ns v s' hx;simp only[map_eq_some_iff]at h;obtain⟨t',ht,rfl⟩:=h;refine⟨_,_,hwk,?_⟩;rw[hg];exact step hx ht zQ hw
   ·cases h
  ·rename_i g want hg
   split at h
   ·rename_i b hb;have heb:bJ s r g= .v (.bool b):=by simp only[bJ,hb];rfl
    split at h
    ·rename_i m8
     split at h
     ·rename_i b' kD;have ayX:bJ (pre fl true o.op s) r g= .v (.bool b'):=by simp only[bJ,kD];rfl
      split at h
      ·rename_i aCd;subst aCd
       split at h
       ·rename_i ns v s' hx;simp only[map_eq_some_iff]at h;obtain⟨t',ht,rfl⟩:=h;refine⟨_,_,hwk,?_⟩;rw[hg];simp only[ayX];rw[pY ayX];refine⟨λ _=>step hx ht zQ hw,λ h=> ?_⟩;cases b'<;>simp at h
       ·cases h
      ·cases h
     ·cases h
    ·rename_i m8;refine⟨_,_,.refl _ _ _,?_⟩;rw[hg];simp only[heb];have mI:b= !want:=by cases b<;>cases want<;>simp_all
     refine⟨λ h=>(m8 h).elim,λ _=> ?_⟩;rw[pY (by rw[heb,mI])];exact skip h hl hw
   ·rename_i hb;have heb:bJ s r g= .a9 []:=by simp only[bJ,hb];rfl
    refine⟨_,_,.refl _ _ _,?_⟩;rw[hg];simp only[heb];exact skip h hl hw
   ·split at h
    ·rename_i c hc;have hec:bJ (pre fl true o.op s) r g=c.ev r:=by simp only[bJ,hc];rfl
     split at h
     ·rename_i ns v s' hx
      split at h
      ·rename_i t1 t2 h1 h2;simp only[Option.some.injEq]at h;refine⟨_,_,hwk,?_⟩;rw[hg];simp only[hec]
       have key:∃b,c.ev r= .v (.bool b)/\(b=want->bW P L R (wrap ns t1) r S)/\(b= !want->bW P L R t2 r S):=by
        subst h;cases want
        ·simp only[false_eq_true,if_false,bW]at hw
         split at hw
         ·rename_i b hb;exact⟨b,hb,hw.2,λ h=>hw.1 (by simpa using h)⟩
         ·exact hw.elim
        ·simp only[if_true,bW]at hw
         split at hw
         ·rename_i b hb;exact⟨b,hb,hw.1,λ h=>hw.2 (by simpa using h)⟩
         ·exact hw.elim
       obtain⟨b,hb,k1,k2⟩:=key;simp only[hb];have e1:∀b':Bool,(bJ (pre fl true o.op s) r).set g (.v (.bool b'))=bJ ((pre fl true o.op s).set g (.d (.c (.v (.bool b'))))) r:=λ b'=>by rw[zJ];rfl
       refine⟨λ m8=> ?_,λ m8=> ?_⟩
       ·rw[e1];exact step hx h1 zQ (k1 m8)
       ·rw[e1];exact skip h2 zQ (k2 m8)
      ·cases h
     ·cases h
    ·cases h
   ·cases h
theorem sq{fl:List Nat}{L:AX->SS->List AV->Prop}{R:AV->Prop}{S:List (List AV->Prop)}{K:Env->List aa->Prop}:∀(ops:List aH) {s:SS} {t:T},r8 fl false ops s=some t->∀{r:List AV},r.length=s.nv->AV.ae r=true->
  bW P L R t r S->(∀s' r',L .normal s' r'->kO r r' s'.nv->K (bJ s' r') (bp s' r'))->wpOps P ops (bJ s r) (bp s r) K
 | [],s,t,h,r,hl,hr,hw,hk=>by
   simp only[r8,Option.some.injEq]at h;subst h;exact hk s r hw ⟨⟨[],by simp⟩,hl,hr⟩
 |o::ops,s,t,h,r,hl,hr,hw,hk=>by
  have ajd:pre fl false o.op s=s:=rfl
  have step:∀{s0:SS} {ns:List Node} {v:SV} {s':SS} {t':T},mK o.op s0=some (ns,v,s')->r8 fl false ops (s'.bB o.dst v)=some t'->r.length=s0.nv->bW P L R (wrap ns t') r S->
    wpOp P o.op (bJ s0 r) (bp s0 r) λ x O'=>wpOps P ops (bB (bJ s0 r) o.dst x) O' K:=by
   intro s0 ns v s' t' hx ht zQ hw;rw[sx]at hw;refine so hx zQ hr hw λ r' hG hm he=> ?_
   rw[←he,←pV,←pU s' o.dst v r'];refine sq ops ht (by rw[tM];exact hm.len) hm.nor hG λ s2 r2 hL hm2=>hk s2 r2 hL (hm.trans hm2)
  have skip:∀{s0:SS} {t':T},r8 fl false ops (s0.bB o.dst un)=some t'->r.length=s0.nv->bW P L R t' r S->wpOps P ops (bB (bJ s0 r) o.dst (.a9 [])) (bp s0 r) K:=by
   intro s0 t' ht zQ hw;have:(un).ev r= .a9 []:=rfl;rw[←this,←pV,←pU s0 o.dst un r];exact sq ops ht (by rw[tM];exact zQ) hr hw hk
  simp only[r8,ajd]at h;simp only[wpOps]
  split at h
  ·rename_i hg
   split at h
   ·rename_i ns v s' hx;simp only[map_eq_some_iff]at h;obtain⟨t',ht,rfl⟩:=h;rw[hg];exact step hx ht hl hw
   ·cases h
  ·rename_i g want hg
   split at h
   ·rename_i b hb;have heb:bJ s r g= .v (.bool b):=by simp only[bJ,hb];rfl
    rw[hg];simp only[heb]
    split at h
    ·rename_i m8;simp only[hb]at h;rw[if_pos m8]at h;subst m8
     split at h
     ·rename_i ns v s' hx;simp only[map_eq_some_iff]at h;obtain⟨t',ht,rfl⟩:=h;rw[pY heb];refine⟨λ _=>step hx ht hl hw,λ h=> ?_⟩;cases b<;>simp at h
     ·cases h
    ·rename_i m8;have mI:b= !want:=by cases b<;>cases want<;>simp_all
     refine⟨λ h=>(m8 h).elim,λ _=> ?_⟩;rw[pY (by rw[heb,mI])];exact skip h hl hw
   ·rename_i hb;have heb:bJ s r g= .a9 []:=by simp only[bJ,hb];rfl
    rw[hg];simp only[heb];exact skip h hl hw
   ·split at h
    ·rename_i c hc;have hec:bJ s r g=c.ev r:=by simp only[bJ,hc];rfl
     split at h
     ·rename_i ns v s' hx
      split at h
      ·rename_i t1 t2 h1 h2;simp only[Option.some.injEq]at h;rw[hg];simp only[hec]
       have key:∃b,c.ev r= .v (.bool b)/\(b=want->bW P L R (wrap ns t1) r S)/\(b= !want->bW P L R t2 r S):=by
        subst h;cases want
        ·simp only[false_eq_true,if_false,bW]at hw
         split at hw
         ·rename_i b hb;exact⟨b,hb,hw.2,λ h=>hw.1 (by simpa using h)⟩
         ·exact hw.elim
        ·simp only[if_true,bW]at hw
         split at hw
         ·rename_i b hb;exact⟨b,hb,hw.1,λ h=>hw.2 (by simpa using h)⟩
         ·exact hw.elim
       obtain⟨b,hb,k1,k2⟩:=key;simp only[hb];have e1:∀b':Bool,(bJ s r).set g (.v (.bool b'))=bJ (s.set g (.d (.c (.v (.bool b'))))) r:=λ b'=>by rw[zJ];rfl
       refine⟨λ m8=> ?_,λ m8=> ?_⟩
       ·rw[e1];exact step hx h1 hl (k1 m8)
       ·rw[e1];exact skip h2 hl (k2 m8)
      ·cases h
     ·cases h
    ·cases h
   ·cases h
theorem air{a:AV}(h:a.ag=true):refs a= []:=by
 cases a<;>first|rfl|(simp[AV.ag]at h)
theorem aw4{s:SS}(hc:s.cl=true){r:List AV}(hl:r.length=s.nv)(hr:AV.ae r=true)(x:aC):refs (x.ev (bJ s r))=rfS s x:=by
 cases x with
 |c a=>rfl
 |t n=>
  simp only[aC.ev,bJ,rfS];have:=SS.rH hc n;generalize lk s.env n=v at this;cases v<;>try rfl
  exact air (D.bz hr _ (by rw[hl];exact this))
theorem aiT{op:dY}{s:SS}(hc:s.cl=true){r:List AV}(hl:r.length=s.nv)(hr:AV.ae r=true):ch op (bJ s r) (bp s r).length=aol op s:=by
 unfold ch aol;rw[show(λ x=>refs (aC.ev (bJ s r) x))=rfS s from funext λ x=>aw4 hc hl hr x,du]
theorem zV{op:dY}{s:SS}{q}(h:mK op s=some q):s.cl=true:=by
 unfold mK at h
 split at h
 ·rename_i h1;exact h1.1
 ·cases h
theorem o6{rows:List (List Nat)}{all:List aH}{L:AX->SS->List AV->Prop}{R:AV->Prop}{S:List (List AV->Prop)}{K:Env->List aa->Prop}:∀(ops:List aH) {acc:List iD} {s:SS} {t:T},nI rows all ops acc s=some t->∀{r:List AV},r.length=s.nv->AV.ae r=true->
  bW P L R t r S->(∀s' r',L .normal s' r'->kO r r' s'.nv->K (bJ s' r') (bp s' r'))->cd P ops acc (bJ s r) (bp s r) λ iM e O=>iR rows (all.zip iM)=true/\K e O
 | [],acc,s,t,h,r,hl,hr,hw,hk=>by
   simp only[nI]at h
   split at h
   ·rename_i hd;simp only[Option.some.injEq]at h;subst h;simp only[cd];exact⟨hd,hk s r hw ⟨⟨[],by simp⟩,hl,hr⟩⟩
   ·cases h
 |o::ops,acc,s,t,h,r,hl,hr,hw,hk=>by
  have step:∀{s0:SS} {ns:List Node} {v:SV} {s':SS} {t':T} {ajE:List iD},mK o.op s0=some (ns,v,s')->nI rows all ops ajE (s'.bB o.dst v)=some t'->r.length=s0.nv->bW P L R (wrap ns t') r S->
    wpOp P o.op (bJ s0 r) (bp s0 r) λ x O'=>cd P ops ajE (bB (bJ s0 r) o.dst x) O' λ iM e O=>iR rows (all.zip iM)=true/\K e O:=by
   intro s0 ns v s' t' ajE hx ht zQ hw;rw[sx]at hw;refine so hx zQ hr hw λ r' hG hm he=> ?_
   rw[←he,←pV,←pU s' o.dst v r'];refine o6 ops ht (by rw[tM];exact hm.len) hm.nor hG λ s2 r2 hL hm2=>hk s2 r2 hL (hm.trans hm2)
  have skip:∀{s0:SS} {t':T} {ajE:List iD},nI rows all ops ajE (s0.bB o.dst un)=some t'->r.length=s0.nv->bW P L R t' r S->cd P ops ajE (bB (bJ s0 r) o.dst (.a9 [])) (bp s0 r) λ iM e O=>iR rows (all.zip iM)=true/\K e O:=by
   intro s0 t' ajE ht zQ hw;have:(un).ev r= .a9 []:=rfl;rw[←this,←pV,←pU s0 o.dst un r];exact o6 ops ht (by rw[tM];exact zQ) hr hw hk
  simp only[nI]at h;simp only[cd]
  split at h
  ·rename_i hg
   split at h
   ·rename_i ns v s' hx;simp only[map_eq_some_iff]at h;obtain⟨t',ht,rfl⟩:=h;rw[hg];simp only[aiT (zV hx) hl hr];exact step hx ht hl hw
   ·cases h
  ·rename_i g want hg
   split at h
   ·rename_i b hb;have heb:bJ s r g= .v (.bool b):=by simp only[bJ,hb];rfl
    rw[hg];simp only[heb]
    split at h
    ·rename_i m8;subst m8
     split at h
     ·rename_i ns v s' hx;simp only[map_eq_some_iff]at h;obtain⟨t',ht,rfl⟩:=h;rw[pY heb];refine⟨λ _=> ?_,λ h=> ?_⟩
      ·simp only[aiT (zV hx) hl hr];exact step hx ht hl hw
      ·cases b<;>simp at h
     ·cases h
    ·rename_i m8;have mI:b= !want:=by cases b<;>cases want<;>simp_all
     refine⟨λ h=>(m8 h).elim,λ _=> ?_⟩;rw[pY (by rw[heb,mI])];exact skip h hl hw
   ·rename_i hb;have heb:bJ s r g= .a9 []:=by simp only[bJ,hb];rfl
    rw[hg];simp only[heb];exact skip h hl hw
   ·rename_i c _ _ hc;have hec:bJ s r g=c.ev r:=by simp only[bJ,hc];rfl
    split at h
    ·rename_i ns v s' hx
     split at h
     ·rename_i t1 t2 h1 h2;simp only[Option.some.injEq]at h;rw[hg];simp only[hec]
      have key:∃b,c.ev r= .v (.bool b)/\(b=want->bW P L R (wrap ns t1) r S)/\(b= !want->bW P L R t2 r S):=by
       subst h;cases want
       ·simp only[false_eq_true,if_false,bW]at hw
        split at hw
        ·rename_i b hb;exact⟨b,hb,hw.2,λ h=>hw.1 (by simpa using h)⟩
        ·exact hw.elim
       ·simp only[if_true,bW]at hw
        split at hw
        ·rename_i b hb;exact⟨b,hb,hw.1,λ h=>hw.2 (by simpa using h)⟩
        ·exact hw.elim
      obtain⟨b,hb,k1,k2⟩:=key;simp only[hb];have e1:∀b':Bool,(bJ s r).set g (.v (.bool b'))=bJ (s.set g (.d (.c (.v (.bool b'))))) r:=λ b'=>by rw[zJ];rfl
      have e2:∀b':Bool,bp s r=bp (s.set g (.d (.c (.v (.bool b'))))) r:=λ b'=>rfl
      refine⟨λ m8=> ?_,λ m8=> ?_⟩
      ·rw[e1,e2 want];simp only[aiT (s:=s.set g (.d (.c (.v (.bool want))))) (zV hx) hl hr];exact step hx h1 hl (k1 m8)
      ·rw[e1,e2 (!want)];exact skip h2 hl (k2 m8)
     ·cases h
    ·cases h
   ·cases h
theorem ae5{n0:Nat}(s:SS)(t m:Nat):Wk n0 s {s with an:=s.an++ [.row true t m (.c (.sl []))]}:=by
 refine⟨rfl,λ r hl hr=> ?_⟩;refine WK.aaX t m (by simp[bp]) (by simp[bp,SO.ev,D.ev,aR]) (λ j hj=> .inl ?_) λ q=> .inl rfl
 simp only[bp,map_append];rw[getElem?_append_left (by simpa [bp]using hj)]
theorem kz{n0:Nat}:∀(ops:List aH) (s:SS),Wk n0 s (jr ops s).2/\(jr ops s).1.map aH.strip=ops.map aH.strip
 | [],s=>⟨.refl _ _,rfl⟩
 |o::r,s=>by
  obtain⟨g,d,op⟩:=o;simp only[jr]
  split
  ·rename_i _ t m z;obtain⟨h1,h2⟩:=kz (n0:=n0) r {s with an:=s.an++ [.row true t m (.c (.sl []))]};exact⟨(ae5 s t m).trans h1,by simp only[map_cons,h2];rfl⟩
  ·rename_i _ t m x;obtain⟨h1,h2⟩:=kz (n0:=n0) r {s with an:=s.an++ [.row true t m (.c (.sl []))]};exact⟨(ae5 s t m).trans h1,by simp only[map_cons,h2];rfl⟩
  ·rename_i _ t m len z ps;obtain⟨h1,h2⟩:=kz (n0:=n0) r {s with an:=s.an++ [.row true t m (.c (.sl []))]};exact⟨(ae5 s t m).trans h1,by simp only[map_cons,h2];rfl⟩
  ·obtain⟨h1,h2⟩:=kz (n0:=n0) r s;exact⟨h1,by simp only[map_cons,h2]⟩
theorem ab7{rows:List (List Nat)}{ops:List aH}{n0:Nat}:∀(n:Nat) {s s1:SS} {al:List aH} {t:T},ahB rows ops n s=some (s1,al,t)->Wk n0 s s1/\al.map aH.strip=ops.map aH.strip/\nI rows al al [] s1=some t
 |0,s,s1,al,t,h=>by simp[ahB]at h
 |n+1,s,s1,al,t,h=>by
  simp only[ahB]at h
  split at h
  ·rename_i t0 ht;cases h;exact⟨.refl _ _,rfl,ht⟩
  ·split at h
   ·split at h
    ·rename_i t0 ht;cases h;obtain⟨h1,h2⟩:=kz (n0:=n0) ops s;exact⟨h1,h2,ht⟩
    ·cases h
   ·obtain⟨q1,q2⟩:=ab7 n h;exact⟨(amb _ _).trans q1,q2⟩
end
end Go.Ab
namespace Go.Ab
section
variable {P:Program}
theorem aor(live:List Nat)(s:SS)(t:Nat):lk (aot live s).env t=if live.contains t=true then lk s.env t else .top:=by
 have key:∀(l:List Nat),lk (l.filterMap λ t=>match lk s.env t with| .top=>none|v=>some (t,v)) t=if l.contains t=true then lk s.env t else .top:=by
  intro l
  induction l with
  |nil=>rfl
  |cons q l ih=>
   simp only[List.filterMap_cons,List.contains_cons];by_cases hq:t=q
   ·subst hq;simp only[BEq.rfl,Bool.true_or,if_true]
    split
    ·rename_i h
     split at h
     ·rename_i h2;rw[h2]at ih⊢;rw[ih];simp
     ·cases h
    ·rename_i p h
     split at h
     ·cases h
     ·cases h;simp[lk]
   ·have hb:(t==q)=false:=by simpa using hq
    simp only[hb,Bool.false_or]
    split
    ·exact ih
    ·rename_i p h
     split at h
     ·cases h
     ·cases h;simp only[lk,if_neg hq];exact ih
 exact key live
theorem aos(live:List Nat)(s:SS)(r:List AV):bJ (aot live s) r=wG live (bJ s r):=by
 funext t
 simp only[bJ,aor,wG]
 split<;>rfl
theorem td{n0:Nat}{body:SS->Option T}:∀(n:Nat) {s h s1 h1:SS} {t:T},x5 body n s h=some (s1,h1,t)->Wk n0 s s1/\body h1=some t
 |0,s,h,s1,h1,t,hh=>by simp[x5]at hh
 |n+1,s,h,s1,h1,t,hh=>by
  simp only[x5]at hh
  split at hh
  ·cases hh
  ·rename_i t0 hb
   split at hh
   ·rename_i c hc
    split at hh
    ·cases hh
    ·obtain⟨q1,q2⟩:=td n hh;exact⟨(akB s c).trans q1,q2⟩
   ·split at hh
    ·cases hh;exact⟨.refl _ _,hb⟩
    ·exact td n hh
theorem uW{n0:Nat}{body:SS->Option T}:∀(n:Nat) {s s1:SS} {t:T},th body n s=some (s1,t)->Wk n0 s s1/\body s1=some t
 |0,s,s1,t,hh=>by simp[th]at hh
 |n+1,s,s1,t,hh=>by
  simp only[th]at hh
  split at hh
  ·cases hh
  ·rename_i t0 hb
   split at hh
   ·split at hh
    ·rename_i c hc;obtain⟨q1,q2⟩:=uW n hh;exact⟨(akB s c).trans q1,q2⟩
    ·cases hh;exact⟨.refl _ _,hb⟩
   ·cases hh;exact⟨.refl _ _,hb⟩
theorem apG{b:aK}{q:List (List Nat)×List aH}(h:b.drawn=some q):b= .region (some q.1) q.2:=by
 cases b<;>simp only[aK.drawn,reduceCtorEq]at h
 rename_i d ops;cases d<;>simp only[reduceCtorEq,Option.some.injEq]at h
 subst h;rfl
theorem alQ{b:aK}(h:b.aiX=true):∃c,b= .mb c:=by
 cases b<;>first|exact⟨_,rfl⟩|(simp[aK.aiX]at h)
theorem zX{n0:Nat}{fl:List Nat}(c:aK):∀{s:SS} {t:T},xC n0 fl c s=some t->∀{r:List AV},r.length=s.nv->AV.ae r=true->∀{L:AX->SS->List AV->Prop} {R:AV->Prop} {S:List (List AV->Prop)} {Q:AX->Env->List aa->Prop},
  bW P L R t r S->(∀x s' r',L x s' r'->kO r r' s'.nv->Q x (bJ s' r') (bp s' r'))->kZ P n0 c Q (bJ s r) (bp s r):=by
 induction c with
 |skip=>
  intro s t h r hl hr L R S Q hw hq;simp only[xC,Option.some.injEq]at h;subst h;exact hq _ _ _ hw ⟨⟨[],by simp⟩,hl,hr⟩
 |region d ops=>
  intro s t h r hl hr L R S Q hw hq;cases d with
  |none=>exact sq ops h hl hr hw λ s' r' hL hm=>hq _ _ _ hL hm
  |some rows=>exact⟨ops,rfl,o6 ops h hl hr hw λ s' r' hL hm=>hq _ _ _ hL hm⟩
 |gK ops=>
  intro s t h r hl hr L R S Q hw hq;exact uZ ops h hl hr hw λ s' r' hL hm=>hq _ _ _ hL hm
 |exit id=>
  intro s t h r hl hr L R S Q hw hq;simp only[xC,Option.some.injEq]at h;subst h;exact hq _ _ _ hw ⟨⟨[],by simp⟩,hl,hr⟩
 |ret=>
  intro s t h r hl hr L R S Q hw hq;simp only[xC,Option.some.injEq]at h;subst h;exact hq _ _ _ hw ⟨⟨[],by simp⟩,hl,hr⟩
 |seq a b iha ihb=>
  intro s t h r hl hr L R S Q hw hq;simp only[xC]at h
  split at h
  ·cases h
  ·rename_i t0 ha
   split at h
   ·rename_i qu;obtain⟨b',rfl⟩:=alQ qu.1
    split at h
    ·rename_i t1 t2 h1 h2;cases h;simp only[bW]at hw;have hf:=yN h1 hw;refine iha ha hl hr hf λ x s' r' hL hm=> ?_
     obtain⟨t3,e3,w3⟩:=hL
     have oth:∀{x'},t3= .eB (.leaf x' s')->x'=x->Q x (bJ s' r') (bp s' r'):=by
      intro x' h3 hx;subst h3;subst hx;simp only[bW]at w3;exact hq _ _ _ w3 hm
     cases x with
     |exit i=>cases e3;exact oth rfl rfl
     |ret=>cases e3;exact oth rfl rfl
     |normal=>
      simp only[map_eq_some_iff]at e3;obtain⟨vs,hco,rfl⟩:=e3;simp only[bW]at w3;obtain⟨m,rfl⟩:=hm.pre;obtain⟨c1,c2,c3⟩:=rG hco hl hm.len hm.nor;have w4:=w3 (by rw[D.aJ,length_map,c1]);obtain⟨e',O',hwk,pL⟩:=ihb h2 c2.len c2.nor w4 λ x s2 r2 uD hm2=>hq x s2 r2 uD (c2.trans hm2)
      exact⟨e',O',c3.trans hwk,pL⟩
    ·cases h
   ·have hf:=yN h hw;refine iha ha hl hr hf λ x s' r' hL hm=> ?_
    obtain⟨t3,e3,w3⟩:=hL;cases x with
    |exit i=>cases e3;exact hq _ _ _ w3 hm
    |ret=>cases e3;exact hq _ _ _ w3 hm
    |normal=>exact ihb e3 hm.len hm.nor w3 λ x s2 r2 uD hm2=>hq x s2 r2 uD (hm.trans hm2)
 |cond c a b iha ihb=>
  intro s t h r hl hr L R S Q hw hq;simp only[xC]at h;simp only[kZ,←aP]
  split at h
  ·rename_i bb hc;rw[hc];simp only[SV.ev,D.ev]
   split at h
   ·rename_i hb;refine⟨λ _=>iha h hl hr hw hq,λ h=> ?_⟩;rw[hb]at h;cases h
   ·rename_i hb;refine⟨λ h=>(hb h).elim,λ _=>ihb h hl hr hw hq⟩
  ·rename_i d _ hc
   split at h
   ·rename_i t1 t2 h1 h2
    split at h
    ·cases h;rw[hc];simp only[bW]at hw;simp only[SV.ev]
     split at hw
     ·rename_i bb hb;rw[hb];exact⟨λ h=>iha h1 hl hr (hw.1 h) hq,λ h=>ihb h2 hl hr (hw.2 h) hq⟩
     ·exact hw.elim
    ·cases h
   ·cases h
  ·cases h
 |block id b ih=>
  intro s t h r hl hr L R S Q hw hq;simp only[xC]at h
  split at h
  ·cases h
  ·rename_i t0 hb;have hf:=yN h hw;refine ih hb hl hr hf λ x s' r' hL hm=> ?_
   obtain⟨t3,e3,w3⟩:=hL;cases x with
   |normal=>cases e3;exact hq _ _ _ w3 hm
   |ret=>cases e3;exact hq _ _ _ w3 hm
   |exit i=>
    simp only[Option.some.injEq]at e3;simp only
    split
    ·rename_i hi;rw[if_pos hi]at e3;subst e3;exact hq _ _ _ w3 hm
    ·rename_i hi;rw[if_neg hi]at e3;subst e3;exact hq _ _ _ w3 hm
 |loop b ih=>
  intro s t h r hl hr L R S Q hw hq;simp only[xC]at h
  split at h
  ·cases h
  ·rename_i s1 hd t0 hh;obtain⟨hwk,hb⟩:=td 8 hh
   split at h
   ·rename_i init hco
    split at h
    ·rename_i t1 h1;cases h;obtain⟨J,n,hJ0,aja⟩:=hw;have uC:r.length=s1.nv:=hl.trans hwk.1.symm;obtain⟨c1,c2,c3⟩:=rG (rb:=r) (m:=[]) hco uC (by simpa using uC) (by simpa using hr);simp only[append_nil]at c1 c2 c3;refine⟨λ n e O=>∃vs,J n vs/\vs.length=init.length/\kO r (r++vs) hd.nv/\e=bJ hd (r++vs)/\O=bp hd (r++vs),n,⟨_,_,(hwk.2 r hl hr).trans c3,D.aX r init,hJ0,by rw[D.aJ,length_map],c2,rfl,rfl⟩,?_⟩;rintro n e O ⟨vs,hJ,hlen,hm0,rfl,rfl⟩;have hf:=yN h1 (aja n vs hJ hlen);refine ih hb hm0.len hm0.nor hf λ x s' r' hL hm=> ?_
     obtain⟨t3,e3,w3⟩:=hL;cases x with
     |exit i=>cases e3;simp only[bW]at w3;exact hq _ _ _ w3 (hm0.trans hm)
     |ret=>cases e3;simp only[bW]at w3;exact hq _ _ _ w3 (hm0.trans hm)
     |normal=>
      simp only[map_eq_some_iff]at e3;obtain⟨vs',aB7,rfl⟩:=e3;simp only[bW]at w3;obtain⟨m',aw,hJ'⟩:=w3;obtain⟨m2,rfl⟩:=hm.pre;have rl:=hm.nor;have oW:=hm.len;rw[List.append_assoc]at rl oW hJ'⊢;obtain⟨d1,d2,d3⟩:=rG (rb:=r) (m:=vs++m2) aB7 uC oW rl;exact⟨m',_,_,aw,d3,_,hJ',by rw[D.aJ,length_map,d1,c1],d2,rfl,rfl⟩
    ·cases h
   ·cases h
 |ai live c ih=>
  intro s t h r hl hr L R S Q hw hq;simp only[xC]at h
  split at h
  ·cases h
  ·rename_i t0 hb;have hf:=yN h hw;refine ih hb hl hr hf λ x s' r' hL hm=> ?_
   obtain⟨t3,e3,w3⟩:=hL;cases x with
   |exit i=>cases e3;exact hq _ _ _ w3 hm
   |ret=>cases e3;exact hq _ _ _ w3 hm
   |normal=>
    cases e3;simp only;rw[←aos];exact hq _ _ _ w3 hm
 |mb c ih=>
  intro s t h r hl hr L R S Q hw hq;simp only[xC]at h
  split at h
  ·split at h
   ·rename_i q hc;obtain⟨s1,t1⟩:=q;cases h;obtain⟨hwk,hb⟩:=uW 6 hc;exact⟨_,_,hwk.2 r hl hr,ih hb (hl.trans hwk.1.symm) hr hw hq⟩
   ·cases h
  ·split at h
   ·rename_i q hd;simp only[map_eq_some_iff]at h;obtain⟨⟨s1,al,t1⟩,hdr,rfl⟩:=h;obtain⟨hwk,pK,hx⟩:=ab7 (n0:=n0) 6 hdr;have hc:=apG hd;subst hc;exact⟨_,_,hwk.2 r hl hr,al,pK,o6 al hx (hl.trans hwk.1.symm) hr hw λ s' r' hL hm=>hq _ _ _ hL hm⟩
   ·exact⟨_,_,.refl _ _ _,ih h hl hr hw hq⟩
theorem ea:∀(c:aK),c.weaken.strip=c.strip
 | .skip=>rfl
 | .region none ops=>rfl
 | .region (some rows) ops=>rfl
 | .seq a b=>by simp only[aK.weaken,aK.strip,ea a,ea b]
 | .cond c t f=>by simp only[aK.weaken,aK.strip,ea t,ea f]
 | .block id b=>by simp only[aK.weaken,aK.strip,ea b]
 | .loop b=>by simp only[aK.weaken,aK.strip,ea b]
 | .exit id=>rfl
 | .ret=>rfl
 | .ai l c=>by simp only[aK.weaken,aK.strip,ea c]
 | .mb c=>by simp only[aK.weaken,aK.strip,ea c]
 | .gK ops=>rfl
def lZ.weaken(A:lZ):lZ:={A with code:= .mb A.code.weaken}
theorem rK.weaken{f:FuncId}{A:lZ}(h:rK P f A):rK P f A.weaken:=by
 obtain⟨fn,code,h1,h2,h3,h4,h5,h6,h7⟩:=h;exact⟨fn,code,h1,h2,h3,h4,h5,h6.trans (congrArg some (ea A.code).symm),h7⟩
def rE(n:Nat):SS:=⟨(List.range n).map λ i=>(i,.d (.x i)),[],n,[]⟩
theorem ahz(args:List AV):∀t,bJ (rE args.length) args t= .top∨bJ (rE args.length) args t=oj args t:=by
 intro t
 have key:∀(n k:Nat),lk ((List.range' k n).map λ i=>(i,SV.d (.x i))) t=if k<=t/\t<k+n then .d (.x t)else .top:=by
  intro n
  induction n with
  |zero=>intro k;rw[if_neg (by omega)];rfl
  |succ n ih=>
   intro k;simp only[List.range'_succ,map_cons,lk,ih];by_cases h:t=k
   ·subst h;simp
   ·rw[if_neg h];by_cases h2:k+1<=t/\t<k+1+n
    ·rw[if_pos h2,if_pos (by omega)]
    ·rw[if_neg h2,if_neg (by omega)]
 simp only[bJ,rE,List.range_eq_range'];rw[key]
 split
 ·rename_i h;refine .inr ?_;simp only[SV.ev,D.ev,oj,List.getD];have:t<args.length:=by omega
  rw[getElem?_eq_getElem this];rfl
 ·exact .inl rfl
inductive xg(O:List aa):AV->AV->Prop
 |refl (a:AV):a.ag=true->xg O a a
 |row (n t s:Nat) (xs:List AV):(O[n]? =some (.live t s xs)∨(O[n]? =some (.nil t s)/\xs= []))->AV.ae xs=true->xg O (.row n xs.length) (.sl xs)
 |agg (cs ds:List AV):cs.length=ds.length->(∀(i:Nat) c d,cs[i]? =some c->ds[i]? =some d->xg O c d)->xg O (.agg cs) (.agg ds)
 |a9 (cs ds:List AV):cs.length=ds.length->(∀(i:Nat) c d,cs[i]? =some c->ds[i]? =some d->xg O c d)->xg O (.a9 cs) (.a9 ds)
theorem xg.sound{I:cZ}{L:Nat->Loc}{O:List aa}{w:World}(hi:Inv I L O w){a b:AV}(h:xg O a b):∀{x:Value},R I L O a x->R (allI I L O w) L [] b x:=by
 induction h with
 |refl a hn=>intro x hr;exact hr.ag (xf hi) hn
 |row n t s xs hO hn=>
  intro x hr;rcases hO with hO|⟨hO,rfl⟩
  ·have:=hr.dA hO rfl;subst this;obtain⟨c,⟨kS,h1,cL⟩,h2,h3,h4,h5,h6⟩:=hi.obj n t s xs hO;have hlb:LB L O (L n).aZ:= .inl ⟨n,t,s,xs,hO,rfl⟩;by_cases hx:xs= []
   ·subst hx;exact .nP _ _
   ·refine(.sl xs (L n).aZ 0 (L n).cap s (λ i j=>(c[i*s+j]?).getD undef) h3 hx (λ i x hx=>(h6 i x hx).1) (λ i x j d hx hj=> ?_) λ i x j d hx hj=> ?_)
    ·obtain⟨y,hy,ho,_⟩:=(h6 i x hx).2 j d hj;unfold allI;rw[if_pos hlb,zero_add,eC h1,hy];exact⟨rfl,ho⟩
    ·obtain⟨y,hy,ho,pF⟩:=(h6 i x hx).2 j d hj;rw[hy];exact pF.ag (xf hi) (ej (aW hn x (mem_of_getElem? hx)) d (mem_of_getElem? hj))
  ·obtain⟨rfl,_⟩:=hr.lU hO;exact .nP _ _
 |agg cs ds h _ ih=>
  intro x hr;cases hr with
  |agg _ vs hl hr=>
   refine .agg _ _ (by omega) λ i d v hd hv=> ?_
   have hc:cs[i]? =some (cs[i]'(by have:=(List.getElem?_eq_some_iff.1 hd).1;omega)):=by simp
   exact ih i _ _ hc hd (hr i _ v hc hv)
 |a9 cs ds h _ ih=>
  intro x hr;cases hr with
  |a9 _ vs hl hr=>
   refine .a9 _ _ (by omega) λ i d v hd hv=> ?_
   have hc:cs[i]? =some (cs[i]'(by have:=(List.getElem?_eq_some_iff.1 hd).1;omega)):=by simp
   exact ih i _ _ hc hd (hr i _ v hc hv)
theorem anw{rs:List dg}{res:AV}{x:AX}(hx:x= .ret∨x= .normal){e:Env}{O:List aa}(h:cK e O rs [] λ xs=>xg O (bn xs) res):mW 0 rs res [] x e O:=by
 have key:∀(rs:List dg) (acc:List AV) (M M':List AV->Prop),(∀xs,M xs->M' xs)->cK e O rs acc M->cK e O rs acc M':=by
  intro rs
  induction rs with
  |nil=>intro acc M M' hm h;exact hm _ h
  |cons r rs ih=>
   intro acc M M' hm h;cases r with
   |tmp t=>exact ih _ _ _ hm h
   |cell t n=>
    simp only[cK,dg.get]at h⊢
    split at h
    ·split at h
     ·exact⟨h.1,ih _ _ _ hm h.2⟩
     ·exact h.elim
    ·exact h.elim
 have:cK e O rs [] λ xs=>∃e',WK 0 (λ t=>if t=0 then bn xs else .top) O e' []/\e' 0=res:=by
  refine key rs _ _ _ (λ xs hp=>⟨λ t=>if t=0 then res else .top,?_,rfl⟩) h;intro I0 L0 O0 w0 I L w f hl hg hr;obtain rfl:O0= []:=List.eq_nil_of_length_eq_zero hl;refine⟨_,L,hg.all,λ t=> ?_⟩;by_cases ht:t=0
  ·subst ht;have h0:=hr 0;simp only[if_true]at h0⊢;exact hp.sound hg.inv h0
  ·simp only[if_neg ht];exact .top _
 rcases hx with rfl|rfl<;>exact this
section
variable {s:SS} {r:List AV}
theorem ab3(hl:r.length=s.nv)(hr:AV.ae r=true)(hc:s.cl=true){v:SV}{d:D}(h:ar9 s v=some d)(hv:v.cl s.nv=true):xg (bp s r) (v.ev r) (d.ev r):=by
 unfold ar9 at h
 split at h
 ·cases h;exact .refl _ (D.bz hr _ (by rw[hl];exact hv))
 ·rename_i n l
  split at h
  ·rename_i kB;cases h;obtain⟨⟨nl,e,sz⟩,hq⟩:=Option.isSome_iff_exists.1 kB;have hn:=cj (D.bz hr l (by rw[hl];exact hv));simp only[SV.ev,D.ev];refine .row n e sz _ ?_ hn;rcases eO (dL hq) r with h|⟨h,h',_⟩
   ·exact .inl h
   ·exact .inr ⟨h,h'⟩
  ·cases h
 ·cases h
theorem yL(hl:r.length=s.nv)(hr:AV.ae r=true)(hc:s.cl=true):∀{vs:List SV} {ds:List D},ahw s vs=some ds->SV.cls s.nv vs=true->vs.length=ds.length/\∀(i:Nat) c d,(SV.aX r vs)[i]? =some c->(D.aX r ds)[i]? =some d->xg (bp s r) c d
 | [],ds,h,_=>by simp only[ahw,Option.some.injEq]at h;subst h;exact⟨rfl,by simp[SV.aX]⟩
 |v::vs,ds,h,mS=>by
  simp only[ahw]at h
  split at h
  ·rename_i d ds' h1 h2;cases h;simp only[SV.cls,and_eq_true]at mS;obtain⟨k1,k2⟩:=yL hl hr hc h2 mS.2;refine⟨by simp[k1],λ i c d' hi ei=> ?_⟩;cases i with
   |zero=>
    simp only[SV.aX,D.aX,List.getElem?_cons_zero,Option.some.injEq]at hi ei;subst hi;subst ei;exact ab3 hl hr hc h1 mS.1
   |succ i=>exact k2 i c d' (by simpa [SV.aX]using hi) (by simpa [D.aX]using ei)
  ·cases h
theorem ajk(hl:r.length=s.nv)(hr:AV.ae r=true)(hc:s.cl=true){v:SV}{d:D}(h:avO s v=some d)(hv:v.cl s.nv=true):xg (bp s r) (v.ev r) (d.ev r):=by
 unfold avO at h
 split at h
 ·rename_i cs;simp only[map_eq_some_iff]at h;obtain⟨ds,h1,rfl⟩:=h;obtain⟨k1,k2⟩:=yL hl hr hc h1 hv;exact .agg _ _ (by simp[SV.aJ,D.aJ,k1]) k2
 ·exact ab3 hl hr hc h hv
theorem yM(hl:r.length=s.nv)(hr:AV.ae r=true)(hc:s.cl=true):∀{rs:List dg} {ds:List D},ab4 s rs=some ds->∀(acc:List AV) (M:List AV->Prop),
  (∀xs:List AV,xs.length=ds.length->(∀(i:Nat) c d,xs[i]? =some c->(D.aX r ds)[i]? =some d->xg (bp s r) c d)->M (acc.reverse++xs))->cK (bJ s r) (bp s r) rs acc M
 | [],ds,h,acc,M,hM=>by
   simp only[ab4,Option.some.injEq]at h;subst h;have:=hM [] rfl (by simp);simpa [cK]using this
 |q::rs,ds,h,acc,M,hM=>by
  simp only[ab4]at h
  split at h
  ·rename_i v hv
   split at h
   ·rename_i d ds' h1 h2;cases h
    have cont:∀{x:AV},x=v.ev r->v.cl s.nv=true->cK (bJ s r) (bp s r) rs (x::acc) M:=by
     rintro x rfl mS;refine yM hl hr hc h2 _ _ λ xs hlen hx=> ?_
     have:=hM (v.ev r::xs) (by simp[hlen]) (λ i c d' hi ei=> ?_)
     ·simpa using this
     ·cases i with
      |zero=>
       simp only[D.aX,List.getElem?_cons_zero,Option.some.injEq]at hi ei;subst hi;subst ei;exact ajk hl hr hc h1 mS
      |succ i=>exact hx i c d' (by simpa using hi) (by simpa [D.aX]using ei)
    cases q with
    |tmp t=>
     simp only[adw,Option.some.injEq]at hv;subst hv;exact cont rfl (SS.rH hc t)
    |cell t n=>
     simp only[adw]at hv
     split at hv
     ·rename_i k hk
      split at hv
      ·rename_i e cs hb;have oh:=j8 hb;have aB9:SV.cls s.nv cs=true:=SS.vL hc (mem_of_getElem? oh);simp only[cK,dg.get,bJ,hk,SV.ev];rw[fT oh r];simp only[SO.ev]
       split at hv
       ·cases hv
       ·rename_i m
        split at hv
        ·rename_i hm;cases hv;have hx:nw (SV.aX r cs)= .agg (SV.aX r cs):=ew (by rw[SV.aJ];simpa [hm.1]using hm.2);rw[hx];refine⟨by simp[AV.cells,SV.aJ,hm.1],?_⟩;rw[fN rfl (by simp[AV.cells,SV.aJ,hm.1])];exact cont rfl aB9
        ·cases hv
      ·cases hv
     ·cases hv
   ·cases h
  ·cases h
end
def avN(rs:List dg)(x:AX)(s:SS):Option T:=
 match x with
 | .exit _=>none
 |_=>if s.cl=true then(ab4 s rs).map .ret else none
def lZ.left(fl:List Nat)(A:lZ):Option T:=
 match xC 0 fl A.weaken.code (rE A.cg)with
 |some t=>t.fill (avN A.res) 0
 |none=>none
theorem ar8{rs:List dg}{s:SS}{r:List AV}{ds:List D}(hl:r.length=s.nv)(hr:AV.ae r=true)(hc:s.cl=true)(h:ab4 s rs=some ds){x:AX}(hx:x= .ret∨x= .normal):mW 0 rs (bn (D.aX r ds)) [] x (bJ s r) (bp s r):=by
 refine anw hx (yM hl hr hc h [] _ λ xs hlen rh=> ?_);simp only[reverse_nil,nil_append];by_cases h1:ds.length=1
 ·obtain⟨d,rfl⟩:=List.length_eq_one_iff.1 h1;obtain⟨a,rfl⟩:=List.length_eq_one_iff.1 (hlen.trans h1);exact rh 0 a (d.ev r) rfl rfl
 ·have p1:bn xs= .a9 xs:=by
    unfold bn;split
    ·simp at hlen;omega
    ·rfl
  have p2:bn (D.aX r ds)= .a9 (D.aX r ds):=by
   unfold bn;split
   ·rename_i h2;have:=congrArg List.length h2;rw[D.aJ]at this;simp at this;omega
   ·rfl
  rw[p1,p2];exact .a9 _ _ (by rw[D.aJ];simpa using hlen) rh
theorem apK{f:FuncId}{A:lZ}{fl:List Nat}{t:T}(hf:rK P f A)(ht:A.left fl=some t){args:List AV}(hl:args.length=A.cg)(hn:AV.ae args=true){res:AV}
  (h:bW P (λ _ _ _=>False) (λ a=>a=res) t args []):a7 P f args res:=by
 refine cY (hf.weaken) hl ?_;unfold lZ.left at ht
 split at ht
 ·rename_i t0 h0;have hw:=yN ht h;have hs:=zX (P:=P) (fl:=fl) (lZ.weaken A).code (s:=rE A.cg) h0 (r:=args) hl hn hw (Q:=mW 0 A.res res []) λ x s r hL hm=> ?_
  ·obtain⟨e',O',hwk,hc⟩:=hs;refine⟨e',O',?_,hc⟩;refine WK.trans ?_ hwk;have he:bp (rE A.cg) args= []:=rfl;rw[he,←hl];exact WK.env (ahz args)
  ·obtain⟨t2,e2,w2⟩:=hL
   have key:(x= .ret∨x= .normal)/\s.cl=true/\∃ds,ab4 s A.res=some ds/\t2= .ret ds:=by
    cases x with
    |exit i=>cases e2
    |ret=>
     simp only[avN]at e2
     split at e2
     ·rename_i hc;simp only[map_eq_some_iff]at e2;obtain⟨ds,h1,h2⟩:=e2;exact⟨.inl rfl,hc,ds,h1,h2.symm⟩
     ·cases e2
    |normal=>
     simp only[avN]at e2
     split at e2
     ·rename_i hc;simp only[map_eq_some_iff]at e2;obtain⟨ds,h1,h2⟩:=e2;exact⟨.inr rfl,hc,ds,h1,h2.symm⟩
     ·cases e2
   obtain⟨hx,hc,ds,h1,rfl⟩:=key;simp only[bW]at w2;subst w2;exact ar8 hm.len hm.nor hc h1 hx
 ·cases ht
theorem ak3{t k ty z:Nat}{nl:Bool}{xs:List AV}{x:AX}(hx:x= .ret∨x= .normal){e:Env}{O:List aa}(he:e t= .row k xs.length)(hk:O[k]? =some (b6 nl ty z xs))(hn:AV.ae xs=true):
  mW 0 [.tmp t] (.row 0 xs.length) [b6 nl ty z xs] x e O:=by
 have:cK e O [.tmp t] [] λ fI=>∃e',WK 0 (λ t=>if t=0 then bn fI else .top) O e' [b6 nl ty z xs]/\e' 0= .row 0 xs.length:=by
  simp only[cK,dg.get,reverse_cons,reverse_nil,nil_append,bn,he];refine⟨λ t=>if t=0 then .row 0 xs.length else .top,.select (λ n=>if n=0 then k else k+n) (λ i hi=> ?_) (λ i j hi hj _=> ?_) (λ ob ho=> ?_) (λ t=> ?_),rfl⟩
  ·simp at hi;subst hi;simp[hk,adu hn]
  ·simp at hi hj;omega
  ·simp at ho;subst ho;unfold b6
   split
   ·rfl
   ·exact cP xs hn
  ·by_cases ht:t=0
   ·subst ht;exact .inr ⟨rfl,rfl⟩
   ·exact .inl (by simp[ht])
 rcases hx with rfl|rfl<;>exact this
theorem ak4{t ty z:Nat}{x:AX}(hx:x= .ret∨x= .normal){e:Env}{O:List aa}(he:e t= .aA):mW 0 [.tmp t] (.row 0 0) [b6 true ty z []] x e O:=by
 have oh:b6 true ty z []= .nil ty z:=by simp[b6]
 have:cK e O [.tmp t] [] λ fI=>∃e',WK 0 (λ t=>if t=0 then bn fI else .top) O e' [b6 true ty z []]/\e' 0= .row 0 0:=by
  simp only[cK,dg.get,reverse_cons,reverse_nil,nil_append,bn,he]
  have w1:WK 0 (λ t=>if t=0 then .aA else .top) O (λ t=>if t=0 then .row O.length 0 else .top) (O++ [.nil ty z]):=by
   refine WK.aaX ty z (by simp) (by simp) (λ m hm=> .inl (getElem?_append_left hm)) λ t=> ?_
   by_cases ht:t=0
   ·subst ht;exact .inr ⟨rfl,rfl⟩
   ·exact .inl (by simp[ht])
  refine⟨λ t=>if t=0 then .row 0 0 else .top,w1.trans (.select (λ n=>O.length+n) (λ i hi=> ?_) (λ i j hi hj _=> ?_) (λ ob ho=> ?_) (λ t=> ?_)),rfl⟩
  ·simp at hi;subst hi;simp[oh,aa.bj]
  ·simp at hi hj;omega
  ·simp at ho;subst ho;rw[oh];rfl
  ·by_cases ht:t=0
   ·subst ht;exact .inr ⟨rfl,rfl⟩
   ·exact .inl (by simp[ht])
 rcases hx with rfl|rfl<;>exact this
def afz(nl:Bool)(e m:Nat)(s:SS):List dg->Option D
 | [.tmp t]=>match lk s.env t with
   | .row n l=>match cur s n l with
     |some (nl',e',m')=>if nl'=nl/\e'=e/\m'=m then some l else none
     |none=>none
   | .d (.c .aA)=>if nl=true then some (.c (.sl []))else none
   |_=>none
 |_=>none
def apv(nl:Bool)(e m:Nat)(rs:List dg)(x:AX)(s:SS):Option T:=
 match x with
 | .exit _=>none
 |_=>if s.cl=true then(afz nl e m s rs).map λ l=> .ret [.sl l]else none
def lZ.wC(fl:List Nat)(nl:Bool)(e m:Nat)(A:lZ):Option T:=
 match xC 0 fl A.weaken.code (rE A.cg)with
 |some t=>t.fill (apv nl e m A.res) 0
 |none=>none
theorem ar7{nl:Bool}{e m:Nat}{rs:List dg}{s:SS}{r:List AV}{l:D}{xs:List AV}(hl:r.length=s.nv)(hr:AV.ae r=true)(hc:s.cl=true)(h:afz nl e m s rs=some l)(hx:aR (l.ev r)=xs){x:AX}(hxx:x= .ret∨x= .normal):
  mW 0 rs (.row 0 xs.length) [b6 nl e m xs] x (bJ s r) (bp s r):=by
 unfold afz at h
 split at h
 ·rename_i t
  split at h
  ·rename_i n l' hlk
   split at h
   ·rename_i nl' e' m' kB
    split at h
    ·rename_i heq;cases h;obtain⟨rfl,rfl,rfl⟩:=heq;have mS:=SS.rH hc t;rw[hlk]at mS;have hn:=cj (D.bz hr l (by rw[hl];exact mS));subst hx;refine ak3 hxx (k:=n) ?_ ?_ hn
     ·simp only[bJ,hlk,SV.ev]
     ·rw[fT (dL kB) r,p7]
    ·cases h
   ·cases h
  ·rename_i hlk
   split at h
   ·rename_i hnl;cases h;subst hnl;simp only[D.ev,aR]at hx;subst hx;exact ak4 hxx (by simp only[bJ,hlk];rfl)
   ·cases h
  ·cases h
 ·cases h
theorem amh{f:FuncId}{A:lZ}{fl:List Nat}{nl:Bool}{e m:Nat}{t:T}(hf:rK P f A)(ht:A.wC fl nl e m=some t){args:List AV}(hl:args.length=A.cg)(hn:AV.ae args=true){xs:List AV}
  (h:bW P (λ _ _ _=>False) (λ a=>a= .sl xs) t args []):xh P f args nl e m xs:=by
 refine cY (hf.weaken) hl ?_;unfold lZ.wC at ht
 split at ht
 ·rename_i t0 h0;have hw:=yN ht h;have hs:=zX (P:=P) (fl:=fl) (lZ.weaken A).code (s:=rE A.cg) h0 (r:=args) hl hn hw (Q:=mW 0 A.res (.row 0 xs.length) [b6 nl e m xs]) λ x s r hL hm=> ?_
  ·obtain⟨e',O',hwk,hc⟩:=hs;refine⟨e',O',?_,hc⟩;refine WK.trans ?_ hwk;have he:bp (rE A.cg) args= []:=rfl;rw[he,←hl];exact WK.env (ahz args)
  ·obtain⟨t2,e2,w2⟩:=hL
   have key:(x= .ret∨x= .normal)/\s.cl=true/\∃l,afz nl e m s A.res=some l/\t2= .ret [.sl l]:=by
    cases x with
    |exit i=>cases e2
    |ret=>
     simp only[apv]at e2
     split at e2
     ·rename_i hc;simp only[map_eq_some_iff]at e2;obtain⟨ds,h1,h2⟩:=e2;exact⟨.inl rfl,hc,ds,h1,h2.symm⟩
     ·cases e2
    |normal=>
     simp only[apv]at e2
     split at e2
     ·rename_i hc;simp only[map_eq_some_iff]at e2;obtain⟨ds,h1,h2⟩:=e2;exact⟨.inr rfl,hc,ds,h1,h2.symm⟩
     ·cases e2
   obtain⟨hx,hc,l,h1,rfl⟩:=key;simp only[bW,D.aX,bn,D.ev]at w2;exact ar7 hm.len hm.nor hc h1 (by simpa using w2) hx
 ·cases ht
theorem xh.plain{f:FuncId}{args:List AV}{nl:Bool}{e m:Nat}{xs:List AV}(h:xh P f args nl e m xs)(hn:AV.ae xs=true):a7 P f args (.sl xs):=by
 refine⟨h.1,λ I L w vs hi hr=>(h.2 I L w vs hi hr).mono ?_⟩;rintro ev w' ⟨y,I',L',rfl,hy,hg⟩;refine⟨y,_,L',rfl,?_,hg.all⟩;refine xg.sound hg.inv (a:= .row 0 xs.length) ?_ hy;unfold b6
 split
 ·rename_i hx;obtain⟨_,rfl⟩:=hx;exact .row 0 e m [] (.inr ⟨rfl,rfl⟩) rfl
 ·exact .row 0 e m xs (.inl rfl) hn
end
end Go.Ab
namespace Go.Ab
theorem WK.aqJ{n0:Nat}{e e':Env}{O O1:List aa}(s:Nat->Nat)(hn0:n0<=O1.length)(hid:∀i,i<n0->s i=i)(hg:∀i,i<O1.length->O[s i]? =(O1[i]?).map (aa.bj s))(zw:∀i j,i<O1.length->j<O1.length->s i=s j->i=j)
  (hsO:∀ob∈O1,ob.inScope O1.length=true) (he:∀t,e' t= .top∨(e t=(e' t).bj s/\(e' t).inScope O1.length=true)):WK n0 e O e' O1:=by
 intro I0 L0 O0 w0 I L w f hl je hr;have hi:=je.inv
 have gA:∀{n e k ys},O1[n]? =some (.live e k ys)->O[s n]? =some (.live e k (ys.map (AV.bj s))):=by
  intro n e k ys hn;rw[hg n (List.getElem?_eq_some_iff.1 hn).1,hn];rfl
 have aAQ:∀{n e k:Nat},O1[n]? =some (.nil e k)->O[s n]? =some (.nil e k):=by
  intro n e k hn;rw[hg n (List.getElem?_eq_some_iff.1 hn).1,hn];rfl
 have jE:∀{n:Nat} {a:AV},O1[n]? =some (.own a)->O[s n]? =some (.own a):=by
  intro n a hn;rw[hg n (List.getElem?_eq_some_iff.1 hn).1,hn];rfl
 have rq:∀{n:Nat} {g:fH},O1[n]? =some (.cE g)->O[s n]? =some (.cE (g.bj s)):=by
  intro n a hn;rw[hg n (List.getElem?_eq_some_iff.1 hn).1,hn];rfl
 have un:∀{a:AV} {x:Value},R I L O (a.bj s) x->a.inScope O1.length=true->R I (λ n=>L (s n)) O1 a x:=λ hr hsc=>R.am5 hg (λ _ _=>rfl) hr _ rfl hsc
 refine⟨I,λ n=>L (s n),⟨⟨hi.gN,λ n e k ys hn=> ?_,λ n n' e k ys e' k' uF hn m7 hb=> ?_,λ n e k ys o hn=>hi.cT _ _ _ _ o (gA hn),hi.fix,hi.aZ,
  ⟨λ n a hn=>hi.ow.tree _ a (jE hn),λ n a hn=>hi.ow.cell _ a (jE hn),λ n a hn=>hi.ow.gN _ a (jE hn),λ n a hn b o v hv m e k xs hm=>hi.ow.live _ a (jE hn) b o v hv _ _ _ _ (gA hm),
   λ n m a c hn hm b o o' v v' hv iV=>zw _ _ (List.getElem?_eq_some_iff.1 hn).1 (List.getElem?_eq_some_iff.1 hm).1 (hi.ow.sep _ _ a c (jE hn) (jE hm) b o o' v v' hv iV),λ n a hn=>hi.ow.deep _ a (jE hn)⟩,
  ⟨λ n g hn=>(hi.gh.ok _ _ (rq hn)).un (λ _ _ hr hsc=>un hr hsc) (hsO _ (mem_of_getElem? hn)),λ n m a c hn hm hb=>zw _ _ (List.getElem?_eq_some_iff.1 hn).1 (List.getElem?_eq_some_iff.1 hm).1 (hi.gh.sep _ _ _ _ (rq hn) (rq hm) hb)⟩⟩,⟨je.ext.gN,by omega,λ n hn e k xs hx=> ?_,λ n hn e k hx=> ?_,λ n hn a hx=>by
   have h1:=jE hx;have hs:=hid n (by omega);rw[hs]at h1;obtain⟨q1,q2⟩:=je.ext.own n hn a h1;exact⟨q1,by show(L (s n)).val=_;rw[hs];exact q2⟩,λ n hn a hx=>by
   have h1:=rq hx;have hs:=hid n (by omega);rw[hs]at h1;obtain⟨⟨q,q0,q1⟩,q2⟩:=je.ext.cE n hn _ h1;exact⟨⟨q,q0,by rw[q1,fH.aaC]⟩,by show(L (s n)).aZ=_;rw[hs];exact q2⟩⟩,je.lK,?_,je.eK⟩,λ t=> ?_⟩
 ·obtain⟨c,⟨kS,q1,cL⟩,q2,q3,q4,q5,q6⟩:=hi.obj _ _ _ _ (gA hn);refine⟨c,⟨kS,q1,cL⟩,q2,by simpa using q3,q4,q5,λ i x hx=> ?_⟩;have kA:(ys.map (AV.bj s))[i]? =some (x.bj s):=by rw[getElem?_map,hx];rfl
  obtain⟨r1,r2⟩:=q6 i _ kA;rw[dq,length_map]at r1;refine⟨r1,λ j a ha=> ?_⟩;obtain⟨y,hy,ho,pF⟩:=r2 j (a.bj s) (by rw[dq,getElem?_map,ha];rfl);have hbo:=hsO _ (mem_of_getElem? hn);exact⟨y,hy,ho,un pF (bT (bG hbo x (mem_of_getElem? hx)) a (mem_of_getElem? ha))⟩
 ·exact zw _ _ (List.getElem?_eq_some_iff.1 hn).1 (List.getElem?_eq_some_iff.1 m7).1 (hi.sep _ _ _ _ _ _ _ _ (gA hn) (gA m7) hb)
 ·have h1:=gA hx;have hs:=hid n (by omega);rw[hs]at h1;rcases je.ext.obj n hn e k _ h1 with⟨zs,z1,z2,z3⟩|⟨z1,z2⟩
  ·exact .inl ⟨zs,z1,by simpa using z2,λ he=>by show L (s n)=_;rw[hs];exact z3 (by simpa using he)⟩
  ·exact .inr ⟨z1,by simpa using z2⟩
 ·have h1:=aAQ hx;rw[hid n (by omega)]at h1;exact je.ext.nil n hn e k h1
 ·rintro b (⟨n,e,k,xs,hn,hb⟩|⟨n,a,o,v,hn,hb⟩|⟨n,a,hn,hb⟩)
  ·exact je.lb b (.inl ⟨s n,_,_,_,gA hn,hb⟩)
  ·exact je.lb b (.inr (.inl ⟨s n,a,o,v,jE hn,hb⟩))
  ·exact je.lb b (.inr (.inr ⟨s n,_,rq hn,hb⟩))
 ·rcases he t with h|⟨h,h'⟩
  ·rw[h];exact .top _
  ·have:=hr t;rw[h]at this;exact un this h'
section
variable {P:Program}
theorem aeQ{r:List AV}{v:SV}{d:D}(h:aiD v=some d):d.ev r=v.ev r:=by
 unfold aiD at h
 split at h
 ·cases h;rfl
 ·rename_i cs;simp only[map_eq_some_iff]at h;obtain⟨ds,h1,rfl⟩:=h;rw[wY h1];simp only[D.ev,SV.ev,ug]
 ·cases h;rfl
 ·cases h
theorem xD(r:List AV)(p v:SV):(aaJ p v).ev r=v.ev r:=by
 unfold aaJ
 split
 ·split
  ·rename_i d hd;simp only[SV.ev,aeQ hd]
  ·rfl
 ·rfl
theorem alk(r:List AV)(p v:SV):(aeP p v).ev r=v.ev r:=by
 unfold aeP
 split
 ·rename_i ps vs;simp only[SV.ev,SV.aJ,map_map];congr 1;apply ext_getElem
  ·simp
  ·intro i h1 h2;simp only[getElem_map,getElem_range,Function.comp_apply,xD];simp only[length_map]at h2;simp only[List.getD,getElem?_eq_getElem h2,getD_some]
 ·rename_i ps vs;simp only[SV.ev,SV.aJ,map_map];congr 1;apply ext_getElem
  ·simp
  ·intro i h1 h2;simp only[getElem_map,getElem_range,Function.comp_apply,xD];simp only[length_map]at h2;simp only[List.getD,getElem?_eq_getElem h2,getD_some]
 ·exact xD r _ _
theorem ak6{s:SS}{r:List AV}{a:dg}{v:SV}(h:adw s a=some v){K:AV->Prop}(hk:K (v.ev r)):a.get (bJ s r) (bp s r) K:=by
 unfold adw at h
 split at h
 ·cases h;exact hk
 ·rename_i t n
  split at h
  ·rename_i k hlk
   split at h
   ·rename_i e cs hb
    split at h
    ·cases h
    ·rename_i m
     split at h
     ·rename_i qu;cases h;simp only[dg.get,bJ,hlk,SV.ev];rw[fT (j8 hb) r];simp only[SO.ev];have hx:nw (SV.aX r cs)= .agg (SV.aX r cs):=ew (by rw[SV.aJ];simpa [qu.1]using qu.2);rw[hx];have hlen:(SV.aX r cs).length=m:=by rw[SV.aJ];simpa using qu.1
      refine⟨by simp only[AV.cells,hlen,getD_some];first|exact le_refl _|trivial|done,?_⟩
      have:dt (some m) (.agg (SV.aX r cs)) 0= .agg (SV.aX r cs):=by
       show(if 0=0/\(AV.agg (SV.aX r cs)).isAgg=true/\(AV.agg (SV.aX r cs)).cells.length=m then _ else _)=_;rw[if_pos ⟨rfl,rfl,by simpa [AV.cells]using hlen⟩]
      rw[this];exact hk
     ·cases h
   ·cases h
  ·cases h
theorem tG{s:SS}{r:List AV}:∀{rs:List dg} {vs:List SV},aaB s rs=some vs->∀(acc:List AV) (K:List AV->Prop),K (acc.reverse++SV.aX r vs)->cK (bJ s r) (bp s r) rs acc K
 | [],vs,h,acc,K,hk=>by cases h;simpa [cK,SV.aX]using hk
 |a::rs,vs,h,acc,K,hk=>by
  simp only[aaB]at h
  split at h
  ·rename_i v vs' h1 h2;cases h;simp only[cK];refine ak6 h1 (tG h2 _ _ ?_);simpa [SV.aX]using hk
  ·cases h
theorem aaO(r:List AV)(vs:List SV):(yw vs).ev r=bn (SV.aX r vs):=by
 cases vs with
 |nil=>rfl
 |cons v vs=>cases vs<;>rfl
theorem aln{l m:List AV}(hl:l.length=m.length)(h:bn l=bn m):l=m:=by
 rcases l with _|⟨a,_|⟨b,l⟩⟩<;>rcases m with _|⟨c,_|⟨d,m⟩⟩<;>simp[bn]at h hl⊢<;>exact h
def apq(g:iW)(s:SS)(vs:List SV):SS:=
 let s2:SS:={s with env:=[(0,yw vs)]}
 (List.zip (match g.res with| .a9 ps=>ps|p=>[p]) vs).foldl (λ (s:SS) (q:SV×SV)=>match q.1 with
  | .d _=>rW s q.2
  |_=>s) s2
def ue(g:iW)(rs:List dg)(s:SS):Option (List D×List Nat):=
 match aaB s rs with
 |some vs=>tg g [.tmp 0] (apq g s vs)
 |none=>none
def axE(an:List SO)(ps cs:List SV):Option (Nat×Nat×Nat):=
 (List.range cs.length).findSome? λ j=>match ps.getD j .top,cs[j]? with
  | .row n _,some (.d (.c .aA))=>match an.getD n .dead with
    | .row true e m _=>some (j,e,m)
    |_=>none
  |_,_=>none
def aiO(s:SS)(f:List SV->SV)(cs:List SV)(j e m:Nat):SS:={s with env:=[(0,f (cs.set j (.row s.an.length (.c (.sl [])))))],an:=s.an++ [.row true e m (.c (.sl []))]}
def afA(g:iW)(s:SS)(f:List SV->SV)(ps cs:List SV):Option (List D×List Nat):=
 match axE g.ck ps cs with
 |some (j,e,m)=>match cs[j]? with
  |some (.d (.c .aA))=>tg g [.tmp 0] (aiO s f cs j e m)
  |_=>none
 |none=>none
def ud(g:iW)(rs:List dg)(s:SS):Option (List D×List Nat):=
 match aaB s rs with
 |some vs=>match g.res,yw vs with
  | .agg ps,.agg cs=>afA g s .agg ps cs
  | .a9 ps,.a9 cs=>afA g s .a9 ps cs
  |_,_=>none
 |none=>none
def apu(g:iW)(rs:List dg)(x:AX)(s:SS):Option T:=
 match x with
 | .exit _=>none
 |_=>match tg g rs s with
  |some (τ,_)=>some (.ret τ)
  |none=>match ue g rs s with
   |some (τ,_)=>some (.ret τ)
   |none=>match ud g rs s with
    |some (τ,_)=>some (.ret τ)
    |none=>some (.bI .no (.ret []))
def lZ.soft(A:lZ):lZ:={A with code:= .mb A.code}
theorem rK.soft{f:FuncId}{A:lZ}(h:rK P f A):rK P f A.soft:=by
 obtain⟨fn,code,h1,h2,h3,h4,h5,h6,h7⟩:=h;exact⟨fn,code,h1,h2,h3,h4,h5,h6,h7⟩
def lZ.wB(fl:List Nat)(g:iW)(A:lZ):Option T:=
 if g.ok=true/\g.args.length=A.cg then
  match(xC g.an.length fl A.weaken.code (mw g)).bind λ t=>t.fill (apu g A.res) 0 with
  |some t=>some t
  |none=>(xC g.an.length fl A.soft.code (mw g)).bind λ t=>t.fill (apu g A.res) 0
 else none
theorem afy{g:iW}{rs:List dg}{s1:SS}{τ:List D}{cW:List Nat}(h:tg g rs s1=some (τ,cW)){r:List AV}(uC:r.length=s1.nv)(hr:AV.ae r=true){x:AX}(hx:x= .ret∨x= .normal):
  τ.length=g.m/\mW g.an.length rs (g.res.ev (D.aX r τ)) (g.ck.map (SO.ev (D.aX r τ))) x (bJ s1 r) (bp s1 r):=by
 unfold tg at h
 ·split at h
  ·cases h
  ·rename_i vs vR
   split at h
   ·cases h
   ·rename_i τ' aqr aDn
    split at h
    ·rename_i qu;simp only[Option.some.injEq,Prod.mk.injEq]at h;obtain⟨rfl,rfl⟩:=h;obtain⟨c1,c2,c3,c4,c5,c6,c7,c8,c9⟩:=qu;refine⟨c8,?_⟩;simp only[iW.ok,and_eq_true,decide_eq_true_eq]at c2;obtain⟨⟨⟨⟨p1,p2⟩,p3⟩,p4⟩,p5⟩:=c2;have sf:AV.ae (D.aX r τ')=true:=D.cC hr τ' (by rw[uC];exact c9);generalize hσ:ab5 s1 aqr=σ at*
     have hin:∀i,i<g.ck.length->∃n,aqr[i]? =some n/\σ i=n:=by
      intro i hi;have ei:i<aqr.length:=by omega
      refine⟨aqr[i],getElem?_eq_getElem ei,?_⟩;rw[←hσ];simp only[ab5,if_pos ei,List.getD,getElem?_eq_getElem ei,getD_some]
     have hO2:(g.ck.map (SO.ev (D.aX r τ'))).length=g.ck.length:=by simp
     have qp:cK (bJ s1 r) (bp s1 r) rs [] λ xs=>∃e',WK g.an.length (λ t=>if t=0 then bn xs else .top) (bp s1 r) e' (g.ck.map (SO.ev (D.aX r τ')))/\e' 0=g.res.ev (D.aX r τ'):=by
      refine tG vR _ _ ?_;simp only[reverse_nil,nil_append];refine⟨λ t=>if t=0 then g.res.ev (D.aX r τ')else .top,.aqJ σ (by rw[hO2];exact p5) (λ i hi=> ?_) (λ i hi=> ?_) (λ i j hi hj he=> ?_) (λ ob ho=> ?_) (λ t=> ?_),rfl⟩
      ·have:=List.all_eq_true.1 c6 i (by simpa using hi);simpa using this
      ·rw[hO2]at hi;have hp:g.ck[i]? =some g.ck[i]:=getElem?_eq_getElem hi;have h1:=pt c7 i _ hp;rw[zero_add]at h1;simp only[bp,getElem?_map,h1,hp,map_some];rw[wI sf _ (List.all_eq_true.1 p3 _ (mem_of_getElem? hp))]
      ·rw[hO2]at hi hj;obtain⟨n,a1,a2⟩:=hin i hi;obtain⟨m,b1,b2⟩:=hin j hj;rw[a2,b2]at he;subst he;exact qX c5 a1 b1
      ·rw[hO2];obtain⟨o,hom,rfl⟩:=List.mem_map.1 ho;exact aj7 sf o (List.all_eq_true.1 p3 _ hom)
      ·by_cases ht:t=0
       ·subst ht;refine .inr ⟨?_,?_⟩
        ·simp only[if_pos];rw[←aaO,←alk r g.res,←SV.beq_eq _ _ c3,ae8 sf _ p4]
        ·simp only[if_pos];rw[hO2];cases hgr:g.res with
         |a9 cs=>
          rw[hgr]at p4;simp only[SV.acO]at p4;exact we sf cs p4
         |agg cs=>
          rw[hgr]at p4;simp only[SV.acO]at p4;exact we sf cs p4
         |_=>
          rw[hgr]at p4;exact anT (n:=g.m) sf _ (by simpa only[SV.acO]using p4)
       ·exact .inl (by simp[ht])
     rcases hx with rfl|rfl<;>exact qp
    ·cases h
theorem al8{n0:Nat}(g:iW)(s:SS)(vs:List SV):Wk n0 {s with env:=[(0,yw vs)]} (apq g s vs):=
 gB (λ s q=>by
  split
  ·exact iz _ _
  ·exact .refl _ _) _ _
theorem apt{g:iW}{rs:List dg}{s1:SS}{τ:List D}{cW:List Nat}(h:ue g rs s1=some (τ,cW)){r:List AV}(uC:r.length=s1.nv)(hr:AV.ae r=true){x:AX}(hx:x= .ret∨x= .normal):
  τ.length=g.m/\mW g.an.length rs (g.res.ev (D.aX r τ)) (g.ck.map (SO.ev (D.aX r τ))) x (bJ s1 r) (bp s1 r):=by
 unfold ue at h
 split at h
 ·rename_i vs vR;have hw:=al8 (n0:=g.an.length) g s1 vs;obtain⟨h1,h2⟩:=afy h (r:=r) (uC.trans hw.1.symm) hr (x:= .ret) (.inl rfl);refine⟨h1,?_⟩;have h3:=hw.2 r uC hr;simp only[mW,cK,dg.get,reverse_cons,reverse_nil,nil_append,bn]at h2;obtain⟨e',h4,h5⟩:=h2
  have qp:cK (bJ s1 r) (bp s1 r) rs [] λ xs=>∃e',WK g.an.length (λ t=>if t=0 then bn xs else .top) (bp s1 r) e' (g.ck.map (SO.ev (D.aX r τ)))/\e' 0=g.res.ev (D.aX r τ):=by
   refine tG vR _ _ ?_;simp only[reverse_nil,nil_append];refine⟨e',?_,h5⟩
   have e1:(λ t=>if t=0 then bn (SV.aX r vs)else .top)=bJ {s1 with env:=[(0,yw vs)]} r:=by
    funext t
    simp only[bJ,lk];by_cases ht:t=0
    ·simp only[if_pos ht,aaO]
    ·simp only[if_neg ht,SV.ev]
   rw[e1];refine WK.trans h3 (WK.trans (WK.env λ t=> ?_) h4);by_cases ht:t=0
   ·right;subst ht;rfl
   ·left;simp only[if_neg ht]
  rcases hx with rfl|rfl<;>exact qp
 ·cases h
theorem WK.aCE{n0:Nat}{e e':Env}{O:List aa}(h:∀(I:cZ) (L:Nat->Loc) (t:Nat) (x:Value),R I L O (e t) x->R I L O (e' t) x):WK n0 e O e' O:=
 λ _ _ _ _ I L _ f _ hg hr=>⟨I,L,hg,λ t=>h I L t (f t) (hr t)⟩
theorem adG{I:cZ}{L:Nat->Loc}{O:List aa}{r:List AV}{cs:List SV}{vs:Array Value}{j n e m:Nat}(hj:cs[j]? =some (.d (.c .aA)))(hn:O[n]? =some (.nil e m))(q1:(SV.aX r cs).length=vs.size)
  (q2:∀(i:Nat) (c:AV) (x:Value),(SV.aX r cs)[i]? =some c->vs[i]? =some x->R I L O c x):
  (SV.aX r (cs.set j (.row n (.c (.sl []))))).length=vs.size/\∀(i:Nat) (c:AV) (x:Value),(SV.aX r (cs.set j (.row n (.c (.sl [])))))[i]? =some c->vs[i]? =some x->R I L O c x:=by
 refine⟨by rw[←q1];simp[SV.aJ],λ i c x hc hv=> ?_⟩;rw[SV.aJ,getElem?_map,getElem?_set]at hc;by_cases hij:j=i
 ·subst hij;have hjl:j<cs.length:=(List.getElem?_eq_some_iff.1 hj).1;simp only[if_true,hjl,map_some,Option.some.injEq,SV.ev,D.ev,aR,length_nil]at hc;subst hc;have:=q2 j .aA x (by rw[SV.aJ,getElem?_map,hj];rfl) hv;cases this;exact .fj _ e m hn
 ·rw[if_neg hij]at hc;exact q2 i c x (by rw[SV.aJ,getElem?_map];exact hc) hv
theorem akz{g:iW}{rs:List dg}{s1:SS}{f:List SV->SV}{ps cs vs:List SV}{τ:List D}{cW:List Nat}(vR:aaB s1 rs=some vs)(hp:yw vs=f cs)(h:afA g s1 f ps cs=some (τ,cW))
  (hf:∀(I:cZ) (L:Nat->Loc) (O:List aa) (r:List AV) (n e m j:Nat) (y:Value),cs[j]? =some (.d (.c .aA))->O[n]? =some (.nil e m)->R I L O ((f cs).ev r) y->R I L O ((f (cs.set j (.row n (.c (.sl []))))).ev r) y)
  {r:List AV} (uC:r.length=s1.nv) (hr:AV.ae r=true) {x:AX} (hx:x= .ret∨x= .normal):
  τ.length=g.m/\mW g.an.length rs (g.res.ev (D.aX r τ)) (g.ck.map (SO.ev (D.aX r τ))) x (bJ s1 r) (bp s1 r):=by
 unfold afA at h
 split at h
 ·rename_i j e m hna
  split at h
  ·rename_i hj;obtain⟨h1,h2⟩:=afy h (r:=r) uC hr (x:= .ret) (.inl rfl);refine⟨h1,?_⟩;simp only[mW,cK,dg.get,reverse_cons,reverse_nil,nil_append,bn]at h2;obtain⟨e',h4,h5⟩:=h2
   have qp:cK (bJ s1 r) (bp s1 r) rs [] λ xs=>∃e',WK g.an.length (λ t=>if t=0 then bn xs else .top) (bp s1 r) e' (g.ck.map (SO.ev (D.aX r τ)))/\e' 0=g.res.ev (D.aX r τ):=by
    refine tG vR _ _ ?_;simp only[reverse_nil,nil_append];refine⟨e',?_,h5⟩
    have hO:bp (aiO s1 f cs j e m) r=bp s1 r++ [.nil e m]:=by
     simp only[aiO,bp,map_append,map_cons,map_nil,SO.ev,D.ev,aR,if_true]
    have hOl:(bp s1 r).length=s1.an.length:=du s1 r;refine WK.trans (WK.aaX (e':=λ t=>if t=0 then bn (SV.aX r vs)else .top) (O':=bp s1 r++ [.nil e m]) e m (by simp) (by rw[getElem?_append_right (by simp)];simp) (λ i hi=> .inl (getElem?_append_left hi)) λ t=> .inl rfl) ?_;rw[←hO];refine WK.trans (e':=λ t=>if t=0 then(f (cs.set j (.row s1.an.length (.c (.sl []))))).ev r else .top) (WK.aCE λ I L t y hy=> ?_) (WK.trans (WK.env λ t=> ?_) h4)
    ·by_cases ht:t=0
     ·simp only[if_pos ht]at hy⊢;rw[←aaO,hp]at hy;exact hf I L _ r s1.an.length e m j y hj (by rw[hO,←hOl,getElem?_append_right (by simp)];simp) hy
     ·simp only[if_neg ht]at hy⊢;exact .top _
    ·by_cases ht:t=0
     ·right;subst ht;rfl
     ·left;simp only[if_neg ht]
   rcases hx with rfl|rfl<;>exact qp
  ·cases h
 ·cases h
theorem aps{g:iW}{rs:List dg}{s1:SS}{τ:List D}{cW:List Nat}(h:ud g rs s1=some (τ,cW)){r:List AV}(uC:r.length=s1.nv)(hr:AV.ae r=true){x:AX}(hx:x= .ret∨x= .normal):
  τ.length=g.m/\mW g.an.length rs (g.res.ev (D.aX r τ)) (g.ck.map (SO.ev (D.aX r τ))) x (bJ s1 r) (bp s1 r):=by
 unfold ud at h
 split at h
 ·rename_i vs vR
  split at h
  ·rename_i ps cs _ hp;refine akz vR hp h (λ I L O r n e m j y hj hn hy=> ?_) uC hr hx;cases hy with
   |agg _ ws q1 q2=>obtain⟨p1,p2⟩:=adG hj hn q1 q2;exact .agg _ ws p1 p2
  ·rename_i ps cs _ hp;refine akz vR hp h (λ I L O r n e m j y hj hn hy=> ?_) uC hr hx;cases hy with
   |a9 _ ws q1 q2=>obtain⟨p1,p2⟩:=adG hj hn q1 q2;exact .a9 _ ws p1 p2
  ·cases h
 ·cases h
theorem ahA(g:iW)(ins:List AV):∀t,bJ (mw g) ins t= .top∨bJ (mw g) ins t=oj (SV.aX ins g.args) t:=by
 intro t
 have key:∀(n k:Nat),lk ((List.range' k n).map λ i=>(i,g.args.getD i .top)) t= .top∨(t<k+n/\lk ((List.range' k n).map λ i=>(i,g.args.getD i .top)) t=g.args.getD t .top):=by
  intro n
  induction n with
  |zero=>intro k;exact .inl rfl
  |succ n ih=>
   intro k;simp only[List.range'_succ,map_cons,lk]
   split
   ·rename_i h;subst h;exact .inr ⟨by omega,rfl⟩
   ·rcases ih (k+1)with h|⟨h1,h2⟩
    ·exact .inl h
    ·exact .inr ⟨by omega,h2⟩
 have hr:(mw g).env=(List.range' 0 g.args.length).map λ i=>(i,g.args.getD i .top):=by
  simp only[mw,List.range_eq_range']
 simp only[bJ,hr];rcases key g.args.length 0 with h|⟨h1,h2⟩
 ·rw[h];exact .inl rfl
 ·rw[h2];refine .inr ?_;have ht:t<g.args.length:=by omega
  simp only[oj,SV.aJ,List.getD,getElem?_map,getElem?_eq_getElem ht,getD_some,map_some]
theorem aau{f:FuncId}{A:lZ}{c:aK}{fl:List Nat}{g:iW}{t0 t:T}(hf:rK P f A)(ao8:A.code= .mb c)(hla:g.args.length=A.cg)(h0:xC g.an.length fl A.code (mw g)=some t0)(ht:t0.fill (apu g A.res) 0=some t)
  {ins outs:List AV} (hl:ins.length=g.n) (hn:AV.ae ins=true) (ho:outs.length=g.m)
  (h:bW P (λ _ _ _=>False) (λ a=>a=bn outs) t ins []):zE P f g ins outs:=by
 have hla:(SV.aX ins g.args).length=A.cg:=by rw[SV.aJ,length_map];exact hla
 have hlo:(g.an.map (SO.ev ins)).length=g.an.length:=by simp
 refine cY hf hla ?_;rw[hlo];have hw:=yN ht h;rw[ao8]at h0⊢;have hs:=zX (P:=P) (n0:=g.an.length) (fl:=fl) (.mb c) (s:=mw g) h0 (r:=ins) hl hn hw (Q:=mW g.an.length A.res (g.res.ev outs) (g.ck.map (SO.ev outs))) λ x s r hL hm=> ?_
 ·obtain⟨e',O',hwk,hc⟩:=hs;refine⟨e',O',WK.trans ?_ hwk,hc⟩;exact WK.env (ahA g ins)
 ·obtain⟨t2,e2,w2⟩:=hL
  have key:(x= .ret∨x= .normal)/\∃τ cW,(tg g A.res s=some (τ,cW)∨ue g A.res s=some (τ,cW)∨ud g A.res s=some (τ,cW))/\t2= .ret τ:=by
   have one:(match tg g A.res s with|some (τ,_)=>some (T.ret τ)|none=>match ue g A.res s with|some (τ,_)=>some (T.ret τ)|none=>match ud g A.res s with|some (τ,_)=>some (T.ret τ)|none=>some (.bI .no (.ret [])))=some t2->∃τ cW,(tg g A.res s=some (τ,cW)∨ue g A.res s=some (τ,cW)∨ud g A.res s=some (τ,cW))/\t2= .ret τ:=by
    intro e2
    split at e2
    ·rename_i τ cW hfs;cases e2;exact⟨τ,cW,.inl hfs,rfl⟩
    ·split at e2
     ·rename_i τ cW hfs;cases e2;exact⟨τ,cW,.inr (.inl hfs),rfl⟩
     ·split at e2
      ·rename_i τ cW hfs;cases e2;exact⟨τ,cW,.inr (.inr hfs),rfl⟩
      ·cases e2;exact w2.elim
   cases x with
   |exit i=>cases e2
   |ret=>exact⟨.inl rfl,one e2⟩
   |normal=>exact⟨.inr rfl,one e2⟩
  obtain⟨hx,τ,cW,hfs,rfl⟩:=key
  obtain⟨hlen,aym⟩:τ.length=g.m/\mW g.an.length A.res (g.res.ev (D.aX r τ)) (g.ck.map (SO.ev (D.aX r τ))) x (bJ s r) (bp s r):=by
   rcases hfs with hfs|hfs|hfs
   ·exact afy hfs hm.len hm.nor hx
   ·exact apt hfs hm.len hm.nor hx
   ·exact aps hfs hm.len hm.nor hx
  simp only[bW]at w2;have:D.aX r τ=outs:=aln (by rw[D.aJ,length_map,hlen,ho]) w2;rw[this]at aym;exact aym
theorem ak0{f:FuncId}{A:lZ}{fl:List Nat}{g:iW}{t:T}(hf:rK P f A)(ht:A.wB fl g=some t){ins outs:List AV}(hl:ins.length=g.n)(hn:AV.ae ins=true)(ho:outs.length=g.m)
  (h:bW P (λ _ _ _=>False) (λ a=>a=bn outs) t ins []):zE P f g ins outs:=by
 unfold lZ.wB at ht
 split at ht
 ·rename_i qu
  split at ht
  ·rename_i t' h1;cases ht;rw[Option.bind_eq_some_iff]at h1;obtain⟨t0,h2,h3⟩:=h1;exact aau hf.weaken rfl qu.2 h2 h3 hl hn ho h
  ·rw[Option.bind_eq_some_iff]at ht;obtain⟨t0,h2,h3⟩:=ht;exact aau hf.soft rfl qu.2 h2 h3 hl hn ho h
 ·cases ht
end
end Go.Ab
