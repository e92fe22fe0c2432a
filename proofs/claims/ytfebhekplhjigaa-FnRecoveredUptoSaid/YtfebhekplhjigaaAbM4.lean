/- Part of a proof: the functions that the law reaches, walked by the abstract logic of the texts Ab. -/
import Derived.Test.YtfebhekplhjigaaAbM3
open Nat(le_refl zero_add add_zero)
open Bool(and_eq_true false_eq_true)
open Option(map_eq_some_iff map_some getD_some getD_none)
open List(getElem?_append_left all_cons map_congr_left mem_of_getElem? map_cons mem_of_mem_drop mem_of_mem_take cons_append ext_getElem getElem_map getElem_range getElem?_eq_getElem map_map mem_cons map_id append_nil map_append map_nil length_map map_set mem_map map_take map_drop getElem?_map nil_append getElem?_append_right foldl_cons ext_getElem? getElem?_set_ne getElem?_eq_none length_nil getElem?_set reverse_nil reverse_cons)
set_option linter.unusedVariables false
set_option linter.unusedSimpArgs false
namespace Go.Ab
theorem nN{r r':List AV}{i:Nat}(h:i<r.length):(r++r').getD i .top=r.getD i .top:=by
 simp[List.getD,getElem?_append_left h]
mutual
theorem D.cS{r r':List AV}:∀(d:D),d.cl r.length=true->d.ev (r++r')=d.ev r
 | .x i,h=>by simp only[D.cl,decide_eq_true_eq]at h;simp only[D.ev,nN h]
 | .c a,h=>rfl
 | .cell i j,h=>by simp only[D.cl,decide_eq_true_eq]at h;simp only[D.ev,nN h]
 | .ext i j,h=>by simp only[D.cl,decide_eq_true_eq]at h;simp only[D.ev,nN h]
 | .sl l,h=>by simp only[D.cl]at h;simp only[D.ev,D.cS l h]
 | .agg l,h=>by simp only[D.cl]at h;simp only[D.ev,D.fI l h]
 | .fn f l,h=>by simp only[D.cl]at h;simp only[D.ev,D.fI l h]
 | .ip d f,h=>by simp only[D.cl]at h;simp only[D.ev,D.cS d h]
theorem D.fI{r r':List AV}:∀(l:List D),D.cls r.length l=true->D.a9 (r++r') l=D.a9 r l
 | [],_=>rfl
 |d::l,h=>by
  simp only[D.cls,and_eq_true]at h;simp only[D.a9,D.cS d h.1,D.fI l h.2]
end
mutual
theorem SV.cS{r r':List AV}:∀(v:SV),v.cl r.length=true->v.ev (r++r')=v.ev r
 | .d x,h=>D.cS x h
 | .row n l,h=>by simp only[SV.cl]at h;simp only[SV.ev,D.cS l h]
 | .ptr n f,h=>rfl
 | .rp n l i f,h=>by simp only[SV.cl,and_eq_true]at h;simp only[SV.ev,D.cS l h.1,D.cS i h.2]
 | .ip x f,h=>by simp only[SV.cl]at h;simp only[SV.ev,D.cS x h]
 | .agg cs,h=>by simp only[SV.cl]at h;simp only[SV.ev,SV.fI cs h]
 | .ba cs,h=>by simp only[SV.cl]at h;simp only[SV.ev,SV.fI cs h]
 | .top,h=>rfl
theorem SV.fI{r r':List AV}:∀(l:List SV),SV.cls r.length l=true->SV.a9 (r++r') l=SV.a9 r l
 | [],_=>rfl
 |v::l,h=>by
  simp only[SV.cls,and_eq_true]at h;simp only[SV.a9,SV.cS v h.1,SV.fI l h.2]
end
theorem SO.cS{r r':List AV}(o:SO)(h:o.cl r.length=true):o.ev (r++r')=o.ev r:=by
 cases o with
 |dead=>rfl
 |box e cs=>simp only[SO.ev,SV.fI cs h]
 |row nl e s l=>cases nl<;>simp only[SO.ev,D.cS l h]
theorem aqM{n:Nat}:∀{l:List (Nat×SV)},l.all (λ p=>p.2.cl n)=true->∀t,(lk l t).cl n=true
 | [],_,_=>rfl
 |(k,v)::l,h,t=>by
  simp only[all_cons,and_eq_true]at h;simp only[lk]
  split
  ·exact h.1
  ·exact aqM h.2 t
theorem SS.oI{s:SS}(h:s.cl=true)(t:Nat):(lk s.env t).cl s.nv=true:=aqM (and_eq_true _ _▸h).1 t
theorem SS.rY{s:SS}(h:s.cl=true){o:SO}(ho:o∈s.ai):o.cl s.nv=true:=by
 have:=(and_eq_true _ _▸h:_/\_).2;exact List.all_eq_true.1 this o ho
theorem eo{s:SS}{r r':List AV}(hl:r.length=s.nv)(h:s.cl=true):b7 s (r++r')=b7 s r:=by
 funext t
 exact SV.cS _ (by rw[hl];exact SS.oI h t)
theorem e9{s:SS}{r r':List AV}(hl:r.length=s.nv)(h:s.cl=true):bI s (r++r')=bI s r:=by
 unfold bI;exact map_congr_left λ o ho=>SO.cS o (by rw[hl];exact SS.rY h ho)
theorem gj{l:List AV}(h:AV.ad l=true)(i:Nat):(l.getD i .top).ag=true:=by
 rw[List.getD];cases hi:l[i]? with
 |none=>rfl
 |some a=>exact bf h a (mem_of_getElem? hi)
theorem il{a:AV}(h:a.ag=true):AV.ad a.cells=true:=by
 cases a<;>first|exact h|(simp only[AV.cells,AV.ad,h];rfl)
theorem cN{a:AV}(h:a.ag=true):AV.ad (aY a)=true:=by
 cases a<;>first|rfl|exact h
theorem afg{a:AV}(h:a.ag=true)(j:Nat):(akv a j).ag=true:=by
 cases a<;>first|rfl|exact gj (by exact h) j
mutual
theorem D.bN{r:List AV}(hr:AV.ad r=true):∀(d:D),d.cl r.length=true->(d.ev r).ag=true
 | .x i,_=>gj hr i
 | .c a,h=>h
 | .cell i j,_=>gj (il (gj hr i)) j
 | .ext i j,_=>afg (gj hr i) j
 | .sl l,h=>by simp only[D.cl]at h;exact cN (D.bN hr l h)
 | .agg l,h=>by simp only[D.cl]at h;exact D.cW hr l h
 | .fn f l,h=>by simp only[D.cl]at h;exact D.cW hr l h
 | .ip d f,h=>by simp only[D.cl]at h;exact D.bN hr d h
theorem D.cW{r:List AV}(hr:AV.ad r=true):∀(l:List D),D.cls r.length l=true->AV.ad (D.a9 r l)=true
 | [],_=>rfl
 |d::l,h=>by
  simp only[D.cls,and_eq_true]at h;simp only[D.a9,AV.ad,D.bN hr d h.1,D.cW hr l h.2];rfl
end
theorem aG{a b:List AV}:AV.ad (a++b)=(AV.ad a&&AV.ad b):=by
 induction a with
 |nil=>simp[AV.ad]
 |cons x a ih=>simp[AV.ad,ih,Bool.and_assoc]
theorem fF{l:List AV}(h:∀a∈l,a.ag=true):AV.ad l=true:=by
 induction l with
 |nil=>rfl
 |cons x l ih=>simp only[AV.ad,h x (by simp),ih λ a ha=>h a (by simp[ha])];rfl
theorem AV.at7{a b:AV}(h:a.ceq b=true):a=b:=by
 unfold AV.ceq at h
 split at h<;>simp_all
mutual
theorem D.beq_eq:∀(a b:D),a.beq b=true->a=b
 | .x i,b,h=>by cases b<;>simp_all [D.beq]
 | .c a,b,h=>by
   cases b<;>simp_all only[D.beq,false_eq_true]
   rw[AV.at7 h]
 | .cell i j,b,h=>by cases b<;>simp_all [D.beq]
 | .ext i j,b,h=>by cases b<;>simp_all [D.beq]
 | .sl l,b,h=>by
   cases b<;>simp_all only[D.beq,false_eq_true]
   rw[D.beq_eq l _ h]
 | .agg l,b,h=>by
   cases b<;>simp_all only[D.beq,false_eq_true]
   rw[D.lE l _ h]
 | .fn f l,b,h=>by
   cases b<;>simp_all only[D.beq,false_eq_true,and_eq_true,decide_eq_true_eq]
   rw[D.lE l _ h.2]
 | .ip d f,b,h=>by
   cases b<;>simp_all only[D.beq,false_eq_true,and_eq_true,decide_eq_true_eq]
   rw[D.beq_eq d _ h.1]
theorem D.lE:∀(a b:List D),D.kW a b=true->a=b
 | [],[],_=>rfl
 |a::as,b::bs,h=>by
  simp only[D.kW,and_eq_true]at h;rw[D.beq_eq a b h.1,D.lE as bs h.2]
 | [],_::_,h=>by simp[D.kW]at h
 |_::_,[],h=>by simp[D.kW]at h
end
mutual
theorem SV.beq_eq:∀(a b:SV),a.beq b=true->a=b
 | .d x,b,h=>by
   cases b<;>simp_all only[SV.beq,false_eq_true]
   rw[D.beq_eq x _ h]
 | .row n l,b,h=>by
   cases b<;>simp_all only[SV.beq,false_eq_true,and_eq_true,decide_eq_true_eq]
   rw[D.beq_eq l _ h.2]
 | .ptr n f,b,h=>by cases b<;>simp_all [SV.beq]
 | .rp n l i f,b,h=>by
   cases b<;>simp_all only[SV.beq,false_eq_true,and_eq_true,decide_eq_true_eq]
   rw[D.beq_eq l _ h.1.1.2,D.beq_eq i _ h.1.2]
 | .ip x f,b,h=>by
   cases b<;>simp_all only[SV.beq,false_eq_true,and_eq_true,decide_eq_true_eq]
   rw[D.beq_eq x _ h.1]
 | .agg l,b,h=>by
   cases b<;>simp_all only[SV.beq,false_eq_true]
   rw[SV.lE l _ h]
 | .ba l,b,h=>by
   cases b<;>simp_all only[SV.beq,false_eq_true]
   rw[SV.lE l _ h]
 | .top,b,h=>by cases b<;>simp_all [SV.beq]
theorem SV.lE:∀(a b:List SV),SV.kW a b=true->a=b
 | [],[],_=>rfl
 |a::as,b::bs,h=>by
  simp only[SV.kW,and_eq_true]at h;rw[SV.beq_eq a b h.1,SV.lE as bs h.2]
 | [],_::_,h=>by simp[SV.kW]at h
 |_::_,[],h=>by simp[SV.kW]at h
end
theorem SO.beq_eq{a b:SO}(h:a.beq b=true):a=b:=by
 cases a<;>cases b<;>simp_all only[SO.beq,false_eq_true,and_eq_true,decide_eq_true_eq]
 ·rw[SV.lE _ _ h.2]
 ·rw[D.beq_eq _ _ h.2]
theorem aiV{l:List (Nat×SV)}{t k:Nat}(h:k≠t):lk (l.filter λ p=>p.1 !=t) k=lk l k:=by
 induction l with
 |nil=>rfl
 |cons p l ih=>
  obtain⟨q,v⟩:=p;simp only[List.filter_cons];by_cases hq:q=t
  ·subst hq;simp only[bne_self_eq_false,false_eq_true,if_false,lk,if_neg h,ih]
  ·simp only[bne_iff_ne,ne_eq,hq,not_false_eq_true,if_true,lk,ih]
theorem v7(s:SS)(t:Nat)(v:SV)(r:List AV):b7 (s.set t v) r=(b7 s r).set t (v.ev r):=by
 funext k
 simp only[b7,SS.set,lk,Env.set]
 split
 ·rfl
 ·rename_i h;rw[aiV h]
theorem nw(s:SS)(d:Option Nat)(v:SV)(r:List AV):b7 (s.bT d v) r=bT (b7 s r) d (v.ev r):=by
 cases d with
 |none=>rfl
 |some t=>exact v7 s t v r
theorem nu(s:SS)(d:Option Nat)(v:SV)(r:List AV):bI (s.bT d v) r=bI s r:=by cases d<;>rfl
theorem qh(s:SS)(d:Option Nat)(v:SV):(s.bT d v).nv=s.nv:=by cases d<;>rfl
theorem aX(s:SS)(x:aI)(r:List AV):(cU s x).ev r=x.ev (b7 s r):=by cases x<;>rfl
theorem tM{f:SV->SV}(hf:f .top= .top):∀(l:List (Nat×SV)) (t:Nat),lk (l.map λ p=>(p.1,f p.2)) t=f (lk l t)
 | [],t=>hf.symm
 |(k,v)::l,t=>by
  simp only[map_cons,lk]
  split
  ·rfl
  ·exact tM hf l t
end Go.Ab
namespace Go.Ab
def js(P:Program):List Node->List AV->(List AV->Prop)->Prop
 | [],r,K=>K r
 | .op o::ns,r,K=>o.wp P r λ v=>js P ns (r++ [v]) K
 | .aJ c::ns,r,K=>c.wp r (js P ns r K)
section
variable {P:Program}
theorem pk{L:AX->SS->List AV->Prop}{R:AV->Prop}{t:T}{S:List (List AV->Prop)}:∀(ns:List Node) (r:List AV),bF P L R (wrap ns t) r S=js P ns r λ r'=>bF P L R t r' S
 | [],r=>rfl
 | .op o::ns,r=>by simp only[wrap,bF,js,pk ns]
 | .aJ c::ns,r=>by simp only[wrap,bF,js,pk ns]
theorem tE{c a b:AV}{O O':List ae}{K K':KT}(h:oQ c a b O K)(hk:∀x,K x O->K' x O'):oQ c a b O' K':=by
 unfold oQ at*;split at h<;>first|exact hk _ h|exact h.elim
theorem yQ{op:BinOp}{a b:AV}{O O':List ae}{K K':KT}(h:eS op a b O K)(hk:∀x,(∃v,x= .v v)->K x O->K' x O'):eS op a b O' K':=by
 unfold eS at*;split at h
 ·split at h<;>first|exact hk _ ⟨_,rfl⟩ h|exact h.elim
 ·exact h.elim
theorem aa2{op:UnOp}{a:AV}{O O':List ae}{K K':KT}(h:unK op a O K)(hk:∀x,(∃v,x= .v v)->K x O->K' x O'):unK op a O' K':=by
 unfold unK at*;split at h
 ·split at h<;>first|exact hk _ ⟨_,rfl⟩ h|exact h.elim
 ·exact h.elim
theorem ui{k:IntKind}{a:AV}{O O':List ae}{K K':KT}(h:vb k a O K)(hk:∀x,(∃v,x= .v v)->K x O->K' x O'):vb k a O' K':=by
 unfold vb at*;split at h<;>first|exact hk _ ⟨_,rfl⟩ h|exact h.elim
theorem mM{n:Option Nat}{a:AV}{f:Nat}(h:a.ag=true):(dG n a f).ag=true:=by
 unfold dG
 split
 ·exact gj (il h) f
 ·split
  ·exact h
  ·exact fF λ x hx=>bf (il h) x (mem_of_mem_drop (mem_of_mem_take hx))
theorem ad1{off:Nat}{n:Option Nat}{a:AV}{O O':List ae}{K K':KT}(h:ajp off n a O K)(hk:∀x,(a.ag=true->x.ag=true)->K x O->K' x O'):ajp off n a O' K':=
 ⟨h.1,h.2.1,hk _ mM h.2.2⟩
theorem tW{a i:AV}{O O':List ae}{K K':KT}(h:uV a i O K)(hk:∀x,(∃v,x= .v v)->K x O->K' x O'):uV a i O' K':=by
 unfold uV at*;split at h<;>first|exact⟨h.1,h.2.1,hk _ ⟨_,rfl⟩ h.2.2⟩|exact h.elim
theorem tO{a:AV}{O O':List ae}{K K':KT}(h:uN a O K)(hk:∀x,(∃v,x= .v v)->K x O->K' x O'):uN a O' K':=by
 unfold uN at*;split at h<;>first|exact hk _ ⟨_,rfl⟩ h|exact h.elim
theorem wv{d:Int}{x:Option AV}{M M':Int->Prop}(h:y8 d x M)(hm:∀i,M i->M' i):y8 d x M':=by
 unfold y8 at*;split at h<;>first|exact hm _ h|exact h.elim
theorem px{a:AV}{lo hi:Option AV}{O O':List ae}{K K':KT}(h:lq a lo hi O K)(hk:∀x,(∃v,x= .v v)->K x O->K' x O'):lq a lo hi O' K':=by
 unfold lq at*;split at h
 ·exact wv h λ l hl=>wv hl λ h' hh=>⟨hh.1,hh.2.1,hh.2.2.1,hk _ ⟨_,rfl⟩ hh.2.2.2⟩
 ·exact h.elim
theorem py{s:Nat}{a:AV}{lo hi:Option AV}{O O':List ae}{K K':KT}(h:lu s a lo hi O K)(hk:∀x,(a.ag=true->x.ag=true)->K x O->K' x O'):lu s a lo hi O' K':=by
 unfold lu at*;split at h
 ·rename_i xs;exact wv h λ l hl=>wv hl λ h' hh=>⟨hh.1,hh.2.1,hh.2.2.1,hh.2.2.2.1,hk _ (λ hn=>fF λ x hx=>bf (by exact hn) x (mem_of_mem_take (mem_of_mem_drop hx))) hh.2.2.2.2⟩
 ·exact h.elim
theorem aap{a:AV}{O':List ae}{K K':KT}(h:lV a [] K)(hk:∀x,(∃v,x= .v v)->K x []->K' x O'):lV a O' K':=by
 unfold lV at*
 split at h
 ·exact hk _ ⟨_,rfl⟩ h
 ·exact hk _ ⟨_,rfl⟩ h
 ·simp[tH]at h
 ·exact h.elim
theorem xO{a:AV}{K K':KT}(h:lV a [] K)(hk:∀x,(∃v,x= .v v)->K x []->K' x []):lV a [] K':=aap h hk
theorem p9{y:AV}{M M':List AV->Prop}(h:kx [] y M)(hm:∀ys,(y.ag=true->AV.ad ys=true)->M ys->M' ys):kx [] y M':=by
 unfold kx at*
 split at h
 ·exact hm _ (λ _=>rfl) h
 ·exact hm _ (λ h=>h) h
 ·simp[tH]at h
 ·exact h.elim
theorem aiy{o:PU}{xs:List AV}{v:AV}(h:v8 o xs=some v):v.ag=true:=by
 unfold v8 at h
 split at h
 ·simp only[map_eq_some_iff]at h;obtain⟨l,_,rfl⟩:=h;rfl
 ·cases h;rfl
 ·cases h;rfl
 ·cases h;rfl
 ·cases h;rfl
 ·cases h;rfl
 ·cases h;rfl
 ·cases h;rfl
 ·cases h;rfl
 ·split at h
  ·cases h;rfl
  ·cases h
 ·split at h
  ·cases h;rfl
  ·cases h
 ·cases h
theorem ae3(s:ByteArray):AV.ad (dt s)=true:=fF λ a ha=>by
 obtain⟨c,_,rfl⟩:=List.mem_map.1 ha;rfl
theorem PO.wp_mono{r:List AV}(hr:AV.ad r=true){o:PO}(hc:cO r.length [.op o]=true){K K':AV->Prop}(h:o.wp P r K)(hk:∀v,v.ag=true->K v->K' v):o.wp P r K':=by
 have hv:∀x:AV,(∃v,x= .v v)->x.ag=true:=by rintro _ ⟨v,rfl⟩;rfl
 cases o<;>simp only[cO,PO.cl,Bool.and_true,and_eq_true]at hc<;>simp only[PO.wp]at h⊢
 case val x=>exact hk _ (D.bN hr x hc) h
 case pick c a b=>
  refine tE (K:=λ x _=>(x=a.ev r∨x=b.ev r)/\K x) (K':=λ x _=>K' x) ?_ (λ x hx=>hk x ?_ hx.2) (O:=[])
  ·simp only[oQ]at h⊢
   split at h
   ·rename_i t _;exact⟨by cases t<;>simp,h⟩
   ·exact h.elim
  ·rcases hx.1 with rfl|rfl
   ·exact D.bN hr a hc.1.2
   ·exact D.bN hr b hc.2
 case bin op a b=>exact yQ (K:=λ x _=>K x) (K':=λ x _=>K' x) h λ x hx hK=>hk x (hv x hx) hK
 case beq neg a b=>simp only[aeL]at h⊢;split at h<;>first|exact hk _ rfl h|exact h.elim
 case un op a=>exact aa2 (K:=λ x _=>K x) (K':=λ x _=>K' x) h λ x hx hK=>hk x (hv x hx) hK
 case conv k a=>exact ui (K:=λ x _=>K x) (K':=λ x _=>K' x) h λ x hx hK=>hk x (hv x hx) hK
 case elem s l i=>
  simp only[kK]at h⊢
  split at h
  ·rename_i xs _ i hl _;refine⟨h.1,h.2.1,h.2.2.1,hk _ (gj ?_ _) h.2.2.2⟩;have:=D.bN hr l hc.1;rw[hl]at this;exact this
  ·exact h.elim
 case yC off n a=>exact ad1 (K:=λ x _=>K x) (K':=λ x _=>K' x) h λ x hx hK=>hk x (hx (D.bN hr a hc)) hK
 case uM f m a=>exact⟨h.1,hk _ (mM (D.bN hr a hc)) h.2⟩
 case kU a i=>exact tW (K:=λ x _=>K x) (K':=λ x _=>K' x) h λ x hx hK=>hk x (hv x hx) hK
 case eV nl e s f as=>obtain⟨xs,h1,h2,h3⟩:=h;exact⟨xs,h1,h2,hk _ h2 h3⟩
 case bp f g as=>obtain⟨os,h1,h2,h3,h4⟩:=h;exact⟨os,h1,h2,h3,hk _ h3 h4⟩
 case fC a lo hi=>exact px (K:=λ x _=>K x) (K':=λ x _=>K' x) h λ x hx hK=>hk x (hv x hx) hK
 case db s a lo hi=>exact py (K:=λ x _=>K x) (K':=λ x _=>K' x) h λ x hx hK=>hk x (hx (D.bN hr a hc)) hK
 case kC a=>exact tO (K:=λ x _=>K x) (K':=λ x _=>K' x) h λ x hx hK=>hk x (hv x hx) hK
 case bM a=>exact xO (K:=λ x _=>K x) (K':=λ x _=>K' x) h λ x hx hK=>hk x (hv x hx) hK
 case kB z n ps=>
  refine hk _ ?_ h
  have key:∀(ps:List (Nat×D)) (z:List AV),AV.ad z=true->ps.all (λ p=>p.2.cl r.length)=true->AV.ad (eX z (ps.map λ p=>(p.1,p.2.ev r)))=true:=by
   intro ps
   induction ps with
   |nil=>intro z hz _;exact hz
   |cons p ps ih=>
    intro z hz hp;simp only[all_cons,and_eq_true]at hp;simp only[map_cons,eX];refine ih _ (fF λ a ha=> ?_) hp.2;rcases List.mem_or_eq_of_mem_set ha with h|rfl
    ·exact bf hz a h
    ·exact D.bN hr _ hp.1
  exact key ps _ (fF λ a ha=>by rw[List.eq_of_mem_replicate ha];exact hc.1) hc.2
 case rep bytes z n c=>
  simp only[adb]at h⊢
  split at h
  ·exact⟨h.1,h.2.1,h.2.2.1,h.2.2.2.1,hk _ (fF λ a ha=>by rw[List.eq_of_mem_replicate ha];exact hc) h.2.2.2.2⟩
  ·exact h.elim
 case app s b l y=>
  refine p9 (M':=λ ys=>_/\_/\_/\K' _) h λ ys tg hK=>⟨hK.1,hK.2.1,hK.2.2.1,hk _ ?_ hK.2.2.2⟩
  show AV.ad _=true;rw[aG,cN (D.bN hr l hc.1),tg (D.bN hr y hc.2)];rfl
 case get l i f n=>exact⟨h.1,h.2.1,hk _ (mM (gj (cN (D.bN hr l hc)) _)) h.2.2⟩
 case set l i f m y=>
  obtain⟨h1,h2,h3,h4,h5⟩:=h;have hl:=cN (D.bN hr l hc.1);have hy:=D.bN hr y hc.2;refine⟨h1,h2,h3,h4,hk _ (fF λ a ha=> ?_) h5⟩;rcases List.mem_or_eq_of_mem_set ha with h|rfl
  ·exact bf hl a h
  ·have hx:=gj hl (idxOf (i.ev r));unfold qC
   split
   ·exact hy
   ·refine fF λ a ha=> ?_
    simp only[List.mem_append]at ha;rcases ha with(ha|ha)|ha
    ·exact bf (il hx) a (mem_of_mem_take ha)
    ·exact bf (il hy) a ha
    ·exact bf (il hx) a (mem_of_mem_drop ha)
 case call f as b=>obtain⟨res,h1,h2,h3,h4⟩:=h;exact⟨res,h1,h2,h3,hk _ h2 h4⟩
 case eu g as b=>
  simp only[pT]at h⊢
  split at h
  ·obtain⟨res,h1,h2,h3,h4⟩:=h;exact⟨res,h1,h2,h3,hk _ h2 h4⟩
  ·exact h.elim
 case ldp n a=>
  simp only[aiX]at h⊢
  split at h
  ·rename_i y f hy;refine⟨h.1,hk _ (mM ?_) h.2⟩;have:=D.bN hr a hc;rw[hy]at this;exact this
  ·exact h.elim
 case pu o ds=>
  unfold puK at h⊢
  split at h
  ·rename_i v hv;exact hk _ (aiy hv) h
  ·exact h.elim
 case j7 s b l y=>
  simp only[yS]at h⊢
  split at h
  ·refine⟨h.1,h.2.1,h.2.2.1,hk _ ?_ h.2.2.2⟩
   show AV.ad _=true;rw[aG,cN (D.bN hr l hc.1),ae3];rfl
  ·exact h.elim
 case fap off a=>
  simp only[ajr]at h⊢
  split at h
  ·rename_i y f hy;refine hk _ ?_ h;have:=D.bN hr a hc;rw[hy]at this;exact this
  ·exact h.elim
theorem nf.wp_mono{r:List AV}{c:nf}{K K':Prop}(h:c.wp r K)(hk:K->K'):c.wp r K':=by
 cases c
 case cells=>exact⟨h.1,h.2.1,h.2.2.1,hk h.2.2.2⟩
 case one=>exact⟨h.1,h.2.1,hk h.2.2⟩
 case lt=>exact⟨h.1,hk h.2⟩
 case ba a j=>simp only[nf.wp,ah4]at h⊢;split at h<;>first|exact⟨h.1,hk h.2⟩|exact h.elim
 case idx l i=>simp only[nf.wp,agh]at h⊢;split at h<;>first|exact⟨h.1,h.2.1,hk h.2.2⟩|exact h.elim
 case alY a=>simp only[nf.wp,xV]at h⊢;split at h<;>first|exact hk h|exact h.elim
 case ne=>exact⟨h.1,hk h.2⟩
 case eql=>exact⟨h.1,hk h.2⟩
 case no=>exact h.elim
structure vY(r r':List AV)(n:Nat):Prop where
 pre:∃m,r'=r++m
 len:r'.length=n
 nor:AV.ad r'=true
theorem wF:∀(ns:List Node) {r:List AV} {K K':List AV->Prop},AV.ad r=true->cO r.length ns=true->js P ns r K->(∀r',vY r r' (iy r.length ns)->K r'->K' r')->js P ns r K'
 | [],r,K,K',hr,_,h,hk=>hk r ⟨⟨[],by simp⟩,rfl,hr⟩ h
 | .op o::ns,r,K,K',hr,hc,h,hk=>by
   have hc0:cO r.length [.op o]=true/\cO (r.length+1) ns=true:=by
    simp only[cO,and_eq_true,Bool.and_true]at hc⊢;exact hc
   refine PO.wp_mono hr hc0.1 h λ v hv hK=> ?_
   refine wF ns (r:=r++ [v]) (by rw[aG,hr];simp[AV.ad,hv]) (by simpa using hc0.2) hK λ r' hm hK'=>hk r' ⟨?_,?_,hm.nor⟩ hK'
   ·obtain⟨m,rfl⟩:=hm.pre;exact⟨v::m,by simp⟩
   ·rw[hm.len];simp[iy]
 | .aJ c::ns,r,K,K',hr,hc,h,hk=>nf.wp_mono h λ h'=>wF ns hr (by simpa [cO]using hc) h' hk
theorem cJ:∀(a b:List Node) (r:List AV) (K:List AV->Prop),js P (a++b) r K=js P a r λ r'=>js P b r' K
 | [],b,r,K=>rfl
 | .op o::a,b,r,K=>by simp only[cons_append,js,cJ a]
 | .aJ c::a,b,r,K=>by simp only[cons_append,js,cJ a]
end
end Go.Ab
namespace Go.Ab
section
variable {P:Program}
theorem s7:∀{cs:List SV} {ds:List D},agA cs=some ds->cs=ds.map .d
 | [],ds,h=>by simp[agA]at h;subst h;rfl
 |v::l,ds,h=>by
  cases v<;>simp only[agA,reduceCtorEq]at h
  split at h
  ·rename_i ds' hd;cases h;rw[s7 hd];rfl
  ·cases h
theorem qp(r:List AV):∀(ds:List D),SV.a9 r (ds.map .d)=D.a9 r ds
 | []=>rfl
 |d::ds=>by simp only[map_cons,SV.a9,D.a9,SV.ev,qp r ds]
theorem D.aT(r:List AV)(l:List D):D.a9 r l=l.map (D.ev r):=by
 induction l with
 |nil=>rfl
 |cons a l ih=>simp[D.a9,ih]
theorem SV.aT(r:List AV)(l:List SV):SV.a9 r l=l.map (SV.ev r):=by
 induction l with
 |nil=>rfl
 |cons a l ih=>simp[SV.a9,ih]
theorem acs{n:Nat}:∀{l:List D},D.cls n l=true↔∀d∈l,d.cl n=true
 | []=>by simp[D.cls]
 |a::l=>by simp[D.cls,acs (l:=l)]
theorem sn{n:Nat}:∀{l:List SV},SV.cls n l=true↔∀d∈l,d.cl n=true
 | []=>by simp[SV.cls]
 |a::l=>by simp[SV.cls,sn (l:=l)]
theorem yM(r:List AV)(i m:Nat)(h:(r.getD i .top).cells.length=m):((List.range m).map λ j=>(r.getD i .top).cells.getD j .top)=(r.getD i .top).cells:=by
 generalize (r.getD i .top).cells=l at h⊢;subst h;apply ext_getElem
 ·simp
 ·intro k h1 h2;rw[getElem_map,getElem_range,List.getD,getElem?_eq_getElem h2];rfl
theorem ad6{kn:List (Nat×Nat)}{ds:List D}{i:Nat}(h:am2 kn ds=some i):ds=(List.range ds.length).map λ j=> .cell i j:=by
 unfold am2 at h
 split at h
 ·split at h
  ·cases h;rename_i hb;exact D.lE _ _ hb.2
  ·cases h
 ·cases h
theorem j6{kn:List (Nat×Nat)}{v:SV}{ns:List Node}{d:D}(h:asD kn v=some (ns,d)){r:List AV}{G:List AV->Prop}(hw:js P ns r G):G r/\d.ev r=v.ev r:=by
 unfold asD at h
 split at h
 ·cases h;exact⟨hw,rfl⟩
 ·rename_i cs
  split at h
  ·rename_i ds hd;have y6:=s7 hd;subst y6
   split at h
   ·rename_i i hi;cases h;have he:=ad6 hi;simp only[js,nf.wp,D.ev]at hw;obtain⟨h1,h2,h3,h4⟩:=hw;refine⟨h4,?_⟩;simp only[D.ev,SV.ev,qp];rw[he,D.aT,map_map];have:=yM r i _ h2;rw[AV.uu h1];congr 1;rw[←this]
    rfl
   ·cases h;exact⟨hw,by simp only[D.ev,SV.ev,qp]⟩
  ·cases h
 ·cases h;exact⟨hw,rfl⟩
 ·cases h
theorem yR{kn:List (Nat×Nat)}{v:SV}{ns:List Node}{d:D}(h:asD kn v=some (ns,d))(nv:Nat):iy nv ns=nv:=by
 unfold asD at h
 split at h
 ·cases h;rfl
 ·split at h
  ·split at h<;>cases h<;>rfl
  ·cases h
 ·cases h;rfl
 ·cases h
theorem iV(nv:Nat):∀(a b:List Node),iy nv (a++b)=iy (iy nv a) b:=by
 intro a
 induction a generalizing nv with
 |nil=>intro b;rfl
 |cons x a ih=>intro b;cases x<;>simp[iy,ih]
theorem dZ{s:SS}{n:Nat}{l:D}{nl:Bool}{e sz:Nat}(h:cur s n l=some (nl,e,sz)):s.ai[n]? =some (.row nl e sz l):=by
 unfold cur at h
 split at h
 ·rename_i l' ho
  split at h
  ·rename_i hb;cases h;rw[ho,D.beq_eq _ _ hb]
  ·cases h
 ·cases h
theorem jm{s:SS}{n e:Nat}{cs:List SV}(h:mn s n=some (e,cs)):s.ai[n]? =some (.box e cs):=by
 unfold mn at h
 split at h
 ·rename_i ho;cases h;exact ho
 ·cases h
theorem fV{s:SS}{n:Nat}{o:SO}(h:s.ai[n]? =some o)(r:List AV):(bI s r)[n]? =some (o.ev r):=by
 simp[bI,h]
theorem dI(s:SS)(r:List AV):(bI s r).length=s.ai.length:=by simp[bI]
theorem eJ{cs:List AV}(h:cs.length≠1):lH cs= .agg cs:=by
 unfold lH
 split
 ·simp at h
 ·rfl
theorem rH{cs:List SV}(ht:mW cs=true){r:List AV}{G:List AV->Prop}(hw:js P (kj cs) r G):G r/\∀c∈SV.a9 r cs,c.cg=true:=by
 induction cs with
 |nil=>exact⟨hw,by simp[SV.a9]⟩
 |cons v l ih=>
  cases v with
  |d x=>
   simp only[kj,js,nf.wp]at hw;obtain⟨h1,h2,h3⟩:=hw;obtain⟨h4,h5⟩:=ih (by simpa [mW]using ht) h3;refine⟨h4,λ c hc=> ?_⟩;simp only[SV.a9,SV.ev,mem_cons]at hc;rcases hc with rfl|hc
   ·exact h2
   ·exact h5 c hc
  |top=>simp[mW]at ht
  |agg _=>simp[mW]at ht
  |ba _=>simp[mW]at ht
  |_=>
   simp only[kj]at hw;obtain⟨h4,h5⟩:=ih (by simpa [mW]using ht) hw;refine⟨h4,λ c hc=> ?_⟩;simp only[SV.a9,SV.ev,mem_cons]at hc;rcases hc with rfl|hc
   ·rfl
   ·exact h5 c hc
theorem ahi(cs:List SV)(nv:Nat):iy nv (kj cs)=nv:=by
 induction cs with
 |nil=>rfl
 |cons v l ih=>cases v<;>simp[kj,iy,ih]
structure ajZ(m:Nat)(a:AV)(cs:List AV):Prop where
 len:a.cells.length=m
 sto:a.storable=true
 cells:a.cells=cs
 kind:(a.cg||a.isAgg)=true
 one:m=1->a.cg=true
 agg:m≠1->a.isAgg=true
theorem nq{a:AV}(h:a.cg=true):a.storable=true:=by
 unfold AV.storable;rw[AV.gl h];simp[h]
theorem ajZ.lH{m:Nat}{a:AV}{cs:List AV}(h:ajZ m a cs):a=lH cs:=by
 by_cases hm:m=1
 ·have:=AV.gl (h.one hm);rw[←h.cells,this];rfl
 ·rw[eJ (by rw[←h.cells,h.len];exact hm),←h.cells];exact AV.uu (h.agg hm)
theorem lB{nv m:Nat}{v:SV}{ns:List Node}{cs:List SV}(h:expand nv m v=some (ns,cs)){r:List AV}(hl:r.length=nv)(hv:v.cl nv=true){G:List AV->Prop}(hw:js P ns r G):
  ∃r',(∃more,r'=r++more)/\r'.length=iy nv ns/\G r'/\ajZ m (v.ev r) (SV.a9 r' cs):=by
 unfold expand at h
 split at h
 ·rename_i hm;subst hm;have one:∀{a:AV},a.cg=true->ajZ 1 a [a]:=λ {a} ha=>⟨by rw[AV.gl ha];rfl,nq ha,AV.gl ha,by rw[ha];rfl,λ _=>ha,λ h=>(h rfl).elim⟩
  split at h
  ·rename_i x;cases h;simp only[js,nf.wp]at hw;exact⟨r,⟨[],by simp⟩,hl,hw.2.2,one hw.2.1⟩
  ·cases h
  ·cases h
  ·cases h
  ·rename_i h1 h2 h4 h3;cases h;refine⟨r,⟨[],by simp⟩,hl,hw,?_⟩;cases v
   case d x=>exact(h1 x rfl).elim
   case agg x=>exact(h2 x rfl).elim
   case ba x=>exact(h4 x rfl).elim
   case top=>exact(h3 rfl).elim
   all_goals exact one rfl
 ·rename_i hm;have agg:∀{a:AV} {cs:List AV},a.isAgg=true->a.cells.length=m->a.storable=true->a.cells=cs->ajZ m a cs:=λ {a cs} h1 h2 h3 h4=>⟨h2,h3,h4,by rw[h1];simp,λ h=>(hm h).elim,λ _=>h1⟩
  split at h
  ·rename_i cs'
   split at h
   ·rename_i hc;cases h;obtain⟨h1,h2⟩:=rH hc.2 hw;refine⟨r,⟨[],by simp⟩,by rw[ahi,hl],h1,agg rfl ?_ ?_ rfl⟩
    ·simp[SV.ev,AV.cells,SV.aT,hc.1]
    ·simp only[SV.ev,AV.storable,AV.cells,List.all_eq_true];exact h2
   ·cases h
  ·rename_i i;cases h;simp only[js,nf.wp,D.ev]at hw;obtain⟨h1,h2,h3,h4⟩:=hw;refine⟨r,⟨[],by simp⟩,hl,h4,agg h1 h2 h3 ?_⟩;simp only[SV.ev,D.ev];rw[←yM r i m h2,SV.aT,map_map]
   rfl
  ·rename_i l
   split at h
   ·rename_i hll;cases h;simp only[js,nf.wp]at hw;obtain⟨h1,h2,h3,h4⟩:=hw;exact⟨r,⟨[],by simp⟩,hl,h4,agg h1 h2 h3 (by simp only[SV.ev,D.ev,AV.cells];rw[qp])⟩
   ·cases h
  ·rename_i l
   split at h
   ·rename_i hll;cases h;simp only[js,nf.wp]at hw;obtain⟨h1,h2,h3,h4⟩:=hw;refine⟨r,⟨[],by simp⟩,hl,h4,agg h1 h2 h3 ?_⟩;simp only[SV.ev,D.ev,AV.cells,SV.aT,map_map];exact(map_id l).symm
   ·cases h
  ·rename_i x _ _ _;cases h;simp only[js,PO.wp,nf.wp]at hw;have hx:(r++ [x.ev r]).getD nv .top=x.ev r:=by simp[List.getD,←hl]
   simp only[D.ev,hx]at hw;obtain⟨h1,h2,h3,h4⟩:=hw;refine⟨r++ [x.ev r],⟨_,rfl⟩,by simp[iy,hl],h4,agg h1 h2 h3 ?_⟩;simp only[SV.ev];have:=yM (r++ [x.ev r]) nv m (by rw[hx];exact h2);rw[hx]at this;rw[←this,SV.aT,map_map];apply map_congr_left;intro j _;simp only[Function.comp,SV.ev,D.ev,hx]
  ·cases h
theorem bE{r:List AV}{nv:Nat}(h:r.length=nv)(a:AV):(r++ [a]).getD nv .top=a:=by simp[List.getD,←h]
theorem D.wo{s:SS}{x:Option aI}{d:Option D}(h:y9 s x=some d)(r:List AV):D.evo r d=x.map (aI.ev (b7 s r)):=by
 unfold y9 at h
 split at h
 ·cases h;rfl
 ·rename_i o
  split at h
  ·rename_i y hy;cases h;have:=aX s o r;rw[hy]at this;simp only[D.evo,map_some,←this];rfl
  ·cases h
end
end Go.Ab
namespace Go.Ab
section
variable {P:Program}
theorem PO.pj{r:List AV}{o:PO}{K K':AV->Prop}(h:o.wp P r K)(hk:∀v,K v->K' v):o.wp P r K':=by
 cases o<;>simp only[PO.wp]at h⊢
 case val=>exact hk _ h
 case pick=>exact tE (K:=λ x _=>K x) (K':=λ x _=>K' x) h λ x hx=>hk x hx
 case bin=>exact yQ (K:=λ x _=>K x) (K':=λ x _=>K' x) h λ x _ hx=>hk x hx
 case beq=>simp only[aeL]at h⊢;split at h<;>first|exact hk _ h|exact h.elim
 case un=>exact aa2 (K:=λ x _=>K x) (K':=λ x _=>K' x) h λ x _ hx=>hk x hx
 case conv=>exact ui (K:=λ x _=>K x) (K':=λ x _=>K' x) h λ x _ hx=>hk x hx
 case elem=>simp only[kK]at h⊢;split at h<;>first|exact⟨h.1,h.2.1,h.2.2.1,hk _ h.2.2.2⟩|exact h.elim
 case yC=>exact ad1 (K:=λ x _=>K x) (K':=λ x _=>K' x) h λ x _ hx=>hk x hx
 case uM=>exact⟨h.1,hk _ h.2⟩
 case kU=>exact tW (K:=λ x _=>K x) (K':=λ x _=>K' x) h λ x _ hx=>hk x hx
 case fC=>exact px (K:=λ x _=>K x) (K':=λ x _=>K' x) h λ x _ hx=>hk x hx
 case db=>exact py (K:=λ x _=>K x) (K':=λ x _=>K' x) h λ x _ hx=>hk x hx
 case kC=>exact tO (K:=λ x _=>K x) (K':=λ x _=>K' x) h λ x _ hx=>hk x hx
 case bM=>exact xO (K:=λ x _=>K x) (K':=λ x _=>K' x) h λ x _ hx=>hk x hx
 case kB=>exact hk _ h
 case rep=>simp only[adb]at h⊢;split at h<;>first|exact⟨h.1,h.2.1,h.2.2.1,h.2.2.2.1,hk _ h.2.2.2.2⟩|exact h.elim
 case app=>exact p9 (M':=λ ys=>_/\_/\_/\K' _) h λ ys _ hK=>⟨hK.1,hK.2.1,hK.2.2.1,hk _ hK.2.2.2⟩
 case get=>exact⟨h.1,h.2.1,hk _ h.2.2⟩
 case set=>exact⟨h.1,h.2.1,h.2.2.1,h.2.2.2.1,hk _ h.2.2.2.2⟩
 case call=>obtain⟨res,h1,h2,h3,h4⟩:=h;exact⟨res,h1,h2,h3,hk _ h4⟩
 case eV=>obtain⟨xs,h1,h2,h3⟩:=h;exact⟨xs,h1,h2,hk _ h3⟩
 case bp=>obtain⟨os,h1,h2,h3,h4⟩:=h;exact⟨os,h1,h2,h3,hk _ h4⟩
 case eu=>
  simp only[pT]at h⊢
  split at h
  ·obtain⟨res,h1,h2,h3,h4⟩:=h;exact⟨res,h1,h2,h3,hk _ h4⟩
  ·exact h.elim
 case ldp=>simp only[aiX]at h⊢;split at h<;>first|exact⟨h.1,hk _ h.2⟩|exact h.elim
 case fap=>simp only[ajr]at h⊢;split at h<;>first|exact hk _ h|exact h.elim
 case pu=>unfold puK at h⊢;split at h<;>first|exact hk _ h|exact h.elim
 case j7=>simp only[yS]at h⊢;split at h<;>first|exact⟨h.1,h.2.1,h.2.2.1,hk _ h.2.2.2⟩|exact h.elim
theorem kq:∀(ns:List Node) {r:List AV} {G G':List AV->Prop},(∀m,G (r++m)->G' (r++m))->js P ns r G->js P ns r G'
 | [],r,G,G',hg,h=>by have:=hg [];simp only[append_nil]at this;exact this h
 | .op o::ns,r,G,G',hg,h=>PO.pj h λ v hv=>kq ns (λ m hm=>by rw[List.append_assoc]at hm⊢;exact hg _ hm) hv
 | .aJ c::ns,r,G,G',hg,h=>nf.wp_mono h (kq ns hg)
def dN(P:Program)(op:ew)(s:SS)(q:List Node×SV×SS):Prop:=
 ∀(r:List AV),r.length=s.nv->s.cl=true->AV.ad r=true->cO s.nv q.1=true->∀K:KT,js P q.1 r (λ r'=>b7 q.2.2 r'=b7 s r->K (q.2.1.ev r') (bI q.2.2 r'))->wpOp P op (b7 s r) (bI s r) K
theorem afL{s:SS}{r:List AV}(hl:r.length=s.nv)(hc:s.cl=true){ns:List Node}(hn:iy s.nv ns=s.nv){o:PO}{K:KT}{x:AV}(h:b7 (nx s ns o).2.2 (r++ [x])=b7 s r->K ((nx s ns o).2.1.ev (r++ [x])) (bI (nx s ns o).2.2 (r++ [x]))):K x (bI s r):=by
 have h1:b7 (nx s ns o).2.2 (r++ [x])=b7 s r:=eo (s:=s) hl hc;have h2:=h h1;have h3:bI (nx s ns o).2.2 (r++ [x])=bI s r:=e9 (s:=s) hl hc;rw[h3]at h2
 have h4:(nx s ns o).2.1.ev (r++ [x])=x:=by
  simp only[nx,SV.ev,D.ev,hn];exact bE hl x
 rwa [h4]at h2
theorem k8{s:SS}{r:List AV}(hl:r.length=s.nv)(hc:s.cl=true){o:PO}{K:KT}(h:js P (nx s [] o).1 r (λ r'=>b7 (nx s [] o).2.2 r'=b7 s r->K ((nx s [] o).2.1.ev r') (bI (nx s [] o).2.2 r'))):o.wp P r λ v=>K v (bI s r):=
 PO.pj (o:=o) h λ _ hv=>afL (ns:=[]) (o:=o) hl hc rfl hv
theorem asw(s:SS)(a:aI):dN P (.bc a) s ([],cU s a,s):=by
 intro r hl hc hr gg K h;have:=h rfl;rwa [aX]at this
theorem anJ{s:SS}{t n:Nat}{z:AV}{q}(h:ae9 s t n z=some q):dN P (.alloc t n z) s q:=by
 intro r hl hc hr gg K hk;unfold ae9 at h
 split at h
 ·rename_i hn;cases h;have:=hk rfl;simp only[bI,map_append,map_cons,map_nil,SO.ev,SV.a9,SV.ev,D.ev,lH]at this;simp only[wpOp];rw[dI,hn.1];exact this
 ·split at h
  ·rename_i cs _
   split at h
   ·rename_i hn;cases h;have:=hk rfl
    have he:SV.a9 r (cs.map λ a=> .d (.c a))=cs:=by
     rw[SV.aT,map_map];exact map_id cs
    simp only[bI,map_append,map_cons,map_nil,SO.ev,he,length_map,SV.ev]at this;rw[eJ (by rw[hn.2];exact hn.1),hn.2]at this;simp only[wpOp];rw[dI];exact this
   ·cases h
  ·cases h
theorem auf{s:SS}{t n:Nat}{a:aI}{q}(ha:(cU s a).cl s.nv=true)(h:ary s t n (cU s a)=some q):dN P (.box t n a) s q:=by
 intro r hl hc hr gg K hk;unfold ary at h
 split at h
 ·rename_i ns cs he
  split at h
  ·rename_i y6;cases h;obtain⟨r',⟨more,rfl⟩,hlen,hG,hE⟩:=lB he hl ha hk;have hG:=hG (eo (s:=s) hl hc);simp only[wpOp,←aX]
   have mf:bI {s with ai:=s.ai++ [.box t cs],nv:=iy s.nv ns} (r++more)=bI s r++ [.live t n [(cU s a).ev r]]:=by
    simp only[bI,map_append,map_cons,map_nil,SO.ev];rw[hE.lH,y6];congr 1;exact e9 (s:=s) hl hc
   rw[mf]at hG;rw[dI];exact⟨hE.len,hE.sto,hG⟩
  ·cases h
 ·cases h
theorem rP{s:SS}{k t m:Nat}(h:kept s k t m=true)(r:List AV):(bI s r)[k]? =some (.nil t m):=by
 unfold kept at h
 split at h
 ·rename_i t' m' ho;simp only[and_eq_true,decide_eq_true_eq]at h;obtain⟨rfl,rfl⟩:=h;rw[fV ho r];simp[SO.ev,D.ev,aY]
 ·cases h
theorem agO{s:SS}{k t n:Nat}{z:AV}{q}(hz:z.ag=true)(h:wE s k t n z=some q):dN P (.gq k t n z) s q:=by
 intro r hl hc hr gg K hk;unfold wE at h
 split at h
 ·rename_i zJ;have hO:=rP zJ r
  have fin:∀cs:List AV,cs.length=n->lH cs=z->q=([],.ptr k 0,{s with ai:=s.ai.set k (.box t (cs.map λ a=> .d (.c a)))})->wpOp P (.gq k t n z) (b7 s r) (bI s r) K:=by
   rintro cs y6 hz' rfl;have:=hk rfl
   have hev:SV.a9 r (cs.map λ a=>SV.d (.c a))=cs:=by
    rw[SV.aT,map_map]
    conv=>rhs;rw[←map_id cs]
    rfl
   simp only[bI,map_set,SO.ev,hev,hz',length_map,y6]at this;exact⟨hz,hO,this⟩
  split at h
  ·rename_i hn;cases h;exact fin [z] hn.1.symm rfl rfl
  ·split at h
   ·rename_i cs _
    split at h
    ·rename_i hn;cases h;exact fin cs hn.2 (eJ (by rw[hn.2];exact hn.1)) rfl
    ·cases h
   ·cases h
 ·cases h
theorem anr{s:SS}{k t n:Nat}{a:aI}{q}(mr:a.okc=true)(ha:(cU s a).cl s.nv=true)(h:ae8 s k t n (cU s a)=some q):dN P (.mo k t n a) s q:=by
 intro r hl hc hr gg K hk;unfold ae8 at h
 split at h
 ·rename_i zJ;have hO:=rP zJ r
  split at h
  ·rename_i ns cs he
   split at h
   ·rename_i y6;cases h;obtain⟨r',⟨more,rfl⟩,hlen,hG,hE⟩:=lB he hl ha hk;have hG:=hG (eo (s:=s) hl hc);simp only[wpOp,←aX]
    have mf:bI {s with ai:=s.ai.set k (.box t cs),nv:=iy s.nv ns} (r++more)=(bI s r).set k (.live t n [(cU s a).ev r]):=by
     simp only[bI,map_set,SO.ev];rw[hE.lH,y6];congr 1;exact e9 (s:=s) hl hc
    rw[mf]at hG;exact⟨mr,hO,hE.len,hE.sto,hG⟩
   ·cases h
  ·cases h
 ·cases h
theorem auh{s:SS}{o:BinOp}{a b:aI}{x y:D}(ha:cU s a= .d x)(hb:cU s b= .d y):dN P (.bin o a b) s (nx s [] (.bin o x y)):=by
 intro r hl hc hr gg K hk;rw[aqG,←aX,←aX,ha,hb];exact yQ (O:=[]) (K:=λ x _=>K x (bI s r)) (k8 hl hc hk) λ v _ hv=>hv
theorem auj{s:SS}{neg:Bool}{a b:aI}{x y:D}(ha:cU s a= .d x)(hb:cU s b= .d y):dN P (.beq neg a b) s (nx s [] (.beq neg x y)):=by
 intro r hl hc hr gg K hk;have h1:=k8 (K:=K) hl hc hk;simp only[PO.wp,aeL]at h1;simp only[wpOp,←aX,ha,hb,SV.ev]
 split at h1
 ·rename_i p q hp hq;rw[hp,hq];exact h1
 ·exact h1.elim
theorem avg{s:SS}{o:UnOp}{a:aI}{x:D}(ha:cU s a= .d x):dN P (.un o a) s (nx s [] (.un o x)):=by
 intro r hl hc hr gg K hk;rw[avV,←aX,ha];exact aa2 (O:=[]) (K:=λ x _=>K x (bI s r)) (k8 hl hc hk) λ v _ hv=>hv
theorem ap4{s:SS}{k:IntKind}{a:aI}{x:D}(ha:cU s a= .d x):dN P (.jK k a) s (nx s [] (.conv k x)):=by
 intro r hl hc hr gg K hk;rw[ali,←aX,ha];exact ui (O:=[]) (K:=λ x _=>K x (bI s r)) (k8 hl hc hk) λ v _ hv=>hv
theorem apA{s:SS}{a b:aI}{x y:D}(ha:cU s a= .d x)(hb:cU s b= .d y):dN P (.kU a b) s (nx s [] (.kU x y)):=by
 intro r hl hc hr gg K hk;rw[alh,←aX,←aX,ha,hb];exact tW (O:=[]) (K:=λ x _=>K x (bI s r)) (k8 hl hc hk) λ v _ hv=>hv
theorem apg{s:SS}{a:aI}{x:D}(ha:cU s a= .d x):dN P (.kC a) s (nx s [] (.kC x)):=by
 intro r hl hc hr gg K hk;rw[alg,←aX,ha];exact tO (O:=[]) (K:=λ x _=>K x (bI s r)) (k8 hl hc hk) λ v _ hv=>hv
theorem aph{s:SS}{a:aI}{x:D}(ha:cU s a= .d x):dN P (.bM a) s (nx s [] (.bM x)):=by
 intro r hl hc hr gg K hk;rw[afK,←aX,ha];exact aap (K:=λ x _=>K x (bI s r)) (k8 hl hc hk) λ v _ hv=>hv
theorem bQ(xs:List AV):aY (.sl xs)=xs:=rfl
theorem eZ{s:SS}{n e sz:Nat}{nl:Bool}{l:D}(h:s.ai[n]? =some (.row nl e sz l))(r:List AV):
  (bI s r)[n]? =some (.live e sz (aY (l.ev r)))∨((bI s r)[n]? =some (.nil e sz)/\aY (l.ev r)= []/\nl=true):=by
 have:=fV h r;cases nl with
 |false=>exact .inl this
 |true=>
  simp only[SO.ev]at this
  split at this
  ·rename_i hx;exact .inr ⟨this,hx,rfl⟩
  ·exact .inl this
theorem alH{s:SS}{a:aI}{k:Nat}{l:D}(ha:cU s a= .row k l)(jI:(cur s k l).isSome=true):dN P (.bM a) s (nx s [] (.bM (.sl l))):=by
 intro r hl hc hr gg K hk;rw[afK,←aX,ha];obtain⟨⟨nl,e,sz⟩,hq⟩:=Option.isSome_iff_exists.1 jI;have ho:=dZ hq;have hf:=k8 hl hc hk;simp only[PO.wp,D.ev,xN,k1]at hf;simp only[SV.ev,lV];rcases eZ ho r with h|⟨h,hx,_⟩
 ·rw[h,j0];exact⟨rfl,hf⟩
 ·rw[hx]at hf⊢;rw[h,nG];exact⟨rfl,hf⟩
theorem aia{s:SS}{a:aI}{lo hi:Option aI}{x:D}{dl dh:Option D}(ha:cU s a= .d x)(h1:y9 s lo=some dl)(h2:y9 s hi=some dh):dN P (.fC a lo hi) s (nx s [] (.fC x dl dh)):=by
 intro r hl hc hr gg K hk;rw[adn,←aX,ha,←D.wo h1,←D.wo h2];exact px (O:=[]) (K:=λ x _=>K x (bI s r)) (k8 hl hc hk) λ v _ hv=>hv
theorem aib{s:SS}{m:Nat}{a:aI}{lo hi:Option aI}{x:D}{dl dh:Option D}(ha:cU s a= .d x)(h1:y9 s lo=some dl)(h2:y9 s hi=some dh):dN P (.db m a lo hi) s (nx s [] (.db m x dl dh)):=by
 intro r hl hc hr gg K hk;rw[ado,←aX,ha,←D.wo h1,←D.wo h2];exact py (O:=[]) (K:=λ x _=>K x (bI s r)) (k8 hl hc hk) λ v _ hv=>hv
theorem abC{s:SS}{c a b:aI}{x:D}{na nb:List Node}{y z:D}(fT:cU s c= .d x)(ha:asD s.kn (cU s a)=some (na,y))(hb:asD s.kn (cU s b)=some (nb,z)):dN P (.pick c a b) s (nx s (na++nb) (.pick x y z)):=by
 intro r hl hc hr gg K hk;have h1:iy s.nv (na++nb)=s.nv:=by rw[iV,yR ha,yR hb]
 simp only[nx,cJ]at hk;obtain⟨hk,e1⟩:=j6 ha hk;obtain⟨hk,e2⟩:=j6 hb hk;rw[afJ,←aX,←aX,←aX,fT,←e1,←e2];have:=PO.pj (o:= .pick x y z) hk λ v hv=>afL (o:= .pick x y z) (K:=K) hl hc h1 hv
 exact tE (O:=[]) (K:=λ x _=>K x (bI s r)) this λ v hv=>hv
theorem ak2{s:SS}{c a b:aI}{t:Bool}(fT:cU s c= .d (.c (.v (.bool t)))):dN P (.pick c a b) s ([],if t then cU s a else cU s b,s):=by
 intro r hl hc hr gg K hk;have:=hk rfl;rw[afJ,←aX,fT];simp only[SV.ev,D.ev,oQ];cases t<;>simpa [aX]using this
theorem xA{s:SS}{r:List AV}(hl:r.length=s.nv)(hc:s.cl=true){ns:List Node}{cs:List SV}{K:KT}
  (h:js P (norm s ns cs).1 r (λ r2=>b7 (norm s ns cs).2.2 r2=b7 s r->K ((norm s ns cs).2.1.ev r2) (bI (norm s ns cs).2.2 r2))):js P ns r (λ r2=>K (.agg (SV.a9 r2 cs)) (bI s r)):=by
 unfold norm at h
 split at h
 ·rename_i ms x hx;simp only[done,cJ]at h;refine kq ns (λ m h2=> ?_) h;obtain⟨h3,h4⟩:=j6 hx h2;have h5:=h3 (eo (s:=s) hl hc);simp only[SV.ev]at h5 h4;rw[h4]at h5;have:bI {s with nv:=iy s.nv (ns++ms)} (r++m)=bI s r:=e9 (s:=s) hl hc;rwa [this]at h5
 ·simp only[done]at h;refine kq ns (λ m h2=> ?_) h;have h5:=h2 (eo (s:=s) hl hc);simp only[SV.ev]at h5;have:bI {s with nv:=iy s.nv ns} (r++m)=bI s r:=e9 (s:=s) hl hc;rwa [this]at h5
end
end Go.Ab
namespace Go.Ab
section
variable {P:Program}
theorem aaL{r m:List AV}{cs:List SV}(h:∀c∈cs,c.cl r.length=true):SV.a9 (r++m) cs=SV.a9 r cs:=SV.fI cs (sn.2 h)
theorem ajs{nv m:Nat}{v:SV}{ns:List Node}{cs:List SV}(h:expand nv m v=some (ns,cs))(hv:v.cl nv=true):∀c∈cs,c.cl (iy nv ns)=true:=by
 unfold expand at h
 split at h
 ·split at h
  ·cases h;simpa [SV.cl,iy]using hv
  ·cases h
  ·cases h
  ·cases h
  ·cases h;simpa [iy]using hv
 ·split at h
  ·split at h
   ·cases h;rw[ahi];exact sn.1 hv
   ·cases h
  ·cases h;simp only[mem_map,iy];rintro c ⟨j,_,rfl⟩;exact hv
  ·split at h
   ·cases h;simp only[mem_map,iy];rintro c ⟨d,hd,rfl⟩;exact acs.1 (by simpa [SV.cl,D.cl]using hv) d hd
   ·cases h
  ·split at h
   ·cases h;simp only[mem_map,iy];rintro c ⟨d,hd,rfl⟩;exact bf (by simpa [SV.cl,D.cl,AV.ag]using hv) d hd
   ·cases h
  ·cases h;simp only[mem_map,iy];rintro c ⟨j,_,rfl⟩;simp[SV.cl,D.cl]
  ·cases h
mutual
theorem vc{n m:Nat}(h:n<=m):∀(d:D),d.cl n=true->d.cl m=true
 | .x i=>by simp only[D.cl,decide_eq_true_eq];omega
 | .c a=>id
 | .cell i j=>by simp only[D.cl,decide_eq_true_eq];omega
 | .ext i j=>by simp only[D.cl,decide_eq_true_eq];omega
 | .sl l=>by simpa only[D.cl]using vc h l
 | .agg l=>by simpa only[D.cl]using agE h l
 | .fn f l=>by simpa only[D.cl]using agE h l
 | .ip d f=>by simpa only[D.cl]using vc h d
theorem agE{n m:Nat}(h:n<=m):∀(l:List D),D.cls n l=true->D.cls m l=true
 | []=>id
 |d::l=>by
  simp only[D.cls,and_eq_true];exact λ q=>⟨vc h d q.1,agE h l q.2⟩
end
mutual
theorem abr{n m:Nat}(h:n<=m):∀(v:SV),v.cl n=true->v.cl m=true
 | .d x=>vc h x
 | .row k l=>vc h l
 | .ptr k f=>id
 | .rp k l i f=>by simp only[SV.cl,and_eq_true];exact λ q=>⟨vc h l q.1,vc h i q.2⟩
 | .ip x f=>vc h x
 | .agg cs=>by simpa only[SV.cl]using abq h cs
 | .ba cs=>by simpa only[SV.cl]using abq h cs
 | .top=>id
theorem abq{n m:Nat}(h:n<=m):∀(l:List SV),SV.cls n l=true->SV.cls m l=true
 | []=>id
 |d::l=>by
  simp only[SV.cls,and_eq_true];exact λ q=>⟨abr h d q.1,abq h l q.2⟩
end
theorem abH:∀(ns:List Node) (nv:Nat),nv<=iy nv ns
 | [],nv=>le_refl _
 | .op o::ns,nv=>Nat.le_trans (Nat.le_succ _) (abH ns (nv+1))
 | .aJ c::ns,nv=>abH ns nv
theorem sx{s:SS}(h:s.cl=true){x:aI}(hx:uH x=true):(cU s x).cl s.nv=true:=by
 cases x with
 |t n=>exact SS.oI h n
 |c a=>exact hx
theorem uF{s:SS}(hc:s.cl=true):∀(ps:List (Nat×Nat×aI)) (ns:List Node) (cs:List SV) {ns':List Node} {cs':List SV},wB s ns cs ps=some (ns',cs')->ps.all (λ p=>uH p.2.2)=true->(∀c∈cs,c.cl (iy s.nv ns)=true)->
  ∃ms,ns'=ns++ms/\∀(r:List AV),r.length=s.nv->∀(r1:List AV),(∃m,r1=r++m)->r1.length=iy s.nv ns->∀{M:AV->Prop} {G:List AV->Prop},js P ms r1 G->(∀m,G (r1++m)->M (.agg (SV.a9 (r1++m) cs')))->jd (b7 s r) (SV.a9 r1 cs) ps M
 | [],ns,cs,ns',cs',h,_,_=>by
   simp only[wB,Option.some.injEq,Prod.mk.injEq]at h;obtain⟨rfl,rfl⟩:=h;refine⟨[],by simp,λ r _ r1 _ _ M G hw hG=> ?_⟩;have:=hG [] (by rw[append_nil];exact hw);simpa [jd]using this
 |(off,size,x)::ps,ns,cs,ns',cs',h,ho,y6=>by
  simp only[wB]at h
  split at h
  ·rename_i ms vs he
   split at h
   ·rename_i hv;simp only[all_cons,and_eq_true]at ho;have hx:(cU s x).cl (iy s.nv ns)=true:=abr (abH ns s.nv) _ (sx hc ho.1);have hvc:=ajs he hx
    obtain⟨ms',rfl,ih⟩:=uF hc ps _ _ h ho.2 (by
     intro c hm;rw[iV];simp only[List.mem_append]at hm;have hle:=abH ms (iy s.nv ns);rcases hm with(hm|hm)|hm
     ·exact abr hle c (y6 c (mem_of_mem_take hm))
     ·exact hvc c hm
     ·exact abr hle c (y6 c (mem_of_mem_drop hm)))
    refine⟨ms++ms',by simp,λ r hl r1 hp hl1 M G hw hG=> ?_⟩;rw[cJ]at hw;obtain⟨r2,⟨m,rfl⟩,hl2,hw2,hE⟩:=lB he hl1 hx hw
    have hev:(cU s x).ev r1=x.ev (b7 s r):=by
     obtain⟨m0,rfl⟩:=hp;rw[SV.cS _ (by rw[hl];exact sx hc ho.1),aX]
    rw[hev]at hE;simp only[jd];refine⟨hE.len,hE.kind,by rw[SV.aT,length_map];exact hv.2,?_⟩;have aAj:SV.a9 (r1++m) cs=SV.a9 r1 cs:=aaL (by rw[hl1];exact y6)
    have h1:(SV.a9 r1 cs).take off++(x.ev (b7 s r)).cells++(SV.a9 r1 cs).drop (off+size)=SV.a9 (r1++m) (cs.take off++vs++cs.drop (off+size)):=by
     rw[hE.cells,←aAj];simp only[SV.aT,map_append,map_take,map_drop]
    rw[h1]
    exact ih r hl (r1++m) (by obtain⟨m0,rfl⟩:=hp;exact⟨m0++m,by simp⟩) (by rw[hl2,iV]) hw2 λ m' uX=>by
     rw[List.append_assoc]at uX⊢;exact hG _ uX
   ·cases h
  ·cases h
theorem anp{s:SS}{z:List AV}{ps:List (Nat×Nat×aI)}{q}(ho:ps.all (λ p=>uH p.2.2)=true)(hz:AV.ad z=true)(h:ae7 s z ps=some q):dN P (.build z ps) s q:=by
 intro r hl hc hr gg K hk;unfold ae7 at h
 split at h
 ·rename_i ns cs hp;cases h
  obtain⟨ms,rfl,hs⟩:=uF (P:=P) hc ps [] _ hp ho (by
   simp only[mem_map];rintro c ⟨a,ha,rfl⟩;exact bf hz a ha)
  have:=xA (K:=K) hl hc hk
  have he:SV.a9 r (z.map λ a=> .d (.c a))=z:=by
   rw[SV.aT,map_map];exact map_id z
  have h2:=hs r hl r ⟨[],by simp⟩ (by simp[hl,iy]) (M:=λ a=>K a (bI s r)) this (λ m hm=>hm);rw[he]at h2;exact h2
 ·cases h
theorem vd{m:Nat}{d:D}{r:List AV}{G:List AV->Prop}(h:js P [nR m d] r G):G r/\ajZ m (d.ev r) (d.ev r).cells:=by
 unfold nR at h
 split at h
 ·rename_i hm;subst hm;obtain⟨h1,h2,h3⟩:=h;exact⟨h3,h1,nq h2,rfl,by rw[h2];rfl,λ _=>h2,λ h=>(h rfl).elim⟩
 ·rename_i hm;obtain⟨h1,h2,h3,h4⟩:=h;exact⟨h4,h2,h3,rfl,by rw[h1];simp,λ h=>(hm h).elim,λ _=>h1⟩
theorem aeh(m:Nat)(d:D)(nv:Nat):iy nv [nR m d]=nv:=by unfold nR;split<;>rfl
theorem mR{s:SS}{m len:Nat}:∀{ps:List (Nat×aI)} {ns:List Node} {qs:List (Nat×D)},pg s m len ps=some (ns,qs)->iy s.nv ns=s.nv/\∀{r:List AV} {G:List AV->Prop},js P ns r G->G r/\
  ∀(z:List AV) (M:List AV->Prop),z.length=len->M (eX z (qs.map λ p=>(p.1,p.2.ev r)))->mV (b7 s r) m z ps M
 | [],ns,qs,h=>by
   simp only[pg,Option.some.injEq,Prod.mk.injEq]at h;obtain⟨rfl,rfl⟩:=h;exact⟨rfl,λ hw=>⟨hw,λ z M _ hM=>hM⟩⟩
 |(i,x)::ps,ns,qs,h=>by
  simp only[pg]at h
  split at h
  ·rename_i ns1 d ms qs1 h1 h2
   split at h
   ·rename_i hi;cases h;obtain⟨h3,ih⟩:=mR h2;refine⟨?_,λ {r G} hw=> ?_⟩
    ·rw[show ns1++nR m d::ms=ns1++([nR m d]++ms) by simp,iV,iV,yR h1,aeh,h3]
    ·rw[show ns1++nR m d::ms=ns1++([nR m d]++ms) by simp,cJ]at hw;obtain⟨hw,he⟩:=j6 h1 hw;rw[cJ]at hw;obtain⟨hw,hE⟩:=vd hw;obtain⟨hG,eh⟩:=ih hw;refine⟨hG,λ z M hz hM=> ?_⟩;rw[he,aX]at hE;simp only[mV];refine⟨hE.len,hE.sto,by omega,eh _ M (by simpa using hz) ?_⟩;simp only[map_cons,eX,he,aX]at hM;exact hM
   ·cases h
  ·cases h
theorem xE{s:SS}{t m:Nat}{ns:List Node}{o:PO}{q}(h:newRow s t m (nx s ns o)=some q)(hn:iy s.nv ns=s.nv){r:List AV}(hl:r.length=s.nv)(hc:s.cl=true){K:KT}
  (hk:js P q.1 r (λ r'=>b7 q.2.2 r'=b7 s r->K (q.2.1.ev r') (bI q.2.2 r'))):
  js P ns r λ r1=>r1=r->o.wp P r λ v=>K (.row s.ai.length (aY v).length) (bI s r++ [.live t m (aY v)]):=by
 simp only[newRow,nx,Option.some.injEq]at h;subst h;simp only[cJ]at hk;refine kq ns (λ mm hw he=> ?_) hk;rw[he]at hw;refine PO.pj (o:=o) hw λ v hv=> ?_
 have h1:b7 {s with ai:=s.ai++ [.row false t m (.x (iy s.nv ns))],nv:=iy s.nv ns+1} (r++ [v])=b7 s r:=eo (s:=s) hl hc;have h2:=hv h1
 have h3:bI {s with ai:=s.ai++ [.row false t m (.x (iy s.nv ns))],nv:=iy s.nv ns+1} (r++ [v])=bI s r++ [.live t m (aY v)]:=by
  simp only[bI,map_append,map_cons,map_nil,SO.ev,D.ev,hn,bE hl];congr 1;exact e9 (s:=s) hl hc
 rw[h3]at h2;simp only[SV.ev,D.ev,hn,bE hl]at h2;exact h2
theorem nC(nl:Bool)(e s:Nat)(l:D)(r:List AV):(SO.row nl e s l).ev r=cK nl e s (aY (l.ev r)):=by
 cases nl
 ·simp only[SO.ev,cK,false_eq_true,false_and,if_false]
 ·simp only[SO.ev,cK,true_and]
theorem adr{s:SS}{nl:Bool}{t m:Nat}{ns:List Node}{o:PO}{q}(h:sA s nl t m (nx s ns o)=some q)(hn:iy s.nv ns=s.nv){r:List AV}(hl:r.length=s.nv)(hc:s.cl=true){K:KT}
  (hk:js P q.1 r (λ r'=>b7 q.2.2 r'=b7 s r->K (q.2.1.ev r') (bI q.2.2 r'))):
  js P ns r λ r1=>r1=r->o.wp P r λ v=>K (.row s.ai.length (aY v).length) (bI s r++ [cK nl t m (aY v)]):=by
 simp only[sA,nx,Option.some.injEq]at h;subst h;simp only[cJ]at hk;refine kq ns (λ mm hw he=> ?_) hk;rw[he]at hw;refine PO.pj (o:=o) hw λ v hv=> ?_
 have h1:b7 {s with ai:=s.ai++ [.row nl t m (.x (iy s.nv ns))],nv:=iy s.nv ns+1} (r++ [v])=b7 s r:=eo (s:=s) hl hc;have h2:=hv h1
 have h3:bI {s with ai:=s.ai++ [.row nl t m (.x (iy s.nv ns))],nv:=iy s.nv ns+1} (r++ [v])=bI s r++ [cK nl t m (aY v)]:=by
  simp only[bI,map_append,map_cons,map_nil,nC,D.ev,hn,bE hl];congr 1;exact e9 (s:=s) hl hc
 rw[h3]at h2;simp only[SV.ev,D.ev,hn,bE hl]at h2;exact h2
theorem zL{s:SS}{t m len:Nat}{z:AV}{ps:List (Nat×aI)}{q}(h:ph s t m len z ps=some q):dN P (.buildSlice t m len z ps) s q:=by
 intro r hl hc hr gg K hk;unfold ph at h
 split at h
 ·rename_i ns qs hp;obtain⟨hn,hs⟩:=mR (P:=P) hp;have h1:=xE h hn hl hc hk;obtain⟨hG,eh⟩:=hs h1;have hG:=hG rfl;simp only[PO.wp]at hG;simp only[wpOp,dI];refine eh _ _ (by simp) ?_;rw[bQ]at hG
  have hlen:(eX (List.replicate len z) (qs.map λ p=>(p.1,p.2.ev r))).length=len:=by
   have:∀(ps:List (Nat×AV)) (z:List AV),(eX z ps).length=z.length:=by
    intro ps
    induction ps with
    |nil=>intro z;rfl
    |cons p ps ih=>intro z;simp[eX,ih]
   rw[this];simp
  rw[hlen]at hG;exact hG
 ·cases h
theorem agI{s:SS}{k t m len:Nat}{z:AV}{ps:List (Nat×aI)}{q}(hz:z.ag=true)(hp':ps.all (λ p=>p.2.okc)=true)(h:wD s k t m len z ps=some q):dN P (.gn k t m len z ps) s q:=by
 intro r hl hc hr gg K hk;unfold wD at h
 split at h
 ·rename_i zJ;have hO:=rP zJ r
  split at h
  ·rename_i ns qs hp;cases h;obtain⟨hn,hs⟩:=mR (P:=P) hp;simp only[cJ,js,nf.wp,PO.wp]at hk;refine⟨hz,hp',?_⟩
   have ot:js P ns r λ r1=>r1=r->∃xs,xs=eX (List.replicate len z) (qs.map λ p=>(p.1,p.2.ev r))/\xs≠[]/\K (.row k xs.length) ((bI s r).set k (.live t m xs)):=by
    refine kq ns (λ mm hw he=> ?_) hk;rw[he]at hw;obtain⟨h1,h2⟩:=hw;simp only[D.ev,bE hl,bQ]at h1;have e1:b7 {s with ai:=s.ai.set k (.row false t m (.x s.nv)),nv:=s.nv+1} (r++ [.sl (eX (List.replicate len z) (qs.map λ p=>(p.1,p.2.ev r)))])=b7 s r:=eo (s:=s) hl hc;have h2:=h2 e1
    have e2:bI {s with ai:=s.ai.set k (.row false t m (.x s.nv)),nv:=s.nv+1} (r++ [.sl (eX (List.replicate len z) (qs.map λ p=>(p.1,p.2.ev r)))])=(bI s r).set k (.live t m (eX (List.replicate len z) (qs.map λ p=>(p.1,p.2.ev r)))):=by
     simp only[bI,map_set,SO.ev,D.ev,bE hl,bQ];congr 1;exact e9 (s:=s) hl hc
    rw[e2]at h2;simp only[SV.ev,D.ev,bE hl,bQ]at h2;exact⟨_,rfl,h1,h2⟩
   obtain⟨hG,eh⟩:=hs ot;obtain⟨xs,nU,bB,hK⟩:=hG rfl;refine eh _ _ (by simp) ?_;rw[←nU]
   have hlen:xs.length=len:=by
    have:∀(ps:List (Nat×AV)) (z:List AV),(eX z ps).length=z.length:=by
     intro ps
     induction ps with
     |nil=>intro z;rfl
     |cons p ps ih=>intro z;simp[eX,ih]
    rw[nU,this];simp
   rw[hlen]at hK;exact⟨hO,bB,hK⟩
  ·cases h
 ·cases h
theorem awe{s:SS}{t m bytes:Nat}{z:AV}{n c:aI}{x y:D}{q}(hn:cU s n= .d x)(fT:cU s c= .d y)(h:newRow s t m (nx s [] (.rep bytes z x y))=some q):dN P (.mk t m bytes z n c) s q:=by
 intro r hl hc hr gg K hk;have h1:=xE h rfl hl hc hk;have h1:=h1 rfl;simp only[PO.wp,adb]at h1;rw[av0,←aX,←aX,hn,fT];simp only[SV.ev]
 split at h1
 ·rename_i a b h2 h3;rw[h2,h3,alq];simp only[bQ,List.length_replicate]at h1;rw[dI];exact h1
 ·exact h1.elim
theorem ad0{cs:List SV}{r:List AV}{f:Nat}{v:SV}(h:cs[f]? =some v)(hc:cs.length≠1∨(v.ev r).cells= [v.ev r]):f+1<=(lH (SV.a9 r cs)).cells.length/\(lH (SV.a9 r cs)).cells.getD f .top=v.ev r:=by
 have aF:=(List.getElem?_eq_some_iff.1 h).1;have he:(SV.a9 r cs)[f]? =some (v.ev r):=by rw[SV.aT,getElem?_map,h];rfl
 by_cases h1:cs.length=1
 ·rcases hc with hc|hc
  ·exact(hc h1).elim
  ·have hf:f=0:=by omega
   subst hf
   have:SV.a9 r cs= [v.ev r]:=by
    have hl:(SV.a9 r cs).length=1:=by rw[SV.aT];simpa using h1
    obtain⟨a,ha⟩:=List.length_eq_one_iff.1 hl;rw[ha]at he⊢;simp at he;rw[he]
   rw[this];simp[lH,hc]
 ·rw[eJ (by rw[SV.aT];simpa using h1)];simp only[AV.cells];refine⟨by rw[SV.aT];simp;omega,by simp[List.getD,he]⟩
theorem xK{s:SS}{a:aI}{k f e:Nat}{cs:List SV}(ha:cU s a= .ptr k f)(hb:mn s k=some (e,cs)){n:Option Nat}{r:List AV}{K:KT}
  (h:f+n.getD 1<=(lH (SV.a9 r cs)).cells.length/\K (dG n (lH (SV.a9 r cs)) f) (bI s r)):wpOp P (.load n a) (b7 s r) (bI s r) K:=by
 rw[xz,←aX,ha];simp only[SV.ev,tL];rw[fV (jm hb) r];simp only[SO.ev,fE,List.getD_cons_zero,k1];exact⟨rfl,Nat.one_pos,h.1,h.2⟩
theorem apf{s:SS}{n:Option Nat}{a:aI}{q}(h:akh s n (cU s a)=some q):dN P (.load n a) s q:=by
 intro r hl hc hr gg K hk;unfold akh at h
 split at h
 ·rename_i k f ha
  split at h
  ·rename_i e cs hb
   split at h
   ·split at h
    ·rename_i v hv
     split at h
     ·rename_i h1
      split at h
      ·rename_i ht;cases h;obtain⟨hG,ym⟩:=rH ht hk;have lg:=AV.gl (ym (v.ev r) (by simp[SV.a9]));obtain⟨q1,q2⟩:=ad0 (r:=r) hv (.inr lg);refine xK ha hb ⟨by simpa using q1,?_⟩;rw[ga,q2];exact hG rfl
      ·cases h
     ·rename_i h1;cases h;obtain⟨q1,q2⟩:=ad0 (r:=r) hv (.inl h1);refine xK ha hb ⟨by simpa using q1,?_⟩;rw[ga,q2];exact hk rfl
    ·cases h
   ·rename_i m
    split at h
    ·rename_i h1;cases h;have h2:=xA (K:=K) hl hc hk;have hx:lH (SV.a9 r cs)= .agg (SV.a9 r cs):=eJ (by rw[SV.aT];simpa using h1.1);refine xK ha hb ⟨by rw[hx];simp only[AV.cells,SV.aT,length_map,getD_some];exact h1.2,?_⟩
     have h3:dG (some m) (lH (SV.a9 r cs)) f= .agg (SV.a9 r ((cs.drop f).take m)):=by
      rw[hx];unfold dG;simp only
      split
      ·rename_i h4;obtain⟨rfl,_,h5⟩:=h4;simp only[AV.cells,SV.aT,length_map]at h5;rw[List.drop_zero,List.take_of_length_le (by omega)]
      ·simp only[AV.cells,SV.aT,map_take,map_drop]
     rw[h3];exact h2
    ·cases h
  ·cases h
 ·rename_i y f ha
  have hb:∀{K:KT},(f+n.getD 1<=(y.ev r).cells.length/\K (dG n (y.ev r) f) (bI s r))->wpOp P (.load n a) (b7 s r) (bI s r) K:=by
   intro K h;rw[xz,←aX,ha];simp only[SV.ev,rL,k1];exact h
  split at h
  ·split at h
   ·rename_i i;cases h;obtain⟨h1,h2⟩:=hk;refine hb ⟨Nat.succ_le_of_lt h1,?_⟩;rw[ga];exact h2 rfl
   ·rename_i l
    split at h
    ·rename_i d hd;cases h;have aF:=(List.getElem?_eq_some_iff.1 hd).1;refine hb ⟨by simp only[D.ev,AV.cells,D.aT,length_map,getD_none];omega,?_⟩;rw[ga];simp only[D.ev,AV.cells,D.aT,List.getD,getElem?_map,hd];exact hk rfl
    ·cases h
   ·cases h;simp only[js,PO.wp,nf.wp,D.ev,bE hl]at hk;refine hb ⟨Nat.succ_le_of_lt hk.1,?_⟩;rw[ga];have h1:b7 {s with nv:=s.nv+1} (r++ [y.ev r])=b7 s r:=eo (s:=s) hl hc;have h2:=hk.2 h1;have h3:bI {s with nv:=s.nv+1} (r++ [y.ev r])=bI s r:=e9 (s:=s) hl hc;rw[h3]at h2;simp only[SV.ev,D.ev,bE hl]at h2;exact h2
  ·rename_i m
   split at h
   ·rename_i h0;obtain⟨h0,_⟩:=h0;subst h0;cases h;obtain⟨h1,h2,h3,h4⟩:=hk;refine hb ⟨by simp[h2],?_⟩;rw[pC h1 h2];exact h4 rfl
   ·cases h;have h1:=k8 (K:=K) hl hc hk;exact hb h1
 ·rename_i k l i f ha
  split at h
  ·rename_i q' jI;obtain⟨nl,e,sz⟩:=q';cases h;have h1:=k8 (K:=K) hl hc hk;obtain⟨h2,h3,h4⟩:=h1;rw[xz,←aX,ha];simp only[SV.ev,tL];rcases eZ (dZ jI) r with h5|⟨h5,h6,_⟩
   ·rw[h5,fE];exact⟨rfl,h2,h3,h4⟩
   ·rw[h6]at h2;simp at h2
  ·cases h
 ·rename_i y ha;cases h;have h1:=k8 (K:=K) hl hc hk;simp only[PO.wp,aiX]at h1;rw[xz,←aX,ha];simp only[SV.ev]
  split at h1
  ·rename_i z f hy;rw[hy,rL,k1];exact h1
  ·exact h1.elim
 ·cases h
theorem v5{s:SS}{k:Nat}{o:SO}{r r':List AV}{nv:Nat}{env:List (Nat×SV)}(hp:∃m,r'=r++m)(hl:r.length=s.nv)(hc:s.cl=true):
  bI {s with env:=env,ai:=s.ai.set k o,nv:=nv} r'=(bI s r).set k (o.ev r'):=by
 obtain⟨m,rfl⟩:=hp;have:=e9 (s:=s) (r':=m) hl hc;simp only[bI,map_set]at this⊢;rw[this]
theorem aky{s:SS}{m:Nat}{a b:aI}{q}(hb0:uH b=true)(h:ae4 s m (cU s a) (cU s b)=some q):dN P (.store m a b) s q:=by
 intro r hl hc hr gg K hk;unfold ae4 at h
 split at h
 ·rename_i k f ha
  split at h
  ·rename_i e cs ns vs hb he
   split at h
   ·rename_i nM;obtain⟨g1,g2,g3,g4⟩:=nM;cases h;rw[cJ]at hk
    have uY:js P ns r (λ r'=>b7 {s with ai:=s.ai.set k (.box e (cs.take f++vs++cs.drop (f+m))),nv:=iy s.nv ns} r'=b7 s r->K .top (bI {s with ai:=s.ai.set k (.box e (cs.take f++vs++cs.drop (f+m))),nv:=iy s.nv ns} r'))/\
      (cs.length=1->∀c∈SV.a9 r cs,c.cg=true):=by
     by_cases h1:cs.length=1
     ·rw[if_pos h1]at hk;obtain⟨p1,p2⟩:=rH (g4 h1) hk;exact⟨p1,λ _=>p2⟩
     ·rw[if_neg h1]at hk;exact⟨hk,λ h=>(h1 h).elim⟩
    obtain⟨hk,lg⟩:=uY;obtain⟨r',⟨more,rfl⟩,hlen,hG,hE⟩:=lB he hl (sx hc hb0) hk;have hG:=hG (eo (s:=s) hl hc);rw[v5 ⟨more,rfl⟩ hl hc]at hG;rw[abE,←aX,←aX,ha];simp only[SV.ev,ra];rw[fV (jm hb) r];simp only[SO.ev,fE,List.getD_cons_zero,k1,List.set_cons_zero];have nh:vs.length=m:=g1;have hnl:(cs.take f++vs++cs.drop (f+m)).length=cs.length:=by simp;omega
    have mw:SV.a9 (r++more) cs=SV.a9 r cs:=aaL λ c hm=>by
     rw[hl];exact sn.1 (SS.rY hc (mem_of_getElem? (jm hb))) c hm
    have dL:SV.a9 (r++more) (cs.take f++vs++cs.drop (f+m))=(SV.a9 r cs).take f++((cU s b).ev r).cells++(SV.a9 r cs).drop (f+m):=by
     rw[hE.cells,←mw];simp only[SV.aT,map_append,map_take,map_drop]
    have hw:f+m<=(lH (SV.a9 r cs)).cells.length/\lH (SV.a9 (r++more) (cs.take f++vs++cs.drop (f+m)))=qC (lH (SV.a9 r cs)) f ((cU s b).ev r):=by
     by_cases h1:cs.length=1
     ·have hm1:m=1:=by rcases g3 with h|h;exact h;exact(h h1).elim
      have hf:f=0:=by omega
      subst hm1;subst hf;obtain⟨c,hcc⟩:=List.length_eq_one_iff.1 (show(SV.a9 r cs).length=1 by rw[SV.aT];simpa using h1);have hc1:=AV.gl (lg h1 c (by rw[hcc];simp));rw[dL,hcc];simp only[lH,hc1,List.length_singleton,List.take_zero,nil_append,zero_add,List.drop_one,List.tail_cons,append_nil];refine⟨le_refl _,?_⟩;rw[AV.gl (hE.one rfl)];unfold qC;rw[if_pos ⟨rfl,by rw[hc1,AV.gl (hE.one rfl)];rfl⟩]
     ·have hx:lH (SV.a9 r cs)= .agg (SV.a9 r cs):=eJ (by rw[SV.aT];simpa using h1);rw[hx,dL];refine⟨by simp only[AV.cells,SV.aT,length_map];exact g2,?_⟩;rw[eJ (by simp[SV.aT,hE.len];omega)];unfold qC;have hlc:(AV.agg (SV.a9 r cs)).cells.length=cs.length:=by simp[AV.cells,SV.aT]
      by_cases h2:f=0/\((cU s b).ev r).cells.length=(AV.agg (SV.a9 r cs)).cells.length
      ·rw[if_pos h2];obtain⟨rfl,h3⟩:=h2;rw[hlc,hE.len]at h3;rw[AV.uu (hE.agg (by omega))];simp only[AV.cells,List.take_zero,nil_append,zero_add];rw[List.drop_eq_nil_of_le (by rw[SV.aT];simp;omega),append_nil]
      ·rw[if_neg h2,hE.len]
       rfl
    refine⟨rfl,Nat.one_pos,hE.len,hE.sto,hw.1,?_⟩;simp only[SO.ev,hnl,hw.2]at hG;exact hG
   ·cases h
  ·cases h
 ·rename_i k l i f ha
  split at h
  ·rename_i nl e sz ns d jI hd;simp only[Option.some.injEq]at h;subst h;have hnv:iy s.nv (ns++ [nR m d])=s.nv:=by rw[iV,yR hd,aeh]
   simp only[cJ,hnv]at hk;obtain⟨hk,hde⟩:=j6 hd hk;obtain⟨hk,hE⟩:=vd hk;simp only[js,PO.wp,aoq]at hk;obtain⟨q1,q2,q3,q4,q5⟩:=hk;generalize nU:aY (l.ev r)=xs at*;generalize hv:AV.sl (xs.set (idxOf (i.ev r)) (qC (xs.getD (idxOf (i.ev r)) .top) f (d.ev r)))=v at q5;have hlv:(aY v).length=xs.length:=by rw[←hv];simp[aY]
   have eh:=dZ jI
   have awX:l.cl r.length=true:=by
    have:=SS.rY hc (mem_of_getElem? eh);rw[hl];exact this
   have om:b7 {s with env:=s.env.map (λ p=>(p.1,p.2.rew k l (.x s.nv))),ai:=s.ai.set k (.row nl e sz (.x s.nv)),nv:=s.nv+1} (r++ [v])=b7 s r:=by
    funext t
    simp only[b7];rw[tM (f:=SV.rew k l (.x s.nv)) rfl];have mw:=SS.oI hc t;have hold:(lk s.env t).ev (r++ [v])=(lk s.env t).ev r:=SV.cS _ (by rw[hl];exact mw);rw[←hold];generalize lk s.env t=w;cases w with
    |row k' l'=>
     simp only[SV.rew]
     split
     ·rename_i h1;have:=D.beq_eq _ _ h1.2;subst this;simp only[SV.ev,D.ev,bE hl,hlv,D.cS l' awX,nU]
     ·rfl
    |rp k' l' i' f'=>
     simp only[SV.rew]
     split
     ·rename_i h1;have:=D.beq_eq _ _ h1.2;subst this;simp only[SV.ev,D.ev,bE hl,hlv,D.cS l' awX,nU]
     ·rfl
    |_=>rfl
   have hG:=q5 om;rw[v5 ⟨[v],rfl⟩ hl hc]at hG;rw[abE,←aX,←aX,ha,←hde];simp only[SV.ev,ra];have bB:xs≠[]:=by intro h0;rw[h0]at q1;simp at q1
   rcases eZ eh r with h5|⟨h5,h6,_⟩
   ·rw[h5,fE,nU];refine⟨rfl,q1,q2,q3,q4,?_⟩;have adT:aY v≠[]:=by intro h0;rw[h0]at hlv;simp at hlv;exact bB (List.eq_nil_of_length_eq_zero hlv.symm)
    have:SO.ev (r++ [v]) (.row nl e sz (.x s.nv))= .live e sz (xs.set (idxOf (i.ev r)) (qC (xs.getD (idxOf (i.ev r)) .top) f (d.ev r))):=by
     cases nl<;>simp only[SO.ev,D.ev,bE hl,if_neg adT]<;>rw[←hv]<;>rfl
    rw[this]at hG;exact hG
   ·rw[nU]at h6;exact(bB h6).elim
  ·cases h
 ·cases h
end
end Go.Ab
namespace Go.Ab
section
variable {P:Program}
theorem dj:∀(a b:List Node) (nv:Nat),cO nv (a++b)=(cO nv a&&cO (iy nv a) b)
 | [],b,nv=>by simp[cO,iy]
 | .op o::a,b,nv=>by simp only[cons_append,cO,iy,dj a b,Bool.and_assoc]
 | .aJ c::a,b,nv=>by simp only[cons_append,cO,iy,dj a b]
theorem sX(r:List AV)(τ:List D)(i:Nat):(D.a9 r τ).getD i .top=(τ.getD i (.c .top)).ev r:=by
 rw[D.aT];simp only[List.getD,getElem?_map];cases τ[i]? <;>rfl
theorem pB{l:List AV}(h:AV.ad l=true)(σ:Nat->Nat)(i:Nat):(l.getD i .top).bU σ=l.getD i .top:=by
 refine dW _ ?_;simp only[List.getD];cases hl:l[i]? with
 |none=>rfl
 |some a=>exact bf h a (mem_of_getElem? hl)
theorem abR{n k:Nat}{r:List AV}{τ:List D}{σ:Nat->Nat}(hn:AV.ad (D.a9 r τ)=true):∀(v:SV),v.pat n k=true->(v.kD τ σ).ev r=(v.ev (D.a9 r τ)).bU σ:=by
 intro v h;cases v with
 |d x=>
  cases x with
  |x i=>simp only[SV.kD,SV.ev,D.ev];rw[pB hn,sX]
  |c a=>simp only[SV.kD,SV.ev,D.ev];rw[dW a h]
  |_=>simp[SV.pat]at h
 |row m l=>
  cases l with
  |x i=>simp only[SV.kD,SV.ev,D.ev,AV.bU];rw[sX]
  |_=>simp[SV.pat]at h
 |ptr m f=>rfl
 |_=>simp[SV.pat]at h
theorem sL{n k:Nat}{r:List AV}{τ:List D}{σ:Nat->Nat}(hn:AV.ad (D.a9 r τ)=true):∀(l:List SV),l.all (SV.pat n k)=true->SV.a9 r (l.map (SV.kD τ σ))=AV.rB σ (SV.a9 (D.a9 r τ) l)
 | [],_=>rfl
 |v::l,h=>by
  simp only[all_cons,and_eq_true]at h;simp only[map_cons,SV.a9,AV.rB,abR hn v h.1,sL hn l h.2]
theorem apb(σ:Nat->Nat)(l:List AV):(lH l).bU σ=lH (AV.rB σ l):=by
 cases l with
 |nil=>rfl
 |cons a l=>cases l<;>rfl
theorem sM{n k:Nat}{r:List AV}{τ:List D}{σ:Nat->Nat}(hn:AV.ad (D.a9 r τ)=true):∀(o:SO),o.pat n k=true->(o.kD τ σ).ev r=(o.ev (D.a9 r τ)).bU σ:=by
 intro o h;cases o with
 |dead=>rfl
 |box e cs=>
  simp only[SO.pat]at h;simp only[SO.kD,SO.ev,ae.bU,map_cons,map_nil,apb,sL hn cs h,length_map]
 |row nl e s l=>
  cases l with
  |x i=>
   have hl:(aY ((D.a9 r τ).getD i .top)).map (AV.bU σ)=aY ((D.a9 r τ).getD i .top):=by
    rw[←fe];refine ff _ (cN ?_);simp only[List.getD];cases hx:(D.a9 r τ)[i]? with
    |none=>rfl
    |some a=>exact bf hn a (mem_of_getElem? hx)
   simp only[SO.kD];rw[nC,nC]
   show cK nl e s (aY ((τ.getD i (.c .top)).ev r))=(cK nl e s (aY ((D.a9 r τ).getD i .top))).bU σ;rw[←sX];generalize aY ((D.a9 r τ).getD i .top)=xs at hl;unfold cK
   split
   ·rfl
   ·simp only[ae.bU,hl]
  |_=>simp[SO.pat]at h
theorem abQ{n k:Nat}{r:List AV}{τ:List D}{σ:Nat->Nat}(hn:AV.ad (D.a9 r τ)=true):∀(v:SV),v.zu n k=true->(v.af9 τ σ).ev r=(v.ev (D.a9 r τ)).bU σ:=by
 intro v h;cases v with
 |ba cs=>simp only[SV.zu]at h;simp only[SV.af9,SV.ev,AV.bU,sL hn cs h]
 |agg cs=>simp only[SV.zu]at h;simp only[SV.af9,SV.ev,AV.bU,sL hn cs h]
 |_=>exact abR (n:=n) (k:=k) hn _ (by simpa only[SV.zu]using h)
theorem ak5{n k:Nat}{l:List AV}(hn:AV.ad l=true):∀(v:SV),v.pat n k=true->(v.ev l).inScope k=true:=by
 intro v h;cases v with
 |d x=>
  cases x with
  |x i=>
   simp only[SV.ev,D.ev];refine cA _ ?_;simp only[List.getD];cases hx:l[i]? with
   |none=>rfl
   |some a=>exact bf hn a (mem_of_getElem? hx)
  |c a=>exact cA _ h
  |_=>simp[SV.pat]at h
 |row m y=>
  cases y with
  |x i=>simp only[SV.pat,and_eq_true]at h;exact h.2
  |_=>simp[SV.pat]at h
 |ptr m f=>exact h
 |_=>simp[SV.pat]at h
theorem sv{n k:Nat}{l:List AV}(hn:AV.ad l=true):∀(vs:List SV),vs.all (SV.pat n k)=true->AV.cX k (SV.a9 l vs)=true
 | [],_=>rfl
 |v::vs,h=>by
  simp only[all_cons,and_eq_true]at h;simp only[SV.a9,AV.cX,ak5 hn v h.1,sv hn vs h.2];rfl
theorem asz{k:Nat}{l:List AV}(h:AV.cX k l=true):(lH l).inScope k=true:=by
 unfold lH
 split
 ·simpa [AV.cX]using h
 ·exact h
theorem ahg{n k:Nat}{l:List AV}(hn:AV.ad l=true):∀(o:SO),o.pat n k=true->(o.ev l).inScope k=true:=by
 intro o h;cases o with
 |dead=>rfl
 |box e cs=>
  simp only[SO.pat]at h;simp only[SO.ev,ae.inScope,AV.cX,Bool.and_true];exact asz (sv hn cs h)
 |row nl e s y=>
  cases y with
  |x i=>
   have:AV.cX k (aY (l.getD i .top))=true:=by
    refine dg _ (cN ?_);simp only[List.getD];cases hx:l[i]? with
    |none=>rfl
    |some a=>exact bf hn a (mem_of_getElem? hx)
   rw[nC]
   show ae.inScope k (cK nl e s (aY (l.getD i .top)))=true;unfold cK
   split
   ·rfl
   ·exact this
  |_=>simp[SO.pat]at h
theorem rE{j:Nat}:∀{l:List Nat} {i n:Nat},posOf j l i=some n->i<=n/\l[n- i]? =some j
 | [],_,_,h=>by cases h
 |x::l,i,n,h=>by
  unfold posOf at h
  split at h
  ·cases h;rename_i hx;subst hx;exact⟨le_refl _,by simp⟩
  ·obtain⟨h1,h2⟩:=rE h;refine⟨by omega,?_⟩;rw[show n- i=(n- (i+1))+1 by omega,List.getElem?_cons_succ];exact h2
theorem xk{j:Nat}:∀{l:List Nat} {i:Nat},posOf j l i=none->j∉l
 | [],_,_=>by simp
 |x::l,i,h=>by
  unfold posOf at h
  split at h
  ·cases h
  ·rename_i hx;simp only[mem_cons,not_or];exact⟨λ h=>hx h.symm,xk h⟩
theorem oe:∀{l:List Nat},tI l=true->∀{i j x:Nat},l[i]? =some x->l[j]? =some x->i=j
 | [],_,i,j,x,h,_=>by simp at h
 |y::l,h,i,j,x,h1,h2=>by
  simp only[tI,and_eq_true,Bool.not_eq_true',List.contains_eq_mem,decide_eq_false_iff_not]at h;cases i<;>cases j
  ·rfl
  ·simp at h1 h2;subst h1;exact(h.1 (mem_of_getElem? h2)).elim
  ·simp at h1 h2;subst h2;exact(h.1 (mem_of_getElem? h1)).elim
  ·simp at h1 h2;rw[oe h.2 h1 h2]
theorem uL{ai:List SO}{dr:List Nat}{ps:List SO}:(fA ai dr ps).length=ai.length+(ps.length- dr.length):=by simp[fA]
theorem uK{ai:List SO}{dr:List Nat}{ps:List SO}(hnd:tI dr=true){i n:Nat}(hi:dr[i]? =some n)(hn:n<ai.length)(hp:i<ps.length):(fA ai dr ps)[n]? =ps[i]? :=by
 unfold fA;rw[getElem?_append_left (by simpa using hn),getElem?_map,List.getElem?_range hn];simp only[map_some];cases h:posOf n dr 0 with
 |none=>exact(xk h (mem_of_getElem? hi)).elim
 |some m=>
  obtain⟨_,h2⟩:=rE h;have:=oe hnd hi h2;simp only[Nat.sub_zero]at this;subst this;simp only[List.getD,getElem?_eq_getElem hp,getD_some]
theorem uJ{ai:List SO}{dr:List Nat}{ps:List SO}{n:Nat}(hn:n<ai.length)(h:n∉dr):(fA ai dr ps)[n]? =ai[n]? :=by
 unfold fA;rw[getElem?_append_left (by simpa using hn),getElem?_map,List.getElem?_range hn];simp only[map_some];cases hp:posOf n dr 0 with
 |none=>simp only[List.getD,getElem?_eq_getElem hn,getD_some]
 |some m=>exact(h (mem_of_getElem? (rE hp).2)).elim
theorem ads{ai:List SO}{dr:List Nat}{ps:List SO}{i:Nat}(hi:dr.length<=i):(fA ai dr ps)[ai.length+(i- dr.length)]? =ps[i]? :=by
 unfold fA;rw[getElem?_append_right (by simp),length_map,List.length_range,List.getElem?_drop];congr 1;omega
theorem pJ{kn:List (Nat×Nat)}{τ:List D}{σ:Nat->Nat}{n k:Nat}:∀{ps vs:List SV} {ns:List Node},aaI kn τ σ ps vs=some ns->ps.all (SV.pat n k)=true->∀{r:List AV} {G:List AV->Prop},AV.ad (D.a9 r τ)=true->js P ns r G->
  G r/\SV.a9 r vs=AV.rB σ (SV.a9 (D.a9 r τ) ps)
 | [],[],ns,h,_,r,G,_,hw=>by cases h;exact⟨hw,rfl⟩
 |p::ps,v::vs,ns,h,hp,r,G,hn,hw=>by
  simp only[aaI]at h
  split at h
  ·rename_i a b ha hb;cases h;simp only[all_cons,and_eq_true]at hp;rw[cJ]at hw
   have hv:js P b r (λ r'=>G r')/\v.ev r=(p.ev (D.a9 r τ)).bU σ:=by
    unfold axA at ha
    split at ha
    ·rename_i i
     split at ha
     ·rename_i ms d hd
      split at ha
      ·rename_i hbq;cases ha;obtain⟨h1,h2⟩:=j6 hd hw;refine⟨h1,?_⟩;rw[←h2,←D.beq_eq _ _ hbq];simp only[SV.ev,D.ev];rw[pB hn,sX]
      ·cases ha
     ·cases ha
    ·split at ha
     ·rename_i hbq;cases ha;refine⟨hw,?_⟩;rw[←SV.beq_eq _ _ hbq,abR hn p hp.1]
     ·cases ha
   obtain⟨h3,h4⟩:=pJ hb hp.2 hn hv.1;exact⟨h3,by simp only[SV.a9,AV.rB,hv.2,h4]⟩
  ·cases h
 | [],_::_,_,h,_,_,_,_,_=>by simp[aaI]at h
 |_::_,[],_,h,_,_,_,_,_=>by simp[aaI]at h
theorem mQ{s:SS}{τ:List D}{σ:Nat->Nat}:∀{ps:List SO} {n:Nat},ad3 s τ σ n ps=true->∀i p,ps[i]? =some p->s.ai[σ (n+i)]? =some (p.kD τ σ)
 | [],_,_,i,p,hi=>by simp at hi
 |q::ps,n,h,i,p,hi=>by
  simp only[ad3,and_eq_true]at h;cases i with
  |zero=>
   simp at hi;subst hi;have h1:=h.1
   split at h1
   ·rename_i o ho;rw[add_zero,ho,SO.beq_eq h1]
   ·cases h1
  |succ i=>
   simp at hi;have:=mQ h.2 i p hi;rw[←this];congr 2;omega
theorem xd{r r':List AV}{ks:List (Nat×D×D)}(hk:∀q∈ks,q.2.1.ev r'=q.2.1.ev r/\(aY (q.2.1.ev r)).length=(aY (q.2.2.ev r')).length):
  ∀(v:SV),v.ev r'=v.ev r->(aby ks v).ev r'=v.ev r:=by
 induction ks with
 |nil=>intro v h;exact h
 |cons q ks ih=>
  intro v h;simp only[aby,foldl_cons];obtain⟨h1,h2⟩:=hk q (by simp)
  have key:(v.rew q.1 q.2.1 q.2.2).ev r'=v.ev r:=by
   rw[←h];cases v with
   |row m l=>
    simp only[SV.rew]
    split
    ·rename_i hc;have:=D.beq_eq _ _ hc.2;subst this;simp only[SV.ev,h1,h2]
    ·rfl
   |rp m l i f=>
    simp only[SV.rew]
    split
    ·rename_i hc;have:=D.beq_eq _ _ hc.2;subst this;simp only[SV.ev,h1,h2]
    ·rfl
   |_=>rfl
  have h3:∀(ks:List (Nat×D×D)),(∀q∈ks,q.2.1.ev r'=q.2.1.ev r/\(aY (q.2.1.ev r)).length=(aY (q.2.2.ev r')).length)->∀w:SV,w.ev r'=v.ev r->(ks.foldl (λ v q=>v.rew q.1 q.2.1 q.2.2) w).ev r'=v.ev r:=by
   intro ks
   induction ks with
   |nil=>intro _ w hw;exact hw
   |cons q ks ih2=>
    intro hk w hw;simp only[foldl_cons];refine ih2 (λ q hq=>hk q (by simp[hq])) _ ?_;obtain⟨h1,h2⟩:=hk q (by simp);rw[←hw];cases w with
    |row m l=>
     simp only[SV.rew]
     split
     ·rename_i hc;have:=D.beq_eq _ _ hc.2;subst this;simp only[SV.ev,h1,h2]
     ·rfl
    |rp m l i f=>
     simp only[SV.rew]
     split
     ·rename_i hc;have:=D.beq_eq _ _ hc.2;subst this;simp only[SV.ev,h1,h2]
     ·rfl
    |_=>rfl
  exact h3 ks (λ q hq=>hk q (by simp[hq])) _ key
theorem rW:∀{ks:List (Nat×D×D)} {r:List AV} {G:List AV->Prop},js P (ks.map λ q=> .aJ (.eql q.2.1 q.2.2)) r G->G r/\∀q∈ks,(aY (q.2.1.ev r)).length=(aY (q.2.2.ev r)).length
 | [],r,G,h=>⟨h,by simp⟩
 |q::ks,r,G,h=>by
  simp only[map_cons,js,nf.wp]at h;obtain⟨h1,h2⟩:=h;obtain⟨h3,h4⟩:=rW h2;refine⟨h3,λ q' hq'=> ?_⟩;rcases List.mem_cons.1 hq' with rfl|hq'
  ·exact h1
  ·exact h4 q' hq'
theorem adE{g:gK}{τ:List D}{σ:Nat->Nat}{nv n:Nat}(h:D.cls n τ=true):∀q∈sJ g τ σ nv,q.2.1.cl n=true:=by
 intro q hq;simp only[sJ,List.mem_filterMap]at hq;obtain⟨m,_,hm⟩:=hq
 split at hm
 ·rename_i i _ _;cases hm
  have key:∀i,(τ.getD i (.c .top)).cl n=true:=by
   intro i;simp only[List.getD];cases hx:τ[i]? with
   |none=>rfl
   |some d=>exact acs.1 h d (mem_of_getElem? hx)
  exact key _
 ·cases hm
theorem ad5{r:List AV}{nv m:Nat}(hl:r.length=nv){outs:List AV}(ho:outs.length=m)(more:List AV):D.a9 (r++ .ba outs::more) (pb nv m)=outs:=by
 rw[D.aT,pb,map_map];apply ext_getElem
 ·simp[ho]
 ·intro i h1 h2;simp only[getElem_map,getElem_range,Function.comp_apply,D.ev]
  have:(r++AV.ba outs::more).getD nv .top= .ba outs:=by
   rw[List.getD,getElem?_append_right (by omega),hl,Nat.sub_self];rfl
  rw[this];simp only[akv,List.getD,getElem?_eq_getElem h2,getD_some]
theorem akC{s:SS}{f:FuncId}{gs:List gK}{args:List aI}{g:gK}{q}(h:wZ s f (args.map (cU s)) g=some q):dN P (.bp gs f args) s q:=by
 intro r hl hc hr gg K hk;unfold wZ at h
 split at h
 ·rename_i τ dr hm;simp only at h
  split at h
  ·rename_i ns mZ
   split at h
   ·rename_i nM;obtain⟨g1,g2,g3,g4,g5,g6,g7⟩:=nM;simp only[Option.some.injEq]at h;subst h;simp only[gK.ok,and_eq_true,decide_eq_true_eq]at g1;obtain⟨⟨⟨⟨p1,p2⟩,p3⟩,p4⟩,p5⟩:=g1;have zH:∀n,fc s.ai dr n=if n<dr.length then dr.getD n 0 else s.ai.length+(n- dr.length):=λ _=>rfl
    have al6:D.cls s.nv τ=true:=by
     have gg:=gg;simp only at gg;rw[dj,and_eq_true]at gg;have:=gg.2;simp only[cO,PO.cl,and_eq_true,g7]at this;exact this.1
    have o6:AV.ad (D.a9 r τ)=true:=D.cW hr τ (by rw[hl];exact al6);simp only at hk;rw[cJ]at hk;obtain⟨hk,qU⟩:=pJ mZ p1 o6 hk;simp only[js,PO.wp]at hk;obtain⟨outs,eY,hlen,hon,hk⟩:=hk;obtain⟨hk,heq⟩:=rW hk;have hl1:(r++ [AV.ba outs]).length=s.nv+1:=by simp[hl]
    have adU:∀d:D,d.cl s.nv=true->d.ev (r++ [.ba outs])=d.ev r:=λ d hd=>D.cS d (by rw[hl];exact hd)
    have hE:D.a9 (r++ [.ba outs]) (pb s.nv g.m)=outs:=ad5 hl hlen [];have amk:AV.ad (D.a9 (r++ [.ba outs]) (pb s.nv g.m))=true:=by rw[hE];exact hon
    have hK:=hk (by
     funext t
     simp only[b7]
     rw[tM (f:=aby (sJ g τ (fc s.ai dr) s.nv)) (by
      generalize sJ g τ (fc s.ai dr) s.nv=ks
      induction ks with
      |nil=>rfl
      |cons a ks ih=>simp only[aby,foldl_cons,SV.rew]at ih⊢;exact ih)]
     refine xd (λ q hq=> ?_) _ (SV.cS _ (by rw[hl];exact SS.oI hc t));have mw:=adE al6 q hq;exact⟨adU _ mw,by rw[←adU _ mw];exact heq q hq⟩)
    have rT:∀i,i<g.ai.length->∃n,dr[i]? =some n/\fc s.ai dr i=n/\n<s.ai.length:=by
     intro i hi;have eE:i<dr.length:=by omega
     refine⟨dr[i],getElem?_eq_getElem eE,?_,?_⟩
     ·rw[zH,if_pos eE];simp[List.getD,eE]
     ·have:=List.all_eq_true.1 g4 dr[i] (List.getElem_mem eE);simpa using this
    have hO1:(g.ai.map (SO.ev (D.a9 r τ))).length=g.ai.length:=by simp
    have hO2:(g.cG.map (SO.ev outs)).length=g.cG.length:=by simp
    have sT:(g.res.af9 (pb s.nv g.m) (fc s.ai dr)).ev (r++ [.ba outs])=(g.res.ev outs).bU (fc s.ai dr):=by
     rw[abQ amk _ p4,hE]
    have amm:bI {s with env:=s.env.map (λ p=>(p.1,aby (sJ g τ (fc s.ai dr) s.nv) p.2)),ai:=fA s.ai dr (g.cG.map (SO.kD (pb s.nv g.m) (fc s.ai dr))),nv:=s.nv+1} (r++ [.ba outs])=
     (fA s.ai dr (g.cG.map (SO.kD (pb s.nv g.m) (fc s.ai dr)))).map (SO.ev (r++ [.ba outs])):=rfl
    rw[sT,amm]at hK;refine⟨_,_,?_,hK⟩
    have:=hD.frame (O:=bI s r) (oY:=(fA s.ai dr (g.cG.map (SO.kD (pb s.nv g.m) (fc s.ai dr)))).map (SO.ev (r++ [.ba outs]))) eY (fc s.ai dr)
     (λ i hi=>by rw[hO1]at hi;obtain⟨n,_,h2,h3⟩:=rT i hi;rw[h2,dI];exact h3)
     (λ i hi=>by
      rw[hO1]at hi;have hp:g.ai[i]? =some g.ai[i]:=getElem?_eq_getElem hi;have h1:=mQ g6 i _ hp;rw[zero_add]at h1;simp only[bI,getElem?_map,h1,hp,map_some];rw[sM o6 _ (List.all_eq_true.1 p2 _ (mem_of_getElem? hp))])
     (λ i j hi hj he=>by
      rw[hO1]at hi hj;obtain⟨n,a1,a2,_⟩:=rT i hi;obtain⟨m,b1,b2,_⟩:=rT j hj;rw[a2,b2]at he;subst he;exact oe g3 a1 b1)
     (λ i hi=>by rw[hO1]at hi;rw[zH,if_neg (by omega),dI,hO1,g2])
     (λ a ha=>by rw[hO1];exact bZ (sv o6 _ p1) a ha)
     (λ ob ho=>by
      rw[hO1];obtain⟨o,hom,rfl⟩:=List.mem_map.1 ho;exact ahg o6 o (List.all_eq_true.1 p2 _ hom))
     (by rw[length_map,uL,dI,hO1,hO2,length_map,g2])
     (λ i hi=>by
      rw[hO2]at hi;have hp:g.cG[i]? =some g.cG[i]:=getElem?_eq_getElem hi
      have hev:((g.cG[i]).kD (pb s.nv g.m) (fc s.ai dr)).ev (r++ [.ba outs])=((g.cG[i]).ev outs).bU (fc s.ai dr):=by
       rw[sM amk _ (List.all_eq_true.1 p3 _ (mem_of_getElem? hp)),hE]
      have hg:(fA s.ai dr (g.cG.map (SO.kD (pb s.nv g.m) (fc s.ai dr))))[fc s.ai dr i]? =some ((g.cG[i]).kD (pb s.nv g.m) (fc s.ai dr)):=by
       by_cases aF:i<g.ai.length
       ·obtain⟨n,a1,a2,a3⟩:=rT i aF;rw[a2,uK g3 a1 a3 (by simpa using hi),getElem?_map,hp];rfl
       ·rw[zH,if_neg (by omega),ads (by omega),getElem?_map,hp];rfl
      rw[getElem?_map,hg,getElem?_map,hp];simp only[map_some,hev])
     (λ n hn cE=>by
      rw[dI]at hn
      have:n∉dr:=λ nK=>by
       obtain⟨i,hi⟩:=List.getElem?_of_mem nK;have hil:=(List.getElem?_eq_some_iff.1 hi).1;obtain⟨n',a1,a2,_⟩:=rT i (by omega);rw[hi]at a1;cases a1;exact cE i (by rw[hO1];omega) a2
      rw[getElem?_map,uJ hn this];simp only[bI,getElem?_map];cases ho:s.ai[n]? with
      |none=>rfl
      |some o=>
       simp only[map_some];rw[SO.cS (r':=[.ba outs]) o (by rw[hl];exact SS.rY hc (mem_of_getElem? ho))])
    have ha:args.map (aI.ev (b7 s r))=(SV.a9 (D.a9 r τ) g.args).map (AV.bU (fc s.ai dr)):=by
     rw[←fe,←qU,SV.aT,map_map];apply map_congr_left;intro x _;simp only[Function.comp_apply,aX]
    rw[ha];exact this
   ·cases h
  ·cases h
 ·cases h
theorem abD{n:Nat}{l:List AV}(hn:AV.ad l=true):∀(v:SV),v.pat n 0=true->(v.ev l).ag=true:=by
 intro v h;cases v with
 |d x=>
  cases x with
  |x i=>
   simp only[SV.ev,D.ev,List.getD];cases hx:l[i]? with
   |none=>rfl
   |some a=>exact bf hn a (mem_of_getElem? hx)
  |c a=>exact h
  |_=>simp[SV.pat]at h
 |row m y=>cases y<;>simp[SV.pat]at h
 |ptr m f=>simp[SV.pat]at h
 |_=>simp[SV.pat]at h
theorem v9{n:Nat}{l:List AV}(hn:AV.ad l=true):∀(vs:List SV),vs.all (SV.pat n 0)=true->AV.ad (SV.a9 l vs)=true
 | [],_=>rfl
 |v::vs,h=>by
  simp only[all_cons,and_eq_true]at h;simp only[SV.a9,AV.ad,abD hn v h.1,v9 hn vs h.2];rfl
theorem aoL{n:Nat}{l:List AV}(hn:AV.ad l=true):∀(v:SV),v.zu n 0=true->(v.ev l).ag=true:=by
 intro v h;cases v with
 |ba cs=>exact v9 hn cs h
 |agg cs=>exact v9 hn cs h
 |_=>exact abD (n:=n) hn _ h
theorem asA{l:List AV}(h:AV.ad l=true):(lH l).ag=true:=by
 unfold lH
 split
 ·simpa [AV.ad]using h
 ·exact h
theorem wc{n:Nat}{l:List AV}(hn:AV.ad l=true):∀(o:SO),o.pat n 0=true->(o.ev l).ad=true:=by
 intro o h;cases o with
 |dead=>rfl
 |box e cs=>
  simp only[SO.pat]at h;simp only[SO.ev,ae.ad,AV.ad,Bool.and_true];exact asA (v9 hn cs h)
 |row nl e s y=>
  cases y with
  |x i=>
   have:AV.ad (aY (l.getD i .top))=true:=by
    refine cN ?_;simp only[List.getD];cases hx:l[i]? with
    |none=>rfl
    |some a=>exact bf hn a (mem_of_getElem? hx)
   rw[nC]
   show ae.ad (cK nl e s (aY (l.getD i .top)))=true;unfold cK
   split
   ·rfl
   ·exact this
  |_=>simp[SO.pat]at h
theorem aiJ{a:AV}(h:a.ag=true):a.one=true:=by
 cases a<;>first|exact h|(simp[AV.ag]at h;done)
theorem afO{a:AV}(h:a.ag=true):refs a= []:=by
 cases a<;>first|rfl|(simp[AV.ag]at h;done)
theorem aoK{n:Nat}{l:List AV}(hn:AV.ad l=true):∀(v:SV),v.pat n 1=true->(v.ev l).one=true:=by
 intro v h;cases v with
 |d x=>
  refine aiJ (abD (n:=n) hn (.d x) ?_);cases x<;>first|exact h|(simp[SV.pat]at h;done)
 |row m y=>
  cases y with
  |x i=>simp only[SV.pat,and_eq_true,decide_eq_true_eq]at h;simp only[SV.ev,AV.one,beq_iff_eq];omega
  |_=>simp[SV.pat]at h
 |ptr m f=>simp only[SV.pat,decide_eq_true_eq]at h;simp only[SV.ev,AV.one,beq_iff_eq];omega
 |_=>simp[SV.pat]at h
theorem aad{n k:Nat}{l:List AV}(hn:AV.ad l=true):∀(vs:List SV),vs.all (SV.pat n 1)=true->(vs.map ((AV.bU λ _=>k)∘SV.ev l)).flatMap refs=List.replicate (vs.filter SV.isR).length k
 | [],_=>rfl
 |v::vs,h=>by
  simp only[all_cons,and_eq_true]at h;simp only[map_cons,List.flatMap_cons,Function.comp_apply,aad hn vs h.2];cases v with
  |d x=>
   have:(SV.ev l (.d x)).ag=true:=abD (n:=n) hn (.d x) (by cases x<;>first|exact h.1|(simp[SV.pat]at h;done));rw[dW _ this,afO this];rfl
  |row m y=>rfl
  |ptr m f=>rfl
  |_=>simp[SV.pat]at h
theorem aih{s:SS}{f:FuncId}{gs:List gK}{args:List aI}{g:gK}{q}(ym:g.one=true)(h:wZ s f (args.map (cU s)) g=some q):dN P (.jC gs f args) s q:=by
 intro r hl hc hr gg K hk;unfold wZ at h
 split at h
 ·rename_i τ dr hm;simp only at h
  split at h
  ·rename_i ns mZ
   split at h
   ·rename_i nM;obtain⟨g1,g2,g3,g4,g5,g6,g7⟩:=nM;simp only[Option.some.injEq]at h;subst h;simp only[gK.ok,and_eq_true,decide_eq_true_eq]at g1;obtain⟨⟨⟨⟨p1,p2⟩,p3⟩,p4⟩,p5⟩:=g1;have zH:∀n,fc s.ai dr n=if n<dr.length then dr.getD n 0 else s.ai.length+(n- dr.length):=λ _=>rfl
    have al6:D.cls s.nv τ=true:=by
     have gg:=gg;simp only at gg;rw[dj,and_eq_true]at gg;have:=gg.2;simp only[cO,PO.cl,and_eq_true,g7]at this;exact this.1
    have o6:AV.ad (D.a9 r τ)=true:=D.cW hr τ (by rw[hl];exact al6);simp only at hk;rw[cJ]at hk;obtain⟨hk,qU⟩:=pJ mZ p1 o6 hk;simp only[js,PO.wp]at hk;obtain⟨outs,eY,hlen,hon,hk⟩:=hk;obtain⟨hk,heq⟩:=rW hk;have hl1:(r++ [AV.ba outs]).length=s.nv+1:=by simp[hl]
    have adU:∀d:D,d.cl s.nv=true->d.ev (r++ [.ba outs])=d.ev r:=λ d hd=>D.cS d (by rw[hl];exact hd)
    have hE:D.a9 (r++ [.ba outs]) (pb s.nv g.m)=outs:=ad5 hl hlen [];have amk:AV.ad (D.a9 (r++ [.ba outs]) (pb s.nv g.m))=true:=by rw[hE];exact hon
    have hK:=hk (by
     funext t
     simp only[b7]
     rw[tM (f:=aby (sJ g τ (fc s.ai dr) s.nv)) (by
      generalize sJ g τ (fc s.ai dr) s.nv=ks
      induction ks with
      |nil=>rfl
      |cons a ks ih=>simp only[aby,foldl_cons,SV.rew]at ih⊢;exact ih)]
     refine xd (λ q hq=> ?_) _ (SV.cS _ (by rw[hl];exact SS.oI hc t));have mw:=adE al6 q hq;exact⟨adU _ mw,by rw[←adU _ mw];exact heq q hq⟩)
    have rT:∀i,i<g.ai.length->∃n,dr[i]? =some n/\fc s.ai dr i=n/\n<s.ai.length:=by
     intro i hi;have eE:i<dr.length:=by omega
     refine⟨dr[i],getElem?_eq_getElem eE,?_,?_⟩
     ·rw[zH,if_pos eE];simp[List.getD,eE]
     ·have:=List.all_eq_true.1 g4 dr[i] (List.getElem_mem eE);simpa using this
    have hO1:(g.ai.map (SO.ev (D.a9 r τ))).length=g.ai.length:=by simp
    have hO2:(g.cG.map (SO.ev outs)).length=g.cG.length:=by simp
    have sT:(g.res.af9 (pb s.nv g.m) (fc s.ai dr)).ev (r++ [.ba outs])=(g.res.ev outs).bU (fc s.ai dr):=by
     rw[abQ amk _ p4,hE]
    have amm:bI {s with env:=s.env.map (λ p=>(p.1,aby (sJ g τ (fc s.ai dr) s.nv) p.2)),ai:=fA s.ai dr (g.cG.map (SO.kD (pb s.nv g.m) (fc s.ai dr))),nv:=s.nv+1} (r++ [.ba outs])=
     (fA s.ai dr (g.cG.map (SO.kD (pb s.nv g.m) (fc s.ai dr)))).map (SO.ev (r++ [.ba outs])):=rfl
    rw[sT,amm]at hK;simp only[gK.one,and_eq_true,decide_eq_true_eq]at ym;obtain⟨⟨⟨⟨⟨e1,e2⟩,e3⟩,e4⟩,e5⟩,e6⟩:=ym;obtain⟨o,ho⟩:∃o,g.ai= [o]:=List.length_eq_one_iff.1 e1;obtain⟨o',ho'⟩:∃o,g.cG= [o]:=List.length_eq_one_iff.1 e2;obtain⟨n,a1,a2,a3⟩:=rT 0 (by omega);have aqU:(g.res.ev outs).ag=true:=aoL hon _ e5;have amC:∀v∈g.args,(v.ev (D.a9 r τ)).one=true:=λ v hv=>aoK o6 v (by have:=List.all_eq_true.1 p1 v hv;rwa [e1]at this)
    have ha:args.map (aI.ev (b7 s r))=(SV.a9 (D.a9 r τ) g.args).map (AV.bU λ _=>n):=by
     have h1:args.map (aI.ev (b7 s r))=(SV.a9 (D.a9 r τ) g.args).map (AV.bU (fc s.ai dr)):=by
      rw[←fe,←qU,SV.aT,map_map];apply map_congr_left;intro x _;simp only[Function.comp_apply,aX]
     rw[h1,SV.aT,map_map,map_map];exact map_congr_left λ v hv=>ahj a2 (amC v hv)
    refine⟨n,SV.a9 (D.a9 r τ) g.args,o.ev (D.a9 r τ),g.res.ev outs,o'.ev outs,ha,?_,?_,?_,?_,aqU,?_,?_,?_⟩
    ·rw[SV.aT,List.all_map];exact List.all_eq_true.2 λ v hv=>amC v hv
    ·have h1:(args.flatMap λ x=>refs (x.ev (b7 s r)))=(args.map (aI.ev (b7 s r))).flatMap refs:=by rw[List.flatMap_map]
     rw[h1,ha,SV.aT,map_map,aad (k:=n) o6 g.args (by rw[e1]at p1;exact p1),e6];rfl
    ·have h1:=mQ g6 0 o (by rw[ho];rfl);rw[zero_add,a2]at h1;simp only[bI,getElem?_map,h1,map_some];rw[sM o6 o (by have:=List.all_eq_true.1 p2 o (by rw[ho];simp);exact this),fD (wc o6 o (List.all_eq_true.1 e3 o (by rw[ho];simp)))]
    ·exact wc o6 o (List.all_eq_true.1 e3 o (by rw[ho];simp))
    ·exact wc hon o' (List.all_eq_true.1 e4 o' (by rw[ho'];simp))
    ·have:=eY;unfold gA at this;rw[ho,ho']at this;exact this
    ·have ahA:dr.length=1:=by rw[g2,e1]
     have hO:(fA s.ai dr (g.cG.map (SO.kD (pb s.nv g.m) (fc s.ai dr)))).map (SO.ev (r++ [.ba outs]))=(bI s r).set n (o'.ev outs):=by
      apply ext_getElem?;intro j;by_cases hj:j=n
      ·subst hj;rw[getElem?_map,uK g3 a1 a3 (by rw[ho'];simp),getElem?_map,ho',List.getElem?_set_self (by rw[dI];exact a3)];simp only[List.getElem?_cons_zero,map_some];rw[sM amk o' (by have:=List.all_eq_true.1 p3 o' (by rw[ho'];simp);exact this),hE,fD (wc hon o' (List.all_eq_true.1 e4 o' (by rw[ho'];simp)))]
      ·rw[getElem?_set_ne (λ h=>hj h.symm)];by_cases aF:j<s.ai.length
       ·rw[getElem?_map,uJ aF (λ nK=>by
          obtain⟨i,hi⟩:=List.getElem?_of_mem nK;have hil:=(List.getElem?_eq_some_iff.1 hi).1;have:i=0:=by omega
          subst this;rw[a1]at hi;cases hi;exact hj rfl)]
        simp only[bI,getElem?_map];cases hx:s.ai[j]? with
        |none=>rfl
        |some ob=>
         simp only[map_some];rw[SO.cS (r':=[.ba outs]) ob (by rw[hl];exact SS.rY hc (mem_of_getElem? hx))]
       ·rw[getElem?_eq_none (by rw[length_map,uL,length_map,ho',ahA];simp only[List.length_cons,length_nil];omega),getElem?_eq_none (by rw[dI];omega)]
     rw[hO,dW _ aqU]at hK;exact hK
   ·cases h
  ·cases h
 ·cases h
theorem zX{s:SS}{f:FuncId}{gs:List gK}{args:List aI}:∀{ls:List gK} {q},pA s f (args.map (cU s)) ls=some q->dN P (.bp gs f args) s q
 | [],_,h=>by cases h
 |g::ls,q,h=>by
  unfold pA at h
  split at h
  ·rename_i q' hq;cases h;exact akC hq
  ·exact zX h
theorem rq{s:SS}{f:FuncId}{gs:List gK}{args:List aI}:∀{ls:List gK} {q},pA s f (args.map (cU s)) (ls.filter gK.one)=some q->dN P (.jC gs f args) s q
 | [],_,h=>by cases h
 |g::ls,q,h=>by
  by_cases hg:g.one=true
  ·rw[List.filter_cons_of_pos hg]at h;unfold pA at h
   split at h
   ·rename_i q' hq;cases h;exact aih hg hq
   ·exact rq h
  ·rw[List.filter_cons_of_neg hg]at h;exact rq h
theorem ap1{s:SS}{a:aI}{cs:List SV}{i:Nat}{v:SV}(ha:cU s a= .ba cs)(hi:cs[i]? =some v):dN P (.ext a i) s ([],v,s):=by
 intro r hl hc hr gg K hk;have hG:=hk rfl
 show(match a.ev (b7 s r)with| .ba vs=>i<vs.length/\K (vs.getD i .top) (bI s r)|_=>False);rw[←aX,ha];simp only[SV.ev,SV.aT];have aF:=(List.getElem?_eq_some_iff.1 hi).1;refine⟨by simpa using aF,?_⟩;simp only[List.getD,getElem?_map,hi,map_some,getD_some];exact hG
end
end Go.Ab
namespace Go.Ab
section
variable {P:Program}
theorem amZ{s:SS}{off:Nat}{a:aI}{q}(h:ae6 s off (cU s a)=some q):dN P (.bX off a) s q:=by
 intro r hl hc hr gg K hk;unfold ae6 at h
 split at h
 ·rename_i k f ha
  split at h
  ·rename_i q' hb;cases h;obtain⟨e,cs⟩:=q';rw[qg,←aX,ha];simp only[SV.ev,oD];rw[fV (jm hb) r];simp only[SO.ev,fE,k1];exact⟨rfl,hk rfl⟩
  ·cases h
 ·rename_i k l i f ha
  split at h
  ·rename_i q' jI;obtain⟨e,sz⟩:=q';cases h;rw[qg,←aX,ha];simp only[SV.ev,oD];have:=fV (dZ jI) r;simp only[SO.ev]at this;rw[this,fE,k1];exact⟨rfl,hk rfl⟩
  ·rename_i q' jI;obtain⟨e,sz⟩:=q';cases h;rw[qg,←aX,ha];simp only[SV.ev,oD];simp only[js,nf.wp,agh]at hk
   split at hk
   ·obtain⟨h0,h1,hk⟩:=hk;rcases eZ (dZ jI) r with h5|⟨h5,h6,_⟩
    ·rw[h5,fE,k1];exact⟨rfl,hk trivial⟩
    ·rw[h6]at h1;simp at h1;omega
   ·exact hk.elim
  ·cases h
 ·rename_i y f ha;cases h;rw[qg,←aX,ha];simp only[SV.ev,pM,k1];exact hk rfl
 ·rename_i y ha;cases h;have h1:=k8 (K:=K) hl hc hk;simp only[PO.wp,ajr]at h1;rw[qg,←aX,ha];simp only[SV.ev]
  split at h1
  ·rename_i z f hy;rw[hy,pM,k1];exact h1
  ·exact h1.elim
 ·cases h
theorem atM{s:SS}{off:Nat}{n:Option Nat}{a:aI}{q}(h:arw s off n (cU s a)=some q):dN P (.yC off n a) s q:=by
 intro r hl hc hr gg K hk
 have hb:∀{A:AV},(cU s a).ev r=A->(A.isAgg=true/\off+n.getD 1<=A.cells.length/\K (dG n A off) (bI s r))->wpOp P (.yC off n a) (b7 s r) (bI s r) K:=by
  intro A hA h;rw[aqE,←aX,hA];exact h
 unfold arw at h
 split at h
 ·rename_i cs ha
  split at h
  ·split at h
   ·rename_i v hv;cases h;have aF:=(List.getElem?_eq_some_iff.1 hv).1;refine hb (A:= .agg (SV.a9 r cs)) (by rw[ha];rfl) ⟨rfl,by simp only[AV.cells,SV.aT,length_map,getD_none];omega,?_⟩;rw[ga];simp only[AV.cells,SV.aT,List.getD,getElem?_map,hv];exact hk rfl
   ·cases h
  ·rename_i m
   split at h
   ·rename_i h1;cases h;have h2:=xA (K:=K) hl hc hk;refine hb (A:= .agg (SV.a9 r cs)) (by rw[ha];rfl) ⟨rfl,by simp only[AV.cells,SV.aT,length_map,getD_some];exact h1,?_⟩
    have h3:dG (some m) (.agg (SV.a9 r cs)) off= .agg (SV.a9 r ((cs.drop off).take m)):=by
     unfold dG;simp only
     split
     ·rename_i h4;obtain⟨rfl,_,h5⟩:=h4;simp only[AV.cells,SV.aT,length_map]at h5;rw[List.drop_zero,List.take_of_length_le (by omega)]
     ·simp only[AV.cells,SV.aT,map_take,map_drop]
    rw[h3];exact h2
   ·cases h
 ·rename_i l ha
  split at h
  ·split at h
   ·rename_i d hd;cases h;have aF:=(List.getElem?_eq_some_iff.1 hd).1;refine hb (A:= .agg (D.a9 r l)) (by rw[ha];rfl) ⟨rfl,by simp only[AV.cells,D.aT,length_map,getD_none];omega,?_⟩;rw[ga];simp only[AV.cells,D.aT,List.getD,getElem?_map,hd];exact hk rfl
   ·cases h
  ·cases h;exact hb (A:=(D.agg l).ev r) (by rw[ha];rfl) (k8 (K:=K) hl hc hk)
 ·rename_i x _ ha;cases h;exact hb (A:=x.ev r) (by rw[ha];rfl) (k8 (K:=K) hl hc hk)
 ·cases h
theorem al5{s:SS}{m:Nat}{a b:aI}{q}(h:ae5 s m (cU s a) (cU s b)=some q):dN P (.fS m a b) s q:=by
 intro r hl hc hr gg K hk;unfold ae5 at h
 split at h
 ·rename_i l i ha hb;cases h;rw[abF,←aX,←aX,ha,hb];simp only[SV.ev];simp only[js,PO.wp,kK]at hk
  split at hk
  ·rename_i xs _ j h1 h2;rw[h1,h2,aay,k1];obtain⟨q1,q2,q3,q4⟩:=hk;refine⟨q1,q2,q3,?_⟩;have h3:b7 {s with nv:=s.nv+1} (r++ [xs.getD j.toNat .top])=b7 s r:=eo (s:=s) hl hc;have h4:=q4 h3;have h5:bI {s with nv:=s.nv+1} (r++ [xs.getD j.toNat .top])=bI s r:=e9 (s:=s) hl hc;rw[h5]at h4;simp only[SV.ev,D.ev,bE hl]at h4;exact h4
  ·exact hk.elim
 ·rename_i k l i ha hb
  split at h
  ·rename_i nl e sz jI
   split at h
   ·rename_i sd;subst sd;cases h;rw[abF,←aX,←aX,ha,hb];simp only[SV.ev];simp only[js,nf.wp,agh]at hk
    split at hk
    ·rename_i j h2;obtain⟨q1,q2,q3⟩:=hk;rw[h2,rQ];have h3:=q3 trivial;simp only[SV.ev,h2,idxOf]at h3;rcases eZ (dZ jI) r with h5|⟨h5,h6,_⟩
     ·rw[h5,fE,k1];exact⟨rfl,rfl,q1,q2,h3⟩
     ·rw[h6]at q2;simp at q2;omega
    ·exact hk.elim
   ·cases h
  ·cases h
 ·cases h
theorem uA{O:List ae}{y:AV}{M:List AV->Prop}(h:kx [] y M):kx O y M:=by
 unfold kx at*
 split at h
 ·exact h
 ·exact h
 ·simp[tH]at h
 ·exact h.elim
theorem auo{s:SS}{t m bytes k:Nat}{a b:aI}{l y:D}{nl:Bool}{e sz:Nat}(ha:cU s a= .row k l)(jI:cur s k l=some (nl,e,sz))(atn:e=t/\sz=m)
  (hy:cU s b= .d y∨∃k' l',cU s b= .row k' l'/\(cur s k' l').isSome=true/\y= .sl l'):
  dN P (.app t m bytes a b) s ([.op (.app m bytes l y)],.row k (.x s.nv),{s with ai:=s.ai.set k (.row nl e sz (.x s.nv)),nv:=s.nv+1}):=by
 intro r hl hc hr gg K hk;obtain⟨rfl,rfl⟩:=atn;rw[alj,←aX,←aX,ha]
 have agi:∀{M:List AV->Prop},kx [] (y.ev r) M->kx (bI s r) ((cU s b).ev r) M:=by
  intro M h;rcases hy with hy|⟨k',l',hy,hcu,rfl⟩
  ·rw[hy];exact uA h
  ·rw[hy];obtain⟨⟨nl',e',sz'⟩,hq⟩:=Option.isSome_iff_exists.1 hcu;simp only[D.ev,wL]at h;simp only[SV.ev,tm];rcases eZ (dZ hq) r with h5|⟨h5,h6,_⟩
   ·rw[h5,j0];exact⟨rfl,h⟩
   ·rw[h5,nG,h6];rw[h6]at h;exact⟨rfl,h⟩
 refine agi ?_;simp only[js,PO.wp,agM]at hk;refine p9 hk λ ys _ hK=>⟨hK.1,?_⟩
 obtain⟨_,ov,jH,hK⟩:=hK;generalize nU:aY (l.ev r)=xs at*;have om:b7 {s with ai:=s.ai.set k (.row nl e sz (.x s.nv)),nv:=s.nv+1} (r++ [.sl (xs++ys)])=b7 s r:=eo (s:=s) hl hc;have hG:=hK om;rw[v5 ⟨_,rfl⟩ hl hc]at hG;simp only[SV.ev,D.ev,bE hl,bQ,List.length_append]at hG;simp only[SV.ev,nU,tG,k1];have eh:=dZ jI;have aF:k<(bI s r).length:=by rw[dI];exact(List.getElem?_eq_some_iff.1 eh).1
 have amc:∀{ob},(bI s r)[k]? =some ob->(bI s r).set k ob=bI s r:=by
  intro ob h;apply ext_getElem?;intro j;rw[getElem?_set]
  split
  ·rename_i hj;subst hj;rw[h]
  ·rfl
 rcases eZ eh r with h5|⟨h5,h6,h7⟩
 ·rw[h5,nU,j0];refine⟨rfl,rfl,rfl,ov,jH,?_⟩;cases nl with
  |false=>simpa only[SO.ev,D.ev,bE hl,bQ]using hG
  |true=>
   have bB:xs≠[]:=by
    intro h0;have:=fV eh r;simp only[SO.ev,nU,h0,if_true]at this;rw[this]at h5;cases h5
   have adT:xs++ys≠[]:=by simp[bB]
   simp only[SO.ev,D.ev,bE hl,bQ,if_neg adT]at hG;exact hG
 ·rw[nU]at h6;subst h6;subst h7;rw[h5,nG];simp only[length_nil,zero_add]at ov jH;refine⟨rfl,rfl,rfl,ov,jH,λ h0=> ?_,λ h0=> ?_⟩
  ·subst h0;simp only[SO.ev,D.ev,bE hl,bQ,append_nil,if_true,length_nil,add_zero]at hG;rw[amc h5]at hG;exact hG
  ·simp only[SO.ev,D.ev,bE hl,bQ,nil_append,if_neg h0,length_nil,zero_add]at hG;exact hG
theorem aqj{s:SS}{t m bytes:Nat}{a b:aI}{y:D}(ha:cU s a= .d (.c .aw))
  (hy:cU s b= .d y∨∃k' l',cU s b= .row k' l'/\(cur s k' l').isSome=true/\y= .sl l'):
  dN P (.app t m bytes a b) s ([.op (.app m bytes (.c (.sl [])) y),.aJ (.ne (.x s.nv))],.row s.ai.length (.x s.nv),{s with ai:=s.ai++ [.row false t m (.x s.nv)],nv:=s.nv+1}):=by
 intro r hl hc hr gg K hk;rw[alj,←aX,←aX,ha]
 have agi:∀{M:List AV->Prop},kx [] (y.ev r) M->kx (bI s r) ((cU s b).ev r) M:=by
  intro M h;rcases hy with hy|⟨k',l',hy,hcu,rfl⟩
  ·rw[hy];exact uA h
  ·rw[hy];obtain⟨⟨nl',e',sz'⟩,hq⟩:=Option.isSome_iff_exists.1 hcu;simp only[D.ev,wL]at h;simp only[SV.ev,tm];rcases eZ (dZ hq) r with h5|⟨h5,h6,_⟩
   ·rw[h5,j0];exact⟨rfl,h⟩
   ·rw[h5,nG,h6];rw[h6]at h;exact⟨rfl,h⟩
 refine agi ?_;simp only[js,PO.wp,agM,D.ev,bQ,length_nil,zero_add,nil_append]at hk;refine p9 hk λ ys _ hK=>⟨hK.1,?_⟩
 obtain⟨_,ov,jH,bB,hK⟩:=hK;simp only[D.ev,bE hl,bQ]at bB;have om:b7 {s with ai:=s.ai++ [.row false t m (.x s.nv)],nv:=s.nv+1} (r++ [.sl ys])=b7 s r:=eo (s:=s) hl hc;have hG:=hK om
 have hO:bI {s with ai:=s.ai++ [.row false t m (.x s.nv)],nv:=s.nv+1} (r++ [.sl ys])=bI s r++ [.live t m ys]:=by
  simp only[bI,map_append,map_cons,map_nil,SO.ev,D.ev,bE hl,bQ];congr 1;exact e9 (s:=s) hl hc
 rw[hO]at hG;simp only[SV.ev,D.ev,bE hl,bQ]at hG;simp only[SV.ev,D.ev,rG,k1,dI];exact⟨ov,jH,λ h0=>(bB h0).elim,λ _=>hG⟩
theorem atV{s:SS}{a:aI}{i j:Nat}(ha:cU s a= .d (.x j)):dN P (.ext a i) s ([.aJ (.ba (.x j) i)],.d (.ext j i),s):=by
 intro r hl hc hr gg K hk;rw[aqF,←aX,ha];simp only[js,nf.wp,ah4]at hk;simp only[SV.ev]
 split at hk
 ·rename_i vs hv;rw[hv,ahJ,k1];have h2:=hk.2 trivial;simp only[SV.ev,D.ev]at h2 hv;rw[hv]at h2;exact⟨hk.1,h2⟩
 ·exact hk.elim
theorem dF{s:SS}:∀{xs:List aI} {ns:List Node} {ds:List D} {b:Bool},gI s xs=some (ns,ds,b)->iy s.nv ns=s.nv/\∀{r:List AV} {G:List AV->Prop},js P ns r G->G r/\
  (AV.ad (D.a9 r ds)=true->D.a9 r ds=xs.map (λ x=>iF (bI s r) (x.ev (b7 s r)))/\(b=false->AV.ad (xs.map (aI.ev (b7 s r)))=true/\D.a9 r ds=xs.map (aI.ev (b7 s r))))
 | [],ns,ds,b,h=>by
   simp only[gI,Option.some.injEq,Prod.mk.injEq]at h;obtain⟨rfl,rfl,rfl⟩:=h;exact⟨rfl,λ hw=>⟨hw,λ _=>⟨rfl,λ _=>⟨rfl,rfl⟩⟩⟩⟩
 |x::xs,ns,ds,b,h=>by
  simp only[gI]at h
  split at h
  ·rename_i ns1 ds1 b1 h1;obtain⟨hn,ih⟩:=dF h1
   split at h
   ·rename_i k l hx
    split at h
    ·rename_i q jI;obtain⟨nl,e,sz⟩:=q;cases h;refine⟨hn,λ {r G} hw=> ?_⟩;obtain⟨h2,h3⟩:=ih hw;refine⟨h2,λ cE=> ?_⟩;simp only[D.a9,AV.ad,and_eq_true]at cE;obtain⟨h3,_⟩:=h3 cE.2;refine⟨?_,by simp⟩;simp only[D.a9,map_cons,h3,List.cons.injEq,and_true];rw[←aX,hx];simp only[SV.ev,D.ev,iF];rcases eZ (dZ jI) r with h5|⟨h5,h6,_⟩
     ·rw[h5];simp
     ·rw[h5,h6];simp
    ·cases h
   ·split at h
    ·rename_i ms d hd;cases h;refine⟨by rw[iV,yR hd,hn],λ {r G} hw=> ?_⟩;rw[cJ]at hw;obtain⟨hw,he⟩:=j6 hd hw;obtain⟨h2,h3⟩:=ih hw;rw[aX]at he;refine⟨h2,λ cE=> ?_⟩;simp only[D.a9,AV.ad,and_eq_true]at cE;obtain⟨h3,h4⟩:=h3 cE.2;rw[he]at cE;refine⟨?_,λ hb=> ?_⟩
     ·simp only[D.a9,map_cons,h3,he,aaE cE.1]
     ·obtain⟨g1,g2⟩:=h4 hb;simp only[D.a9,map_cons,AV.ad,g1,g2,he,cE.1,Bool.and_true,and_self]
    ·cases h
  ·cases h
theorem iE{s:SS}{r:List AV}(hl:r.length=s.nv)(hc:s.cl=true){ns:List Node}(hn:iy s.nv ns=s.nv){o:PO}{K:KT}(h:js P (nx s ns o).1 r (λ r'=>b7 (nx s ns o).2.2 r'=b7 s r->K ((nx s ns o).2.1.ev r') (bI (nx s ns o).2.2 r'))):
  js P ns r λ r1=>r1=r->o.wp P r λ v=>K v (bI s r):=by
 simp only[nx,cJ]at h;refine kq ns (λ m hw he=> ?_) h;rw[he]at hw;exact PO.pj (o:=o) hw λ v hv=>afL (ns:=ns) (o:=o) hl hc hn hv
theorem qu{s:SS}{ns:List Node}(hn:iy s.nv ns=s.nv){f:FuncId}{ds:List D}{b:Bool}(h:cO s.nv (nx s ns (.call f ds b)).1=true):D.cls s.nv ds=true:=by
 simp only[nx,dj,and_eq_true]at h;have:=h.2;simp only[cO,PO.cl,Bool.and_true,hn]at this;exact this
theorem aiA{s:SS}{r:List AV}{f:FuncId}{args:List aI}{ds:List D}{b:Bool}{K:KT}(cE:AV.ad (D.a9 r ds)=true)
  (h1:D.a9 r ds=args.map (λ x=>iF (bI s r) (x.ev (b7 s r)))) (h2:b=false->AV.ad (args.map (aI.ev (b7 s r)))=true)
  (h:(PO.call f ds b).wp P r λ v=>K v (bI s r)):xr P f (args.map λ x=>iF (bI s r) (x.ev (b7 s r))) (args.map (aI.ev (b7 s r))) (bI s r) K:=by
 obtain⟨res,q1,q2,q3,q4⟩:=h;rw[h1]at q1 cE;refine oc res q1 cE ?_
 have:vW (bI s r) (args.map (aI.ev (b7 s r))) res=bI s r:=by
  cases b with
  |true=>exact td (q3 rfl)
  |false=>exact r9 (h2 rfl)
 rw[this];exact q4
theorem ak4{s:SS}{f:FuncId}{args:List aI}{ns:List Node}{ds:List D}{b:Bool}(h:gI s args=some (ns,ds,b)):dN P (.mG f args) s (nx s ns (.call f ds b)):=by
 intro r hl hc hr gg K hk;obtain⟨hn,hs⟩:=dF (P:=P) h;obtain⟨hG,ha⟩:=hs (iE hl hc hn hk);have cE:=D.cW hr ds (by rw[hl];exact qu hn gg);obtain⟨h1,h2⟩:=ha cE;rw[ahm];exact aiA cE h1 (λ hb=>(h2 hb).1) (hG rfl)
theorem akV{s:SS}{f:FuncId}{args:List aI}{ns:List Node}{ds:List D}(h:gI s args=some (ns,ds,false)):dN P (.k7 f args) s (nx s ns (.call f ds false)):=by
 intro r hl hc hr gg K hk;obtain⟨hn,hs⟩:=dF (P:=P) h;obtain⟨hG,ha⟩:=hs (iE hl hc hn hk);have cE:=D.cW hr ds (by rw[hl];exact qu hn gg);obtain⟨h1,h2⟩:=(ha cE).2 rfl;obtain⟨res,q1,q2,q3,q4⟩:=hG rfl;rw[ahl];rw[h2]at q1;exact n8 res q1 h1 q4
theorem aif{s:SS}{gs:List gK}{f:FuncId}{args:List aI}{ns:List Node}{ds:List D}(h:gI s args=some (ns,ds,false)):dN P (.bp gs f args) s (nx s ns (.call f ds false)):=by
 intro r hl hc hr gg K hk;obtain⟨hn,hs⟩:=dF (P:=P) h;obtain⟨hG,ha⟩:=hs (iE hl hc hn hk);have cE:=D.cW hr ds (by rw[hl];exact qu hn gg);obtain⟨h1,h2⟩:=(ha cE).2 rfl;obtain⟨res,q1,q2,q3,q4⟩:=hG rfl;rw[h2]at q1;refine⟨res,bI s r,?_,q4⟩;have:=hD.fresh q1 h1 (bI s r);rwa [dW res q2,map_nil,append_nil]at this
theorem akK{s:SS}{f:FuncId}{args:List aI}{ns:List Node}{ds:List D}{b:Bool}(h:gI s args=some (ns,ds,b)):dN P (.lT f args) s (nx s ns (.call f ds true)):=by
 intro r hl hc hr gg K hk;obtain⟨hn,hs⟩:=dF (P:=P) h;obtain⟨hG,ha⟩:=hs (iE hl hc hn hk);have cE:=D.cW hr ds (by rw[hl];exact qu hn gg);obtain⟨h1,h2⟩:=ha cE;obtain⟨res,q1,q2,q3,q4⟩:=hG rfl;rw[h1]at q1 cE;exact⟨res,q3 rfl,cE,q1,q4⟩
theorem aaa{nl:Bool}{e s:Nat}{xs:List AV}(h:AV.ad xs=true)(t:Nat->Nat):(cK nl e s xs).bU t=cK nl e s xs:=by
 unfold cK
 split
 ·rfl
 ·simp only[ae.bU];rw[←fe,ff xs h]
theorem amX{s:SS}{ns:List Node}(hn:iy s.nv ns=s.nv){nl:Bool}{e m:Nat}{f:FuncId}{ds:List D}(h:cO s.nv (nx s ns (.eV nl e m f ds)).1=true):D.cls s.nv ds=true:=by
 simp only[nx,dj,and_eq_true]at h;have:=h.2;simp only[cO,PO.cl,Bool.and_true,hn]at this;exact this
theorem amW{s:SS}{nl:Bool}{e m:Nat}{f:FuncId}{args:List aI}{ns:List Node}{ds:List D}{q}(h:gI s args=some (ns,ds,false))(hq:sA s nl e m (nx s ns (.eV nl e m f ds))=some q):dN P (.eV nl e m f args) s q:=by
 intro r hl hc hr gg K hk;obtain⟨hn,hs⟩:=dF (P:=P) h;have hq1:q.1=(nx s ns (.eV nl e m f ds)).1:=by simp only[sA,nx,Option.some.injEq]at hq;subst hq;rfl
 obtain⟨hG,ha⟩:=hs (adr hq hn hl hc hk);have cE:=D.cW hr ds (by rw[hl];exact amX hn (by rw[←hq1];exact gg));obtain⟨h1,h2⟩:=(ha cE).2 rfl;obtain⟨xs,q1,q2,q3⟩:=hG rfl;rw[h2]at q1;refine⟨.row 0 xs.length,cK nl e m xs,h1,q1,?_⟩;rw[aaa q2,dI];simp only[AV.bU,add_zero];exact q3
def known(g:D):Option (FuncId×List D):=
 match g with
 | .c (.fn f [])=>some (f,[])
 | .fn f a6=>some (f,a6)
 |_=>none
theorem aah{s:SS}{g:aI}{x:D}{f:FuncId}{a6:List D}{args:List aI}{ns:List Node}{ds:List D}{b:Bool}(hg:cU s g= .d x)(hx:∀r,x.ev r= .fn f (D.a9 r a6))(h:gI s args=some (ns,ds,b)):
  dN P (.jD g args) s (nx s ns (.call f (ds++a6) b)):=by
 intro r hl hc hr gg K hk;obtain⟨hn,hs⟩:=dF (P:=P) h;obtain⟨hG,ha⟩:=hs (iE hl hc hn hk);have cE:=D.cW hr (ds++a6) (by rw[hl];exact qu hn gg);have amD:D.a9 r (ds++a6)=D.a9 r ds++D.a9 r a6:=by simp only[D.aT,map_append]
 rw[amD]at cE;have tY:=cE;rw[aG,and_eq_true]at tY;obtain⟨h1,h2⟩:=ha tY.1;obtain⟨res,q1,q2,q3,q4⟩:=hG rfl;rw[xy,←aX,hg];simp only[SV.ev,hx,rF];rw[amD,h1]at q1;rw[h1]at cE;refine oc res q1 cE ?_
 have:vW (bI s r) (args.map (aI.ev (b7 s r))) res=bI s r:=by
  cases b with
  |true=>exact td (q3 rfl)
  |false=>exact r9 (h2 rfl).1
 rw[this];exact q4
theorem aem{s:SS}{ns:List Node}(hn:iy s.nv ns=s.nv){g:D}{ds:List D}{b:Bool}(h:cO s.nv (nx s ns (.eu g ds b)).1=true):g.cl s.nv=true/\D.cls s.nv ds=true:=by
 simp only[nx,dj,and_eq_true]at h;have:=h.2;simp only[cO,PO.cl,Bool.and_true,hn,and_eq_true]at this;exact this
theorem afD{s:SS}{g:aI}{x:D}{args:List aI}{ns:List Node}{ds:List D}{b:Bool}(hg:cU s g= .d x)(h:gI s args=some (ns,ds,b)):
  dN P (.jD g args) s (nx s ns (.eu x ds b)):=by
 intro r hl hc hr gg K hk;obtain⟨hn,hs⟩:=dF (P:=P) h;obtain⟨hG,ha⟩:=hs (iE hl hc hn hk);obtain⟨hx,hds⟩:=aem hn gg;have tY:=D.cW hr ds (by rw[hl];exact hds);have hnx:=D.bN hr x (by rw[hl];exact hx);obtain⟨h1,h2⟩:=ha tY;have hG:=hG rfl;rw[xy,←aX,hg];simp only[PO.wp,pT]at hG;simp only[SV.ev]
 split at hG
 ·rename_i f a6 hf;rw[hf]at hnx⊢;rw[rF];obtain⟨res,q1,q2,q3,q4⟩:=hG;rw[h1]at q1 tY;refine oc res q1 (by rw[aG,tY];exact hnx) ?_
  have:vW (bI s r) (args.map (aI.ev (b7 s r))) res=bI s r:=by
   cases b with
   |true=>exact td (q3 rfl)
   |false=>exact r9 (h2 rfl).1
  rw[this];exact q4
 ·exact hG.elim
theorem aae{s:SS}{g:aI}{x:D}{f:FuncId}{a6:List D}{args:List aI}{ns:List Node}{ds:List D}(hg:cU s g= .d x)(hx:∀r,x.ev r= .fn f (D.a9 r a6))(h:gI s args=some (ns,ds,false)):
  dN P (.iv g args) s (nx s ns (.call f (ds++a6) false)):=by
 intro r hl hc hr gg K hk;obtain⟨hn,hs⟩:=dF (P:=P) h;obtain⟨hG,ha⟩:=hs (iE hl hc hn hk);have cE:=D.cW hr (ds++a6) (by rw[hl];exact qu hn gg);have amD:D.a9 r (ds++a6)=D.a9 r ds++D.a9 r a6:=by simp only[D.aT,map_append]
 rw[amD]at cE;have tY:=cE;rw[aG,and_eq_true]at tY;obtain⟨h1,h2⟩:=(ha tY.1).2 rfl;obtain⟨res,q1,q2,q3,q4⟩:=hG rfl;rw[xx,←aX,hg];simp only[SV.ev,hx,rC];rw[amD,h2]at q1;rw[h2]at cE;exact n8 res q1 cE q4
theorem afu{s:SS}{g:aI}{x:D}{args:List aI}{ns:List Node}{ds:List D}(hg:cU s g= .d x)(h:gI s args=some (ns,ds,false)):
  dN P (.iv g args) s (nx s ns (.eu x ds false)):=by
 intro r hl hc hr gg K hk;obtain⟨hn,hs⟩:=dF (P:=P) h;obtain⟨hG,ha⟩:=hs (iE hl hc hn hk);obtain⟨hx,hds⟩:=aem hn gg;have tY:=D.cW hr ds (by rw[hl];exact hds);have hnx:=D.bN hr x (by rw[hl];exact hx);obtain⟨h1,h2⟩:=(ha tY).2 rfl;have hG:=hG rfl;rw[xx,←aX,hg];simp only[PO.wp,pT]at hG;simp only[SV.ev]
 split at hG
 ·rename_i f a6 hf;rw[hf]at hnx⊢;rw[rC];obtain⟨res,q1,q2,q3,q4⟩:=hG;rw[h2]at q1 tY;exact n8 res q1 (by rw[aG,tY];exact hnx) q4
 ·exact hG.elim
theorem ao9{s:SS}{f:FuncId}{a6:List aI}{ns:List Node}{ds:List D}(mw:D.cls s.nv ds=true)(h:gI s a6=some (ns,ds,false)):dN P (.rK f a6) s (done s ns (.d (.fn f ds))):=by
 intro r hl hc hr gg K hk;obtain⟨hn,hs⟩:=dF (P:=P) h;obtain⟨hG,ha⟩:=hs hk;have cE:=D.cW hr ds (by rw[hl];exact mw);obtain⟨h1,h2⟩:=(ha cE).2 rfl;have hG:=hG rfl;rw[alf,k1,←h2];exact hG
theorem ao8{s:SS}{a:aI}{q}(h:xOp (.ef a) s=some q):dN P (.ef a) s q:=by
 intro r hl hc hr gg K hk;simp only[xOp]at h;rw[ale,←aX]
 split at h
 ·rename_i k f ha
  split at h
  ·rename_i q' hb;obtain⟨e,cs⟩:=q';cases h;rw[ha];simp only[SV.ev,aak];rw[fV (jm hb) r];simp only[SO.ev,fE,k1];exact⟨rfl,hk rfl⟩
  ·cases h
 ·rename_i y f ha;cases h;rw[ha];simp only[SV.ev,rJ,k1];exact hk rfl
 ·rename_i f l ha;cases h;rw[ha];simp only[SV.ev,D.ev,xD,k1];exact hk rfl
 ·rename_i x _ ha;cases h;rw[ha];simp only[SV.ev];simp only[js,nf.wp,xV]at hk
  split at hk
  ·rename_i f cs hf;rw[hf,xD,k1];have:=hk trivial;simp only[SV.ev,hf]at this;exact this
  ·rename_i y f hf;rw[hf,rJ,k1];have:=hk trivial;simp only[SV.ev,hf]at this;exact this
  ·exact hk.elim
 ·cases h
theorem aiR{r:List AV}(hr:AV.ad r=true):∀(ps:List (Nat×D)) (z:List AV),AV.ad z=true->ps.all (λ p=>p.2.cl r.length)=true->AV.ad (eX z (ps.map λ p=>(p.1,p.2.ev r)))=true:=by
 intro ps
 induction ps with
 |nil=>intro z hz _;exact hz
 |cons p ps ih=>
  intro z hz hp;simp only[all_cons,and_eq_true]at hp;simp only[map_cons,eX];refine ih _ (fF λ a ha=> ?_) hp.2;rcases List.mem_or_eq_of_mem_set ha with h|rfl
  ·exact bf hz a h
  ·exact D.bN hr _ hp.1
theorem ajO{s:SS}{t m len:Nat}{z:AV}{ps:List (Nat×aI)}{ns:List Node}{qs:List (Nat×D)}(h:pg s m len ps=some (ns,qs)):dN P (.iB t m len z ps) s (nx s ns (.kB z len qs)):=by
 intro r hl hc hr gg K hk;obtain⟨hn,hs⟩:=mR (P:=P) h;obtain⟨hG,eh⟩:=hs (iE hl hc hn hk);have hG:=hG rfl;simp only[PO.wp]at hG;simp only[wpOp];simp only[nx,dj,and_eq_true]at gg;have h2:=gg.2;simp only[cO,PO.cl,Bool.and_true,hn,and_eq_true]at h2;refine eh _ _ (by simp) ⟨aiR hr qs _ (fF λ a ha=>by rw[List.eq_of_mem_replicate ha];exact h2.1) (by rw[hl];exact h2.2),hG⟩
theorem avA{s:SS}{o:PU}{args:List aI}{ns:List Node}{ds:List D}{b:Bool}(h:gI s args=some (ns,ds,b)):dN P (.pu o args) s (nx s ns (.pu o ds)):=by
 intro r hl hc hr gg K hk;obtain⟨hn,hs⟩:=dF (P:=P) h;obtain⟨hG,ha⟩:=hs (iE hl hc hn hk);simp only[nx,dj,and_eq_true]at gg;have h2:=gg.2;simp only[cO,PO.cl,Bool.and_true,hn]at h2;have cE:=D.cW hr ds (by rw[hl];exact h2);obtain⟨h1,_⟩:=ha cE;have hG:=hG rfl;simp only[PO.wp]at hG;rw[h1]at hG cE;exact⟨cE,hG⟩
theorem agV{e:Env}{O:List ae}{t m bytes:Nat}{a b:aI}{sb:ByteArray}(hb:b.ev e= .v (.string sb)){K:KT}(hm:m=1)(h:mH O (a.ev e) t m bytes (dt sb) K):wpOp P (.j7 t m bytes a b) e O K:=by
 have h':gY O (a.ev e) t m bytes (dt sb) K=mH O (a.ev e) t m bytes (dt sb) K:=by
  unfold gY mH;cases a.ev e<;>first|rfl|(rename_i k l;cases O[k]? with|none=>rfl|some o=>cases o<;>rfl)
 simp only[wpOp,hb];refine⟨hm,?_⟩;have:(b.ev e= .v (.string sb)):=hb
 show gY O (a.ev e) t m bytes (dt sb) K;rw[h'];exact h
theorem aqn{s:SS}{t m bytes k:Nat}{a b:aI}{l y:D}{nl:Bool}{e sz:Nat}(ha:cU s a= .row k l)(hy:cU s b= .d y)(jI:cur s k l=some (nl,e,sz))(atn:e=t/\sz=m):
  dN P (.j7 t m bytes a b) s ([.op (.j7 m bytes l y)],.row k (.x s.nv),{s with ai:=s.ai.set k (.row nl e sz (.x s.nv)),nv:=s.nv+1}):=by
 intro r hl hc hr gg K hk;obtain⟨rfl,rfl⟩:=atn;simp only[js,PO.wp,yS]at hk
 split at hk
 case h_2=>exact hk.elim
 rename_i sb hsb;obtain⟨hm,ov,jH,hK⟩:=hk;have hbv:b.ev (b7 s r)= .v (.string sb):=by rw[←aX,hy];exact hsb
 refine agV hbv hm ?_;rw[←aX,ha];have hlen:=mB sb;generalize dt sb=ys at*;rw[←hlen]at ov jH;generalize nU:aY (l.ev r)=xs at*;have om:b7 {s with ai:=s.ai.set k (.row nl e sz (.x s.nv)),nv:=s.nv+1} (r++ [.sl (xs++ys)])=b7 s r:=eo (s:=s) hl hc;have hG:=hK om;rw[v5 ⟨_,rfl⟩ hl hc]at hG;simp only[SV.ev,D.ev,bE hl,bQ,List.length_append]at hG;simp only[SV.ev,nU,tG,k1];have eh:=dZ jI
 have amc:∀{ob},(bI s r)[k]? =some ob->(bI s r).set k ob=bI s r:=by
  intro ob h;apply ext_getElem?;intro j;rw[getElem?_set]
  split
  ·rename_i hj;subst hj;split
   ·rw[h]
   ·rename_i aF;rw[getElem?_eq_none (by omega)]
  ·rfl
 rcases eZ eh r with h5|⟨h5,h6,h7⟩
 ·rw[h5,nU,j0];refine⟨rfl,rfl,rfl,ov,jH,?_⟩;cases nl with
  |false=>simpa only[SO.ev,D.ev,bE hl,bQ]using hG
  |true=>
   have bB:xs≠[]:=by
    intro h0;have:=fV eh r;simp only[SO.ev,nU,h0,if_true]at this;rw[this]at h5;cases h5
   have adT:xs++ys≠[]:=by simp[bB]
   simp only[SO.ev,D.ev,bE hl,bQ,if_neg adT]at hG;exact hG
 ·rw[nU]at h6;subst h6;subst h7;rw[h5,nG];simp only[length_nil,zero_add]at ov jH;refine⟨rfl,rfl,rfl,ov,jH,λ h0=> ?_,λ h0=> ?_⟩
  ·subst h0;simp only[SO.ev,D.ev,bE hl,bQ,append_nil,if_true,length_nil,add_zero]at hG;rw[amc h5]at hG;exact hG
  ·simp only[SO.ev,D.ev,bE hl,bQ,nil_append,if_neg h0,length_nil,zero_add]at hG;exact hG
theorem anG{s:SS}{t m bytes:Nat}{a b:aI}{y:D}(ha:cU s a= .d (.c .aw))(hy:cU s b= .d y):
  dN P (.j7 t m bytes a b) s ([.op (.j7 m bytes (.c (.sl [])) y),.aJ (.ne (.x s.nv))],.row s.ai.length (.x s.nv),{s with ai:=s.ai++ [.row false t m (.x s.nv)],nv:=s.nv+1}):=by
 intro r hl hc hr gg K hk;simp only[js,PO.wp,yS]at hk
 split at hk
 case h_2=>exact hk.elim
 rename_i sb hsb;obtain⟨hm,ov,jH,bB,hK⟩:=hk;have hbv:b.ev (b7 s r)= .v (.string sb):=by rw[←aX,hy];exact hsb
 refine agV hbv hm ?_;rw[←aX,ha];have hlen:=mB sb;generalize dt sb=ys at*;rw[←hlen]at ov jH;simp only[D.ev,bQ,length_nil,zero_add,nil_append]at ov jH bB hK;simp only[D.ev,bE hl,bQ]at bB;have om:b7 {s with ai:=s.ai++ [.row false t m (.x s.nv)],nv:=s.nv+1} (r++ [.sl ys])=b7 s r:=eo (s:=s) hl hc;have hG:=hK om
 have hO:bI {s with ai:=s.ai++ [.row false t m (.x s.nv)],nv:=s.nv+1} (r++ [.sl ys])=bI s r++ [.live t m ys]:=by
  simp only[bI,map_append,map_cons,map_nil,SO.ev,D.ev,bE hl,bQ];congr 1;exact e9 (s:=s) hl hc
 rw[hO]at hG;simp only[SV.ev,D.ev,bE hl,bQ]at hG;simp only[SV.ev,D.ev,rG,k1,dI];exact⟨ov,jH,λ h0=>(bB h0).elim,λ _=>hG⟩
theorem mA{s:SS}{lo:Option aI}(h:zP s lo=true){r:List AV}{d:Int}(hd:lo=none->d=0){M:Int->Prop}(hm:M 0):ft d (b7 s r) lo M:=by
 cases lo with
 |none=>rw[show ft d (b7 s r) none M=M d from rfl,hd rfl];exact hm
 |some x=>
  simp only[zP]at h
  split at h
  ·rename_i k n hx;have:=of_decide_eq_true h;subst this;simp only[ft];rw[←aX,hx];exact hm
  ·cases h
theorem at1{s:SS}{m:Nat}{a:aI}{lo hi:Option aI}{q}(h:arx s m (cU s a) lo hi=some q):dN P (.cut m a lo hi) s q:=by
 intro r hl hc hr gg K hk;unfold arx at h
 split at h
 ·rename_i ha
  split at h
  ·rename_i hz;cases h;have hG:=hk rfl;simp only[wpOp];rw[←aX,ha];exact mA hz.1 (λ _=>rfl) (mA hz.2 (λ _=>rfl) ⟨rfl,rfl,hG⟩)
  ·cases h
 ·rename_i k l ha
  split at h
  ·rename_i nl e sz jI
   split at h
   ·rename_i nM;obtain⟨rfl,z1,z2,z3⟩:=nM;cases h;have eh:=dZ jI
    have ot:(nl=true->aY (l.ev r)≠[])/\K (.row s.ai.length 0) (bI {s with ai:=s.ai.set k .dead++ [.row false e sz (.c (.sl []))]} r):=by
     cases nl
     ·exact⟨λ h=>(by cases h),hk rfl⟩
     ·simp only[if_true,js,nf.wp]at hk;exact⟨λ _=>hk.1,hk.2 rfl⟩
    obtain⟨bB,hG⟩:=ot
    have mf:(bI s r)[k]? =some (.live e sz (aY (l.ev r))):=by
     rw[fV eh r];cases nl
     ·rfl
     ·simp only[SO.ev];rw[if_neg (bB rfl)]
    have om:bI {s with ai:=s.ai.set k .dead++ [.row false e sz (.c (.sl []))]} r=(bI s r).set k .dead++ [.live e sz []]:=by
     simp only[bI,map_append,map_set,map_cons,map_nil];rfl
    rw[om]at hG;simp only[wpOp];rw[←aX,ha];simp only[SV.ev,mf];refine⟨by trivial,by trivial,mA z1 (λ _=>rfl) (mA z3 (λ h=>by rw[h]at z2;cases z2) ⟨rfl,rfl,?_⟩)⟩;rw[dI];exact hG
   ·cases h
  ·cases h
 ·cases h
theorem aqm{s:SS}{t m bytes:Nat}{z:AV}{a b:aI}{y:D}(ha:cU s a= .d (.c .aw))(hb:cU s b= .d y):
  dN P (.acy t m bytes z a b) s ([.op (.rep bytes z y y),.aJ (.ne (.x s.nv))],.row s.ai.length (.x s.nv),{s with ai:=s.ai++ [.row false t m (.x s.nv)],nv:=s.nv+1}):=by
 intro r hl hc hr gg K hk;simp only[js,PO.wp,adb]at hk
 split at hk
 ·rename_i n c hn fT;rw[hn]at fT;cases fT;obtain⟨q1,_,q3,q4,hk⟩:=hk;simp only[nf.wp,D.ev,bE hl,bQ]at hk;obtain⟨bB,hK⟩:=hk
  have rR:0<n:=by
   rcases Int.lt_or_le 0 n with h|h
   ·exact h
   ·exact(bB (by rw[show n.toNat=0 by omega];rfl)).elim
  have om:b7 {s with ai:=s.ai++ [.row false t m (.x s.nv)],nv:=s.nv+1} (r++ [.sl (List.replicate n.toNat z)])=b7 s r:=eo (s:=s) hl hc;have hG:=hK om
  have hO:bI {s with ai:=s.ai++ [.row false t m (.x s.nv)],nv:=s.nv+1} (r++ [.sl (List.replicate n.toNat z)])=bI s r++ [.live t m (List.replicate n.toNat z)]:=by
   simp only[bI,map_append,map_cons,map_nil,SO.ev,D.ev,bE hl,bQ];congr 1;exact e9 (s:=s) hl hc
  rw[hO]at hG;simp only[SV.ev,D.ev,bE hl,bQ,List.length_replicate]at hG;simp only[wpOp];rw[←aX,←aX,ha,hb];simp only[SV.ev,D.ev,hn];refine⟨rR,by simpa using q3,by simp only[maxLen];omega,?_⟩;rw[dI];exact hG
 ·exact hk.elim
theorem alI{s:SS}{a:aI}(ha:cU s a= .d (.c .aw)):dN P (.bM a) s ([],.d (.c (.v (.int .i64 0))),s):=by
 intro r hl hc hr gg K hk;have hG:=hk rfl;simp only[wpOp];rw[←aX,ha];exact hG
theorem aqb{s:SS}{a:aI}(ha:cU s a= .d (.c .aw)):dN P (.pu .jc [a]) s ([],.d (.c (.v (.int .i64 0))),s):=by
 intro r hl hc hr gg K hk;have hG:=hk rfl;simp only[wpOp,map_cons,map_nil];rw[←aX,ha];exact⟨rfl,hG⟩
theorem arv{op:ew}{s:SS}{q:List Node×SV×SS}(mr:op.okc=true)(y6:s.cl=true)(hq:q.2.1.cl q.2.2.nv=true)(h:xOp op s=some q):dN P op s q:=by
 cases op<;>simp only[xOp]at h
 case stuck=>cases h;intro r hl hc hr gg K hk;exact hk.elim
 case iB t m len z ps=>
  split at h
  ·rename_i ns qs hx;cases h;exact ajO hx
  ·cases h
 case acy t m bytes z a b=>
  split at h
  ·rename_i y ha hb;cases h;exact aqm ha hb
  ·cases h
 case cut m a lo hi=>exact at1 h
 case pu o args=>
  split at h
  ·split at h
   ·rename_i ha;cases h;exact aqb ha
   ·cases h
  ·split at h
   ·rename_i ns ds b hx;cases h;exact avA hx
   ·cases h
 case j7 t m bytes a b=>
  split at h
  ·rename_i k l y ha hb
   split at h
   ·rename_i nl e sz jI
    split at h
    ·rename_i hes;cases h;exact aqn ha hb jI hes
    ·cases h
   ·cases h
  ·rename_i y ha hb;cases h;exact anG ha hb
  ·cases h
 case bc a=>cases h;exact asw s a
 case pick c a b=>
  split at h
  ·rename_i t hc;cases h;exact ak2 hc
  ·rename_i x _ hc
   split at h
   ·rename_i na a' nb b' ha hb;cases h;exact abC hc ha hb
   ·cases h
  ·cases h
 case alloc t n z=>exact anJ h
 case box t n a=>exact auf (sx y6 mr) h
 case build z ps=>
  simp only[ew.okc,and_eq_true]at mr;exact anp mr.2 mr.1 h
 case buildSlice t m len z ps=>exact zL h
 case gq k t n z=>exact agO mr h
 case mo k t n a=>exact anr mr (sx y6 mr) h
 case gn k t m len z ps=>
  simp only[ew.okc,and_eq_true]at mr;exact agI mr.1 mr.2 h
 case load n a=>exact apf h
 case store m a b=>exact aky mr h
 case bin o a b=>
  split at h
  ·rename_i x y ha hb;cases h;exact auh ha hb
  ·cases h
 case beq neg a b=>
  split at h
  ·rename_i x y ha hb;cases h;exact auj ha hb
  ·cases h
 case un o a=>
  split at h
  ·rename_i x ha;cases h;exact avg ha
  ·cases h
 case jK k a=>
  split at h
  ·rename_i x ha;cases h;exact ap4 ha
  ·cases h
 case bX off a=>exact amZ h
 case yC off n a=>exact atM h
 case fS m a i=>exact al5 h
 case kU a i=>
  split at h
  ·rename_i x y ha hb;cases h;exact apA ha hb
  ·cases h
 case fC a lo hi=>
  split at h
  ·rename_i x dl dh ha h1 h2;cases h;exact aia ha h1 h2
  ·cases h
 case db m a lo hi=>
  split at h
  ·rename_i x dl dh ha h1 h2;cases h;exact aib ha h1 h2
  ·cases h
 case mk t m bytes z n c=>
  split at h
  ·rename_i x y hn hc;exact awe hn hc h
  ·cases h
 case kC a=>
  split at h
  ·rename_i x ha;cases h;exact apg ha
  ·cases h
 case bM a=>
  split at h
  ·rename_i ha;cases h;exact alI ha
  ·rename_i x _ ha;cases h;exact aph ha
  ·rename_i k l ha
   split at h
   ·rename_i jI;cases h;exact alH ha (by rw[jI];rfl)
   ·cases h
  ·cases h
 case app t m bytes a b=>
  split at h
  ·rename_i k l ha
   split at h
   ·rename_i nl e sz jI
    split at h
    ·rename_i hes
     split at h
     ·rename_i y hy;cases h;refine auo ha jI hes ?_
      split at hy
      ·rename_i y' hb;cases hy;exact .inl hb
      ·rename_i k' l' hb
       split at hy
       ·rename_i ama;cases hy;exact .inr ⟨k',l',hb,ama,rfl⟩
       ·cases hy
      ·cases hy
     ·cases h
    ·cases h
   ·cases h
  ·rename_i ha
   split at h
   ·rename_i y hy;cases h;refine aqj ha ?_
    split at hy
    ·rename_i y' hb;cases hy;exact .inl hb
    ·rename_i k' l' hb
     split at hy
     ·rename_i ama;cases hy;exact .inr ⟨k',l',hb,ama,rfl⟩
     ·cases hy
    ·cases hy
   ·cases h
  ·cases h
 case ext a i=>
  split at h
  ·rename_i cs ha
   split at h
   ·rename_i v hv;cases h;exact ap1 ha hv
   ·cases h
  ·rename_i j ha;cases h;exact atV ha
  ·cases h
 case ef a=>exact ao8 h
 case rK f a6=>
  split at h
  ·rename_i ns ds hx;cases h;refine ao9 ?_ hx;have:=(dF (P:=P) hx).1;simp only[done,SV.cl,D.cl,this]at hq;exact hq
  ·cases h
 case mG f args=>
  split at h
  ·rename_i ns ds b hx;cases h;exact ak4 hx
  ·cases h
 case jD g args=>
  split at h
  ·rename_i f ns ds b hg hx;cases h;have:=aah (P:=P) (f:=f) (a6:=[]) hg (λ r=>rfl) hx;rwa [append_nil]at this
  ·rename_i f a6 ns ds b hg hx;cases h;exact aah hg (λ r=>rfl) hx
  ·rename_i x ns ds b _ _ hg hx;cases h;exact afD hg hx
  ·cases h
 case lT f args=>
  split at h
  ·rename_i ns ds b hx;cases h;exact akK hx
  ·cases h
 case eV nl e m f args=>
  split at h
  ·rename_i ns ds hx;exact amW hx h
  ·cases h
 case k7 f args=>
  split at h
  ·rename_i ns ds hx;cases h;exact akV hx
  ·cases h
 case jC gs f args=>exact rq h
 case bp gs f args=>
  split at h
  ·rename_i q' hq;cases h;exact zX hq
  ·split at h
   ·rename_i ns ds hx;cases h;exact aif hx
   ·cases h
 case iv g args=>
  split at h
  ·rename_i f ns ds hg hx;cases h;have:=aae (P:=P) (f:=f) (a6:=[]) hg (λ r=>rfl) hx;rwa [append_nil]at this
  ·rename_i f a6 ns ds hg hx;cases h;exact aae hg (λ r=>rfl) hx
  ·rename_i x ns ds _ _ hg hx;cases h;exact afu hg hx
  ·cases h
 all_goals cases h
end
end Go.Ab
namespace Go.Ab
def Wk(n0:Nat)(s s':SS):Prop:=s'.nv=s.nv/\∀r:List AV,r.length=s.nv->AV.ad r=true->WK n0 (b7 s r) (bI s r) (b7 s' r) (bI s' r)
theorem Wk.refl(n0:Nat)(s:SS):Wk n0 s s:=⟨rfl,λ _ _ _=> .refl _ _ _⟩
theorem Wk.trans{n0:Nat}{s s' s'':SS}(h:Wk n0 s s')(k:Wk n0 s' s''):Wk n0 s s'':=
 ⟨k.1.trans h.1,λ r hl hr=>(h.2 r hl hr).trans (k.2 r (hl.trans h.1.symm) hr)⟩
theorem alC(k:Nat)(v:SV):∀(l:List (Nat×SV)) (t:Nat),(t≠k->lk (l.map λ p=>(p.1,if p.1=k then v else p.2)) t=lk l t)/\(lk l k= .top∨lk (l.map λ p=>(p.1,if p.1=k then v else p.2)) k=v)
 | [],t=>⟨λ _=>rfl,.inl rfl⟩
 |(q,w)::l,t=>by
  obtain⟨h1,h2⟩:=alC k v l t;simp only[map_cons,lk];refine⟨λ ht=> ?_,?_⟩
  ·by_cases hq:t=q
   ·subst hq;rw[if_pos rfl,if_pos rfl,if_neg ht]
   ·rw[if_neg hq,if_neg hq];exact h1 ht
  ·by_cases hq:k=q
   ·subst hq;rw[if_pos rfl,if_pos rfl];exact .inr (if_pos rfl)
   ·rw[if_neg hq,if_neg hq];exact h2
theorem tJ{n0:Nat}{s:SS}{t m k:Nat}(h:lk s.env k= .d (.c .aw)):Wk n0 s (og s t m k):=by
 refine⟨rfl,λ r hl hr=> ?_⟩;refine WK.xB t m (by simp[bI,og]) (by simp[bI,og,SO.ev,D.ev,aY]) (λ j hj=> .inl ?_) λ q=> ?_
 ·simp only[bI,og,map_append];rw[getElem?_append_left (by simpa [bI]using hj)]
 ·have:=alC k (.row s.ai.length (.c (.sl []))) s.env q;by_cases hq:q=k
  ·subst hq;rcases this.2 with h1|h1
   ·rw[h]at h1;cases h1
   ·refine .inr ⟨by simp only[b7,h];rfl,?_⟩;simp only[b7,og,h1,SV.ev,D.ev,aY,dI];rfl
  ·exact .inl (by simp only[b7,og,this.1 hq])
theorem afT{n0:Nat}{s:SS}{k j t m e:Nat}{cs:List SV}(hb:mn s k=some (e,cs))(hj:cs[j]? =some (.d (.c .aw))):Wk n0 s (oh s k j t m):=by
 have mf:=jm hb;have hk:k<s.ai.length:=(List.getElem?_eq_some_iff.1 mf).1;refine⟨by simp only[oh,hb],λ r hl hr=> ?_⟩
 have hO:bI (oh s k j t m) r=(bI s r).set k (.live e cs.length [lH ((SV.a9 r cs).set j (.row s.ai.length 0))])++ [.nil t m]:=by
  simp only[oh,hb,bI,map_append,map_set,map_cons,map_nil,SO.ev,List.length_set,SV.aT,SV.ev,D.ev,aY,length_nil,if_true]
 have hE:b7 (oh s k j t m) r=b7 s r:=by simp only[oh,hb];rfl
 rw[hO,hE];refine WK.xB t m (by simp) (by rw[getElem?_append_right (by simp)];simp) (λ i hi=> ?_) λ q=> .inl rfl
 rw[getElem?_append_left (by simpa using hi)];by_cases hik:i=k
 ·subst hik;refine .inr ⟨e,cs.length,[lH (SV.a9 r cs)],[lH ((SV.a9 r cs).set j (.row s.ai.length 0))],fV mf r,by rw[List.getElem?_set_self hi],rfl,λ i' y y' hy lf=> ?_⟩;cases i' with
  |succ i'=>simp at hy
  |zero=>
   simp at hy lf;subst hy;subst lf;rw[show(bI s r).length=s.ai.length from dI s r];have hcj:(SV.a9 r cs)[j]? =some .aw:=by rw[SV.aT,getElem?_map,hj];rfl
   generalize SV.a9 r cs=xs at hcj;have hjl:=(List.getElem?_eq_some_iff.1 hcj).1;by_cases h1:xs.length=1
   ·obtain⟨c,rfl⟩:=List.length_eq_one_iff.1 h1;have hj0:j=0:=by simp at hjl;exact hjl
    subst hj0;simp at hcj;subst hcj;refine⟨rfl,λ p c c' hc fT=> ?_⟩;cases p with
    |zero=>simp[lH,AV.cells]at hc fT;exact .inr ⟨hc.symm,fT.symm⟩
    |succ p=>simp[lH,AV.cells]at hc
   ·rw[eJ h1,eJ (by simpa using h1)];simp only[AV.cells];refine⟨by simp,λ p c c' hc fT=> ?_⟩;rw[getElem?_set]at fT
    split at fT
    ·rename_i hpj;subst hpj;rw[hcj]at hc;exact .inr ⟨(Option.some.inj hc).symm,(Option.some.inj fT).symm⟩
    ·rw[hc]at fT;exact .inl (Option.some.inj fT).symm
 ·rw[getElem?_set_ne (λ h=>hik h.symm)];exact .inl rfl
theorem Fr.cell{n:Nat}{xs:List AV}{a b:AV}(h:Fr n xs a b){j:Nat}{c d:AV}(hc:a.cells[j]? =some c)(hd:b.cells[j]? =some d):Fr n xs c d:=by
 cases h with
 |refl=>rw[hc]at hd;cases hd;exact .refl _
 |row=>
  cases j with
  |zero=>simp[AV.cells]at hc hd;subst hc;subst hd;exact .row
  |succ j=>simp[AV.cells]at hc
 |agg cs ds _ h=>exact h j c d hc hd
 |ptr a f ha=>
  cases j with
  |zero=>simp[AV.cells]at hc hd;subst hc;subst hd;exact .ptr a f ha
  |succ j=>simp[AV.cells]at hc
theorem Fr.lH{n:Nat}{xs:List AV}{cs ds:List AV}(hl:cs.length=ds.length)(h:∀(i:Nat) c d,cs[i]? =some c->ds[i]? =some d->Fr n xs c d):Fr n xs (lH cs) (lH ds):=by
 by_cases h1:cs.length=1
 ·obtain⟨c,rfl⟩:=List.length_eq_one_iff.1 h1;obtain⟨d,rfl⟩:=List.length_eq_one_iff.1 (show ds.length=1 by omega);exact h 0 c d rfl rfl
 ·rw[eJ h1,eJ (by omega)];exact .agg _ _ hl h
theorem aaF{n0:Nat}{s:SS}(n:Nat):Wk n0 s (ach s n):=by
 unfold ach
 split
 ·rename_i nl e sz l mf
  split
  ·rename_i mw;refine⟨rfl,λ r hl hr=> ?_⟩;have hn:=cN (D.bN hr l (by rw[hl];exact mw))
   have fr1:∀v:SV,Fr n (aY (l.ev r)) (v.ev r) ((v.iF n l).ev r):=by
    intro v;cases v with
    |row m k=>
     simp only[SV.iF]
     split
     ·rename_i h1;have:=D.beq_eq _ _ h1.2;obtain⟨rfl,_⟩:=h1;subst this;exact .row
     ·exact .refl _
    |_=>exact .refl _
   have hpt:∀cs:List SV,∀(i:Nat) c d,(SV.a9 r cs)[i]? =some c->(SV.a9 r (cs.map (SV.iF n l)))[i]? =some d->Fr n (aY (l.ev r)) c d:=by
    intro cs i c d hc hd;rw[SV.aT,getElem?_map]at hc hd;rw[getElem?_map]at hd;cases hi:cs[i]? with
    |none=>rw[hi]at hc;simp at hc
    |some v=>rw[hi]at hc hd;simp at hc hd;subst hc;subst hd;exact fr1 v
   refine WK.iF (n:=n) (t:=e) (s:=sz) (xs:=aY (l.ev r)) ?_ hn (by simp[bI]) ?_ (λ m hm=> ?_) λ t=> ?_
   ·rcases eZ mf r with h|⟨h,h',_⟩
    ·exact .inl h
    ·exact .inr ⟨h,h'⟩
   ·simp only[bI,map_set];rw[List.getElem?_set_self (by simpa using(List.getElem?_eq_some_iff.1 mf).1)];rfl
   ·simp only[bI,map_set];rw[getElem?_set_ne (λ h=>hm h.symm),map_map,getElem?_map,getElem?_map];cases ho:s.ai[m]? with
    |none=>exact .inl rfl
    |some o=>
     cases o with
     |box e' cs=>
      refine .inr ⟨e',cs.length,[lH (SV.a9 r cs)],[lH (SV.a9 r (cs.map (SV.iF n l)))],rfl,by simp[SO.iF,SO.ev],rfl,λ i y y' hy lf=> ?_⟩;cases i with
      |succ i=>simp at hy
      |zero=>
       simp at hy lf;subst hy;subst lf;have hf:=Fr.lH (n:=n) (xs:=aY (l.ev r)) (cs:=SV.a9 r cs) (ds:=SV.a9 r (cs.map (SV.iF n l))) (by simp[SV.aT]) (hpt cs);exact⟨hf.width,λ j c c' hc fT=>hf.cell hc fT⟩
     |dead=>exact .inl rfl
     |row _ _ _ _=>exact .inl rfl
   ·simp only[b7];rw[tM (f:=SV.atF n l) rfl];generalize lk s.env t=v;cases v with
    |agg cs=>
     simp only[SV.atF,SV.ev];exact .agg _ _ (by simp[SV.aT]) (hpt cs)
    |row m k=>exact fr1 (.row m k)
    |_=>exact .refl _
  ·exact .refl _ _
 ·exact .refl _ _
theorem asy(r:List AV)(ds:List D):(mkD ds).ev r=lH (D.a9 r ds):=by
 unfold mkD
 split
 ·rfl
 ·rename_i h;cases ds with
  |nil=>rfl
  |cons a l=>cases l with
   |nil=>exact(h a rfl).elim
   |cons b l=>rfl
theorem ud{n0:Nat}{s:SS}(n:Nat):Wk n0 s (yz s n):=by
 unfold yz
 split
 ·rename_i e cs mf
  split
  ·rename_i ds hd
   split
   ·rename_i mw;refine⟨rfl,λ r hl hr=> ?_⟩;have y6:=s7 hd;have hx:lH (SV.a9 r cs)=(mkD ds).ev r:=by rw[y6,qp,asy]
    have hn:AV.ad [(mkD ds).ev r]=true:=by
     have:(mkD ds).cl r.length=true:=by
      rw[hl];unfold mkD
      split
      ·simpa [D.cls]using mw
      ·exact mw
     simp only[AV.ad,D.bN hr _ this];rfl
    have fr1:∀v:SV,Fr n [(mkD ds).ev r] (v.ev r) ((v.fbx n (mkD ds)).ev r):=by
     intro v;cases v with
     |ptr m f=>
      simp only[SV.fbx]
      split
      ·rename_i h1;subst h1;exact .ptr _ f rfl
      ·exact .refl _
     |_=>exact .refl _
    have fr2:∀v:SV,Fr n [(mkD ds).ev r] (v.ev r) ((v.fbc n (mkD ds)).ev r):=by
     intro v;cases v with
     |ptr m f=>
      simp only[SV.fbc]
      split
      ·rename_i h1;subst h1;exact .ptr _ f rfl
      ·exact .refl _
     |_=>exact .refl _
    have hpt:∀cs:List SV,∀(i:Nat) c d,(SV.a9 r cs)[i]? =some c->(SV.a9 r (cs.map (SV.fbc n (mkD ds))))[i]? =some d->Fr n [(mkD ds).ev r] c d:=by
     intro cs i c d hc hd;rw[SV.aT,getElem?_map]at hc hd;rw[getElem?_map]at hd;cases hi:cs[i]? with
     |none=>rw[hi]at hc;simp at hc
     |some v=>rw[hi]at hc hd;simp at hc hd;subst hc;subst hd;exact fr2 v
    refine WK.iF (n:=n) (t:=e) (s:=cs.length) (xs:=[(mkD ds).ev r]) (.inl ?_) hn (by simp[bI]) ?_ (λ m hm=> ?_) λ t=> ?_
    ·have:=fV mf r;rw[this];simp only[SO.ev,hx]
    ·simp only[bI,map_set];rw[List.getElem?_set_self (by simpa using(List.getElem?_eq_some_iff.1 mf).1)];rfl
    ·simp only[bI,map_set];rw[getElem?_set_ne (λ h=>hm h.symm),map_map,getElem?_map,getElem?_map];cases ho:s.ai[m]? with
     |none=>exact .inl rfl
     |some o=>
      cases o with
      |box e' cs=>
       refine .inr ⟨e',cs.length,[lH (SV.a9 r cs)],[lH (SV.a9 r (cs.map (SV.fbc n (mkD ds))))],rfl,by simp[SO.fbx,SO.ev],rfl,λ i y y' hy lf=> ?_⟩;cases i with
       |succ i=>simp at hy
       |zero=>
        simp at hy lf;subst hy;subst lf;have hf:=Fr.lH (n:=n) (xs:=[(mkD ds).ev r]) (cs:=SV.a9 r cs) (ds:=SV.a9 r (cs.map (SV.fbc n (mkD ds)))) (by simp[SV.aT]) (hpt cs);exact⟨hf.width,λ j c c' hc fT=>hf.cell hc fT⟩
      |dead=>exact .inl rfl
      |row _ _ _ _=>exact .inl rfl
    ·simp only[b7];rw[tM (f:=SV.fbx n (mkD ds)) rfl];exact fr1 _
   ·exact .refl _ _
  ·exact .refl _ _
 ·exact .refl _ _
theorem gw{n0:Nat}{α:Type}{f:SS->α->SS}(h:∀s a,Wk n0 s (f s a)):∀(l:List α) (s:SS),Wk n0 s (l.foldl f s)
 | [],s=> .refl _ _
 |a::l,s=>(h s a).trans (gw h l (f s a))
theorem gX{n0:Nat}(s:SS)(v:SV):Wk n0 s (oU s v):=gw (λ s n=>aaF n) _ s
theorem nO{n0:Nat}(s:SS)(l:List aI):Wk n0 s (uc s l):=gw (λ s x=>gX s _) l s
theorem ajn{n0:Nat}(s:SS)(x:aI):Wk n0 s (ags s x):=by
 unfold ags
 split
 ·split
  ·exact(gw (λ s v=>gX s v) _ s).trans (ud _)
  ·exact .refl _ _
 ·exact gX _ _
theorem oB{n0:Nat}:∀(k:Nat) (s:SS) (n:Nat),Wk n0 s (sZ k s n)
 |0,s,n=> .refl _ _
 |k+1,s,n=>by
  unfold sZ
  split
  ·refine(gw (λ s v=> ?_) _ s).trans (ud _)
   split
   ·exact oB k s _
   ·exact gX _ _
  ·exact .refl _ _
theorem ajm{n0:Nat}(s:SS)(x:aI):Wk n0 s (yy s x):=by
 unfold yy
 split
 ·exact oB _ _ _
 ·exact .refl _ _
theorem agt{n0:Nat}(s:SS)(l:List aI):Wk n0 s (ahG s l):=gw (λ s x=>by
 split
 ·exact gX _ _
 ·exact .refl _ _) l s
theorem oA{n0:Nat}(s:SS)(l:List aI):Wk n0 s (sY s l):=gw (λ s x=>by
 unfold yy
 split
 ·exact oB _ _ _
 ·exact .refl _ _) l s
theorem ajo{n0:Nat}(s:SS)(l:List SV):Wk n0 s (amR s l):=gw (λ s v=>by
 split
 ·exact oB _ _ _
 ·exact gX _ _) l s
theorem aoJ{n0:Nat}(fl:List Nat)(op:ew)(s:SS):Wk n0 s (ar3 fl op s):=by
 unfold ar3
 split
 ·split
  ·rename_i h;exact tJ h
  ·exact .refl _ _
 ·split
  ·rename_i h;exact tJ h
  ·exact .refl _ _
 ·exact gX _ _
 ·exact nO _ _
 ·split
  ·exact gX _ _
  ·exact .refl _ _
 ·exact gw (λ s x=>ajn s x) _ s
 ·split
  ·exact(agt _ _).trans (oA _ _)
  ·exact(nO _ _).trans (oA _ _)
 ·exact(nO _ _).trans (oA _ _)
 ·exact(nO _ _).trans (oA _ _)
 ·exact nO _ _
 ·split
  ·exact .refl _ _
  ·split
   ·refine gw (λ s p=> ?_) _ _
    split
    ·exact(gX _ _).trans (ajm _ _)
    ·exact .refl _ _
   ·exact .refl _ _
 ·exact .refl _ _
theorem ar4{n0:Nat}(fl:List Nat)(wk:Bool)(op:ew)(s:SS):Wk n0 s (pre fl wk op s):=by
 unfold pre;split
 ·exact aoJ _ _ _
 ·exact .refl _ _
theorem ahN{n0:Nat}(s:SS)(c:Conv):Wk n0 s (c.run s):=by
 cases c with
 |slot k t m=>
  simp only[Conv.run]
  split
  ·rename_i h;exact tJ h
  ·exact .refl _ _
 |cell k j t m=>
  simp only[Conv.run]
  split
  ·rename_i h
   split
   ·rename_i h2;exact afT h h2
   ·exact .refl _ _
  ·exact .refl _ _
 |fbx n=>
  simp only[Conv.run]
  split
  ·exact(gw (λ s v=>gX s v) _ s).trans (ud _)
  ·exact .refl _ _
 |atJ n=>exact aaF n
theorem WK.alO{n0:Nat}{e:Env}{O O':List ae}(hlen:O'.length=O.length)(h:∀m:Nat,O'[m]? =O[m]? ∨O'[m]? =some .dead):WK n0 e O e O':=by
 intro I0 L0 O0 w0 I L w f h0 hg hr
 have cz:∀{m:Nat} {ob},O'[m]? =some ob->ob≠ .dead->O[m]? =some ob:=by
  intro m ob ho bB;rcases h m with h1|h1
  ·rw[←h1];exact ho
  ·rw[h1]at ho;cases ho;exact(bB rfl).elim
 have du:Ext I L O I L O':=⟨λ _ _ _ h=>h,by omega,λ m _ ee k zs hz=> .inl ⟨zs,cz hz (by simp),le_refl _,λ _=>rfl⟩,λ m _ ee k h=>cz h (by simp),λ m _ a h=>⟨⟨a,cz h (by simp)⟩,rfl⟩,λ m _ a h=>⟨⟨a,cz h (by simp),rfl⟩,rfl⟩⟩;refine⟨I,L,hg.aku (by omega) (λ _ _ _ h=>h) (λ _ _ _ h=> .inl h) (λ m ee k zs hm=> ?_) (λ m ee k _ hm=>cz hm (by simp)) (λ m a hm=>cz hm (by simp)) (λ m a hm=>⟨cz hm (by simp),λ _ _ h=>h.mono du⟩),λ t=>(hr t).mono du⟩;have h1:=cz hm (by simp);exact⟨zs,h1,rfl,(hg.inv.obj m _ _ _ h1).congr rfl λ _ _ h=>h.mono du,λ o=>hg.inv.dS m _ _ _ o h1⟩
theorem uP(t:List SO):∀(k:Nat) (l:List SO),(eB t k l).length=l.length
 |_,[]=>rfl
 |k,o::l=>by simp[eB,uP t (k+1) l]
theorem wG:∀(ts cs:List SV),(jT ts cs).length=cs.length
 | [],cs=>by cases cs<;>simp[jT]
 |t::ts,[]=>by cases t<;>simp[jT]
 |t::ts,c::cs=>by cases t<;>simp[jT,wG ts cs]
theorem wH:∀(ts cs:List SV) (j:Nat),(jT ts cs)[j]? =cs[j]? ∨(jT ts cs)[j]? =some .top
 | [],cs,j=>by cases cs<;>simp[jT]
 |t::ts,[],j=>by cases t<;>simp[jT]
 |t::ts,c::cs,j=>by
  cases j with
  |zero=>cases t<;>simp[jT]
  |succ j=>cases t<;>simpa [jT]using wH ts cs j
inductive anU:Option ae->Option ae->Prop
 |same (o):anU o o
 |dead (o):anU o (some .dead)
 |box (e s:Nat) (cs cs':List AV) (hl:cs'.length=cs.length) (hc:∀j:Nat,cs'[j]? =cs[j]? ∨cs'[j]? =some .top):anU (some (.live e s [.agg cs])) (some (.live e s [.agg cs']))
theorem WK.aAV{n0:Nat}{e:Env}{O O':List ae}(hlen:O'.length=O.length)(h:∀m:Nat,anU O[m]? O'[m]?):WK n0 e O e O':=by
 intro I0 L0 O0 w0 I L w f h0 hg hr
 have vP:∀{m:Nat} {ee k},O'[m]? =some (.nil ee k)->O[m]? =some (.nil ee k):=by
  intro m ee k ho;have:=h m;rw[ho]at this;generalize hq:O[m]? =q at this;cases this
  rfl
 have adV:∀{m:Nat} {ee k zs},O'[m]? =some (.live ee k zs)->∃xs,O[m]? =some (.live ee k xs)/\xs.length=zs.length/\(xs=zs∨∃cs cs',xs= [.agg cs]/\zs= [.agg cs']/\cs'.length=cs.length/\∀j:Nat,cs'[j]? =cs[j]? ∨cs'[j]? =some .top):=by
  intro m ee k zs ho;have:=h m;rw[ho]at this;generalize hq:O[m]? =q at this;cases this with
  |same=>exact⟨zs,rfl,rfl,.inl rfl⟩
  |box _ _ cs cs' hl hc=>exact⟨_,rfl,rfl,.inr ⟨cs,cs',rfl,rfl,hl,hc⟩⟩
 have du:Ext I L O I L O':=⟨λ _ _ _ h=>h,by omega,λ m _ ee k zs hz=>by
  obtain⟨xs,h1,h2,_⟩:=adV hz;exact .inl ⟨xs,h1,by omega,λ _=>rfl⟩,λ m _ ee k h=>vP h,λ m _ a hm=>⟨⟨a,by
  have:=h m;rw[hm]at this;generalize hq:O[m]? =q at this;cases this
  rfl⟩,rfl⟩,λ m _ a hm=>⟨⟨a,by
  have:=h m;rw[hm]at this;generalize hq:O[m]? =q at this;cases this
  rfl,rfl⟩,rfl⟩⟩
 refine⟨I,L,hg.aku (by omega) (λ _ _ _ h=>h) (λ _ _ _ h=> .inl h) (λ m ee k zs hm=> ?_) (λ m ee k _ hm=>vP hm) (λ m a hm=>by
  have:=h m;rw[hm]at this;generalize hq:O[m]? =q at this;cases this
  rfl) (λ m a hm=>⟨by
  have:=h m;rw[hm]at this;generalize hq:O[m]? =q at this;cases this
  rfl,λ _ _ h=>h.mono du⟩),λ t=>(hr t).mono du⟩
 obtain⟨xs,h1,h2,h3⟩:=adV hm;refine⟨xs,h1,h2,?_,λ o=>hg.inv.dS m _ _ _ o h1⟩;have ho:=(hg.inv.obj m _ _ _ h1).congr rfl λ _ _ h=>h.mono du
 rcases h3 with rfl|⟨cs,cs',rfl,rfl,hl,hc⟩
 ·exact ho
 ·obtain⟨c,k1,k2,k3,k4,k5,k6⟩:=ho;refine⟨c,k1,k2,by simpa using k3,k4,k5,λ i x hx=> ?_⟩
  match i,hx with
  |0,hx=>
   simp at hx;subst hx;obtain⟨q1,q2⟩:=k6 0 (.agg cs) rfl;refine⟨by simpa [AV.cells,hl]using q1,λ j a ha=> ?_⟩;simp only[AV.cells]at ha q2;rcases hc j with hj|hj
   ·exact q2 j a (by rw[←hj];exact ha)
   ·rw[hj]at ha;cases ha;have hjl:j<cs.length:=by rw[←hl];exact(List.getElem?_eq_some_iff.1 hj).1
    obtain⟨y,y1,y2,_⟩:=q2 j cs[j] (getElem?_eq_getElem hjl);exact⟨y,y1,y2,.top _⟩
theorem uQ(r:List AV)(t:List SO):∀(k:Nat) (l:List SO) (m:Nat),anU ((l.map (SO.ev r))[m]?) (((eB t k l).map (SO.ev r))[m]?)
 |_,[],m=>by simp only[eB];exact .same _
 |k,o::l,m=>by
  cases m with
  |zero=>
   simp only[eB,map_cons,List.getElem?_cons_zero];unfold ant
   split
   ·exact .dead _
   ·split
    ·split
     ·rename_i e ts _ _ e' cs h2;have h1:=wG ts cs;simp only[SO.ev,SV.aT,h1]
      have ha:∀l:List SV,2<=l.length->lH (l.map (SV.ev r))= .agg (l.map (SV.ev r)):=λ l hl=>by
       match l,hl with
       |a::b::l,_=>rfl
      rw[ha _ h2,ha _ (by omega)];refine .box _ _ _ _ (by simp[h1]) λ j=> ?_
      simp only[getElem?_map];rcases wH ts cs j with h|h
      ·exact .inl (by rw[h])
      ·exact .inr (by rw[h];rfl)
     ·exact .same _
    ·exact .same _
   ·exact .same _
  |succ m=>simpa [eB]using uQ r t (k+1) l m
section
variable {rb m:List AV} {vs:List D} {base:Nat}
theorem tS(hb:rb.length=base):∀(d e:D),(d.inst base vs).beq e=true->d.ev (rb++D.a9 (rb++m) vs)=e.ev (rb++m):=by
 intro d e h;cases d with
 |x i=>
  simp only[D.inst]at h
  split at h
  ·rename_i hi;have:=D.beq_eq _ _ h;subst this;simp only[D.ev];rw[nN (by omega),nN (by omega)]
  ·rename_i hi;cases hv:vs[i- base]? with
   |none=>
    rw[List.getD,hv]at h;simp only[getD_none]at h;cases e<;>simp[D.beq,AV.ceq]at h
   |some d'=>
    rw[List.getD,hv]at h;simp only[getD_some]at h;have:=D.beq_eq _ _ h;subst this;simp only[D.ev,List.getD];rw[getElem?_append_right (by omega),hb,D.aT,getElem?_map,hv]
    rfl
 |_=>
  simp only[D.inst]at h
  split at h
  ·rename_i mw;have:=D.beq_eq _ _ h;subst this;rw[D.cS _ (by rw[hb];exact mw),D.cS _ (by rw[hb];exact mw)]
  ·cases e<;>simp[D.beq,AV.ceq]at h
theorem ahv(hb:rb.length=base):∀(v w:SV),(v.inst base vs).beq w=true->v.ev (rb++D.a9 (rb++m) vs)=w.ev (rb++m):=by
 intro v w h;cases v with
 |d x=>cases w<;>simp only[SV.inst,SV.beq,false_eq_true]at h;exact(tS hb _ _ h)
 |row n l=>
  cases w<;>simp only[SV.inst,SV.beq,false_eq_true,and_eq_true,decide_eq_true_eq]at h
  obtain⟨rfl,h⟩:=h;exact(by simp only[SV.ev,tS hb _ _ h])
 |ptr n f=>
  cases w<;>simp only[SV.inst,SV.beq,false_eq_true,and_eq_true,decide_eq_true_eq]at h
  obtain⟨rfl,rfl⟩:=h
  rfl
 |rp n l i f=>
  cases w<;>simp only[SV.inst,SV.beq,false_eq_true,and_eq_true,decide_eq_true_eq]at h
  obtain⟨⟨⟨rfl,h1⟩,h2⟩,rfl⟩:=h;exact(by simp only[SV.ev,tS hb _ _ h1,tS hb _ _ h2])
 |ip x f=>
  cases w<;>simp only[SV.inst,SV.beq,false_eq_true,and_eq_true,decide_eq_true_eq]at h
  obtain⟨h,rfl⟩:=h;exact(by simp only[SV.ev,tS hb _ _ h])
 |agg cs=>
  simp only[SV.inst]at h
  split at h
  ·rename_i mw;have:=SV.beq_eq _ _ h;subst this;exact(by simp only[SV.ev];rw[SV.fI cs (by rw[hb];exact mw),SV.fI cs (by rw[hb];exact mw)])
  ·cases w<;>simp only[SV.beq,false_eq_true]at h
   rename_i e;cases e<;>simp[D.beq,AV.ceq]at h
 |ba cs=>
  simp only[SV.inst]at h
  split at h
  ·rename_i mw;have:=SV.beq_eq _ _ h;subst this;exact(by simp only[SV.ev];rw[SV.fI cs (by rw[hb];exact mw),SV.fI cs (by rw[hb];exact mw)])
  ·cases w<;>simp only[SV.beq,false_eq_true]at h
   rename_i e;cases e<;>simp[D.beq,AV.ceq]at h
 |top=>cases w<;>simp only[SV.inst,SV.beq,false_eq_true]at h;rfl
theorem adH(hb:rb.length=base):∀(cs ds:List SV),SV.kW (cs.map (SV.inst base vs)) ds=true->SV.a9 (rb++D.a9 (rb++m) vs) cs=SV.a9 (rb++m) ds
 | [],[],_=>rfl
 |c::cs,d::ds,h=>by
  simp only[map_cons,SV.kW,and_eq_true]at h;simp only[SV.a9,ahv hb c d h.1,adH hb cs ds h.2]
 | [],_::_,h=>by simp[SV.kW]at h
 |_::_,[],h=>by simp[SV.kW]at h
theorem aeK:∀(cs ds:List SV),SV.kW cs ds=true->cs.length=ds.length
 | [],[],_=>rfl
 |c::cs,d::ds,h=>by
  simp only[SV.kW,and_eq_true]at h;simp[aeK cs ds h.2]
 | [],_::_,h=>by simp[SV.kW]at h
 |_::_,[],h=>by simp[SV.kW]at h
theorem apx(hb:rb.length=base):∀(a b:SO),(a.inst base vs).beq b=true->a.ev (rb++D.a9 (rb++m) vs)=b.ev (rb++m):=by
 intro a b h;cases a with
 |dead=>cases b<;>simp only[SO.inst,SO.beq,false_eq_true]at h;rfl
 |box e cs=>
  cases b<;>simp only[SO.inst,SO.beq,false_eq_true,and_eq_true,decide_eq_true_eq]at h
  obtain⟨rfl,h⟩:=h;have h2:=aeK _ _ h;simp only[length_map]at h2;simp only[SO.ev,adH hb _ _ h,h2]
 |row nl e s l=>
  cases b<;>simp only[SO.inst,SO.beq,false_eq_true,and_eq_true,decide_eq_true_eq]at h
  obtain⟨⟨⟨rfl,rfl⟩,rfl⟩,h⟩:=h;cases nl<;>simp only[SO.ev,tS hb _ _ h]
end
mutual
theorem SV.ag9{k:Nat}{r:List AV}(hr:AV.ad r=true):∀(v:SV),v.sc k=true->v.cl r.length=true->(v.ev r).inScope k=true
 | .d x,_,h=>cA _ (D.bN hr x h)
 | .row n l,h,_=>h
 | .ptr n f,h,_=>h
 | .rp n l i f,h,_=>h
 | .ip x f,_,h=>cA (.ct (x.ev r) f) (D.bN hr x h)
 | .agg cs,h,h'=>by
   simp only[SV.sc]at h;simp only[SV.cl]at h';exact SV.abp hr cs h h'
 | .ba cs,h,h'=>by
   simp only[SV.sc]at h;simp only[SV.cl]at h';exact SV.abp hr cs h h'
 | .top,_,_=>rfl
theorem SV.abp{k:Nat}{r:List AV}(hr:AV.ad r=true):∀(l:List SV),SV.scs k l=true->SV.cls r.length l=true->AV.cX k (SV.a9 r l)=true
 | [],_,_=>rfl
 |v::l,h,h'=>by
  simp only[SV.scs,and_eq_true]at h;simp only[SV.cls,and_eq_true]at h';simp only[SV.a9,AV.cX,SV.ag9 hr v h.1 h'.1,SV.abp hr l h.2 h'.2];rfl
end
theorem afU{k:Nat}{l:List AV}(h:AV.cX k l=true):(lH l).inScope k=true:=by
 unfold lH
 split
 ·simpa [AV.cX]using h
 ·exact h
theorem SO.ag9{k:Nat}{r:List AV}(hr:AV.ad r=true)(o:SO)(h:o.sc k=true)(h':o.cl r.length=true):(o.ev r).inScope k=true:=by
 cases o with
 |dead=>rfl
 |box e cs=>
  simp only[SO.ev,ae.inScope,AV.cX,Bool.and_true];exact afU (SV.abp hr cs h h')
 |row nl e s l=>
  have:=dg (k:=k) _ (cN (D.bN hr l h'));cases nl
  ·exact this
  ·simp only[SO.ev]
   split
   ·rfl
   ·exact this
theorem asH{l:List (Nat×SV)}{t:Nat}:lk l t= .top∨(t,lk l t)∈l:=by
 induction l with
 |nil=>exact .inl rfl
 |cons p l ih=>
  obtain⟨k,v⟩:=p;simp only[lk]
  split
  ·rename_i h;subst h;exact .inr (by simp)
  ·rcases ih with h|h
   ·exact .inl h
   ·exact .inr (by simp[h])
theorem oH{n0 base:Nat}{s t:SS}{vs:List D}(h:coerce n0 base s t=some vs){rb m:List AV}(hb:rb.length=base)(hl:(rb++m).length=s.nv)(hr:AV.ad (rb++m)=true):
  vs.length=t.nv- base/\vY rb (rb++D.a9 (rb++m) vs) t.nv/\WK n0 (b7 s (rb++m)) (bI s (rb++m)) (b7 t (rb++D.a9 (rb++m) vs)) (bI t (rb++D.a9 (rb++m) vs)):=by
 unfold coerce at h;simp only at h
 split at h
 ·cases h
 ·rename_i ng nh
  split at h
  ·rename_i nM;cases h;obtain⟨c0,c1,c2,c3,c4,c5,c6,c7⟩:=nM
   have hlen:vs.length=t.nv- base:=by
    have:=(mapM_some nh).1;simpa using this
   have hn:AV.ad (rb++D.a9 (rb++m) vs)=true:=by
    rw[aG,and_eq_true]at hr⊢;exact⟨hr.1,D.cW (by rw[aG,and_eq_true];exact hr) vs (by rw[hl];exact c4)⟩
   have hl2:(rb++D.a9 (rb++m) vs).length=t.nv:=by
    rw[List.length_append,D.aT,length_map,hlen,hb];omega
   refine⟨hlen,⟨⟨_,rfl⟩,hl2,hn⟩,?_⟩
   have uY:WK n0 (b7 s (rb++m)) (bI s (rb++m)) (b7 s (rb++m)) ((eB t.ai 0 s.ai).map (SO.ev (rb++m))):=by
    exact WK.aAV (by simp[bI,uP]) λ j=>uQ _ t.ai 0 s.ai j
   refine uY.trans (WK.forget (k:=t.ai.length) ?_ c0 (by simpa using c3) (λ ob ho=> ?_) λ q=> ?_)
   ·apply ext_getElem?;intro j;simp only[bI,List.getElem?_take,getElem?_map]
    split
    ·rename_i hj;have hj2:j<(eB t.ai 0 s.ai).length:=by omega
     have h1:t.ai[j]? =some t.ai[j]:=by simp[hj]
     have h2:(eB t.ai 0 s.ai)[j]? =some (eB t.ai 0 s.ai)[j]:=by simp[hj2]
     rw[h1,h2]
     have hz:(t.ai[j],(eB t.ai 0 s.ai)[j])∈t.ai.zip (eB t.ai 0 s.ai):=by
      apply mem_of_getElem? (i:=j);rw[List.getElem?_zip_eq_some];exact⟨h1,h2⟩
     have:=List.all_eq_true.1 c7 _ hz;simp only[and_eq_true]at this;simp only[map_some,apx hb _ _ this.1]
    ·rename_i hj;rw[getElem?_eq_none (by omega)];rfl
   ·simp only[bI,mem_map]at ho;obtain⟨o,ho,rfl⟩:=ho;refine SO.ag9 hn o ?_ (by rw[hl2];exact SS.rY c5 ho);obtain⟨j,hj⟩:=List.getElem?_of_mem ho;have hjl:=(List.getElem?_eq_some_iff.1 hj).1;have h2:(eB t.ai 0 s.ai)[j]? =some ((eB t.ai 0 s.ai)[j]'(by omega)):=by simp[show j<(eB t.ai 0 s.ai).length by omega]
    have hz:(o,(eB t.ai 0 s.ai)[j]'(by omega))∈t.ai.zip (eB t.ai 0 s.ai):=by
     apply mem_of_getElem? (i:=j);rw[List.getElem?_zip_eq_some];exact⟨hj,h2⟩
    have:=List.all_eq_true.1 c7 _ hz;simp only[and_eq_true]at this;exact this.2
   ·simp only[b7];rcases asH (l:=t.env) (t:=q)with h|h
    ·rw[h];exact .inl rfl
    ·have:=List.all_eq_true.1 c6 _ h;simp only[and_eq_true]at this;exact .inr ⟨ahv hb _ _ this.1,SV.ag9 hn _ this.2 (by rw[hl2];exact SS.oI c5 q)⟩
  ·cases h
end Go.Ab
namespace Go.Ab
section
variable {P:Program}
theorem vY.trans{r r1 r2:List AV}{n k:Nat}(h:vY r r1 n)(k':vY r1 r2 k):vY r r2 k:=by
 obtain⟨m,rfl⟩:=h.pre;obtain⟨m',rfl⟩:=k'.pre;exact⟨⟨m++m',by simp⟩,k'.len,k'.nor⟩
theorem acN{L:AX->SS->List AV->Prop}{R:AV->Prop}{t:T}{r:List AV}:∀(Js S:List (List AV->Prop)),bF P L R (ap2 Js.length t) r (Js++S)=bF P L R t r S
 | [],S=>rfl
 |J::Js,S=>by simp only[List.length_cons,ap2,cons_append,bF,acN Js S]
inductive agS:List (List AV->Prop)->List (List AV->Prop)->Prop
 |nil:agS [] []
 |cons {J J':List AV->Prop} {S S':List (List AV->Prop)}:(∀vs,J vs->J' vs)->agS S S'->agS (J::S) (J'::S')
theorem agS.refl:∀(S:List (List AV->Prop)),agS S S
 | []=> .nil
 |_::S=> .cons (λ _ h=>h) (agS.refl S)
theorem dz{L L':AX->SS->List AV->Prop}{R R':AV->Prop}(hL:∀x s r,L x s r->L' x s r)(hR:∀a,R a->R' a):∀(t:T) {r:List AV} {S S':List (List AV->Prop)},agS S S'->bF P L R t r S->bF P L' R' t r S'
 | .leaf x s,r,S,S',hs,h=>hL _ _ _ h
 | .ret d,r,S,S',hs,h=>hR _ h
 | .jump vs,r,S,S',hs,h=>by
   cases hs with
   |nil=>exact h
   |cons hJ _=>exact hJ _ h
 | .dM t,r,S,S',hs,h=>by
   cases hs with
   |nil=>exact h
   |cons _ hs=>exact dz hL hR t hs h
 | .op o t,r,S,S',hs,h=>PO.pj h λ v hv=>dz hL hR t hs hv
 | .aJ c t,r,S,S',hs,h=>nf.wp_mono h λ h=>dz hL hR t hs h
 | .ite c t f,r,S,S',hs,h=>by
   simp only[bF]at h⊢
   split at h
   ·exact⟨λ hb=>dz hL hR t hs (h.1 hb),λ hb=>dz hL hR f hs (h.2 hb)⟩
   ·exact h.elim
 | .bind k a b,r,S,S',hs,h=>dz hL hR a (.cons (λ vs hv hk=>dz hL hR b hs (hv hk)) hs) h
 | .loop init b,r,S,S',hs,h=>by
   obtain⟨J,n,h0,h1⟩:=h;exact⟨J,n,h0,λ n vs hJ hk=>dz hL hR b (.cons (λ _ h=>h) hs) (h1 n vs hJ hk)⟩
theorem gk{L:AX->SS->List AV->Prop}{R:AV->Prop}{k:AX->SS->Option T}:∀(t:T) {d:Nat} {t':T},t.fill k d=some t'->∀{r:List AV} {Js S:List (List AV->Prop)},Js.length=d->bF P L R t' r (Js++S)->
  bF P (λ x s r'=>∃t2,k x s=some t2/\bF P L R t2 r' S) R t r (Js++S)
 | .leaf x s,d,t',h,r,Js,S,hd,hw=>by
   simp only[T.fill,map_eq_some_iff]at h;obtain⟨t2,h1,rfl⟩:=h;subst hd;rw[acN]at hw;exact⟨t2,h1,hw⟩
 | .ret d',d,t',h,r,Js,S,hd,hw=>by cases h;exact hw
 | .jump vs,d,t',h,r,Js,S,hd,hw=>by
   simp only[T.fill]at h
   split at h
   ·cases h
   ·cases h;exact hw
 | .dM t,d,t',h,r,Js,S,hd,hw=>by
   cases d with
   |zero=>simp[T.fill]at h
   |succ d=>
    simp only[T.fill,map_eq_some_iff]at h;obtain⟨t2,h1,rfl⟩:=h;cases Js with
    |nil=>cases hd
    |cons J Js=>
     simp only[cons_append,bF]at hw⊢;exact gk t h1 (by simpa using hd) hw
 | .op o t,d,t',h,r,Js,S,hd,hw=>by
   simp only[T.fill,map_eq_some_iff]at h;obtain⟨t2,h1,rfl⟩:=h;exact PO.pj (o:=o) hw λ v hv=>gk t h1 hd hv
 | .aJ c t,d,t',h,r,Js,S,hd,hw=>by
   simp only[T.fill,map_eq_some_iff]at h;obtain⟨t2,h1,rfl⟩:=h;exact nf.wp_mono (c:=c) hw λ hv=>gk t h1 hd hv
 | .ite c t f,d,t',h,r,Js,S,hd,hw=>by
   simp only[T.fill]at h
   split at h
   ·rename_i t2 f2 h1 h2;cases h;simp only[bF]at hw⊢
    split at hw
    ·exact⟨λ hb=>gk t h1 hd (hw.1 hb),λ hb=>gk f h2 hd (hw.2 hb)⟩
    ·exact hw.elim
   ·cases h
 | .bind m a b,d,t',h,r,Js,S,hd,hw=>by
   simp only[T.fill]at h
   split at h
   ·rename_i a2 b2 h1 h2;cases h;simp only[bF]at hw⊢;have:=gk a h1 (Js:=_::Js) (by simpa using hd) hw;exact dz (λ _ _ _ h=>h) (λ _ h=>h) a (.cons (λ vs hv hk=>gk b h2 hd (hv hk)) (.refl _)) this
   ·cases h
 | .loop init b,d,t',h,r,Js,S,hd,hw=>by
   simp only[T.fill,map_eq_some_iff]at h;obtain⟨t2,h1,rfl⟩:=h;obtain⟨J,n,h0,h2⟩:=hw;exact⟨J,n,h0,λ n vs hJ hk=>gk b h1 (Js:=_::Js) (by simpa using hd) (h2 n vs hJ hk)⟩
theorem u7{L:AX->SS->List AV->Prop}{R:AV->Prop}{k:AX->SS->Option T}{t t':T}(h:t.fill k 0=some t'){r:List AV}{S:List (List AV->Prop)}(hw:bF P L R t' r S):
 bF P (λ x s r'=>∃t2,k x s=some t2/\bF P L R t2 r' S) R t r S:=gk t h (Js:=[]) rfl hw
theorem pe{op:ew}{s:SS}{ns:List Node}{v:SV}{s':SS}(h:kY op s=some (ns,v,s')){r:List AV}(hl:r.length=s.nv)(hr:AV.ad r=true){G:List AV->Prop}(hw:js P ns r G){K:KT}
  (hk:∀r',G r'->vY r r' s'.nv->b7 s' r'=b7 s r->K (v.ev r') (bI s' r')):wpOp P op (b7 s r) (bI s r) K:=by
 unfold kY at h
 split at h
 ·rename_i h1
  split at h
  ·rename_i ns2 v2 s2 hx
   split at h
   ·rename_i h2;cases h;obtain⟨c1,c2,c3,c4⟩:=h2;refine arv h1.2 h1.1 c3 hx r hl h1.1 hr c1 K ?_;refine wF ns hr (by rw[hl];exact c1) hw λ r' hm hG he=>hk r' hG ⟨hm.pre,?_,hm.nor⟩ he
    exact(hm.len.trans (by rw[hl])).trans c2
   ·cases h
  ·cases h
 ·cases h
theorem nA{e:Env}{t:Nat}{a:AV}(h:e t=a):e.set t a=e:=wX h
theorem qZ{fl:List Nat}{n0:Nat}{L:AX->SS->List AV->Prop}{R:AV->Prop}{S:List (List AV->Prop)}{K:Env->List ae->Prop}:∀(ops:List aP) {s:SS} {t:T},o0 fl true ops s=some t->∀{r:List AV},r.length=s.nv->AV.ad r=true->
  bF P L R t r S->(∀s' r',L .normal s' r'->vY r r' s'.nv->K (b7 s' r') (bI s' r'))->gD P n0 ops (b7 s r) (bI s r) K
 | [],s,t,h,r,hl,hr,hw,hk=>by
   simp only[o0,Option.some.injEq]at h;subst h;exact⟨_,_,.refl _ _ _,hk s r hw ⟨⟨[],by simp⟩,hl,hr⟩⟩
 |o::ops,s,t,h,r,hl,hr,hw,hk=>by
  have ago:Wk n0 s (pre fl true o.op s):=ar4 fl true o.op s;have vN:=ago.2 r hl hr;have wm:r.length=(pre fl true o.op s).nv:=hl.trans ago.1.symm
  have step:∀{s0:SS} {ns:List Node} {v:SV} {s':SS} {t':T},kY o.op s0=some (ns,v,s')->o0 fl true ops (s'.bT o.dst v)=some t'->r.length=s0.nv->bF P L R (wrap ns t') r S->
    wpOp P o.op (b7 s0 r) (bI s0 r) λ x O'=>gD P n0 ops (bT (b7 s0 r) o.dst x) O' K:=by
   intro s0 ns v s' t' hx ht wm hw;rw[pk]at hw;refine pe hx wm hr hw λ r' hG hm he=> ?_
   rw[←he,←nw,←nu s' o.dst v r'];refine qZ ops ht (by rw[qh];exact hm.len) hm.nor hG λ s2 r2 hL hm2=>hk s2 r2 hL (hm.trans hm2)
  have skip:∀{s0:SS} {t':T},o0 fl true ops (s0.bT o.dst un)=some t'->r.length=s0.nv->bF P L R t' r S->gD P n0 ops (bT (b7 s0 r) o.dst (.ba [])) (bI s0 r) K:=by
   intro s0 t' ht wm hw;have:(un).ev r= .ba []:=rfl;rw[←this,←nw,←nu s0 o.dst un r];exact qZ ops ht (by rw[qh];exact wm) hr hw hk
  simp only[o0]at h;simp only[gD]
  split at h
  ·rename_i hg
   split at h
   ·rename_i ns v s' hx;simp only[map_eq_some_iff]at h;obtain⟨t',ht,rfl⟩:=h;refine⟨_,_,vN,?_⟩;rw[hg];exact step hx ht wm hw
   ·cases h
  ·rename_i g want hg
   split at h
   ·rename_i b hb;have heb:b7 s r g= .v (.bool b):=by simp only[b7,hb];rfl
    split at h
    ·rename_i lA
     split at h
     ·rename_i b' lh;have axd:b7 (pre fl true o.op s) r g= .v (.bool b'):=by simp only[b7,lh];rfl
      split at h
      ·rename_i aAm;subst aAm
       split at h
       ·rename_i ns v s' hx;simp only[map_eq_some_iff]at h;obtain⟨t',ht,rfl⟩:=h;refine⟨_,_,vN,?_⟩;rw[hg];simp only[axd];rw[nA axd];refine⟨λ _=>step hx ht wm hw,λ h=> ?_⟩;cases b'<;>simp at h
       ·cases h
      ·cases h
     ·cases h
    ·rename_i lA;refine⟨_,_,.refl _ _ _,?_⟩;rw[hg];simp only[heb];have kV:b= !want:=by cases b<;>cases want<;>simp_all
     refine⟨λ h=>(lA h).elim,λ _=> ?_⟩;rw[nA (by rw[heb,kV])];exact skip h hl hw
   ·rename_i hb;have heb:b7 s r g= .ba []:=by simp only[b7,hb];rfl
    refine⟨_,_,.refl _ _ _,?_⟩;rw[hg];simp only[heb];exact skip h hl hw
   ·split at h
    ·rename_i c hc;have hec:b7 (pre fl true o.op s) r g=c.ev r:=by simp only[b7,hc];rfl
     split at h
     ·rename_i ns v s' hx
      split at h
      ·rename_i t1 t2 h1 h2;simp only[Option.some.injEq]at h;refine⟨_,_,vN,?_⟩;rw[hg];simp only[hec]
       have key:∃b,c.ev r= .v (.bool b)/\(b=want->bF P L R (wrap ns t1) r S)/\(b= !want->bF P L R t2 r S):=by
        subst h;cases want
        ·simp only[false_eq_true,if_false,bF]at hw
         split at hw
         ·rename_i b hb;exact⟨b,hb,hw.2,λ h=>hw.1 (by simpa using h)⟩
         ·exact hw.elim
        ·simp only[if_true,bF]at hw
         split at hw
         ·rename_i b hb;exact⟨b,hb,hw.1,λ h=>hw.2 (by simpa using h)⟩
         ·exact hw.elim
       obtain⟨b,hb,k1,k2⟩:=key;simp only[hb];have e1:∀b':Bool,(b7 (pre fl true o.op s) r).set g (.v (.bool b'))=b7 ((pre fl true o.op s).set g (.d (.c (.v (.bool b'))))) r:=λ b'=>by rw[v7];rfl
       refine⟨λ lA=> ?_,λ lA=> ?_⟩
       ·rw[e1];exact step hx h1 wm (k1 lA)
       ·rw[e1];exact skip h2 wm (k2 lA)
      ·cases h
     ·cases h
    ·cases h
   ·cases h
theorem pf{fl:List Nat}{L:AX->SS->List AV->Prop}{R:AV->Prop}{S:List (List AV->Prop)}{K:Env->List ae->Prop}:∀(ops:List aP) {s:SS} {t:T},o0 fl false ops s=some t->∀{r:List AV},r.length=s.nv->AV.ad r=true->
  bF P L R t r S->(∀s' r',L .normal s' r'->vY r r' s'.nv->K (b7 s' r') (bI s' r'))->wpOps P ops (b7 s r) (bI s r) K
 | [],s,t,h,r,hl,hr,hw,hk=>by
   simp only[o0,Option.some.injEq]at h;subst h;exact hk s r hw ⟨⟨[],by simp⟩,hl,hr⟩
 |o::ops,s,t,h,r,hl,hr,hw,hk=>by
  have ago:pre fl false o.op s=s:=rfl
  have step:∀{s0:SS} {ns:List Node} {v:SV} {s':SS} {t':T},kY o.op s0=some (ns,v,s')->o0 fl false ops (s'.bT o.dst v)=some t'->r.length=s0.nv->bF P L R (wrap ns t') r S->
    wpOp P o.op (b7 s0 r) (bI s0 r) λ x O'=>wpOps P ops (bT (b7 s0 r) o.dst x) O' K:=by
   intro s0 ns v s' t' hx ht wm hw;rw[pk]at hw;refine pe hx wm hr hw λ r' hG hm he=> ?_
   rw[←he,←nw,←nu s' o.dst v r'];refine pf ops ht (by rw[qh];exact hm.len) hm.nor hG λ s2 r2 hL hm2=>hk s2 r2 hL (hm.trans hm2)
  have skip:∀{s0:SS} {t':T},o0 fl false ops (s0.bT o.dst un)=some t'->r.length=s0.nv->bF P L R t' r S->wpOps P ops (bT (b7 s0 r) o.dst (.ba [])) (bI s0 r) K:=by
   intro s0 t' ht wm hw;have:(un).ev r= .ba []:=rfl;rw[←this,←nw,←nu s0 o.dst un r];exact pf ops ht (by rw[qh];exact wm) hr hw hk
  simp only[o0,ago]at h;simp only[wpOps]
  split at h
  ·rename_i hg
   split at h
   ·rename_i ns v s' hx;simp only[map_eq_some_iff]at h;obtain⟨t',ht,rfl⟩:=h;rw[hg];exact step hx ht hl hw
   ·cases h
  ·rename_i g want hg
   split at h
   ·rename_i b hb;have heb:b7 s r g= .v (.bool b):=by simp only[b7,hb];rfl
    rw[hg];simp only[heb]
    split at h
    ·rename_i lA;simp only[hb]at h;rw[if_pos lA]at h;subst lA
     split at h
     ·rename_i ns v s' hx;simp only[map_eq_some_iff]at h;obtain⟨t',ht,rfl⟩:=h;rw[nA heb];refine⟨λ _=>step hx ht hl hw,λ h=> ?_⟩;cases b<;>simp at h
     ·cases h
    ·rename_i lA;have kV:b= !want:=by cases b<;>cases want<;>simp_all
     refine⟨λ h=>(lA h).elim,λ _=> ?_⟩;rw[nA (by rw[heb,kV])];exact skip h hl hw
   ·rename_i hb;have heb:b7 s r g= .ba []:=by simp only[b7,hb];rfl
    rw[hg];simp only[heb];exact skip h hl hw
   ·split at h
    ·rename_i c hc;have hec:b7 s r g=c.ev r:=by simp only[b7,hc];rfl
     split at h
     ·rename_i ns v s' hx
      split at h
      ·rename_i t1 t2 h1 h2;simp only[Option.some.injEq]at h;rw[hg];simp only[hec]
       have key:∃b,c.ev r= .v (.bool b)/\(b=want->bF P L R (wrap ns t1) r S)/\(b= !want->bF P L R t2 r S):=by
        subst h;cases want
        ·simp only[false_eq_true,if_false,bF]at hw
         split at hw
         ·rename_i b hb;exact⟨b,hb,hw.2,λ h=>hw.1 (by simpa using h)⟩
         ·exact hw.elim
        ·simp only[if_true,bF]at hw
         split at hw
         ·rename_i b hb;exact⟨b,hb,hw.1,λ h=>hw.2 (by simpa using h)⟩
         ·exact hw.elim
       obtain⟨b,hb,k1,k2⟩:=key;simp only[hb];have e1:∀b':Bool,(b7 s r).set g (.v (.bool b'))=b7 (s.set g (.d (.c (.v (.bool b'))))) r:=λ b'=>by rw[v7];rfl
       refine⟨λ lA=> ?_,λ lA=> ?_⟩
       ·rw[e1];exact step hx h1 hl (k1 lA)
       ·rw[e1];exact skip h2 hl (k2 lA)
      ·cases h
     ·cases h
    ·cases h
   ·cases h
theorem afp{a:AV}(h:a.ag=true):refs a= []:=by
 cases a<;>first|rfl|(simp[AV.ag]at h)
theorem avu{s:SS}(hc:s.cl=true){r:List AV}(hl:r.length=s.nv)(hr:AV.ad r=true)(x:aI):refs (x.ev (b7 s r))=rfS s x:=by
 cases x with
 |c a=>rfl
 |t n=>
  simp only[aI.ev,b7,rfS];have:=SS.oI hc n;generalize lk s.env n=v at this;cases v<;>try rfl
  exact afp (D.bN hr _ (by rw[hl];exact this))
theorem afZ{op:ew}{s:SS}(hc:s.cl=true){r:List AV}(hl:r.length=s.nv)(hr:AV.ad r=true):cL op (b7 s r) (bI s r).length=alM op s:=by
 unfold cL alM;rw[show(λ x=>refs (aI.ev (b7 s r) x))=rfS s from funext λ x=>avu hc hl hr x,dI]
theorem wA{op:ew}{s:SS}{q}(h:kY op s=some q):s.cl=true:=by
 unfold kY at h
 split at h
 ·rename_i h1;exact h1.1
 ·cases h
theorem mC{rows:List (List Nat)}{all:List aP}{L:AX->SS->List AV->Prop}{R:AV->Prop}{S:List (List AV->Prop)}{K:Env->List ae->Prop}:∀(ops:List aP) {acc:List g9} {s:SS} {t:T},lO rows all ops acc s=some t->∀{r:List AV},r.length=s.nv->AV.ad r=true->
  bF P L R t r S->(∀s' r',L .normal s' r'->vY r r' s'.nv->K (b7 s' r') (bI s' r'))->cI P ops acc (b7 s r) (bI s r) λ ic e O=>ij rows (all.zip ic)=true/\K e O
 | [],acc,s,t,h,r,hl,hr,hw,hk=>by
   simp only[lO]at h
   split at h
   ·rename_i hd;simp only[Option.some.injEq]at h;subst h;simp only[cI];exact⟨hd,hk s r hw ⟨⟨[],by simp⟩,hl,hr⟩⟩
   ·cases h
 |o::ops,acc,s,t,h,r,hl,hr,hw,hk=>by
  have step:∀{s0:SS} {ns:List Node} {v:SV} {s':SS} {t':T} {agQ:List g9},kY o.op s0=some (ns,v,s')->lO rows all ops agQ (s'.bT o.dst v)=some t'->r.length=s0.nv->bF P L R (wrap ns t') r S->
    wpOp P o.op (b7 s0 r) (bI s0 r) λ x O'=>cI P ops agQ (bT (b7 s0 r) o.dst x) O' λ ic e O=>ij rows (all.zip ic)=true/\K e O:=by
   intro s0 ns v s' t' agQ hx ht wm hw;rw[pk]at hw;refine pe hx wm hr hw λ r' hG hm he=> ?_
   rw[←he,←nw,←nu s' o.dst v r'];refine mC ops ht (by rw[qh];exact hm.len) hm.nor hG λ s2 r2 hL hm2=>hk s2 r2 hL (hm.trans hm2)
  have skip:∀{s0:SS} {t':T} {agQ:List g9},lO rows all ops agQ (s0.bT o.dst un)=some t'->r.length=s0.nv->bF P L R t' r S->cI P ops agQ (bT (b7 s0 r) o.dst (.ba [])) (bI s0 r) λ ic e O=>ij rows (all.zip ic)=true/\K e O:=by
   intro s0 t' agQ ht wm hw;have:(un).ev r= .ba []:=rfl;rw[←this,←nw,←nu s0 o.dst un r];exact mC ops ht (by rw[qh];exact wm) hr hw hk
  simp only[lO]at h;simp only[cI]
  split at h
  ·rename_i hg
   split at h
   ·rename_i ns v s' hx;simp only[map_eq_some_iff]at h;obtain⟨t',ht,rfl⟩:=h;rw[hg];simp only[afZ (wA hx) hl hr];exact step hx ht hl hw
   ·cases h
  ·rename_i g want hg
   split at h
   ·rename_i b hb;have heb:b7 s r g= .v (.bool b):=by simp only[b7,hb];rfl
    rw[hg];simp only[heb]
    split at h
    ·rename_i lA;subst lA
     split at h
     ·rename_i ns v s' hx;simp only[map_eq_some_iff]at h;obtain⟨t',ht,rfl⟩:=h;rw[nA heb];refine⟨λ _=> ?_,λ h=> ?_⟩
      ·simp only[afZ (wA hx) hl hr];exact step hx ht hl hw
      ·cases b<;>simp at h
     ·cases h
    ·rename_i lA;have kV:b= !want:=by cases b<;>cases want<;>simp_all
     refine⟨λ h=>(lA h).elim,λ _=> ?_⟩;rw[nA (by rw[heb,kV])];exact skip h hl hw
   ·rename_i hb;have heb:b7 s r g= .ba []:=by simp only[b7,hb];rfl
    rw[hg];simp only[heb];exact skip h hl hw
   ·rename_i c _ _ hc;have hec:b7 s r g=c.ev r:=by simp only[b7,hc];rfl
    split at h
    ·rename_i ns v s' hx
     split at h
     ·rename_i t1 t2 h1 h2;simp only[Option.some.injEq]at h;rw[hg];simp only[hec]
      have key:∃b,c.ev r= .v (.bool b)/\(b=want->bF P L R (wrap ns t1) r S)/\(b= !want->bF P L R t2 r S):=by
       subst h;cases want
       ·simp only[false_eq_true,if_false,bF]at hw
        split at hw
        ·rename_i b hb;exact⟨b,hb,hw.2,λ h=>hw.1 (by simpa using h)⟩
        ·exact hw.elim
       ·simp only[if_true,bF]at hw
        split at hw
        ·rename_i b hb;exact⟨b,hb,hw.1,λ h=>hw.2 (by simpa using h)⟩
        ·exact hw.elim
      obtain⟨b,hb,k1,k2⟩:=key;simp only[hb];have e1:∀b':Bool,(b7 s r).set g (.v (.bool b'))=b7 (s.set g (.d (.c (.v (.bool b'))))) r:=λ b'=>by rw[v7];rfl
      have e2:∀b':Bool,bI s r=bI (s.set g (.d (.c (.v (.bool b'))))) r:=λ b'=>rfl
      refine⟨λ lA=> ?_,λ lA=> ?_⟩
      ·rw[e1,e2 want];simp only[afZ (s:=s.set g (.d (.c (.v (.bool want))))) (wA hx) hl hr];exact step hx h1 hl (k1 lA)
      ·rw[e1,e2 (!want)];exact skip h2 hl (k2 lA)
     ·cases h
    ·cases h
   ·cases h
theorem abN{n0:Nat}(s:SS)(t m:Nat):Wk n0 s {s with ai:=s.ai++ [.row true t m (.c (.sl []))]}:=by
 refine⟨rfl,λ r hl hr=> ?_⟩;refine WK.xB t m (by simp[bI]) (by simp[bI,SO.ev,D.ev,aY]) (λ j hj=> .inl ?_) λ q=> .inl rfl
 simp only[bI,map_append];rw[getElem?_append_left (by simpa [bI]using hj)]
theorem jG{n0:Nat}:∀(ops:List aP) (s:SS),Wk n0 s (iK ops s).2/\(iK ops s).1.map aP.strip=ops.map aP.strip
 | [],s=>⟨.refl _ _,rfl⟩
 |o::r,s=>by
  obtain⟨g,d,op⟩:=o;simp only[iK]
  split
  ·rename_i _ t m z;obtain⟨h1,h2⟩:=jG (n0:=n0) r {s with ai:=s.ai++ [.row true t m (.c (.sl []))]};exact⟨(abN s t m).trans h1,by simp only[map_cons,h2];rfl⟩
  ·rename_i _ t m x;obtain⟨h1,h2⟩:=jG (n0:=n0) r {s with ai:=s.ai++ [.row true t m (.c (.sl []))]};exact⟨(abN s t m).trans h1,by simp only[map_cons,h2];rfl⟩
  ·rename_i _ t m len z ps;obtain⟨h1,h2⟩:=jG (n0:=n0) r {s with ai:=s.ai++ [.row true t m (.c (.sl []))]};exact⟨(abN s t m).trans h1,by simp only[map_cons,h2];rfl⟩
  ·obtain⟨h1,h2⟩:=jG (n0:=n0) r s;exact⟨h1,by simp only[map_cons,h2]⟩
theorem yH{rows:List (List Nat)}{ops:List aP}{n0:Nat}:∀(n:Nat) {s s1:SS} {al:List aP} {t:T},ad9 rows ops n s=some (s1,al,t)->Wk n0 s s1/\al.map aP.strip=ops.map aP.strip/\lO rows al al [] s1=some t
 |0,s,s1,al,t,h=>by simp[ad9]at h
 |n+1,s,s1,al,t,h=>by
  simp only[ad9]at h
  split at h
  ·rename_i t0 ht;cases h;exact⟨.refl _ _,rfl,ht⟩
  ·split at h
   ·split at h
    ·rename_i t0 ht;cases h;obtain⟨h1,h2⟩:=jG (n0:=n0) ops s;exact⟨h1,h2,ht⟩
    ·cases h
   ·obtain⟨q1,q2⟩:=yH n h;exact⟨(ajo _ _).trans q1,q2⟩
end
end Go.Ab
namespace Go.Ab
section
variable {P:Program}
theorem alQ(live:List Nat)(s:SS)(t:Nat):lk (alS live s).env t=if live.contains t=true then lk s.env t else .top:=by
 have key:∀(l:List Nat),lk (l.filterMap λ t=>match lk s.env t with| .top=>none|v=>some (t,v)) t=if l.contains t=true then lk s.env t else .top:=by
  intro l
  induction l with
  |nil=>rfl
  |cons q l ih=>
   simp only[List.filterMap_cons,List.contains_cons];by_cases hq:t=q
   ·subst hq;simp only[BEq.rfl,Bool.true_or,if_true]
    split
    ·rename_i h
     split at h
     ·rename_i h2;rw[h2]at ih⊢;rw[ih];simp
     ·cases h
    ·rename_i p h
     split at h
     ·cases h
     ·cases h;simp[lk]
   ·have hb:(t==q)=false:=by simpa using hq
    simp only[hb,Bool.false_or]
    split
    ·exact ih
    ·rename_i p h
     split at h
     ·cases h
     ·cases h;simp only[lk,if_neg hq];exact ih
 exact key live
theorem alR(live:List Nat)(s:SS)(r:List AV):b7 (alS live s) r=sK live (b7 s r):=by
 funext t
 simp only[b7,alQ,sK]
 split<;>rfl
theorem pI{n0:Nat}{body:SS->Option T}:∀(n:Nat) {s h s1 h1:SS} {t:T},ua body n s h=some (s1,h1,t)->Wk n0 s s1/\body h1=some t
 |0,s,h,s1,h1,t,hh=>by simp[ua]at hh
 |n+1,s,h,s1,h1,t,hh=>by
  simp only[ua]at hh
  split at hh
  ·cases hh
  ·rename_i t0 hb
   split at hh
   ·rename_i c hc
    split at hh
    ·cases hh
    ·obtain⟨q1,q2⟩:=pI n hh;exact⟨(ahN s c).trans q1,q2⟩
   ·split at hh
    ·cases hh;exact⟨.refl _ _,hb⟩
    ·exact pI n hh
theorem qW{n0:Nat}{body:SS->Option T}:∀(n:Nat) {s s1:SS} {t:T},pP body n s=some (s1,t)->Wk n0 s s1/\body s1=some t
 |0,s,s1,t,hh=>by simp[pP]at hh
 |n+1,s,s1,t,hh=>by
  simp only[pP]at hh
  split at hh
  ·cases hh
  ·rename_i t0 hb
   split at hh
   ·split at hh
    ·rename_i c hc;obtain⟨q1,q2⟩:=qW n hh;exact⟨(ahN s c).trans q1,q2⟩
    ·cases hh;exact⟨.refl _ _,hb⟩
   ·cases hh;exact⟨.refl _ _,hb⟩
theorem am5{b:aU}{q:List (List Nat)×List aP}(h:b.drawn=some q):b= .region (some q.1) q.2:=by
 cases b<;>simp only[aU.drawn,reduceCtorEq]at h
 rename_i d ops;cases d<;>simp only[reduceCtorEq,Option.some.injEq]at h
 subst h;rfl
theorem ai6{b:aU}(h:b.af2=true):∃c,b= .ku c:=by
 cases b<;>first|exact⟨_,rfl⟩|(simp[aU.af2]at h)
theorem wC{n0:Nat}{fl:List Nat}(c:aU):∀{s:SS} {t:T},xC n0 fl c s=some t->∀{r:List AV},r.length=s.nv->AV.ad r=true->∀{L:AX->SS->List AV->Prop} {R:AV->Prop} {S:List (List AV->Prop)} {Q:AX->Env->List ae->Prop},
  bF P L R t r S->(∀x s' r',L x s' r'->vY r r' s'.nv->Q x (b7 s' r') (bI s' r'))->jR P n0 c Q (b7 s r) (bI s r):=by
 induction c with
 |skip=>
  intro s t h r hl hr L R S Q hw hq;simp only[xC,Option.some.injEq]at h;subst h;exact hq _ _ _ hw ⟨⟨[],by simp⟩,hl,hr⟩
 |region d ops=>
  intro s t h r hl hr L R S Q hw hq;cases d with
  |none=>exact pf ops h hl hr hw λ s' r' hL hm=>hq _ _ _ hL hm
  |some rows=>exact⟨ops,rfl,mC ops h hl hr hw λ s' r' hL hm=>hq _ _ _ hL hm⟩
 |gJ ops=>
  intro s t h r hl hr L R S Q hw hq;exact qZ ops h hl hr hw λ s' r' hL hm=>hq _ _ _ hL hm
 |exit id=>
  intro s t h r hl hr L R S Q hw hq;simp only[xC,Option.some.injEq]at h;subst h;exact hq _ _ _ hw ⟨⟨[],by simp⟩,hl,hr⟩
 |ret=>
  intro s t h r hl hr L R S Q hw hq;simp only[xC,Option.some.injEq]at h;subst h;exact hq _ _ _ hw ⟨⟨[],by simp⟩,hl,hr⟩
 |seq a b iha ihb=>
  intro s t h r hl hr L R S Q hw hq;simp only[xC]at h
  split at h
  ·cases h
  ·rename_i t0 ha
   split at h
   ·rename_i nM;obtain⟨b',rfl⟩:=ai6 nM.1
    split at h
    ·rename_i t1 t2 h1 h2;cases h;simp only[bF]at hw;have hf:=u7 h1 hw;refine iha ha hl hr hf λ x s' r' hL hm=> ?_
     obtain⟨t3,e3,w3⟩:=hL
     have oth:∀{x'},t3= .dM (.leaf x' s')->x'=x->Q x (b7 s' r') (bI s' r'):=by
      intro x' h3 hx;subst h3;subst hx;simp only[bF]at w3;exact hq _ _ _ w3 hm
     cases x with
     |exit i=>cases e3;exact oth rfl rfl
     |ret=>cases e3;exact oth rfl rfl
     |normal=>
      simp only[map_eq_some_iff]at e3;obtain⟨vs,hco,rfl⟩:=e3;simp only[bF]at w3;obtain⟨m,rfl⟩:=hm.pre;obtain⟨c1,c2,c3⟩:=oH hco hl hm.len hm.nor;have w4:=w3 (by rw[D.aT,length_map,c1]);obtain⟨e',O',vN,fT⟩:=ihb h2 c2.len c2.nor w4 λ x s2 r2 qB hm2=>hq x s2 r2 qB (c2.trans hm2)
      exact⟨e',O',c3.trans vN,fT⟩
    ·cases h
   ·have hf:=u7 h hw;refine iha ha hl hr hf λ x s' r' hL hm=> ?_
    obtain⟨t3,e3,w3⟩:=hL;cases x with
    |exit i=>cases e3;exact hq _ _ _ w3 hm
    |ret=>cases e3;exact hq _ _ _ w3 hm
    |normal=>exact ihb e3 hm.len hm.nor w3 λ x s2 r2 qB hm2=>hq x s2 r2 qB (hm.trans hm2)
 |cond c a b iha ihb=>
  intro s t h r hl hr L R S Q hw hq;simp only[xC]at h;simp only[jR,←aX]
  split at h
  ·rename_i bb hc;rw[hc];simp only[SV.ev,D.ev]
   split at h
   ·rename_i hb;refine⟨λ _=>iha h hl hr hw hq,λ h=> ?_⟩;rw[hb]at h;cases h
   ·rename_i hb;refine⟨λ h=>(hb h).elim,λ _=>ihb h hl hr hw hq⟩
  ·rename_i d _ hc
   split at h
   ·rename_i t1 t2 h1 h2
    split at h
    ·cases h;rw[hc];simp only[bF]at hw;simp only[SV.ev]
     split at hw
     ·rename_i bb hb;rw[hb];exact⟨λ h=>iha h1 hl hr (hw.1 h) hq,λ h=>ihb h2 hl hr (hw.2 h) hq⟩
     ·exact hw.elim
    ·cases h
   ·cases h
  ·cases h
 |block id b ih=>
  intro s t h r hl hr L R S Q hw hq;simp only[xC]at h
  split at h
  ·cases h
  ·rename_i t0 hb;have hf:=u7 h hw;refine ih hb hl hr hf λ x s' r' hL hm=> ?_
   obtain⟨t3,e3,w3⟩:=hL;cases x with
   |normal=>cases e3;exact hq _ _ _ w3 hm
   |ret=>cases e3;exact hq _ _ _ w3 hm
   |exit i=>
    simp only[Option.some.injEq]at e3;simp only
    split
    ·rename_i hi;rw[if_pos hi]at e3;subst e3;exact hq _ _ _ w3 hm
    ·rename_i hi;rw[if_neg hi]at e3;subst e3;exact hq _ _ _ w3 hm
 |loop b ih=>
  intro s t h r hl hr L R S Q hw hq;simp only[xC]at h
  split at h
  ·cases h
  ·rename_i s1 hd t0 hh;obtain⟨vN,hb⟩:=pI 8 hh
   split at h
   ·rename_i init hco
    split at h
    ·rename_i t1 h1;cases h;obtain⟨J,n,hJ0,agm⟩:=hw;have hl1:r.length=s1.nv:=hl.trans vN.1.symm;obtain⟨c1,c2,c3⟩:=oH (rb:=r) (m:=[]) hco hl1 (by simpa using hl1) (by simpa using hr);simp only[append_nil]at c1 c2 c3;refine⟨λ n e O=>∃vs,J n vs/\vs.length=init.length/\vY r (r++vs) hd.nv/\e=b7 hd (r++vs)/\O=bI hd (r++vs),n,⟨_,_,(vN.2 r hl hr).trans c3,D.a9 r init,hJ0,by rw[D.aT,length_map],c2,rfl,rfl⟩,?_⟩;rintro n e O ⟨vs,hJ,hlen,hm0,rfl,rfl⟩;have hf:=u7 h1 (agm n vs hJ hlen);refine ih hb hm0.len hm0.nor hf λ x s' r' hL hm=> ?_
     obtain⟨t3,e3,w3⟩:=hL;cases x with
     |exit i=>cases e3;simp only[bF]at w3;exact hq _ _ _ w3 (hm0.trans hm)
     |ret=>cases e3;simp only[bF]at w3;exact hq _ _ _ w3 (hm0.trans hm)
     |normal=>
      simp only[map_eq_some_iff]at e3;obtain⟨ng,aAg,rfl⟩:=e3;simp only[bF]at w3;obtain⟨m',aF,hJ'⟩:=w3;obtain⟨m2,rfl⟩:=hm.pre;have oo:=hm.nor;have o8:=hm.len;rw[List.append_assoc]at oo o8 hJ'⊢;obtain⟨d1,d2,d3⟩:=oH (rb:=r) (m:=vs++m2) aAg hl1 o8 oo;exact⟨m',_,_,aF,d3,_,hJ',by rw[D.aT,length_map,d1,c1],d2,rfl,rfl⟩
    ·cases h
   ·cases h
 |aL live c ih=>
  intro s t h r hl hr L R S Q hw hq;simp only[xC]at h
  split at h
  ·cases h
  ·rename_i t0 hb;have hf:=u7 h hw;refine ih hb hl hr hf λ x s' r' hL hm=> ?_
   obtain⟨t3,e3,w3⟩:=hL;cases x with
   |exit i=>cases e3;exact hq _ _ _ w3 hm
   |ret=>cases e3;exact hq _ _ _ w3 hm
   |normal=>
    cases e3;simp only;rw[←alR];exact hq _ _ _ w3 hm
 |ku c ih=>
  intro s t h r hl hr L R S Q hw hq;simp only[xC]at h
  split at h
  ·split at h
   ·rename_i q hc;obtain⟨s1,t1⟩:=q;cases h;obtain⟨vN,hb⟩:=qW 6 hc;exact⟨_,_,vN.2 r hl hr,ih hb (hl.trans vN.1.symm) hr hw hq⟩
   ·cases h
  ·split at h
   ·rename_i q hd;simp only[map_eq_some_iff]at h;obtain⟨⟨s1,al,t1⟩,hdr,rfl⟩:=h;obtain⟨vN,om,hx⟩:=yH (n0:=n0) 6 hdr;have hc:=am5 hd;subst hc;exact⟨_,_,vN.2 r hl hr,al,om,mC al hx (hl.trans vN.1.symm) hr hw λ s' r' hL hm=>hq _ _ _ hL hm⟩
   ·exact⟨_,_,.refl _ _ _,ih h hl hr hw hq⟩
theorem ey:∀(c:aU),c.weaken.strip=c.strip
 | .skip=>rfl
 | .region none ops=>rfl
 | .region (some rows) ops=>rfl
 | .seq a b=>by simp only[aU.weaken,aU.strip,ey a,ey b]
 | .cond c t f=>by simp only[aU.weaken,aU.strip,ey t,ey f]
 | .block id b=>by simp only[aU.weaken,aU.strip,ey b]
 | .loop b=>by simp only[aU.weaken,aU.strip,ey b]
 | .exit id=>rfl
 | .ret=>rfl
 | .aL l c=>by simp only[aU.weaken,aU.strip,ey c]
 | .ku c=>by simp only[aU.weaken,aU.strip,ey c]
 | .gJ ops=>rfl
def nT.weaken(A:nT):nT:={A with code:= .ku A.code.weaken}
theorem vf.weaken{f:FuncId}{A:nT}(h:vf P f A):vf P f A.weaken:=by
 obtain⟨fn,code,h1,h2,h3,h4,h5,h6,h7⟩:=h;exact⟨fn,code,h1,h2,h3,h4,h5,h6.trans (congrArg some (ey A.code).symm),h7⟩
def oE(n:Nat):SS:=⟨(List.range n).map λ i=>(i,.d (.x i)),[],n,[]⟩
theorem ad7(args:List AV):∀t,b7 (oE args.length) args t= .top∨b7 (oE args.length) args t=mg args t:=by
 intro t
 have key:∀(n k:Nat),lk ((List.range' k n).map λ i=>(i,SV.d (.x i))) t=if k<=t/\t<k+n then .d (.x t)else .top:=by
  intro n
  induction n with
  |zero=>intro k;rw[if_neg (by omega)];rfl
  |succ n ih=>
   intro k;simp only[List.range'_succ,map_cons,lk,ih];by_cases h:t=k
   ·subst h;simp
   ·rw[if_neg h];by_cases h2:k+1<=t/\t<k+1+n
    ·rw[if_pos h2,if_pos (by omega)]
    ·rw[if_neg h2,if_neg (by omega)]
 simp only[b7,oE,List.range_eq_range'];rw[key]
 split
 ·rename_i h;refine .inr ?_;simp only[SV.ev,D.ev,mg,List.getD];have:t<args.length:=by omega
  rw[getElem?_eq_getElem this];rfl
 ·exact .inl rfl
inductive te(O:List ae):AV->AV->Prop
 |refl (a:AV):a.ag=true->te O a a
 |row (n t s:Nat) (xs:List AV):(O[n]? =some (.live t s xs)∨(O[n]? =some (.nil t s)/\xs= []))->AV.ad xs=true->te O (.row n xs.length) (.sl xs)
 |agg (cs ds:List AV):cs.length=ds.length->(∀(i:Nat) c d,cs[i]? =some c->ds[i]? =some d->te O c d)->te O (.agg cs) (.agg ds)
 |ba (cs ds:List AV):cs.length=ds.length->(∀(i:Nat) c d,cs[i]? =some c->ds[i]? =some d->te O c d)->te O (.ba cs) (.ba ds)
theorem te.sound{I:dv}{L:Nat->Loc}{O:List ae}{w:World}(hi:Inv I L O w){a b:AV}(h:te O a b):∀{x:Value},R I L O a x->R (allI I L O w) L [] b x:=by
 induction h with
 |refl a hn=>intro x hr;exact hr.ag (tc hi) hn
 |row n t s xs hO hn=>
  intro x hr;rcases hO with hO|⟨hO,rfl⟩
  ·have:=hr.ep hO rfl;subst this;obtain⟨c,⟨kR,h1,dE⟩,h2,h3,h4,h5,h6⟩:=hi.obj n t s xs hO;have hlb:LB L O (L n).bh:= .inl ⟨n,t,s,xs,hO,rfl⟩;by_cases hx:xs= []
   ·subst hx;exact .lG _ _
   ·refine(.sl xs (L n).bh 0 (L n).cap s (λ i j=>(c[i*s+j]?).getD undef) h3 hx (λ i x hx=>(h6 i x hx).1) (λ i x j d hx hj=> ?_) λ i x j d hx hj=> ?_)
    ·obtain⟨y,hy,ho,_⟩:=(h6 i x hx).2 j d hj;unfold allI;rw[if_pos hlb,zero_add,eN h1,hy];exact⟨rfl,ho⟩
    ·obtain⟨y,hy,ho,o7⟩:=(h6 i x hx).2 j d hj;rw[hy];exact o7.ag (tc hi) (fg (bf hn x (mem_of_getElem? hx)) d (mem_of_getElem? hj))
  ·obtain⟨rfl,_⟩:=hr.kf hO;exact .lG _ _
 |agg cs ds h _ ih=>
  intro x hr;cases hr with
  |agg _ vs hl hr=>
   refine .agg _ _ (by omega) λ i d v hd hv=> ?_
   have hc:cs[i]? =some (cs[i]'(by have:=(List.getElem?_eq_some_iff.1 hd).1;omega)):=by simp
   exact ih i _ _ hc hd (hr i _ v hc hv)
 |ba cs ds h _ ih=>
  intro x hr;cases hr with
  |ba _ vs hl hr=>
   refine .ba _ _ (by omega) λ i d v hd hv=> ?_
   have hc:cs[i]? =some (cs[i]'(by have:=(List.getElem?_eq_some_iff.1 hd).1;omega)):=by simp
   exact ih i _ _ hc hd (hr i _ v hc hv)
theorem akI{rs:List dO}{res:AV}{x:AX}(hx:x= .ret∨x= .normal){e:Env}{O:List ae}(h:dQ e O rs [] λ xs=>te O (bz xs) res):n7 0 rs res [] x e O:=by
 have key:∀(rs:List dO) (acc:List AV) (M M':List AV->Prop),(∀xs,M xs->M' xs)->dQ e O rs acc M->dQ e O rs acc M':=by
  intro rs
  induction rs with
  |nil=>intro acc M M' hm h;exact hm _ h
  |cons r rs ih=>
   intro acc M M' hm h;cases r with
   |tmp t=>exact ih _ _ _ hm h
   |cell t n=>
    simp only[dQ,dO.get]at h⊢
    split at h
    ·split at h
     ·exact⟨h.1,ih _ _ _ hm h.2⟩
     ·exact h.elim
    ·exact h.elim
 have:dQ e O rs [] λ xs=>∃e',WK 0 (λ t=>if t=0 then bz xs else .top) O e' []/\e' 0=res:=by
  refine key rs _ _ _ (λ xs hp=>⟨λ t=>if t=0 then res else .top,?_,rfl⟩) h;intro I0 L0 O0 w0 I L w f hl hg hr;obtain rfl:O0= []:=List.eq_nil_of_length_eq_zero hl;refine⟨_,L,hg.all,λ t=> ?_⟩;by_cases ht:t=0
  ·subst ht;have h0:=hr 0;simp only[if_true]at h0⊢;exact hp.sound hg.inv h0
  ·simp only[if_neg ht];exact .top _
 rcases hx with rfl|rfl<;>exact this
section
variable {s:SS} {r:List AV}
theorem yE(hl:r.length=s.nv)(hr:AV.ad r=true)(hc:s.cl=true){v:SV}{d:D}(h:apY s v=some d)(hv:v.cl s.nv=true):te (bI s r) (v.ev r) (d.ev r):=by
 unfold apY at h
 split at h
 ·cases h;exact .refl _ (D.bN hr _ (by rw[hl];exact hv))
 ·rename_i n l
  split at h
  ·rename_i jI;cases h;obtain⟨⟨nl,e,sz⟩,hq⟩:=Option.isSome_iff_exists.1 jI;have hn:=cN (D.bN hr l (by rw[hl];exact hv));simp only[SV.ev,D.ev];refine .row n e sz _ ?_ hn;rcases eZ (dZ hq) r with h|⟨h,h',_⟩
   ·exact .inl h
   ·exact .inr ⟨h,h'⟩
  ·cases h
 ·cases h
theorem u5(hl:r.length=s.nv)(hr:AV.ad r=true)(hc:s.cl=true):∀{vs:List SV} {ds:List D},ad4 s vs=some ds->SV.cls s.nv vs=true->vs.length=ds.length/\∀(i:Nat) c d,(SV.a9 r vs)[i]? =some c->(D.a9 r ds)[i]? =some d->te (bI s r) c d
 | [],ds,h,_=>by simp only[ad4,Option.some.injEq]at h;subst h;exact⟨rfl,by simp[SV.a9]⟩
 |v::vs,ds,h,mw=>by
  simp only[ad4]at h
  split at h
  ·rename_i d ds' h1 h2;cases h;simp only[SV.cls,and_eq_true]at mw;obtain⟨k1,k2⟩:=u5 hl hr hc h2 mw.2;refine⟨by simp[k1],λ i c d' hi eE=> ?_⟩;cases i with
   |zero=>
    simp only[SV.a9,D.a9,List.getElem?_cons_zero,Option.some.injEq]at hi eE;subst hi;subst eE;exact yE hl hr hc h1 mw.1
   |succ i=>exact k2 i c d' (by simpa [SV.a9]using hi) (by simpa [D.a9]using eE)
  ·cases h
theorem agu(hl:r.length=s.nv)(hr:AV.ad r=true)(hc:s.cl=true){v:SV}{d:D}(h:atQ s v=some d)(hv:v.cl s.nv=true):te (bI s r) (v.ev r) (d.ev r):=by
 unfold atQ at h
 split at h
 ·rename_i cs;simp only[map_eq_some_iff]at h;obtain⟨ds,h1,rfl⟩:=h;obtain⟨k1,k2⟩:=u5 hl hr hc h1 hv;exact .agg _ _ (by simp[SV.aT,D.aT,k1]) k2
 ·exact yE hl hr hc h hv
theorem u6(hl:r.length=s.nv)(hr:AV.ad r=true)(hc:s.cl=true):∀{rs:List dO} {ds:List D},yF s rs=some ds->∀(acc:List AV) (M:List AV->Prop),
  (∀xs:List AV,xs.length=ds.length->(∀(i:Nat) c d,xs[i]? =some c->(D.a9 r ds)[i]? =some d->te (bI s r) c d)->M (acc.reverse++xs))->dQ (b7 s r) (bI s r) rs acc M
 | [],ds,h,acc,M,hM=>by
   simp only[yF,Option.some.injEq]at h;subst h;have:=hM [] rfl (by simp);simpa [dQ]using this
 |q::rs,ds,h,acc,M,hM=>by
  simp only[yF]at h
  split at h
  ·rename_i v hv
   split at h
   ·rename_i d ds' h1 h2;cases h
    have cont:∀{x:AV},x=v.ev r->v.cl s.nv=true->dQ (b7 s r) (bI s r) rs (x::acc) M:=by
     rintro x rfl mw;refine u6 hl hr hc h2 _ _ λ xs hlen hx=> ?_
     have:=hM (v.ev r::xs) (by simp[hlen]) (λ i c d' hi eE=> ?_)
     ·simpa using this
     ·cases i with
      |zero=>
       simp only[D.a9,List.getElem?_cons_zero,Option.some.injEq]at hi eE;subst hi;subst eE;exact agu hl hr hc h1 mw
      |succ i=>exact hx i c d' (by simpa using hi) (by simpa [D.a9]using eE)
    cases q with
    |tmp t=>
     simp only[aac,Option.some.injEq]at hv;subst hv;exact cont rfl (SS.oI hc t)
    |cell t n=>
     simp only[aac]at hv
     split at hv
     ·rename_i k hk
      split at hv
      ·rename_i e cs hb;have mf:=jm hb;have aAi:SV.cls s.nv cs=true:=SS.rY hc (mem_of_getElem? mf);simp only[dQ,dO.get,b7,hk,SV.ev];rw[fV mf r];simp only[SO.ev]
       split at hv
       ·cases hv
       ·rename_i m
        split at hv
        ·rename_i hm;cases hv;have hx:lH (SV.a9 r cs)= .agg (SV.a9 r cs):=eJ (by rw[SV.aT];simpa [hm.1]using hm.2);rw[hx];refine⟨by simp[AV.cells,SV.aT,hm.1],?_⟩;rw[pC rfl (by simp[AV.cells,SV.aT,hm.1])];exact cont rfl aAi
        ·cases hv
      ·cases hv
     ·cases hv
   ·cases h
  ·cases h
end
def atP(rs:List dO)(x:AX)(s:SS):Option T:=
 match x with
 | .exit _=>none
 |_=>if s.cl=true then(yF s rs).map .ret else none
def nT.left(fl:List Nat)(A:nT):Option T:=
 match xC 0 fl A.weaken.code (oE A.dX)with
 |some t=>t.fill (atP A.res) 0
 |none=>none
theorem apX{rs:List dO}{s:SS}{r:List AV}{ds:List D}(hl:r.length=s.nv)(hr:AV.ad r=true)(hc:s.cl=true)(h:yF s rs=some ds){x:AX}(hx:x= .ret∨x= .normal):n7 0 rs (bz (D.a9 r ds)) [] x (b7 s r) (bI s r):=by
 refine akI hx (u6 hl hr hc h [] _ λ xs hlen nU=> ?_);simp only[reverse_nil,nil_append];by_cases h1:ds.length=1
 ·obtain⟨d,rfl⟩:=List.length_eq_one_iff.1 h1;obtain⟨a,rfl⟩:=List.length_eq_one_iff.1 (hlen.trans h1);exact nU 0 a (d.ev r) rfl rfl
 ·have p1:bz xs= .ba xs:=by
    unfold bz;split
    ·simp at hlen;omega
    ·rfl
  have p2:bz (D.a9 r ds)= .ba (D.a9 r ds):=by
   unfold bz;split
   ·rename_i h2;have:=congrArg List.length h2;rw[D.aT]at this;simp at this;omega
   ·rfl
  rw[p1,p2];exact .ba _ _ (by rw[D.aT];simpa using hlen) nU
theorem ane{f:FuncId}{A:nT}{fl:List Nat}{t:T}(hf:vf P f A)(ht:A.left fl=some t){args:List AV}(hl:args.length=A.dX)(hn:AV.ad args=true){res:AV}
  (h:bF P (λ _ _ _=>False) (λ a=>a=res) t args []):a7 P f args res:=by
 refine ik (hf.weaken) hl ?_;unfold nT.left at ht
 split at ht
 ·rename_i t0 h0;have hw:=u7 ht h;have hs:=wC (P:=P) (fl:=fl) (nT.weaken A).code (s:=oE A.dX) h0 (r:=args) hl hn hw (Q:=n7 0 A.res res []) λ x s r hL hm=> ?_
  ·obtain⟨e',O',vN,hc⟩:=hs;refine⟨e',O',?_,hc⟩;refine WK.trans ?_ vN;have he:bI (oE A.dX) args= []:=rfl;rw[he,←hl];exact WK.env (ad7 args)
  ·obtain⟨t2,e2,w2⟩:=hL
   have key:(x= .ret∨x= .normal)/\s.cl=true/\∃ds,yF s A.res=some ds/\t2= .ret ds:=by
    cases x with
    |exit i=>cases e2
    |ret=>
     simp only[atP]at e2
     split at e2
     ·rename_i hc;simp only[map_eq_some_iff]at e2;obtain⟨ds,h1,h2⟩:=e2;exact⟨.inl rfl,hc,ds,h1,h2.symm⟩
     ·cases e2
    |normal=>
     simp only[atP]at e2
     split at e2
     ·rename_i hc;simp only[map_eq_some_iff]at e2;obtain⟨ds,h1,h2⟩:=e2;exact⟨.inr rfl,hc,ds,h1,h2.symm⟩
     ·cases e2
   obtain⟨hx,hc,ds,h1,rfl⟩:=key;simp only[bF]at w2;subst w2;exact apX hm.len hm.nor hc h1 hx
 ·cases ht
theorem aii{t k ty z:Nat}{nl:Bool}{xs:List AV}{x:AX}(hx:x= .ret∨x= .normal){e:Env}{O:List ae}(he:e t= .row k xs.length)(hk:O[k]? =some (cK nl ty z xs))(hn:AV.ad xs=true):
  n7 0 [.tmp t] (.row 0 xs.length) [cK nl ty z xs] x e O:=by
 have:dQ e O [.tmp t] [] λ gZ=>∃e',WK 0 (λ t=>if t=0 then bz gZ else .top) O e' [cK nl ty z xs]/\e' 0= .row 0 xs.length:=by
  simp only[dQ,dO.get,reverse_cons,reverse_nil,nil_append,bz,he];refine⟨λ t=>if t=0 then .row 0 xs.length else .top,.select (λ n=>if n=0 then k else k+n) (λ i hi=> ?_) (λ i j hi hj _=> ?_) (λ ob ho=> ?_) (λ t=> ?_),rfl⟩
  ·simp at hi;subst hi;simp[hk,aaa hn]
  ·simp at hi hj;omega
  ·simp at ho;subst ho;unfold cK
   split
   ·rfl
   ·exact dg xs hn
  ·by_cases ht:t=0
   ·subst ht;exact .inr ⟨rfl,rfl⟩
   ·exact .inl (by simp[ht])
 rcases hx with rfl|rfl<;>exact this
theorem aij{t ty z:Nat}{x:AX}(hx:x= .ret∨x= .normal){e:Env}{O:List ae}(he:e t= .aw):n7 0 [.tmp t] (.row 0 0) [cK true ty z []] x e O:=by
 have mf:cK true ty z []= .nil ty z:=by simp[cK]
 have:dQ e O [.tmp t] [] λ gZ=>∃e',WK 0 (λ t=>if t=0 then bz gZ else .top) O e' [cK true ty z []]/\e' 0= .row 0 0:=by
  simp only[dQ,dO.get,reverse_cons,reverse_nil,nil_append,bz,he]
  have w1:WK 0 (λ t=>if t=0 then .aw else .top) O (λ t=>if t=0 then .row O.length 0 else .top) (O++ [.nil ty z]):=by
   refine WK.xB ty z (by simp) (by simp) (λ m hm=> .inl (getElem?_append_left hm)) λ t=> ?_
   by_cases ht:t=0
   ·subst ht;exact .inr ⟨rfl,rfl⟩
   ·exact .inl (by simp[ht])
  refine⟨λ t=>if t=0 then .row 0 0 else .top,w1.trans (.select (λ n=>O.length+n) (λ i hi=> ?_) (λ i j hi hj _=> ?_) (λ ob ho=> ?_) (λ t=> ?_)),rfl⟩
  ·simp at hi;subst hi;simp[mf,ae.bU]
  ·simp at hi hj;omega
  ·simp at ho;subst ho;rw[mf];rfl
  ·by_cases ht:t=0
   ·subst ht;exact .inr ⟨rfl,rfl⟩
   ·exact .inl (by simp[ht])
 rcases hx with rfl|rfl<;>exact this
def acj(nl:Bool)(e m:Nat)(s:SS):List dO->Option D
 | [.tmp t]=>match lk s.env t with
   | .row n l=>match cur s n l with
     |some (nl',e',m')=>if nl'=nl/\e'=e/\m'=m then some l else none
     |none=>none
   | .d (.c .aw)=>if nl=true then some (.c (.sl []))else none
   |_=>none
 |_=>none
def amV(nl:Bool)(e m:Nat)(rs:List dO)(x:AX)(s:SS):Option T:=
 match x with
 | .exit _=>none
 |_=>if s.cl=true then(acj nl e m s rs).map λ l=> .ret [.sl l]else none
def nT.sG(fl:List Nat)(nl:Bool)(e m:Nat)(A:nT):Option T:=
 match xC 0 fl A.weaken.code (oE A.dX)with
 |some t=>t.fill (amV nl e m A.res) 0
 |none=>none
theorem apW{nl:Bool}{e m:Nat}{rs:List dO}{s:SS}{r:List AV}{l:D}{xs:List AV}(hl:r.length=s.nv)(hr:AV.ad r=true)(hc:s.cl=true)(h:acj nl e m s rs=some l)(hx:aY (l.ev r)=xs){x:AX}(hxx:x= .ret∨x= .normal):
  n7 0 rs (.row 0 xs.length) [cK nl e m xs] x (b7 s r) (bI s r):=by
 unfold acj at h
 split at h
 ·rename_i t
  split at h
  ·rename_i n l' hlk
   split at h
   ·rename_i nl' e' m' jI
    split at h
    ·rename_i heq;cases h;obtain⟨rfl,rfl,rfl⟩:=heq;have mw:=SS.oI hc t;rw[hlk]at mw;have hn:=cN (D.bN hr l (by rw[hl];exact mw));subst hx;refine aii hxx (k:=n) ?_ ?_ hn
     ·simp only[b7,hlk,SV.ev]
     ·rw[fV (dZ jI) r,nC]
    ·cases h
   ·cases h
  ·rename_i hlk
   split at h
   ·rename_i hnl;cases h;subst hnl;simp only[D.ev,aY]at hx;subst hx;exact aij hxx (by simp only[b7,hlk];rfl)
   ·cases h
  ·cases h
 ·cases h
theorem ajq{f:FuncId}{A:nT}{fl:List Nat}{nl:Bool}{e m:Nat}{t:T}(hf:vf P f A)(ht:A.sG fl nl e m=some t){args:List AV}(hl:args.length=A.dX)(hn:AV.ad args=true){xs:List AV}
  (h:bF P (λ _ _ _=>False) (λ a=>a= .sl xs) t args []):tf P f args nl e m xs:=by
 refine ik (hf.weaken) hl ?_;unfold nT.sG at ht
 split at ht
 ·rename_i t0 h0;have hw:=u7 ht h;have hs:=wC (P:=P) (fl:=fl) (nT.weaken A).code (s:=oE A.dX) h0 (r:=args) hl hn hw (Q:=n7 0 A.res (.row 0 xs.length) [cK nl e m xs]) λ x s r hL hm=> ?_
  ·obtain⟨e',O',vN,hc⟩:=hs;refine⟨e',O',?_,hc⟩;refine WK.trans ?_ vN;have he:bI (oE A.dX) args= []:=rfl;rw[he,←hl];exact WK.env (ad7 args)
  ·obtain⟨t2,e2,w2⟩:=hL
   have key:(x= .ret∨x= .normal)/\s.cl=true/\∃l,acj nl e m s A.res=some l/\t2= .ret [.sl l]:=by
    cases x with
    |exit i=>cases e2
    |ret=>
     simp only[amV]at e2
     split at e2
     ·rename_i hc;simp only[map_eq_some_iff]at e2;obtain⟨ds,h1,h2⟩:=e2;exact⟨.inl rfl,hc,ds,h1,h2.symm⟩
     ·cases e2
    |normal=>
     simp only[amV]at e2
     split at e2
     ·rename_i hc;simp only[map_eq_some_iff]at e2;obtain⟨ds,h1,h2⟩:=e2;exact⟨.inr rfl,hc,ds,h1,h2.symm⟩
     ·cases e2
   obtain⟨hx,hc,l,h1,rfl⟩:=key;simp only[bF,D.a9,bz,D.ev]at w2;exact apW hm.len hm.nor hc h1 (by simpa using w2) hx
 ·cases ht
theorem tf.plain{f:FuncId}{args:List AV}{nl:Bool}{e m:Nat}{xs:List AV}(h:tf P f args nl e m xs)(hn:AV.ad xs=true):a7 P f args (.sl xs):=by
 refine⟨h.1,λ I L w vs hi hr=>(h.2 I L w vs hi hr).mono ?_⟩;rintro ev w' ⟨y,I',L',rfl,hy,hg⟩;refine⟨y,_,L',rfl,?_,hg.all⟩;refine te.sound hg.inv (a:= .row 0 xs.length) ?_ hy;unfold cK
 split
 ·rename_i hx;obtain⟨_,rfl⟩:=hx;exact .row 0 e m [] (.inr ⟨rfl,rfl⟩) rfl
 ·exact .row 0 e m xs (.inl rfl) hn
end
end Go.Ab
namespace Go.Ab
theorem WK.aos{n0:Nat}{e e':Env}{O O1:List ae}(s:Nat->Nat)(hn0:n0<=O1.length)(hid:∀i,i<n0->s i=i)(hg:∀i,i<O1.length->O[s i]? =(O1[i]?).map (ae.bU s))(vQ:∀i j,i<O1.length->j<O1.length->s i=s j->i=j)
  (hsO:∀ob∈O1,ob.inScope O1.length=true) (he:∀t,e' t= .top∨(e t=(e' t).bU s/\(e' t).inScope O1.length=true)):WK n0 e O e' O1:=by
 intro I0 L0 O0 w0 I L w f hl iA hr;have hi:=iA.inv
 have gv:∀{n e k ys},O1[n]? =some (.live e k ys)->O[s n]? =some (.live e k (ys.map (AV.bU s))):=by
  intro n e k ys hn;rw[hg n (List.getElem?_eq_some_iff.1 hn).1,hn];rfl
 have ay9:∀{n e k:Nat},O1[n]? =some (.nil e k)->O[s n]? =some (.nil e k):=by
  intro n e k hn;rw[hg n (List.getElem?_eq_some_iff.1 hn).1,hn];rfl
 have iT:∀{n:Nat} {a:AV},O1[n]? =some (.own a)->O[s n]? =some (.own a):=by
  intro n a hn;rw[hg n (List.getElem?_eq_some_iff.1 hn).1,hn];rfl
 have oz:∀{n:Nat} {g:gr},O1[n]? =some (.dc g)->O[s n]? =some (.dc (g.bU s)):=by
  intro n a hn;rw[hg n (List.getElem?_eq_some_iff.1 hn).1,hn];rfl
 have un:∀{a:AV} {x:Value},R I L O (a.bU s) x->a.inScope O1.length=true->R I (λ n=>L (s n)) O1 a x:=λ hr hsc=>R.akr hg (λ _ _=>rfl) hr _ rfl hsc
 refine⟨I,λ n=>L (s n),⟨⟨hi.j4,λ n e k ys hn=> ?_,λ n n' e k ys e' k' ux hn lz hb=> ?_,λ n e k ys o hn=>hi.dS _ _ _ _ o (gv hn),hi.fix,hi.bh,
  ⟨λ n a hn=>hi.ow.tree _ a (iT hn),λ n a hn=>hi.ow.cell _ a (iT hn),λ n a hn=>hi.ow.j4 _ a (iT hn),λ n a hn b o v hv m e k xs hm=>hi.ow.live _ a (iT hn) b o v hv _ _ _ _ (gv hm),
   λ n m a c hn hm b o o' v v' hv jO=>vQ _ _ (List.getElem?_eq_some_iff.1 hn).1 (List.getElem?_eq_some_iff.1 hm).1 (hi.ow.sep _ _ a c (iT hn) (iT hm) b o o' v v' hv jO),λ n a hn=>hi.ow.deep _ a (iT hn)⟩,
  ⟨λ n g hn=>(hi.gh.ok _ _ (oz hn)).un (λ _ _ hr hsc=>un hr hsc) (hsO _ (mem_of_getElem? hn)),λ n m a c hn hm hb=>vQ _ _ (List.getElem?_eq_some_iff.1 hn).1 (List.getElem?_eq_some_iff.1 hm).1 (hi.gh.sep _ _ _ _ (oz hn) (oz hm) hb)⟩⟩,⟨iA.ext.j4,by omega,λ n hn e k xs hx=> ?_,λ n hn e k hx=> ?_,λ n hn a hx=>by
   have h1:=iT hx;have hs:=hid n (by omega);rw[hs]at h1;obtain⟨q1,q2⟩:=iA.ext.own n hn a h1;exact⟨q1,by show(L (s n)).val=_;rw[hs];exact q2⟩,λ n hn a hx=>by
   have h1:=oz hx;have hs:=hid n (by omega);rw[hs]at h1;obtain⟨⟨q,q0,q1⟩,q2⟩:=iA.ext.dc n hn _ h1;exact⟨⟨q,q0,by rw[q1,gr.xf]⟩,by show(L (s n)).bh=_;rw[hs];exact q2⟩⟩,iA.pa,?_,iA.iz⟩,λ t=> ?_⟩
 ·obtain⟨c,⟨kR,q1,dE⟩,q2,q3,q4,q5,q6⟩:=hi.obj _ _ _ _ (gv hn);refine⟨c,⟨kR,q1,dE⟩,q2,by simpa using q3,q4,q5,λ i x hx=> ?_⟩;have jH:(ys.map (AV.bU s))[i]? =some (x.bU s):=by rw[getElem?_map,hx];rfl
  obtain⟨r1,r2⟩:=q6 i _ jH;rw[ea,length_map]at r1;refine⟨r1,λ j a ha=> ?_⟩;obtain⟨y,hy,ho,o7⟩:=r2 j (a.bU s) (by rw[ea,getElem?_map,ha];rfl);have hbo:=hsO _ (mem_of_getElem? hn);exact⟨y,hy,ho,un o7 (cp (bZ hbo x (mem_of_getElem? hx)) a (mem_of_getElem? ha))⟩
 ·exact vQ _ _ (List.getElem?_eq_some_iff.1 hn).1 (List.getElem?_eq_some_iff.1 lz).1 (hi.sep _ _ _ _ _ _ _ _ (gv hn) (gv lz) hb)
 ·have h1:=gv hx;have hs:=hid n (by omega);rw[hs]at h1;rcases iA.ext.obj n hn e k _ h1 with⟨zs,z1,z2,z3⟩|⟨z1,z2⟩
  ·exact .inl ⟨zs,z1,by simpa using z2,λ he=>by show L (s n)=_;rw[hs];exact z3 (by simpa using he)⟩
  ·exact .inr ⟨z1,by simpa using z2⟩
 ·have h1:=ay9 hx;rw[hid n (by omega)]at h1;exact iA.ext.nil n hn e k h1
 ·rintro b (⟨n,e,k,xs,hn,hb⟩|⟨n,a,o,v,hn,hb⟩|⟨n,a,hn,hb⟩)
  ·exact iA.lb b (.inl ⟨s n,_,_,_,gv hn,hb⟩)
  ·exact iA.lb b (.inr (.inl ⟨s n,a,o,v,iT hn,hb⟩))
  ·exact iA.lb b (.inr (.inr ⟨s n,_,oz hn,hb⟩))
 ·rcases he t with h|⟨h,h'⟩
  ·rw[h];exact .top _
  ·have:=hr t;rw[h]at this;exact un this h'
section
variable {P:Program}
theorem abB{r:List AV}{v:SV}{d:D}(h:afB v=some d):d.ev r=v.ev r:=by
 unfold afB at h
 split at h
 ·cases h;rfl
 ·rename_i cs;simp only[map_eq_some_iff]at h;obtain⟨ds,h1,rfl⟩:=h;rw[s7 h1];simp only[D.ev,SV.ev,qp]
 ·cases h;rfl
 ·cases h
theorem tD(r:List AV)(p v:SV):(xl p v).ev r=v.ev r:=by
 unfold xl
 split
 ·split
  ·rename_i d hd;simp only[SV.ev,abB hd]
  ·rfl
 ·rfl
theorem aiz(r:List AV)(p v:SV):(abA p v).ev r=v.ev r:=by
 unfold abA
 split
 ·rename_i ps vs;simp only[SV.ev,SV.aT,map_map];congr 1;apply ext_getElem
  ·simp
  ·intro i h1 h2;simp only[getElem_map,getElem_range,Function.comp_apply,tD];simp only[length_map]at h2;simp only[List.getD,getElem?_eq_getElem h2,getD_some]
 ·rename_i ps vs;simp only[SV.ev,SV.aT,map_map];congr 1;apply ext_getElem
  ·simp
  ·intro i h1 h2;simp only[getElem_map,getElem_range,Function.comp_apply,tD];simp only[length_map]at h2;simp only[List.getD,getElem?_eq_getElem h2,getD_some]
 ·exact tD r _ _
theorem ail{s:SS}{r:List AV}{a:dO}{v:SV}(h:aac s a=some v){K:AV->Prop}(hk:K (v.ev r)):a.get (b7 s r) (bI s r) K:=by
 unfold aac at h
 split at h
 ·cases h;exact hk
 ·rename_i t n
  split at h
  ·rename_i k hlk
   split at h
   ·rename_i e cs hb
    split at h
    ·cases h
    ·rename_i m
     split at h
     ·rename_i nM;cases h;simp only[dO.get,b7,hlk,SV.ev];rw[fV (jm hb) r];simp only[SO.ev];have hx:lH (SV.a9 r cs)= .agg (SV.a9 r cs):=eJ (by rw[SV.aT];simpa [nM.1]using nM.2);rw[hx];have hlen:(SV.a9 r cs).length=m:=by rw[SV.aT];simpa using nM.1
      refine⟨by simp only[AV.cells,hlen,getD_some];first|exact le_refl _|trivial|done,?_⟩
      have:dG (some m) (.agg (SV.a9 r cs)) 0= .agg (SV.a9 r cs):=by
       show(if 0=0/\(AV.agg (SV.a9 r cs)).isAgg=true/\(AV.agg (SV.a9 r cs)).cells.length=m then _ else _)=_;rw[if_pos ⟨rfl,rfl,by simpa [AV.cells]using hlen⟩]
      rw[this];exact hk
     ·cases h
   ·cases h
  ·cases h
theorem qd{s:SS}{r:List AV}:∀{rs:List dO} {vs:List SV},xe s rs=some vs->∀(acc:List AV) (K:List AV->Prop),K (acc.reverse++SV.a9 r vs)->dQ (b7 s r) (bI s r) rs acc K
 | [],vs,h,acc,K,hk=>by cases h;simpa [dQ,SV.a9]using hk
 |a::rs,vs,h,acc,K,hk=>by
  simp only[xe]at h
  split at h
  ·rename_i v ng h1 h2;cases h;simp only[dQ];refine ail h1 (qd h2 _ _ ?_);simpa [SV.a9]using hk
  ·cases h
theorem xt(r:List AV)(vs:List SV):(uG vs).ev r=bz (SV.a9 r vs):=by
 cases vs with
 |nil=>rfl
 |cons v vs=>cases vs<;>rfl
theorem aiC{l m:List AV}(hl:l.length=m.length)(h:bz l=bz m):l=m:=by
 rcases l with _|⟨a,_|⟨b,l⟩⟩<;>rcases m with _|⟨c,_|⟨d,m⟩⟩<;>simp[bz]at h hl⊢<;>exact h
def amQ(g:gK)(s:SS)(vs:List SV):SS:=
 let s2:SS:={s with env:=[(0,uG vs)]}
 (List.zip (match g.res with| .ba ps=>ps|p=>[p]) vs).foldl (λ (s:SS) (q:SV×SV)=>match q.1 with
  | .d _=>oU s q.2
  |_=>s) s2
def qo(g:gK)(rs:List dO)(s:SS):Option (List D×List Nat):=
 match xe s rs with
 |some vs=>pK g [.tmp 0] (amQ g s vs)
 |none=>none
def av7(ai:List SO)(ps cs:List SV):Option (Nat×Nat×Nat):=
 (List.range cs.length).findSome? λ j=>match ps.getD j .top,cs[j]? with
  | .row n _,some (.d (.c .aw))=>match ai.getD n .dead with
    | .row true e m _=>some (j,e,m)
    |_=>none
  |_,_=>none
def afS(s:SS)(f:List SV->SV)(cs:List SV)(j e m:Nat):SS:={s with env:=[(0,f (cs.set j (.row s.ai.length (.c (.sl [])))))],ai:=s.ai++ [.row true e m (.c (.sl []))]}
def ack(g:gK)(s:SS)(f:List SV->SV)(ps cs:List SV):Option (List D×List Nat):=
 match av7 g.cG ps cs with
 |some (j,e,m)=>match cs[j]? with
  |some (.d (.c .aw))=>pK g [.tmp 0] (afS s f cs j e m)
  |_=>none
 |none=>none
def qn(g:gK)(rs:List dO)(s:SS):Option (List D×List Nat):=
 match xe s rs with
 |some vs=>match g.res,uG vs with
  | .agg ps,.agg cs=>ack g s .agg ps cs
  | .ba ps,.ba cs=>ack g s .ba ps cs
  |_,_=>none
 |none=>none
def amU(g:gK)(rs:List dO)(x:AX)(s:SS):Option T:=
 match x with
 | .exit _=>none
 |_=>match pK g rs s with
  |some (τ,_)=>some (.ret τ)
  |none=>match qo g rs s with
   |some (τ,_)=>some (.ret τ)
   |none=>match qn g rs s with
    |some (τ,_)=>some (.ret τ)
    |none=>some (.aJ .no (.ret []))
def nT.soft(A:nT):nT:={A with code:= .ku A.code}
theorem vf.soft{f:FuncId}{A:nT}(h:vf P f A):vf P f A.soft:=by
 obtain⟨fn,code,h1,h2,h3,h4,h5,h6,h7⟩:=h;exact⟨fn,code,h1,h2,h3,h4,h5,h6,h7⟩
def nT.jF(fl:List Nat)(g:gK)(A:nT):Option T:=
 if g.ok=true/\g.args.length=A.dX then
  match(xC g.ai.length fl A.weaken.code (kJ g)).bind λ t=>t.fill (amU g A.res) 0 with
  |some t=>some t
  |none=>(xC g.ai.length fl A.soft.code (kJ g)).bind λ t=>t.fill (amU g A.res) 0
 else none
theorem aci{g:gK}{rs:List dO}{s1:SS}{τ:List D}{dr:List Nat}(h:pK g rs s1=some (τ,dr)){r:List AV}(hl1:r.length=s1.nv)(hr:AV.ad r=true){x:AX}(hx:x= .ret∨x= .normal):
  τ.length=g.m/\n7 g.ai.length rs (g.res.ev (D.a9 r τ)) (g.cG.map (SO.ev (D.a9 r τ))) x (b7 s1 r) (bI s1 r):=by
 unfold pK at h
 ·split at h
  ·cases h
  ·rename_i vs nh
   split at h
   ·cases h
   ·rename_i τ' an4 aBH
    split at h
    ·rename_i nM;simp only[Option.some.injEq,Prod.mk.injEq]at h;obtain⟨rfl,rfl⟩:=h;obtain⟨c1,c2,c3,c4,c5,c6,c7,c8,c9⟩:=nM;refine⟨c8,?_⟩;simp only[gK.ok,and_eq_true,decide_eq_true_eq]at c2;obtain⟨⟨⟨⟨p1,p2⟩,p3⟩,p4⟩,p5⟩:=c2;have o6:AV.ad (D.a9 r τ')=true:=D.cW hr τ' (by rw[hl1];exact c9);generalize zH:yG s1 an4=σ at*
     have rT:∀i,i<g.cG.length->∃n,an4[i]? =some n/\σ i=n:=by
      intro i hi;have eE:i<an4.length:=by omega
      refine⟨an4[i],getElem?_eq_getElem eE,?_⟩;rw[←zH];simp only[yG,if_pos eE,List.getD,getElem?_eq_getElem eE,getD_some]
     have hO2:(g.cG.map (SO.ev (D.a9 r τ'))).length=g.cG.length:=by simp
     have sT:dQ (b7 s1 r) (bI s1 r) rs [] λ xs=>∃e',WK g.ai.length (λ t=>if t=0 then bz xs else .top) (bI s1 r) e' (g.cG.map (SO.ev (D.a9 r τ')))/\e' 0=g.res.ev (D.a9 r τ'):=by
      refine qd nh _ _ ?_;simp only[reverse_nil,nil_append];refine⟨λ t=>if t=0 then g.res.ev (D.a9 r τ')else .top,.aos σ (by rw[hO2];exact p5) (λ i hi=> ?_) (λ i hi=> ?_) (λ i j hi hj he=> ?_) (λ ob ho=> ?_) (λ t=> ?_),rfl⟩
      ·have:=List.all_eq_true.1 c6 i (by simpa using hi);simpa using this
      ·rw[hO2]at hi;have hp:g.cG[i]? =some g.cG[i]:=getElem?_eq_getElem hi;have h1:=mQ c7 i _ hp;rw[zero_add]at h1;simp only[bI,getElem?_map,h1,hp,map_some];rw[sM o6 _ (List.all_eq_true.1 p3 _ (mem_of_getElem? hp))]
      ·rw[hO2]at hi hj;obtain⟨n,a1,a2⟩:=rT i hi;obtain⟨m,b1,b2⟩:=rT j hj;rw[a2,b2]at he;subst he;exact oe c5 a1 b1
      ·rw[hO2];obtain⟨o,hom,rfl⟩:=List.mem_map.1 ho;exact ahg o6 o (List.all_eq_true.1 p3 _ hom)
      ·by_cases ht:t=0
       ·subst ht;refine .inr ⟨?_,?_⟩
        ·simp only[if_pos];rw[←xt,←aiz r g.res,←SV.beq_eq _ _ c3,abQ o6 _ p4]
        ·simp only[if_pos];rw[hO2];cases hgr:g.res with
         |ba cs=>
          rw[hgr]at p4;simp only[SV.zu]at p4;exact sv o6 cs p4
         |agg cs=>
          rw[hgr]at p4;simp only[SV.zu]at p4;exact sv o6 cs p4
         |_=>
          rw[hgr]at p4;exact ak5 (n:=g.m) o6 _ (by simpa only[SV.zu]using p4)
       ·exact .inl (by simp[ht])
     rcases hx with rfl|rfl<;>exact sT
    ·cases h
theorem ajl{n0:Nat}(g:gK)(s:SS)(vs:List SV):Wk n0 {s with env:=[(0,uG vs)]} (amQ g s vs):=
 gw (λ s q=>by
  split
  ·exact gX _ _
  ·exact .refl _ _) _ _
theorem amT{g:gK}{rs:List dO}{s1:SS}{τ:List D}{dr:List Nat}(h:qo g rs s1=some (τ,dr)){r:List AV}(hl1:r.length=s1.nv)(hr:AV.ad r=true){x:AX}(hx:x= .ret∨x= .normal):
  τ.length=g.m/\n7 g.ai.length rs (g.res.ev (D.a9 r τ)) (g.cG.map (SO.ev (D.a9 r τ))) x (b7 s1 r) (bI s1 r):=by
 unfold qo at h
 split at h
 ·rename_i vs nh;have hw:=ajl (n0:=g.ai.length) g s1 vs;obtain⟨h1,h2⟩:=aci h (r:=r) (hl1.trans hw.1.symm) hr (x:= .ret) (.inl rfl);refine⟨h1,?_⟩;have h3:=hw.2 r hl1 hr;simp only[n7,dQ,dO.get,reverse_cons,reverse_nil,nil_append,bz]at h2;obtain⟨e',h4,h5⟩:=h2
  have sT:dQ (b7 s1 r) (bI s1 r) rs [] λ xs=>∃e',WK g.ai.length (λ t=>if t=0 then bz xs else .top) (bI s1 r) e' (g.cG.map (SO.ev (D.a9 r τ)))/\e' 0=g.res.ev (D.a9 r τ):=by
   refine qd nh _ _ ?_;simp only[reverse_nil,nil_append];refine⟨e',?_,h5⟩
   have e1:(λ t=>if t=0 then bz (SV.a9 r vs)else .top)=b7 {s1 with env:=[(0,uG vs)]} r:=by
    funext t
    simp only[b7,lk];by_cases ht:t=0
    ·simp only[if_pos ht,xt]
    ·simp only[if_neg ht,SV.ev]
   rw[e1];refine WK.trans h3 (WK.trans (WK.env λ t=> ?_) h4);by_cases ht:t=0
   ·right;subst ht;rfl
   ·left;simp only[if_neg ht]
  rcases hx with rfl|rfl<;>exact sT
 ·cases h
theorem WK.aAN{n0:Nat}{e e':Env}{O:List ae}(h:∀(I:dv) (L:Nat->Loc) (t:Nat) (x:Value),R I L O (e t) x->R I L O (e' t) x):WK n0 e O e' O:=
 λ _ _ _ _ I L _ f _ hg hr=>⟨I,L,hg,λ t=>h I L t (f t) (hr t)⟩
theorem aal{I:dv}{L:Nat->Loc}{O:List ae}{r:List AV}{cs:List SV}{vs:Array Value}{j n e m:Nat}(hj:cs[j]? =some (.d (.c .aw)))(hn:O[n]? =some (.nil e m))(q1:(SV.a9 r cs).length=vs.size)
  (q2:∀(i:Nat) (c:AV) (x:Value),(SV.a9 r cs)[i]? =some c->vs[i]? =some x->R I L O c x):
  (SV.a9 r (cs.set j (.row n (.c (.sl []))))).length=vs.size/\∀(i:Nat) (c:AV) (x:Value),(SV.a9 r (cs.set j (.row n (.c (.sl [])))))[i]? =some c->vs[i]? =some x->R I L O c x:=by
 refine⟨by rw[←q1];simp[SV.aT],λ i c x hc hv=> ?_⟩;rw[SV.aT,getElem?_map,getElem?_set]at hc;by_cases hij:j=i
 ·subst hij;have hjl:j<cs.length:=(List.getElem?_eq_some_iff.1 hj).1;simp only[if_true,hjl,map_some,Option.some.injEq,SV.ev,D.ev,aY,length_nil]at hc;subst hc;have:=q2 j .aw x (by rw[SV.aT,getElem?_map,hj];rfl) hv;cases this;exact .fY _ e m hn
 ·rw[if_neg hij]at hc;exact q2 i c x (by rw[SV.aT,getElem?_map];exact hc) hv
theorem ahI{g:gK}{rs:List dO}{s1:SS}{f:List SV->SV}{ps cs vs:List SV}{τ:List D}{dr:List Nat}(nh:xe s1 rs=some vs)(hp:uG vs=f cs)(h:ack g s1 f ps cs=some (τ,dr))
  (hf:∀(I:dv) (L:Nat->Loc) (O:List ae) (r:List AV) (n e m j:Nat) (y:Value),cs[j]? =some (.d (.c .aw))->O[n]? =some (.nil e m)->R I L O ((f cs).ev r) y->R I L O ((f (cs.set j (.row n (.c (.sl []))))).ev r) y)
  {r:List AV} (hl1:r.length=s1.nv) (hr:AV.ad r=true) {x:AX} (hx:x= .ret∨x= .normal):
  τ.length=g.m/\n7 g.ai.length rs (g.res.ev (D.a9 r τ)) (g.cG.map (SO.ev (D.a9 r τ))) x (b7 s1 r) (bI s1 r):=by
 unfold ack at h
 split at h
 ·rename_i j e m hna
  split at h
  ·rename_i hj;obtain⟨h1,h2⟩:=aci h (r:=r) hl1 hr (x:= .ret) (.inl rfl);refine⟨h1,?_⟩;simp only[n7,dQ,dO.get,reverse_cons,reverse_nil,nil_append,bz]at h2;obtain⟨e',h4,h5⟩:=h2
   have sT:dQ (b7 s1 r) (bI s1 r) rs [] λ xs=>∃e',WK g.ai.length (λ t=>if t=0 then bz xs else .top) (bI s1 r) e' (g.cG.map (SO.ev (D.a9 r τ)))/\e' 0=g.res.ev (D.a9 r τ):=by
    refine qd nh _ _ ?_;simp only[reverse_nil,nil_append];refine⟨e',?_,h5⟩
    have hO:bI (afS s1 f cs j e m) r=bI s1 r++ [.nil e m]:=by
     simp only[afS,bI,map_append,map_cons,map_nil,SO.ev,D.ev,aY,if_true]
    have hOl:(bI s1 r).length=s1.ai.length:=dI s1 r;refine WK.trans (WK.xB (e':=λ t=>if t=0 then bz (SV.a9 r vs)else .top) (O':=bI s1 r++ [.nil e m]) e m (by simp) (by rw[getElem?_append_right (by simp)];simp) (λ i hi=> .inl (getElem?_append_left hi)) λ t=> .inl rfl) ?_;rw[←hO];refine WK.trans (e':=λ t=>if t=0 then(f (cs.set j (.row s1.ai.length (.c (.sl []))))).ev r else .top) (WK.aAN λ I L t y hy=> ?_) (WK.trans (WK.env λ t=> ?_) h4)
    ·by_cases ht:t=0
     ·simp only[if_pos ht]at hy⊢;rw[←xt,hp]at hy;exact hf I L _ r s1.ai.length e m j y hj (by rw[hO,←hOl,getElem?_append_right (by simp)];simp) hy
     ·simp only[if_neg ht]at hy⊢;exact .top _
    ·by_cases ht:t=0
     ·right;subst ht;rfl
     ·left;simp only[if_neg ht]
   rcases hx with rfl|rfl<;>exact sT
  ·cases h
 ·cases h
theorem amS{g:gK}{rs:List dO}{s1:SS}{τ:List D}{dr:List Nat}(h:qn g rs s1=some (τ,dr)){r:List AV}(hl1:r.length=s1.nv)(hr:AV.ad r=true){x:AX}(hx:x= .ret∨x= .normal):
  τ.length=g.m/\n7 g.ai.length rs (g.res.ev (D.a9 r τ)) (g.cG.map (SO.ev (D.a9 r τ))) x (b7 s1 r) (bI s1 r):=by
 unfold qn at h
 split at h
 ·rename_i vs nh
  split at h
  ·rename_i ps cs _ hp;refine ahI nh hp h (λ I L O r n e m j y hj hn hy=> ?_) hl1 hr hx;cases hy with
   |agg _ ws q1 q2=>obtain⟨p1,p2⟩:=aal hj hn q1 q2;exact .agg _ ws p1 p2
  ·rename_i ps cs _ hp;refine ahI nh hp h (λ I L O r n e m j y hj hn hy=> ?_) hl1 hr hx;cases hy with
   |ba _ ws q1 q2=>obtain⟨p1,p2⟩:=aal hj hn q1 q2;exact .ba _ ws p1 p2
  ·cases h
 ·cases h
theorem ad8(g:gK)(ins:List AV):∀t,b7 (kJ g) ins t= .top∨b7 (kJ g) ins t=mg (SV.a9 ins g.args) t:=by
 intro t
 have key:∀(n k:Nat),lk ((List.range' k n).map λ i=>(i,g.args.getD i .top)) t= .top∨(t<k+n/\lk ((List.range' k n).map λ i=>(i,g.args.getD i .top)) t=g.args.getD t .top):=by
  intro n
  induction n with
  |zero=>intro k;exact .inl rfl
  |succ n ih=>
   intro k;simp only[List.range'_succ,map_cons,lk]
   split
   ·rename_i h;subst h;exact .inr ⟨by omega,rfl⟩
   ·rcases ih (k+1)with h|⟨h1,h2⟩
    ·exact .inl h
    ·exact .inr ⟨by omega,h2⟩
 have hr:(kJ g).env=(List.range' 0 g.args.length).map λ i=>(i,g.args.getD i .top):=by
  simp only[kJ,List.range_eq_range']
 simp only[b7,hr];rcases key g.args.length 0 with h|⟨h1,h2⟩
 ·rw[h];exact .inl rfl
 ·rw[h2];refine .inr ?_;have ht:t<g.args.length:=by omega
  simp only[mg,SV.aT,List.getD,getElem?_map,getElem?_eq_getElem ht,getD_some,map_some]
theorem wY{f:FuncId}{A:nT}{c:aU}{fl:List Nat}{g:gK}{t0 t:T}(hf:vf P f A)(amz:A.code= .ku c)(hla:g.args.length=A.dX)(h0:xC g.ai.length fl A.code (kJ g)=some t0)(ht:t0.fill (amU g A.res) 0=some t)
  {ins outs:List AV} (hl:ins.length=g.n) (hn:AV.ad ins=true) (ho:outs.length=g.m)
  (h:bF P (λ _ _ _=>False) (λ a=>a=bz outs) t ins []):gA P f g ins outs:=by
 have hla:(SV.a9 ins g.args).length=A.dX:=by rw[SV.aT,length_map];exact hla
 have hlo:(g.ai.map (SO.ev ins)).length=g.ai.length:=by simp
 refine ik hf hla ?_;rw[hlo];have hw:=u7 ht h;rw[amz]at h0⊢;have hs:=wC (P:=P) (n0:=g.ai.length) (fl:=fl) (.ku c) (s:=kJ g) h0 (r:=ins) hl hn hw (Q:=n7 g.ai.length A.res (g.res.ev outs) (g.cG.map (SO.ev outs))) λ x s r hL hm=> ?_
 ·obtain⟨e',O',vN,hc⟩:=hs;refine⟨e',O',WK.trans ?_ vN,hc⟩;exact WK.env (ad8 g ins)
 ·obtain⟨t2,e2,w2⟩:=hL
  have key:(x= .ret∨x= .normal)/\∃τ dr,(pK g A.res s=some (τ,dr)∨qo g A.res s=some (τ,dr)∨qn g A.res s=some (τ,dr))/\t2= .ret τ:=by
   have one:(match pK g A.res s with|some (τ,_)=>some (T.ret τ)|none=>match qo g A.res s with|some (τ,_)=>some (T.ret τ)|none=>match qn g A.res s with|some (τ,_)=>some (T.ret τ)|none=>some (.aJ .no (.ret [])))=some t2->∃τ dr,(pK g A.res s=some (τ,dr)∨qo g A.res s=some (τ,dr)∨qn g A.res s=some (τ,dr))/\t2= .ret τ:=by
    intro e2
    split at e2
    ·rename_i τ dr hfs;cases e2;exact⟨τ,dr,.inl hfs,rfl⟩
    ·split at e2
     ·rename_i τ dr hfs;cases e2;exact⟨τ,dr,.inr (.inl hfs),rfl⟩
     ·split at e2
      ·rename_i τ dr hfs;cases e2;exact⟨τ,dr,.inr (.inr hfs),rfl⟩
      ·cases e2;exact w2.elim
   cases x with
   |exit i=>cases e2
   |ret=>exact⟨.inl rfl,one e2⟩
   |normal=>exact⟨.inr rfl,one e2⟩
  obtain⟨hx,τ,dr,hfs,rfl⟩:=key
  obtain⟨hlen,awH⟩:τ.length=g.m/\n7 g.ai.length A.res (g.res.ev (D.a9 r τ)) (g.cG.map (SO.ev (D.a9 r τ))) x (b7 s r) (bI s r):=by
   rcases hfs with hfs|hfs|hfs
   ·exact aci hfs hm.len hm.nor hx
   ·exact amT hfs hm.len hm.nor hx
   ·exact amS hfs hm.len hm.nor hx
  simp only[bF]at w2;have:D.a9 r τ=outs:=aiC (by rw[D.aT,length_map,hlen,ho]) w2;rw[this]at awH;exact awH
theorem aie{f:FuncId}{A:nT}{fl:List Nat}{g:gK}{t:T}(hf:vf P f A)(ht:A.jF fl g=some t){ins outs:List AV}(hl:ins.length=g.n)(hn:AV.ad ins=true)(ho:outs.length=g.m)
  (h:bF P (λ _ _ _=>False) (λ a=>a=bz outs) t ins []):gA P f g ins outs:=by
 unfold nT.jF at ht
 split at ht
 ·rename_i nM
  split at ht
  ·rename_i t' h1;cases ht;rw[Option.bind_eq_some_iff]at h1;obtain⟨t0,h2,h3⟩:=h1;exact wY hf.weaken rfl nM.2 h2 h3 hl hn ho h
  ·rw[Option.bind_eq_some_iff]at ht;obtain⟨t0,h2,h3⟩:=ht;exact wY hf.soft rfl nM.2 h2 h3 hl hn ho h
 ·cases ht
end
end Go.Ab
