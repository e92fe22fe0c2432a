/- Part of a proof: the functions that the law reaches, walked by the abstract logic of the texts Ab. -/
import Derived.Test.YtfebhekplhjigaaAbM3
open Nat(le_refl zero_add add_zero)
open Bool(and_eq_true false_eq_true)
open Option(map_eq_some_iff map_some getD_some getD_none)
open List(getElem?_append_left all_cons map_congr_left mem_of_getElem? map_cons mem_of_mem_drop mem_of_mem_take cons_append ext_getElem getElem_map getElem_range getElem?_eq_getElem map_map mem_cons map_id append_nil map_append map_nil length_map map_set mem_map map_take map_drop getElem?_map nil_append getElem?_append_right foldl_cons ext_getElem? getElem?_set_ne getElem?_eq_none length_nil getElem?_set reverse_nil reverse_cons)
set_option linter.unusedSimpArgs false
set_option linter.unusedVariables false
namespace Go.Ab
theorem oB{r r':List AV}{i:Nat}(h:i<r.length):(r++r').getD i .top=r.getD i .top:=by
 simp[List.getD,getElem?_append_left h]
mutual
theorem D.cO{r r':List AV}:∀(d:D),d.cl r.length=true->d.ev (r++r')=d.ev r
 | .x i,h=>by simp only[D.cl,decide_eq_true_eq]at h;simp only[D.ev,oB h]
 | .c a,h=>rfl
 | .cell i j,h=>by simp only[D.cl,decide_eq_true_eq]at h;simp only[D.ev,oB h]
 | .ext i j,h=>by simp only[D.cl,decide_eq_true_eq]at h;simp only[D.ev,oB h]
 | .sl l,h=>by simp only[D.cl]at h;simp only[D.ev,D.cO l h]
 | .agg l,h=>by simp only[D.cl]at h;simp only[D.ev,D.fP l h]
 | .fn f l,h=>by simp only[D.cl]at h;simp only[D.ev,D.fP l h]
 | .ip d f,h=>by simp only[D.cl]at h;simp only[D.ev,D.cO d h]
theorem D.fP{r r':List AV}:∀(l:List D),D.cls r.length l=true->D.a8 (r++r') l=D.a8 r l
 | [],_=>rfl
 |d::l,h=>by
  simp only[D.cls,and_eq_true]at h;simp only[D.a8,D.cO d h.1,D.fP l h.2]
end
mutual
theorem SV.cO{r r':List AV}:∀(v:SV),v.cl r.length=true->v.ev (r++r')=v.ev r
 | .d x,h=>D.cO x h
 | .row n l,h=>by simp only[SV.cl]at h;simp only[SV.ev,D.cO l h]
 | .ptr n f,h=>rfl
 | .rp n l i f,h=>by simp only[SV.cl,and_eq_true]at h;simp only[SV.ev,D.cO l h.1,D.cO i h.2]
 | .ip x f,h=>by simp only[SV.cl]at h;simp only[SV.ev,D.cO x h]
 | .agg cs,h=>by simp only[SV.cl]at h;simp only[SV.ev,SV.fP cs h]
 | .a9 cs,h=>by simp only[SV.cl]at h;simp only[SV.ev,SV.fP cs h]
 | .top,h=>rfl
theorem SV.fP{r r':List AV}:∀(l:List SV),SV.cls r.length l=true->SV.a8 (r++r') l=SV.a8 r l
 | [],_=>rfl
 |v::l,h=>by
  simp only[SV.cls,and_eq_true]at h;simp only[SV.a8,SV.cO v h.1,SV.fP l h.2]
end
theorem SO.cO{r r':List AV}(o:SO)(h:o.cl r.length=true):o.ev (r++r')=o.ev r:=by
 cases o with
 |dead=>rfl
 |box e cs=>simp only[SO.ev,SV.fP cs h]
 |row nl e s l=>cases nl<;>simp only[SO.ev,D.cO l h]
theorem asP{n:Nat}:∀{l:List (Nat×SV)},l.all (λ p=>p.2.cl n)=true->∀t,(lk l t).cl n=true
 | [],_,_=>rfl
 |(k,v)::l,h,t=>by
  simp only[all_cons,and_eq_true]at h;simp only[lk]
  split
  ·exact h.1
  ·exact asP h.2 t
theorem SS.ph{s:SS}(h:s.cl=true)(t:Nat):(lk s.env t).cl s.nv=true:=asP (and_eq_true _ _▸h).1 t
theorem SS.sV{s:SS}(h:s.cl=true){o:SO}(ho:o∈s.ai):o.cl s.nv=true:=by
 have:=(and_eq_true _ _▸h:_/\_).2;exact List.all_eq_true.1 this o ho
theorem er{s:SS}{r r':List AV}(hl:r.length=s.nv)(h:s.cl=true):bX s (r++r')=bX s r:=by
 funext t
 exact SV.cO _ (by rw[hl];exact SS.ph h t)
theorem e9{s:SS}{r r':List AV}(hl:r.length=s.nv)(h:s.cl=true):bE s (r++r')=bE s r:=by
 unfold bE;exact map_congr_left λ o ho=>SO.cO o (by rw[hl];exact SS.sV h ho)
theorem gB{l:List AV}(h:AV.ae l=true)(i:Nat):(l.getD i .top).ag=true:=by
 rw[List.getD];cases hi:l[i]? with
 |none=>rfl
 |some a=>exact ba h a (mem_of_getElem? hi)
theorem iG{a:AV}(h:a.ag=true):AV.ae a.cells=true:=by
 cases a<;>first|exact h|(simp only[AV.cells,AV.ae,h];rfl)
theorem cH{a:AV}(h:a.ag=true):AV.ae (aU a)=true:=by
 cases a<;>first|rfl|exact h
theorem ag6{a:AV}(h:a.ag=true)(j:Nat):(amm a j).ag=true:=by
 cases a<;>first|rfl|exact gB (by exact h) j
mutual
theorem D.bK{r:List AV}(hr:AV.ae r=true):∀(d:D),d.cl r.length=true->(d.ev r).ag=true
 | .x i,_=>gB hr i
 | .c a,h=>h
 | .cell i j,_=>gB (iG (gB hr i)) j
 | .ext i j,_=>ag6 (gB hr i) j
 | .sl l,h=>by simp only[D.cl]at h;exact cH (D.bK hr l h)
 | .agg l,h=>by simp only[D.cl]at h;exact D.cR hr l h
 | .fn f l,h=>by simp only[D.cl]at h;exact D.cR hr l h
 | .ip d f,h=>by simp only[D.cl]at h;exact D.bK hr d h
theorem D.cR{r:List AV}(hr:AV.ae r=true):∀(l:List D),D.cls r.length l=true->AV.ae (D.a8 r l)=true
 | [],_=>rfl
 |d::l,h=>by
  simp only[D.cls,and_eq_true]at h;simp only[D.a8,AV.ae,D.bK hr d h.1,D.cR hr l h.2];rfl
end
theorem bF{a b:List AV}:AV.ae (a++b)=(AV.ae a&&AV.ae b):=by
 induction a with
 |nil=>simp[AV.ae]
 |cons x a ih=>simp[AV.ae,ih,Bool.and_assoc]
theorem fL{l:List AV}(h:∀a∈l,a.ag=true):AV.ae l=true:=by
 induction l with
 |nil=>rfl
 |cons x l ih=>simp only[AV.ae,h x (by simp),ih λ a ha=>h a (by simp[ha])];rfl
theorem AV.av8{a b:AV}(h:a.ceq b=true):a=b:=by
 unfold AV.ceq at h
 split at h<;>simp_all
mutual
theorem D.beq_eq:∀(a b:D),a.beq b=true->a=b
 | .x i,b,h=>by cases b<;>simp_all [D.beq]
 | .c a,b,h=>by
   cases b<;>simp_all only[D.beq,false_eq_true]
   rw[AV.av8 h]
 | .cell i j,b,h=>by cases b<;>simp_all [D.beq]
 | .ext i j,b,h=>by cases b<;>simp_all [D.beq]
 | .sl l,b,h=>by
   cases b<;>simp_all only[D.beq,false_eq_true]
   rw[D.beq_eq l _ h]
 | .agg l,b,h=>by
   cases b<;>simp_all only[D.beq,false_eq_true]
   rw[D.mj l _ h]
 | .fn f l,b,h=>by
   cases b<;>simp_all only[D.beq,false_eq_true,and_eq_true,decide_eq_true_eq]
   rw[D.mj l _ h.2]
 | .ip d f,b,h=>by
   cases b<;>simp_all only[D.beq,false_eq_true,and_eq_true,decide_eq_true_eq]
   rw[D.beq_eq d _ h.1]
theorem D.mj:∀(a b:List D),D.lH a b=true->a=b
 | [],[],_=>rfl
 |a::as,b::bs,h=>by
  simp only[D.lH,and_eq_true]at h;rw[D.beq_eq a b h.1,D.mj as bs h.2]
 | [],_::_,h=>by simp[D.lH]at h
 |_::_,[],h=>by simp[D.lH]at h
end
mutual
theorem SV.beq_eq:∀(a b:SV),a.beq b=true->a=b
 | .d x,b,h=>by
   cases b<;>simp_all only[SV.beq,false_eq_true]
   rw[D.beq_eq x _ h]
 | .row n l,b,h=>by
   cases b<;>simp_all only[SV.beq,false_eq_true,and_eq_true,decide_eq_true_eq]
   rw[D.beq_eq l _ h.2]
 | .ptr n f,b,h=>by cases b<;>simp_all [SV.beq]
 | .rp n l i f,b,h=>by
   cases b<;>simp_all only[SV.beq,false_eq_true,and_eq_true,decide_eq_true_eq]
   rw[D.beq_eq l _ h.1.1.2,D.beq_eq i _ h.1.2]
 | .ip x f,b,h=>by
   cases b<;>simp_all only[SV.beq,false_eq_true,and_eq_true,decide_eq_true_eq]
   rw[D.beq_eq x _ h.1]
 | .agg l,b,h=>by
   cases b<;>simp_all only[SV.beq,false_eq_true]
   rw[SV.mj l _ h]
 | .a9 l,b,h=>by
   cases b<;>simp_all only[SV.beq,false_eq_true]
   rw[SV.mj l _ h]
 | .top,b,h=>by cases b<;>simp_all [SV.beq]
theorem SV.mj:∀(a b:List SV),SV.lH a b=true->a=b
 | [],[],_=>rfl
 |a::as,b::bs,h=>by
  simp only[SV.lH,and_eq_true]at h;rw[SV.beq_eq a b h.1,SV.mj as bs h.2]
 | [],_::_,h=>by simp[SV.lH]at h
 |_::_,[],h=>by simp[SV.lH]at h
end
theorem SO.beq_eq{a b:SO}(h:a.beq b=true):a=b:=by
 cases a<;>cases b<;>simp_all only[SO.beq,false_eq_true,and_eq_true,decide_eq_true_eq]
 ·rw[SV.mj _ _ h.2]
 ·rw[D.beq_eq _ _ h.2]
theorem akL{l:List (Nat×SV)}{t k:Nat}(h:k≠t):lk (l.filter λ p=>p.1 !=t) k=lk l k:=by
 induction l with
 |nil=>rfl
 |cons p l ih=>
  obtain⟨q,v⟩:=p;simp only[List.filter_cons];by_cases hq:q=t
  ·subst hq;simp only[bne_self_eq_false,false_eq_true,if_false,lk,if_neg h,ih]
  ·simp only[bne_iff_ne,ne_eq,hq,not_false_eq_true,if_true,lk,ih]
theorem xu(s:SS)(t:Nat)(v:SV)(r:List AV):bX (s.set t v) r=(bX s r).set t (v.ev r):=by
 funext k
 simp only[bX,SS.set,lk,Env.set]
 split
 ·rfl
 ·rename_i h;rw[akL h]
theorem n9(s:SS)(d:Option Nat)(v:SV)(r:List AV):bX (s.bO d v) r=bO (bX s r) d (v.ev r):=by
 cases d with
 |none=>rfl
 |some t=>exact xu s t v r
theorem n8(s:SS)(d:Option Nat)(v:SV)(r:List AV):bE (s.bO d v) r=bE s r:=by cases d<;>rfl
theorem qU(s:SS)(d:Option Nat)(v:SV):(s.bO d v).nv=s.nv:=by cases d<;>rfl
theorem aT(s:SS)(x:aI)(r:List AV):(cP s x).ev r=x.ev (bX s r):=by cases x<;>rfl
theorem uW{f:SV->SV}(hf:f .top= .top):∀(l:List (Nat×SV)) (t:Nat),lk (l.map λ p=>(p.1,f p.2)) t=f (lk l t)
 | [],t=>hf.symm
 |(k,v)::l,t=>by
  simp only[map_cons,lk]
  split
  ·rfl
  ·exact uW hf l t
end Go.Ab
namespace Go.Ab
def jM(P:Program):List Node->List AV->(List AV->Prop)->Prop
 | [],r,K=>K r
 | .op o::ns,r,K=>o.wp P r λ v=>jM P ns (r++ [v]) K
 | .aL c::ns,r,K=>c.wp r (jM P ns r K)
section
variable {P:Program}
theorem pX{L:AX->SS->List AV->Prop}{R:AV->Prop}{t:T}{S:List (List AV->Prop)}:∀(ns:List Node) (r:List AV),bD P L R (wrap ns t) r S=jM P ns r λ r'=>bD P L R t r' S
 | [],r=>rfl
 | .op o::ns,r=>by simp only[wrap,bD,jM,pX ns]
 | .aL c::ns,r=>by simp only[wrap,bD,jM,pX ns]
theorem uO{c a b:AV}{O O':List ad}{K K':KT}(h:pw c a b O K)(hk:∀x,K x O->K' x O'):pw c a b O' K':=by
 unfold pw at*;split at h<;>first|exact hk _ h|exact h.elim
theorem aan{op:BinOp}{a b:AV}{O O':List ad}{K K':KT}(h:eT op a b O K)(hk:∀x,(∃v,x= .v v)->K x O->K' x O'):eT op a b O' K':=by
 unfold eT at*;split at h
 ·split at h<;>first|exact hk _ ⟨_,rfl⟩ h|exact h.elim
 ·exact h.elim
theorem acA{op:UnOp}{a:AV}{O O':List ad}{K K':KT}(h:unK op a O K)(hk:∀x,(∃v,x= .v v)->K x O->K' x O'):unK op a O' K':=by
 unfold unK at*;split at h
 ·split at h<;>first|exact hk _ ⟨_,rfl⟩ h|exact h.elim
 ·exact h.elim
theorem vw{k:IntKind}{a:AV}{O O':List ad}{K K':KT}(h:wj k a O K)(hk:∀x,(∃v,x= .v v)->K x O->K' x O'):wj k a O' K':=by
 unfold wj at*;split at h<;>first|exact hk _ ⟨_,rfl⟩ h|exact h.elim
theorem nE{n:Option Nat}{a:AV}{f:Nat}(h:a.ag=true):(dI n a f).ag=true:=by
 unfold dI
 split
 ·exact gB (iG h) f
 ·split
  ·exact h
  ·exact fL λ x hx=>ba (iG h) x (mem_of_mem_drop (mem_of_mem_take hx))
theorem afP{off:Nat}{n:Option Nat}{a:AV}{O O':List ad}{K K':KT}(h:alj off n a O K)(hk:∀x,(a.ag=true->x.ag=true)->K x O->K' x O'):alj off n a O' K':=
 ⟨h.1,h.2.1,hk _ nE h.2.2⟩
theorem vf{a i:AV}{O O':List ad}{K K':KT}(h:v8 a i O K)(hk:∀x,(∃v,x= .v v)->K x O->K' x O'):v8 a i O' K':=by
 unfold v8 at*;split at h<;>first|exact⟨h.1,h.2.1,hk _ ⟨_,rfl⟩ h.2.2⟩|exact h.elim
theorem uY{a:AV}{O O':List ad}{K K':KT}(h:vV a O K)(hk:∀x,(∃v,x= .v v)->K x O->K' x O'):vV a O' K':=by
 unfold vV at*;split at h<;>first|exact hk _ ⟨_,rfl⟩ h|exact h.elim
theorem xH{d:Int}{x:Option AV}{M M':Int->Prop}(h:bnd d x M)(hm:∀i,M i->M' i):bnd d x M':=by
 unfold bnd at*;split at h<;>first|exact hm _ h|exact h.elim
theorem qe{a:AV}{lo hi:Option AV}{O O':List ad}{K K':KT}(h:lV a lo hi O K)(hk:∀x,(∃v,x= .v v)->K x O->K' x O'):lV a lo hi O' K':=by
 unfold lV at*;split at h
 ·exact xH h λ l hl=>xH hl λ h' hh=>⟨hh.1,hh.2.1,hh.2.2.1,hk _ ⟨_,rfl⟩ hh.2.2.2⟩
 ·exact h.elim
theorem qg{s:Nat}{a:AV}{lo hi:Option AV}{O O':List ad}{K K':KT}(h:lW s a lo hi O K)(hk:∀x,(a.ag=true->x.ag=true)->K x O->K' x O'):lW s a lo hi O' K':=by
 unfold lW at*;split at h
 ·rename_i xs;exact xH h λ l hl=>xH hl λ h' hh=>⟨hh.1,hh.2.1,hh.2.2.1,hh.2.2.2.1,hk _ (λ hn=>fL λ x hx=>ba (by exact hn) x (mem_of_mem_take (mem_of_mem_drop hx))) hh.2.2.2.2⟩
 ·exact h.elim
theorem abV{a:AV}{O':List ad}{K K':KT}(h:mM a [] K)(hk:∀x,(∃v,x= .v v)->K x []->K' x O'):mM a O' K':=by
 unfold mM at*
 split at h
 ·exact hk _ ⟨_,rfl⟩ h
 ·exact hk _ ⟨_,rfl⟩ h
 ·simp[uR]at h
 ·exact h.elim
theorem zc{a:AV}{K K':KT}(h:mM a [] K)(hk:∀x,(∃v,x= .v v)->K x []->K' x []):mM a [] K':=abV h hk
theorem qQ{y:AV}{M M':List AV->Prop}(h:k9 [] y M)(hm:∀ys,(y.ag=true->AV.ae ys=true)->M ys->M' ys):k9 [] y M':=by
 unfold k9 at*
 split at h
 ·exact hm _ (λ _=>rfl) h
 ·exact hm _ (λ h=>h) h
 ·simp[uR]at h
 ·exact h.elim
theorem akp{o:PU}{xs:List AV}{v:AV}(h:xv o xs=some v):v.ag=true:=by
 unfold xv at h
 split at h
 ·simp only[map_eq_some_iff]at h;obtain⟨l,_,rfl⟩:=h;rfl
 ·cases h;rfl
 ·cases h;rfl
 ·cases h;rfl
 ·cases h;rfl
 ·cases h;rfl
 ·cases h;rfl
 ·cases h;rfl
 ·cases h;rfl
 ·split at h
  ·cases h;rfl
  ·cases h
 ·split at h
  ·cases h;rfl
  ·cases h
 ·cases h
theorem agQ(s:ByteArray):AV.ae (dr s)=true:=fL λ a ha=>by
 obtain⟨c,_,rfl⟩:=List.mem_map.1 ha;rfl
theorem PO.wp_mono{r:List AV}(hr:AV.ae r=true){o:PO}(hc:cI r.length [.op o]=true){K K':AV->Prop}(h:o.wp P r K)(hk:∀v,v.ag=true->K v->K' v):o.wp P r K':=by
 have hv:∀x:AV,(∃v,x= .v v)->x.ag=true:=by rintro _ ⟨v,rfl⟩;rfl
 cases o<;>simp only[cI,PO.cl,Bool.and_true,and_eq_true]at hc<;>simp only[PO.wp]at h⊢
 case val x=>exact hk _ (D.bK hr x hc) h
 case pick c a b=>
  refine uO (K:=λ x _=>(x=a.ev r∨x=b.ev r)/\K x) (K':=λ x _=>K' x) ?_ (λ x hx=>hk x ?_ hx.2) (O:=[])
  ·simp only[pw]at h⊢
   split at h
   ·rename_i t _;exact⟨by cases t<;>simp,h⟩
   ·exact h.elim
  ·rcases hx.1 with rfl|rfl
   ·exact D.bK hr a hc.1.2
   ·exact D.bK hr b hc.2
 case bin op a b=>exact aan (K:=λ x _=>K x) (K':=λ x _=>K' x) h λ x hx hK=>hk x (hv x hx) hK
 case beq neg a b=>simp only[agz]at h⊢;split at h<;>first|exact hk _ rfl h|exact h.elim
 case un op a=>exact acA (K:=λ x _=>K x) (K':=λ x _=>K' x) h λ x hx hK=>hk x (hv x hx) hK
 case conv k a=>exact vw (K:=λ x _=>K x) (K':=λ x _=>K' x) h λ x hx hK=>hk x (hv x hx) hK
 case elem s l i=>
  simp only[lQ]at h⊢
  split at h
  ·rename_i xs _ i hl _;refine⟨h.1,h.2.1,h.2.2.1,hk _ (gB ?_ _) h.2.2.2⟩;have:=D.bK hr l hc.1;rw[hl]at this;exact this
  ·exact h.elim
 case zZ off n a=>exact afP (K:=λ x _=>K x) (K':=λ x _=>K' x) h λ x hx hK=>hk x (hx (D.bK hr a hc)) hK
 case vU f m a=>exact⟨h.1,hk _ (nE (D.bK hr a hc)) h.2⟩
 case lF a i=>exact vf (K:=λ x _=>K x) (K':=λ x _=>K' x) h λ x hx hK=>hk x (hv x hx) hK
 case eW nl e s f as=>obtain⟨xs,h1,h2,h3⟩:=h;exact⟨xs,h1,h2,hk _ h2 h3⟩
 case bk f g as=>obtain⟨os,h1,h2,h3,h4⟩:=h;exact⟨os,h1,h2,h3,hk _ h3 h4⟩
 case fI a lo hi=>exact qe (K:=λ x _=>K x) (K':=λ x _=>K' x) h λ x hx hK=>hk x (hv x hx) hK
 case cX s a lo hi=>exact qg (K:=λ x _=>K x) (K':=λ x _=>K' x) h λ x hx hK=>hk x (hx (D.bK hr a hc)) hK
 case lg a=>exact uY (K:=λ x _=>K x) (K':=λ x _=>K' x) h λ x hx hK=>hk x (hv x hx) hK
 case bm a=>exact zc (K:=λ x _=>K x) (K':=λ x _=>K' x) h λ x hx hK=>hk x (hv x hx) hK
 case mL z n ps=>
  refine hk _ ?_ h
  have key:∀(ps:List (Nat×D)) (z:List AV),AV.ae z=true->ps.all (λ p=>p.2.cl r.length)=true->AV.ae (eX z (ps.map λ p=>(p.1,p.2.ev r)))=true:=by
   intro ps
   induction ps with
   |nil=>intro z hz _;exact hz
   |cons p ps ih=>
    intro z hz hp;simp only[all_cons,and_eq_true]at hp;simp only[map_cons,eX];refine ih _ (fL λ a ha=> ?_) hp.2;rcases List.mem_or_eq_of_mem_set ha with h|rfl
    ·exact ba hz a h
    ·exact D.bK hr _ hp.1
  exact key ps _ (fL λ a ha=>by rw[List.eq_of_mem_replicate ha];exact hc.1) hc.2
 case rep bytes z n c=>
  simp only[aeT]at h⊢
  split at h
  ·exact⟨h.1,h.2.1,h.2.2.1,h.2.2.2.1,hk _ (fL λ a ha=>by rw[List.eq_of_mem_replicate ha];exact hc) h.2.2.2.2⟩
  ·exact h.elim
 case app s b l y=>
  refine qQ (M':=λ ys=>_/\_/\_/\K' _) h λ ys uv hK=>⟨hK.1,hK.2.1,hK.2.2.1,hk _ ?_ hK.2.2.2⟩
  show AV.ae _=true;rw[bF,cH (D.bK hr l hc.1),uv (D.bK hr y hc.2)];rfl
 case get l i f n=>exact⟨h.1,h.2.1,hk _ (nE (gB (cH (D.bK hr l hc)) _)) h.2.2⟩
 case set l i f m y=>
  obtain⟨h1,h2,h3,h4,h5⟩:=h;have hl:=cH (D.bK hr l hc.1);have hy:=D.bK hr y hc.2;refine⟨h1,h2,h3,h4,hk _ (fL λ a ha=> ?_) h5⟩;rcases List.mem_or_eq_of_mem_set ha with h|rfl
  ·exact ba hl a h
  ·have hx:=gB hl (idxOf (i.ev r));unfold rH
   split
   ·exact hy
   ·refine fL λ a ha=> ?_
    simp only[List.mem_append]at ha;rcases ha with(ha|ha)|ha
    ·exact ba (iG hx) a (mem_of_mem_take ha)
    ·exact ba (iG hy) a ha
    ·exact ba (iG hx) a (mem_of_mem_drop ha)
 case call f as b=>obtain⟨res,h1,h2,h3,h4⟩:=h;exact⟨res,h1,h2,h3,hk _ h2 h4⟩
 case ew g as b=>
  simp only[qH]at h⊢
  split at h
  ·obtain⟨res,h1,h2,h3,h4⟩:=h;exact⟨res,h1,h2,h3,hk _ h2 h4⟩
  ·exact h.elim
 case ldp n a=>
  simp only[akN]at h⊢
  split at h
  ·rename_i y f hy;refine⟨h.1,hk _ (nE ?_) h.2⟩;have:=D.bK hr a hc;rw[hy]at this;exact this
  ·exact h.elim
 case pu o ds=>
  unfold puK at h⊢
  split at h
  ·rename_i v hv;exact hk _ (akp hv) h
  ·exact h.elim
 case kN s b l y=>
  simp only[aap]at h⊢
  split at h
  ·refine⟨h.1,h.2.1,h.2.2.1,hk _ ?_ h.2.2.2⟩
   show AV.ae _=true;rw[bF,cH (D.bK hr l hc.1),agQ];rfl
  ·exact h.elim
 case fap off a=>
  simp only[alm]at h⊢
  split at h
  ·rename_i y f hy;refine hk _ ?_ h;have:=D.bK hr a hc;rw[hy]at this;exact this
  ·exact h.elim
theorem nU.wp_mono{r:List AV}{c:nU}{K K':Prop}(h:c.wp r K)(hk:K->K'):c.wp r K':=by
 cases c
 case cells=>exact⟨h.1,h.2.1,h.2.2.1,hk h.2.2.2⟩
 case one=>exact⟨h.1,h.2.1,hk h.2.2⟩
 case lt=>exact⟨h.1,hk h.2⟩
 case a9 a j=>simp only[nU.wp,ajV]at h⊢;split at h<;>first|exact⟨h.1,hk h.2⟩|exact h.elim
 case idx l i=>simp only[nU.wp,ah2]at h⊢;split at h<;>first|exact⟨h.1,h.2.1,hk h.2.2⟩|exact h.elim
 case anS a=>simp only[nU.wp,zl]at h⊢;split at h<;>first|exact hk h|exact h.elim
 case ne=>exact⟨h.1,hk h.2⟩
 case eql=>exact⟨h.1,hk h.2⟩
 case no=>exact h.elim
structure kh(r r':List AV)(n:Nat):Prop where
 pre:∃m,r'=r++m
 len:r'.length=n
 nor:AV.ae r'=true
theorem xQ:∀(ns:List Node) {r:List AV} {K K':List AV->Prop},AV.ae r=true->cI r.length ns=true->jM P ns r K->(∀r',kh r r' (iO r.length ns)->K r'->K' r')->jM P ns r K'
 | [],r,K,K',hr,_,h,hk=>hk r ⟨⟨[],by simp⟩,rfl,hr⟩ h
 | .op o::ns,r,K,K',hr,hc,h,hk=>by
   have hc0:cI r.length [.op o]=true/\cI (r.length+1) ns=true:=by
    simp only[cI,and_eq_true,Bool.and_true]at hc⊢;exact hc
   refine PO.wp_mono hr hc0.1 h λ v hv hK=> ?_
   refine xQ ns (r:=r++ [v]) (by rw[bF,hr];simp[AV.ae,hv]) (by simpa using hc0.2) hK λ r' hm hK'=>hk r' ⟨?_,?_,hm.nor⟩ hK'
   ·obtain⟨m,rfl⟩:=hm.pre;exact⟨v::m,by simp⟩
   ·rw[hm.len];simp[iO]
 | .aL c::ns,r,K,K',hr,hc,h,hk=>nU.wp_mono h λ h'=>xQ ns hr (by simpa [cI]using hc) h' hk
theorem cD:∀(a b:List Node) (r:List AV) (K:List AV->Prop),jM P (a++b) r K=jM P a r λ r'=>jM P b r' K
 | [],b,r,K=>rfl
 | .op o::a,b,r,K=>by simp only[cons_append,jM,cD a]
 | .aL c::a,b,r,K=>by simp only[cons_append,jM,cD a]
end
end Go.Ab
namespace Go.Ab
section
variable {P:Program}
theorem ud:∀{cs:List SV} {ds:List D},ais cs=some ds->cs=ds.map .d
 | [],ds,h=>by simp[ais]at h;subst h;rfl
 |v::l,ds,h=>by
  cases v<;>simp only[ais,reduceCtorEq]at h
  split at h
  ·rename_i ds' hd;cases h;rw[ud hd];rfl
  ·cases h
theorem re(r:List AV):∀(ds:List D),SV.a8 r (ds.map .d)=D.a8 r ds
 | []=>rfl
 |d::ds=>by simp only[map_cons,SV.a8,D.a8,SV.ev,re r ds]
theorem D.aQ(r:List AV)(l:List D):D.a8 r l=l.map (D.ev r):=by
 induction l with
 |nil=>rfl
 |cons a l ih=>simp[D.a8,ih]
theorem SV.aQ(r:List AV)(l:List SV):SV.a8 r l=l.map (SV.ev r):=by
 induction l with
 |nil=>rfl
 |cons a l ih=>simp[SV.a8,ih]
theorem ad4{n:Nat}:∀{l:List D},D.cls n l=true↔∀d∈l,d.cl n=true
 | []=>by simp[D.cls]
 |a::l=>by simp[D.cls,ad4 (l:=l)]
theorem tj{n:Nat}:∀{l:List SV},SV.cls n l=true↔∀d∈l,d.cl n=true
 | []=>by simp[SV.cls]
 |a::l=>by simp[SV.cls,tj (l:=l)]
theorem aaj(r:List AV)(i m:Nat)(h:(r.getD i .top).cells.length=m):((List.range m).map λ j=>(r.getD i .top).cells.getD j .top)=(r.getD i .top).cells:=by
 generalize (r.getD i .top).cells=l at h⊢;subst h;apply ext_getElem
 ·simp
 ·intro k h1 h2;rw[getElem_map,getElem_range,List.getD,getElem?_eq_getElem h2];rfl
theorem afV{kn:List (Nat×Nat)}{ds:List D}{i:Nat}(h:aoW kn ds=some i):ds=(List.range ds.length).map λ j=> .cell i j:=by
 unfold aoW at h
 split at h
 ·split at h
  ·cases h;rename_i hb;exact D.mj _ _ hb.2
  ·cases h
 ·cases h
theorem kM{kn:List (Nat×Nat)}{v:SV}{ns:List Node}{d:D}(h:asD kn v=some (ns,d)){r:List AV}{G:List AV->Prop}(hw:jM P ns r G):G r/\d.ev r=v.ev r:=by
 unfold asD at h
 split at h
 ·cases h;exact⟨hw,rfl⟩
 ·rename_i cs
  split at h
  ·rename_i ds hd;have zQ:=ud hd;subst zQ
   split at h
   ·rename_i i hi;cases h;have he:=afV hi;simp only[jM,nU.wp,D.ev]at hw;obtain⟨h1,h2,h3,h4⟩:=hw;refine⟨h4,?_⟩;simp only[D.ev,SV.ev,re];rw[he,D.aQ,map_map];have:=aaj r i _ h2;rw[AV.vE h1];congr 1;rw[←this]
    rfl
   ·cases h;exact⟨hw,by simp only[D.ev,SV.ev,re]⟩
  ·cases h
 ·cases h;exact⟨hw,rfl⟩
 ·cases h
theorem aao{kn:List (Nat×Nat)}{v:SV}{ns:List Node}{d:D}(h:asD kn v=some (ns,d))(nv:Nat):iO nv ns=nv:=by
 unfold asD at h
 split at h
 ·cases h;rfl
 ·split at h
  ·split at h<;>cases h<;>rfl
  ·cases h
 ·cases h;rfl
 ·cases h
theorem jo(nv:Nat):∀(a b:List Node),iO nv (a++b)=iO (iO nv a) b:=by
 intro a
 induction a generalizing nv with
 |nil=>intro b;rfl
 |cons x a ih=>intro b;cases x<;>simp[iO,ih]
theorem dZ{s:SS}{n:Nat}{l:D}{nl:Bool}{e sz:Nat}(h:cur s n l=some (nl,e,sz)):s.ai[n]? =some (.row nl e sz l):=by
 unfold cur at h
 split at h
 ·rename_i l' ho
  split at h
  ·rename_i hb;cases h;rw[ho,D.beq_eq _ _ hb]
  ·cases h
 ·cases h
theorem jI{s:SS}{n e:Nat}{cs:List SV}(h:m8 s n=some (e,cs)):s.ai[n]? =some (.box e cs):=by
 unfold m8 at h
 split at h
 ·rename_i ho;cases h;exact ho
 ·cases h
theorem gg{s:SS}{n:Nat}{o:SO}(h:s.ai[n]? =some o)(r:List AV):(bE s r)[n]? =some (o.ev r):=by
 simp[bE,h]
theorem dJ(s:SS)(r:List AV):(bE s r).length=s.ai.length:=by simp[bE]
theorem eM{cs:List AV}(h:cs.length≠1):mr cs= .agg cs:=by
 unfold mr
 split
 ·simp at h
 ·rfl
theorem sF{cs:List SV}(ht:nN cs=true){r:List AV}{G:List AV->Prop}(hw:jM P (kW cs) r G):G r/\∀c∈SV.a8 r cs,c.cg=true:=by
 induction cs with
 |nil=>exact⟨hw,by simp[SV.a8]⟩
 |cons v l ih=>
  cases v with
  |d x=>
   simp only[kW,jM,nU.wp]at hw;obtain⟨h1,h2,h3⟩:=hw;obtain⟨h4,h5⟩:=ih (by simpa [nN]using ht) h3;refine⟨h4,λ c hc=> ?_⟩;simp only[SV.a8,SV.ev,mem_cons]at hc;rcases hc with rfl|hc
   ·exact h2
   ·exact h5 c hc
  |top=>simp[nN]at ht
  |agg _=>simp[nN]at ht
  |a9 _=>simp[nN]at ht
  |_=>
   simp only[kW]at hw;obtain⟨h4,h5⟩:=ih (by simpa [nN]using ht) hw;refine⟨h4,λ c hc=> ?_⟩;simp only[SV.a8,SV.ev,mem_cons]at hc;rcases hc with rfl|hc
   ·rfl
   ·exact h5 c hc
theorem aja(cs:List SV)(nv:Nat):iO nv (kW cs)=nv:=by
 induction cs with
 |nil=>rfl
 |cons v l ih=>cases v<;>simp[kW,iO,ih]
structure alU(m:Nat)(a:AV)(cs:List AV):Prop where
 len:a.cells.length=m
 sto:a.storable=true
 cells:a.cells=cs
 kind:(a.cg||a.isAgg)=true
 one:m=1->a.cg=true
 agg:m≠1->a.isAgg=true
theorem nZ{a:AV}(h:a.cg=true):a.storable=true:=by
 unfold AV.storable;rw[AV.gD h];simp[h]
theorem alU.mr{m:Nat}{a:AV}{cs:List AV}(h:alU m a cs):a=mr cs:=by
 by_cases hm:m=1
 ·have:=AV.gD (h.one hm);rw[←h.cells,this];rfl
 ·rw[eM (by rw[←h.cells,h.len];exact hm),←h.cells];exact AV.vE (h.agg hm)
theorem mg{nv m:Nat}{v:SV}{ns:List Node}{cs:List SV}(h:expand nv m v=some (ns,cs)){r:List AV}(hl:r.length=nv)(hv:v.cl nv=true){G:List AV->Prop}(hw:jM P ns r G):
  ∃r',(∃more,r'=r++more)/\r'.length=iO nv ns/\G r'/\alU m (v.ev r) (SV.a8 r' cs):=by
 unfold expand at h
 split at h
 ·rename_i hm;subst hm;have one:∀{a:AV},a.cg=true->alU 1 a [a]:=λ {a} ha=>⟨by rw[AV.gD ha];rfl,nZ ha,AV.gD ha,by rw[ha];rfl,λ _=>ha,λ h=>(h rfl).elim⟩
  split at h
  ·rename_i x;cases h;simp only[jM,nU.wp]at hw;exact⟨r,⟨[],by simp⟩,hl,hw.2.2,one hw.2.1⟩
  ·cases h
  ·cases h
  ·cases h
  ·rename_i h1 h2 h4 h3;cases h;refine⟨r,⟨[],by simp⟩,hl,hw,?_⟩;cases v
   case d x=>exact(h1 x rfl).elim
   case agg x=>exact(h2 x rfl).elim
   case a9 x=>exact(h4 x rfl).elim
   case top=>exact(h3 rfl).elim
   all_goals exact one rfl
 ·rename_i hm;have agg:∀{a:AV} {cs:List AV},a.isAgg=true->a.cells.length=m->a.storable=true->a.cells=cs->alU m a cs:=λ {a cs} h1 h2 h3 h4=>⟨h2,h3,h4,by rw[h1];simp,λ h=>(hm h).elim,λ _=>h1⟩
  split at h
  ·rename_i cs'
   split at h
   ·rename_i hc;cases h;obtain⟨h1,h2⟩:=sF hc.2 hw;refine⟨r,⟨[],by simp⟩,by rw[aja,hl],h1,agg rfl ?_ ?_ rfl⟩
    ·simp[SV.ev,AV.cells,SV.aQ,hc.1]
    ·simp only[SV.ev,AV.storable,AV.cells,List.all_eq_true];exact h2
   ·cases h
  ·rename_i i;cases h;simp only[jM,nU.wp,D.ev]at hw;obtain⟨h1,h2,h3,h4⟩:=hw;refine⟨r,⟨[],by simp⟩,hl,h4,agg h1 h2 h3 ?_⟩;simp only[SV.ev,D.ev];rw[←aaj r i m h2,SV.aQ,map_map]
   rfl
  ·rename_i l
   split at h
   ·rename_i hll;cases h;simp only[jM,nU.wp]at hw;obtain⟨h1,h2,h3,h4⟩:=hw;exact⟨r,⟨[],by simp⟩,hl,h4,agg h1 h2 h3 (by simp only[SV.ev,D.ev,AV.cells];rw[re])⟩
   ·cases h
  ·rename_i l
   split at h
   ·rename_i hll;cases h;simp only[jM,nU.wp]at hw;obtain⟨h1,h2,h3,h4⟩:=hw;refine⟨r,⟨[],by simp⟩,hl,h4,agg h1 h2 h3 ?_⟩;simp only[SV.ev,D.ev,AV.cells,SV.aQ,map_map];exact(map_id l).symm
   ·cases h
  ·rename_i x _ _ _;cases h;simp only[jM,PO.wp,nU.wp]at hw;have hx:(r++ [x.ev r]).getD nv .top=x.ev r:=by simp[List.getD,←hl]
   simp only[D.ev,hx]at hw;obtain⟨h1,h2,h3,h4⟩:=hw;refine⟨r++ [x.ev r],⟨_,rfl⟩,by simp[iO,hl],h4,agg h1 h2 h3 ?_⟩;simp only[SV.ev];have:=aaj (r++ [x.ev r]) nv m (by rw[hx];exact h2);rw[hx]at this;rw[←this,SV.aQ,map_map];apply map_congr_left;intro j _;simp only[Function.comp,SV.ev,D.ev,hx]
  ·cases h
theorem bC{r:List AV}{nv:Nat}(h:r.length=nv)(a:AV):(r++ [a]).getD nv .top=a:=by simp[List.getD,←h]
theorem D.xE{s:SS}{x:Option aI}{d:Option D}(h:aaE s x=some d)(r:List AV):D.evo r d=x.map (aI.ev (bX s r)):=by
 unfold aaE at h
 split at h
 ·cases h;rfl
 ·rename_i o
  split at h
  ·rename_i y hy;cases h;have:=aT s o r;rw[hy]at this;simp only[D.evo,map_some,←this];rfl
  ·cases h
end
end Go.Ab
namespace Go.Ab
section
variable {P:Program}
theorem PO.pW{r:List AV}{o:PO}{K K':AV->Prop}(h:o.wp P r K)(hk:∀v,K v->K' v):o.wp P r K':=by
 cases o<;>simp only[PO.wp]at h⊢
 case val=>exact hk _ h
 case pick=>exact uO (K:=λ x _=>K x) (K':=λ x _=>K' x) h λ x hx=>hk x hx
 case bin=>exact aan (K:=λ x _=>K x) (K':=λ x _=>K' x) h λ x _ hx=>hk x hx
 case beq=>simp only[agz]at h⊢;split at h<;>first|exact hk _ h|exact h.elim
 case un=>exact acA (K:=λ x _=>K x) (K':=λ x _=>K' x) h λ x _ hx=>hk x hx
 case conv=>exact vw (K:=λ x _=>K x) (K':=λ x _=>K' x) h λ x _ hx=>hk x hx
 case elem=>simp only[lQ]at h⊢;split at h<;>first|exact⟨h.1,h.2.1,h.2.2.1,hk _ h.2.2.2⟩|exact h.elim
 case zZ=>exact afP (K:=λ x _=>K x) (K':=λ x _=>K' x) h λ x _ hx=>hk x hx
 case vU=>exact⟨h.1,hk _ h.2⟩
 case lF=>exact vf (K:=λ x _=>K x) (K':=λ x _=>K' x) h λ x _ hx=>hk x hx
 case fI=>exact qe (K:=λ x _=>K x) (K':=λ x _=>K' x) h λ x _ hx=>hk x hx
 case cX=>exact qg (K:=λ x _=>K x) (K':=λ x _=>K' x) h λ x _ hx=>hk x hx
 case lg=>exact uY (K:=λ x _=>K x) (K':=λ x _=>K' x) h λ x _ hx=>hk x hx
 case bm=>exact zc (K:=λ x _=>K x) (K':=λ x _=>K' x) h λ x _ hx=>hk x hx
 case mL=>exact hk _ h
 case rep=>simp only[aeT]at h⊢;split at h<;>first|exact⟨h.1,h.2.1,h.2.2.1,h.2.2.2.1,hk _ h.2.2.2.2⟩|exact h.elim
 case app=>exact qQ (M':=λ ys=>_/\_/\_/\K' _) h λ ys _ hK=>⟨hK.1,hK.2.1,hK.2.2.1,hk _ hK.2.2.2⟩
 case get=>exact⟨h.1,h.2.1,hk _ h.2.2⟩
 case set=>exact⟨h.1,h.2.1,h.2.2.1,h.2.2.2.1,hk _ h.2.2.2.2⟩
 case call=>obtain⟨res,h1,h2,h3,h4⟩:=h;exact⟨res,h1,h2,h3,hk _ h4⟩
 case eW=>obtain⟨xs,h1,h2,h3⟩:=h;exact⟨xs,h1,h2,hk _ h3⟩
 case bk=>obtain⟨os,h1,h2,h3,h4⟩:=h;exact⟨os,h1,h2,h3,hk _ h4⟩
 case ew=>
  simp only[qH]at h⊢
  split at h
  ·obtain⟨res,h1,h2,h3,h4⟩:=h;exact⟨res,h1,h2,h3,hk _ h4⟩
  ·exact h.elim
 case ldp=>simp only[akN]at h⊢;split at h<;>first|exact⟨h.1,hk _ h.2⟩|exact h.elim
 case fap=>simp only[alm]at h⊢;split at h<;>first|exact hk _ h|exact h.elim
 case pu=>unfold puK at h⊢;split at h<;>first|exact hk _ h|exact h.elim
 case kN=>simp only[aap]at h⊢;split at h<;>first|exact⟨h.1,h.2.1,h.2.2.1,hk _ h.2.2.2⟩|exact h.elim
theorem k7:∀(ns:List Node) {r:List AV} {G G':List AV->Prop},(∀m,G (r++m)->G' (r++m))->jM P ns r G->jM P ns r G'
 | [],r,G,G',hg,h=>by have:=hg [];simp only[append_nil]at this;exact this h
 | .op o::ns,r,G,G',hg,h=>PO.pW h λ v hv=>k7 ns (λ m hm=>by rw[List.append_assoc]at hm⊢;exact hg _ hm) hv
 | .aL c::ns,r,G,G',hg,h=>nU.wp_mono h (k7 ns hg)
def dN(P:Program)(op:ez)(s:SS)(q:List Node×SV×SS):Prop:=
 ∀(r:List AV),r.length=s.nv->s.cl=true->AV.ae r=true->cI s.nv q.1=true->∀K:KT,jM P q.1 r (λ r'=>bX q.2.2 r'=bX s r->K (q.2.1.ev r') (bE q.2.2 r'))->wpOp P op (bX s r) (bE s r) K
theorem ahx{s:SS}{r:List AV}(hl:r.length=s.nv)(hc:s.cl=true){ns:List Node}(hn:iO s.nv ns=s.nv){o:PO}{K:KT}{x:AV}(h:bX (nx s ns o).2.2 (r++ [x])=bX s r->K ((nx s ns o).2.1.ev (r++ [x])) (bE (nx s ns o).2.2 (r++ [x]))):K x (bE s r):=by
 have h1:bX (nx s ns o).2.2 (r++ [x])=bX s r:=er (s:=s) hl hc;have h2:=h h1;have h3:bE (nx s ns o).2.2 (r++ [x])=bE s r:=e9 (s:=s) hl hc;rw[h3]at h2
 have h4:(nx s ns o).2.1.ev (r++ [x])=x:=by
  simp only[nx,SV.ev,D.ev,hn];exact bC hl x
 rwa [h4]at h2
theorem lL{s:SS}{r:List AV}(hl:r.length=s.nv)(hc:s.cl=true){o:PO}{K:KT}(h:jM P (nx s [] o).1 r (λ r'=>bX (nx s [] o).2.2 r'=bX s r->K ((nx s [] o).2.1.ev r') (bE (nx s [] o).2.2 r'))):o.wp P r λ v=>K v (bE s r):=
 PO.pW (o:=o) h λ _ hv=>ahx (ns:=[]) (o:=o) hl hc rfl hv
theorem auw(s:SS)(a:aI):dN P (.aA a) s ([],cP s a,s):=by
 intro r hl hc hr gA K h;have:=h rfl;rwa [aT]at this
theorem apC{s:SS}{t n:Nat}{z:AV}{q}(h:agW s t n z=some q):dN P (.alloc t n z) s q:=by
 intro r hl hc hr gA K hk;unfold agW at h
 split at h
 ·rename_i hn;cases h;have:=hk rfl;simp only[bE,map_append,map_cons,map_nil,SO.ev,SV.a8,SV.ev,D.ev,mr]at this;simp only[wpOp];rw[dJ,hn.1];exact this
 ·split at h
  ·rename_i cs _
   split at h
   ·rename_i hn;cases h;have:=hk rfl
    have he:SV.a8 r (cs.map λ a=> .d (.c a))=cs:=by
     rw[SV.aQ,map_map];exact map_id cs
    simp only[bE,map_append,map_cons,map_nil,SO.ev,he,length_map,SV.ev]at this;rw[eM (by rw[hn.2];exact hn.1),hn.2]at this;simp only[wpOp];rw[dJ];exact this
   ·cases h
  ·cases h
theorem awg{s:SS}{t n:Nat}{a:aI}{q}(ha:(cP s a).cl s.nv=true)(h:atw s t n (cP s a)=some q):dN P (.box t n a) s q:=by
 intro r hl hc hr gA K hk;unfold atw at h
 split at h
 ·rename_i ns cs he
  split at h
  ·rename_i zQ;cases h;obtain⟨r',⟨more,rfl⟩,hlen,hG,hE⟩:=mg he hl ha hk;have hG:=hG (er (s:=s) hl hc);simp only[wpOp,←aT]
   have mY:bE {s with ai:=s.ai++ [.box t cs],nv:=iO s.nv ns} (r++more)=bE s r++ [.live t n [(cP s a).ev r]]:=by
    simp only[bE,map_append,map_cons,map_nil,SO.ev];rw[hE.mr,zQ];congr 1;exact e9 (s:=s) hl hc
   rw[mY]at hG;rw[dJ];exact⟨hE.len,hE.sto,hG⟩
  ·cases h
 ·cases h
theorem sN{s:SS}{k t m:Nat}(h:kept s k t m=true)(r:List AV):(bE s r)[k]? =some (.nil t m):=by
 unfold kept at h
 split at h
 ·rename_i t' m' ho;simp only[and_eq_true,decide_eq_true_eq]at h;obtain⟨rfl,rfl⟩:=h;rw[gg ho r];simp[SO.ev,D.ev,aU]
 ·cases h
theorem aiH{s:SS}{k t n:Nat}{z:AV}{q}(hz:z.ag=true)(h:xP s k t n z=some q):dN P (.gG k t n z) s q:=by
 intro r hl hc hr gA K hk;unfold xP at h
 split at h
 ·rename_i hkp;have hO:=sN hkp r
  have fin:∀cs:List AV,cs.length=n->mr cs=z->q=([],.ptr k 0,{s with ai:=s.ai.set k (.box t (cs.map λ a=> .d (.c a)))})->wpOp P (.gG k t n z) (bX s r) (bE s r) K:=by
   rintro cs zQ hz' rfl;have:=hk rfl
   have hev:SV.a8 r (cs.map λ a=>SV.d (.c a))=cs:=by
    rw[SV.aQ,map_map]
    conv=>rhs;rw[←map_id cs]
    rfl
   simp only[bE,map_set,SO.ev,hev,hz',length_map,zQ]at this;exact⟨hz,hO,this⟩
  split at h
  ·rename_i hn;cases h;exact fin [z] hn.1.symm rfl rfl
  ·split at h
   ·rename_i cs _
    split at h
    ·rename_i hn;cases h;exact fin cs hn.2 (eM (by rw[hn.2];exact hn.1)) rfl
    ·cases h
   ·cases h
 ·cases h
theorem apk{s:SS}{k t n:Nat}{a:aI}{q}(kV:a.okc=true)(ha:(cP s a).cl s.nv=true)(h:agV s k t n (cP s a)=some q):dN P (.m9 k t n a) s q:=by
 intro r hl hc hr gA K hk;unfold agV at h
 split at h
 ·rename_i hkp;have hO:=sN hkp r
  split at h
  ·rename_i ns cs he
   split at h
   ·rename_i zQ;cases h;obtain⟨r',⟨more,rfl⟩,hlen,hG,hE⟩:=mg he hl ha hk;have hG:=hG (er (s:=s) hl hc);simp only[wpOp,←aT]
    have mY:bE {s with ai:=s.ai.set k (.box t cs),nv:=iO s.nv ns} (r++more)=(bE s r).set k (.live t n [(cP s a).ev r]):=by
     simp only[bE,map_set,SO.ev];rw[hE.mr,zQ];congr 1;exact e9 (s:=s) hl hc
    rw[mY]at hG;exact⟨kV,hO,hE.len,hE.sto,hG⟩
   ·cases h
  ·cases h
 ·cases h
theorem awh{s:SS}{o:BinOp}{a b:aI}{x y:D}(ha:cP s a= .d x)(hb:cP s b= .d y):dN P (.bin o a b) s (nx s [] (.bin o x y)):=by
 intro r hl hc hr gA K hk;rw[asJ,←aT,←aT,ha,hb];exact aan (O:=[]) (K:=λ x _=>K x (bE s r)) (lL hl hc hk) λ v _ hv=>hv
theorem awi{s:SS}{neg:Bool}{a b:aI}{x y:D}(ha:cP s a= .d x)(hb:cP s b= .d y):dN P (.beq neg a b) s (nx s [] (.beq neg x y)):=by
 intro r hl hc hr gA K hk;have h1:=lL (K:=K) hl hc hk;simp only[PO.wp,agz]at h1;simp only[wpOp,←aT,ha,hb,SV.ev]
 split at h1
 ·rename_i p q hp hq;rw[hp,hq];exact h1
 ·exact h1.elim
theorem aw9{s:SS}{o:UnOp}{a:aI}{x:D}(ha:cP s a= .d x):dN P (.un o a) s (nx s [] (.un o x)):=by
 intro r hl hc hr gA K hk;rw[axI,←aT,ha];exact acA (O:=[]) (K:=λ x _=>K x (bE s r)) (lL hl hc hk) λ v _ hv=>hv
theorem ar4{s:SS}{k:IntKind}{a:aI}{x:D}(ha:cP s a= .d x):dN P (.j6 k a) s (nx s [] (.conv k x)):=by
 intro r hl hc hr gA K hk;rw[anb,←aT,ha];exact vw (O:=[]) (K:=λ x _=>K x (bE s r)) (lL hl hc hk) λ v _ hv=>hv
theorem arw{s:SS}{a b:aI}{x y:D}(ha:cP s a= .d x)(hb:cP s b= .d y):dN P (.lF a b) s (nx s [] (.lF x y)):=by
 intro r hl hc hr gA K hk;rw[ana,←aT,←aT,ha,hb];exact vf (O:=[]) (K:=λ x _=>K x (bE s r)) (lL hl hc hk) λ v _ hv=>hv
theorem arb{s:SS}{a:aI}{x:D}(ha:cP s a= .d x):dN P (.lg a) s (nx s [] (.lg x)):=by
 intro r hl hc hr gA K hk;rw[am9,←aT,ha];exact uY (O:=[]) (K:=λ x _=>K x (bE s r)) (lL hl hc hk) λ v _ hv=>hv
theorem arc{s:SS}{a:aI}{x:D}(ha:cP s a= .d x):dN P (.bm a) s (nx s [] (.bm x)):=by
 intro r hl hc hr gA K hk;rw[ahw,←aT,ha];exact abV (K:=λ x _=>K x (bE s r)) (lL hl hc hk) λ v _ hv=>hv
theorem bN(xs:List AV):aU (.sl xs)=xs:=rfl
theorem e7{s:SS}{n e sz:Nat}{nl:Bool}{l:D}(h:s.ai[n]? =some (.row nl e sz l))(r:List AV):
  (bE s r)[n]? =some (.live e sz (aU (l.ev r)))∨((bE s r)[n]? =some (.nil e sz)/\aU (l.ev r)= []/\nl=true):=by
 have:=gg h r;cases nl with
 |false=>exact .inl this
 |true=>
  simp only[SO.ev]at this
  split at this
  ·rename_i hx;exact .inr ⟨this,hx,rfl⟩
  ·exact .inl this
theorem anB{s:SS}{a:aI}{k:Nat}{l:D}(ha:cP s a= .row k l)(j3:(cur s k l).isSome=true):dN P (.bm a) s (nx s [] (.bm (.sl l))):=by
 intro r hl hc hr gA K hk;rw[ahw,←aT,ha];obtain⟨⟨nl,e,sz⟩,hq⟩:=Option.isSome_iff_exists.1 j3;have ho:=dZ hq;have hf:=lL hl hc hk;simp only[PO.wp,D.ev,zb,k1]at hf;simp only[SV.ev,mM];rcases e7 ho r with h|⟨h,hx,_⟩
 ·rw[h,kG];exact⟨rfl,hf⟩
 ·rw[hx]at hf⊢;rw[h,om];exact⟨rfl,hf⟩
theorem aj2{s:SS}{a:aI}{lo hi:Option aI}{x:D}{dl dh:Option D}(ha:cP s a= .d x)(h1:aaE s lo=some dl)(h2:aaE s hi=some dh):dN P (.fI a lo hi) s (nx s [] (.fI x dl dh)):=by
 intro r hl hc hr gA K hk;rw[ae5,←aT,ha,←D.xE h1,←D.xE h2];exact qe (O:=[]) (K:=λ x _=>K x (bE s r)) (lL hl hc hk) λ v _ hv=>hv
theorem aj3{s:SS}{m:Nat}{a:aI}{lo hi:Option aI}{x:D}{dl dh:Option D}(ha:cP s a= .d x)(h1:aaE s lo=some dl)(h2:aaE s hi=some dh):dN P (.cX m a lo hi) s (nx s [] (.cX m x dl dh)):=by
 intro r hl hc hr gA K hk;rw[ae6,←aT,ha,←D.xE h1,←D.xE h2];exact qg (O:=[]) (K:=λ x _=>K x (bE s r)) (lL hl hc hk) λ v _ hv=>hv
theorem ada{s:SS}{c a b:aI}{x:D}{na nb:List Node}{y z:D}(gf:cP s c= .d x)(ha:asD s.kn (cP s a)=some (na,y))(hb:asD s.kn (cP s b)=some (nb,z)):dN P (.pick c a b) s (nx s (na++nb) (.pick x y z)):=by
 intro r hl hc hr gA K hk;have h1:iO s.nv (na++nb)=s.nv:=by rw[jo,aao ha,aao hb]
 simp only[nx,cD]at hk;obtain⟨hk,e1⟩:=kM ha hk;obtain⟨hk,e2⟩:=kM hb hk;rw[ahv,←aT,←aT,←aT,gf,←e1,←e2];have:=PO.pW (o:= .pick x y z) hk λ v hv=>ahx (o:= .pick x y z) (K:=K) hl hc h1 hv
 exact uO (O:=[]) (K:=λ x _=>K x (bE s r)) this λ v hv=>hv
theorem amV{s:SS}{c a b:aI}{t:Bool}(gf:cP s c= .d (.c (.v (.bool t)))):dN P (.pick c a b) s ([],if t then cP s a else cP s b,s):=by
 intro r hl hc hr gA K hk;have:=hk rfl;rw[ahv,←aT,gf];simp only[SV.ev,D.ev,pw];cases t<;>simpa [aT]using this
theorem yV{s:SS}{r:List AV}(hl:r.length=s.nv)(hc:s.cl=true){ns:List Node}{cs:List SV}{K:KT}
  (h:jM P (norm s ns cs).1 r (λ r2=>bX (norm s ns cs).2.2 r2=bX s r->K ((norm s ns cs).2.1.ev r2) (bE (norm s ns cs).2.2 r2))):jM P ns r (λ r2=>K (.agg (SV.a8 r2 cs)) (bE s r)):=by
 unfold norm at h
 split at h
 ·rename_i ms x hx;simp only[done,cD]at h;refine k7 ns (λ m h2=> ?_) h;obtain⟨h3,h4⟩:=kM hx h2;have h5:=h3 (er (s:=s) hl hc);simp only[SV.ev]at h5 h4;rw[h4]at h5;have:bE {s with nv:=iO s.nv (ns++ms)} (r++m)=bE s r:=e9 (s:=s) hl hc;rwa [this]at h5
 ·simp only[done]at h;refine k7 ns (λ m h2=> ?_) h;have h5:=h2 (er (s:=s) hl hc);simp only[SV.ev]at h5;have:bE {s with nv:=iO s.nv ns} (r++m)=bE s r:=e9 (s:=s) hl hc;rwa [this]at h5
end
end Go.Ab
namespace Go.Ab
section
variable {P:Program}
theorem ach{r m:List AV}{cs:List SV}(h:∀c∈cs,c.cl r.length=true):SV.a8 (r++m) cs=SV.a8 r cs:=SV.fP cs (tj.2 h)
theorem aln{nv m:Nat}{v:SV}{ns:List Node}{cs:List SV}(h:expand nv m v=some (ns,cs))(hv:v.cl nv=true):∀c∈cs,c.cl (iO nv ns)=true:=by
 unfold expand at h
 split at h
 ·split at h
  ·cases h;simpa [SV.cl,iO]using hv
  ·cases h
  ·cases h
  ·cases h
  ·cases h;simpa [iO]using hv
 ·split at h
  ·split at h
   ·cases h;rw[aja];exact tj.1 hv
   ·cases h
  ·cases h;simp only[mem_map,iO];rintro c ⟨j,_,rfl⟩;exact hv
  ·split at h
   ·cases h;simp only[mem_map,iO];rintro c ⟨d,hd,rfl⟩;exact ad4.1 (by simpa [SV.cl,D.cl]using hv) d hd
   ·cases h
  ·split at h
   ·cases h;simp only[mem_map,iO];rintro c ⟨d,hd,rfl⟩;exact ba (by simpa [SV.cl,D.cl,AV.ag]using hv) d hd
   ·cases h
  ·cases h;simp only[mem_map,iO];rintro c ⟨j,_,rfl⟩;simp[SV.cl,D.cl]
  ·cases h
mutual
theorem wm{n m:Nat}(h:n<=m):∀(d:D),d.cl n=true->d.cl m=true
 | .x i=>by simp only[D.cl,decide_eq_true_eq];omega
 | .c a=>id
 | .cell i j=>by simp only[D.cl,decide_eq_true_eq];omega
 | .ext i j=>by simp only[D.cl,decide_eq_true_eq];omega
 | .sl l=>by simpa only[D.cl]using wm h l
 | .agg l=>by simpa only[D.cl]using aiw h l
 | .fn f l=>by simpa only[D.cl]using aiw h l
 | .ip d f=>by simpa only[D.cl]using wm h d
theorem aiw{n m:Nat}(h:n<=m):∀(l:List D),D.cls n l=true->D.cls m l=true
 | []=>id
 |d::l=>by
  simp only[D.cls,and_eq_true];exact λ q=>⟨wm h d q.1,aiw h l q.2⟩
end
mutual
theorem ac1{n m:Nat}(h:n<=m):∀(v:SV),v.cl n=true->v.cl m=true
 | .d x=>wm h x
 | .row k l=>wm h l
 | .ptr k f=>id
 | .rp k l i f=>by simp only[SV.cl,and_eq_true];exact λ q=>⟨wm h l q.1,wm h i q.2⟩
 | .ip x f=>wm h x
 | .agg cs=>by simpa only[SV.cl]using ac0 h cs
 | .a9 cs=>by simpa only[SV.cl]using ac0 h cs
 | .top=>id
theorem ac0{n m:Nat}(h:n<=m):∀(l:List SV),SV.cls n l=true->SV.cls m l=true
 | []=>id
 |d::l=>by
  simp only[SV.cls,and_eq_true];exact λ q=>⟨ac1 h d q.1,ac0 h l q.2⟩
end
theorem adj:∀(ns:List Node) (nv:Nat),nv<=iO nv ns
 | [],nv=>le_refl _
 | .op o::ns,nv=>Nat.le_trans (Nat.le_succ _) (adj ns (nv+1))
 | .aL c::ns,nv=>adj ns nv
theorem tv{s:SS}(h:s.cl=true){x:aI}(hx:vQ x=true):(cP s x).cl s.nv=true:=by
 cases x with
 |t n=>exact SS.ph h n
 |c a=>exact hx
theorem vO{s:SS}(hc:s.cl=true):∀(ps:List (Nat×Nat×aI)) (ns:List Node) (cs:List SV) {ns':List Node} {cs':List SV},xM s ns cs ps=some (ns',cs')->ps.all (λ p=>vQ p.2.2)=true->(∀c∈cs,c.cl (iO s.nv ns)=true)->
  ∃ms,ns'=ns++ms/\∀(r:List AV),r.length=s.nv->∀(r1:List AV),(∃m,r1=r++m)->r1.length=iO s.nv ns->∀{M:AV->Prop} {G:List AV->Prop},jM P ms r1 G->(∀m,G (r1++m)->M (.agg (SV.a8 (r1++m) cs')))->jy (bX s r) (SV.a8 r1 cs) ps M
 | [],ns,cs,ns',cs',h,_,_=>by
   simp only[xM,Option.some.injEq,Prod.mk.injEq]at h;obtain⟨rfl,rfl⟩:=h;refine⟨[],by simp,λ r _ r1 _ _ M G hw hG=> ?_⟩;have:=hG [] (by rw[append_nil];exact hw);simpa [jy]using this
 |(off,size,x)::ps,ns,cs,ns',cs',h,ho,zQ=>by
  simp only[xM]at h
  split at h
  ·rename_i ms vs he
   split at h
   ·rename_i hv;simp only[all_cons,and_eq_true]at ho;have hx:(cP s x).cl (iO s.nv ns)=true:=ac1 (adj ns s.nv) _ (tv hc ho.1);have hvc:=aln he hx
    obtain⟨ms',rfl,ih⟩:=vO hc ps _ _ h ho.2 (by
     intro c hm;rw[jo];simp only[List.mem_append]at hm;have hle:=adj ms (iO s.nv ns);rcases hm with(hm|hm)|hm
     ·exact ac1 hle c (zQ c (mem_of_mem_take hm))
     ·exact hvc c hm
     ·exact ac1 hle c (zQ c (mem_of_mem_drop hm)))
    refine⟨ms++ms',by simp,λ r hl r1 hp hl1 M G hw hG=> ?_⟩;rw[cD]at hw;obtain⟨r2,⟨m,rfl⟩,hl2,hw2,hE⟩:=mg he hl1 hx hw
    have hev:(cP s x).ev r1=x.ev (bX s r):=by
     obtain⟨m0,rfl⟩:=hp;rw[SV.cO _ (by rw[hl];exact tv hc ho.1),aT]
    rw[hev]at hE;simp only[jy];refine⟨hE.len,hE.kind,by rw[SV.aQ,length_map];exact hv.2,?_⟩;have aCr:SV.a8 (r1++m) cs=SV.a8 r1 cs:=ach (by rw[hl1];exact zQ)
    have h1:(SV.a8 r1 cs).take off++(x.ev (bX s r)).cells++(SV.a8 r1 cs).drop (off+size)=SV.a8 (r1++m) (cs.take off++vs++cs.drop (off+size)):=by
     rw[hE.cells,←aCr];simp only[SV.aQ,map_append,map_take,map_drop]
    rw[h1]
    exact ih r hl (r1++m) (by obtain⟨m0,rfl⟩:=hp;exact⟨m0++m,by simp⟩) (by rw[hl2,jo]) hw2 λ m' xB=>by
     rw[List.append_assoc]at xB⊢;exact hG _ xB
   ·cases h
  ·cases h
theorem api{s:SS}{z:List AV}{ps:List (Nat×Nat×aI)}{q}(ho:ps.all (λ p=>vQ p.2.2)=true)(hz:AV.ae z=true)(h:agU s z ps=some q):dN P (.build z ps) s q:=by
 intro r hl hc hr gA K hk;unfold agU at h
 split at h
 ·rename_i ns cs hp;cases h
  obtain⟨ms,rfl,hs⟩:=vO (P:=P) hc ps [] _ hp ho (by
   simp only[mem_map];rintro c ⟨a,ha,rfl⟩;exact ba hz a ha)
  have:=yV (K:=K) hl hc hk
  have he:SV.a8 r (z.map λ a=> .d (.c a))=z:=by
   rw[SV.aQ,map_map];exact map_id z
  have h2:=hs r hl r ⟨[],by simp⟩ (by simp[hl,iO]) (M:=λ a=>K a (bE s r)) this (λ m hm=>hm);rw[he]at h2;exact h2
 ·cases h
theorem wo{m:Nat}{d:D}{r:List AV}{G:List AV->Prop}(h:jM P [oD m d] r G):G r/\alU m (d.ev r) (d.ev r).cells:=by
 unfold oD at h
 split at h
 ·rename_i hm;subst hm;obtain⟨h1,h2,h3⟩:=h;exact⟨h3,h1,nZ h2,rfl,by rw[h2];rfl,λ _=>h2,λ h=>(h rfl).elim⟩
 ·rename_i hm;obtain⟨h1,h2,h3,h4⟩:=h;exact⟨h4,h2,h3,rfl,by rw[h1];simp,λ h=>(hm h).elim,λ _=>h1⟩
theorem af5(m:Nat)(d:D)(nv:Nat):iO nv [oD m d]=nv:=by unfold oD;split<;>rfl
theorem nJ{s:SS}{m len:Nat}:∀{ps:List (Nat×aI)} {ns:List Node} {qs:List (Nat×D)},pU s m len ps=some (ns,qs)->iO s.nv ns=s.nv/\∀{r:List AV} {G:List AV->Prop},jM P ns r G->G r/\
  ∀(z:List AV) (M:List AV->Prop),z.length=len->M (eX z (qs.map λ p=>(p.1,p.2.ev r)))->nM (bX s r) m z ps M
 | [],ns,qs,h=>by
   simp only[pU,Option.some.injEq,Prod.mk.injEq]at h;obtain⟨rfl,rfl⟩:=h;exact⟨rfl,λ hw=>⟨hw,λ z M _ hM=>hM⟩⟩
 |(i,x)::ps,ns,qs,h=>by
  simp only[pU]at h
  split at h
  ·rename_i ns1 d ms qs1 h1 h2
   split at h
   ·rename_i hi;cases h;obtain⟨h3,ih⟩:=nJ h2;refine⟨?_,λ {r G} hw=> ?_⟩
    ·rw[show ns1++oD m d::ms=ns1++([oD m d]++ms) by simp,jo,jo,aao h1,af5,h3]
    ·rw[show ns1++oD m d::ms=ns1++([oD m d]++ms) by simp,cD]at hw;obtain⟨hw,he⟩:=kM h1 hw;rw[cD]at hw;obtain⟨hw,hE⟩:=wo hw;obtain⟨hG,dm⟩:=ih hw;refine⟨hG,λ z M hz hM=> ?_⟩;rw[he,aT]at hE;simp only[nM];refine⟨hE.len,hE.sto,by omega,dm _ M (by simpa using hz) ?_⟩;simp only[map_cons,eX,he,aT]at hM;exact hM
   ·cases h
  ·cases h
theorem yY{s:SS}{t m:Nat}{ns:List Node}{o:PO}{q}(h:newRow s t m (nx s ns o)=some q)(hn:iO s.nv ns=s.nv){r:List AV}(hl:r.length=s.nv)(hc:s.cl=true){K:KT}
  (hk:jM P q.1 r (λ r'=>bX q.2.2 r'=bX s r->K (q.2.1.ev r') (bE q.2.2 r'))):
  jM P ns r λ r1=>r1=r->o.wp P r λ v=>K (.row s.ai.length (aU v).length) (bE s r++ [.live t m (aU v)]):=by
 simp only[newRow,nx,Option.some.injEq]at h;subst h;simp only[cD]at hk;refine k7 ns (λ mm hw he=> ?_) hk;rw[he]at hw;refine PO.pW (o:=o) hw λ v hv=> ?_
 have h1:bX {s with ai:=s.ai++ [.row false t m (.x (iO s.nv ns))],nv:=iO s.nv ns+1} (r++ [v])=bX s r:=er (s:=s) hl hc;have h2:=hv h1
 have h3:bE {s with ai:=s.ai++ [.row false t m (.x (iO s.nv ns))],nv:=iO s.nv ns+1} (r++ [v])=bE s r++ [.live t m (aU v)]:=by
  simp only[bE,map_append,map_cons,map_nil,SO.ev,D.ev,hn,bC hl];congr 1;exact e9 (s:=s) hl hc
 rw[h3]at h2;simp only[SV.ev,D.ev,hn,bC hl]at h2;exact h2
theorem og(nl:Bool)(e s:Nat)(l:D)(r:List AV):(SO.row nl e s l).ev r=cq nl e s (aU (l.ev r)):=by
 cases nl
 ·simp only[SO.ev,cq,false_eq_true,false_and,if_false]
 ·simp only[SO.ev,cq,true_and]
theorem ae9{s:SS}{nl:Bool}{t m:Nat}{ns:List Node}{o:PO}{q}(h:tz s nl t m (nx s ns o)=some q)(hn:iO s.nv ns=s.nv){r:List AV}(hl:r.length=s.nv)(hc:s.cl=true){K:KT}
  (hk:jM P q.1 r (λ r'=>bX q.2.2 r'=bX s r->K (q.2.1.ev r') (bE q.2.2 r'))):
  jM P ns r λ r1=>r1=r->o.wp P r λ v=>K (.row s.ai.length (aU v).length) (bE s r++ [cq nl t m (aU v)]):=by
 simp only[tz,nx,Option.some.injEq]at h;subst h;simp only[cD]at hk;refine k7 ns (λ mm hw he=> ?_) hk;rw[he]at hw;refine PO.pW (o:=o) hw λ v hv=> ?_
 have h1:bX {s with ai:=s.ai++ [.row nl t m (.x (iO s.nv ns))],nv:=iO s.nv ns+1} (r++ [v])=bX s r:=er (s:=s) hl hc;have h2:=hv h1
 have h3:bE {s with ai:=s.ai++ [.row nl t m (.x (iO s.nv ns))],nv:=iO s.nv ns+1} (r++ [v])=bE s r++ [cq nl t m (aU v)]:=by
  simp only[bE,map_append,map_cons,map_nil,og,D.ev,hn,bC hl];congr 1;exact e9 (s:=s) hl hc
 rw[h3]at h2;simp only[SV.ev,D.ev,hn,bC hl]at h2;exact h2
theorem abn{s:SS}{t m len:Nat}{z:AV}{ps:List (Nat×aI)}{q}(h:pV s t m len z ps=some q):dN P (.buildSlice t m len z ps) s q:=by
 intro r hl hc hr gA K hk;unfold pV at h
 split at h
 ·rename_i ns qs hp;obtain⟨hn,hs⟩:=nJ (P:=P) hp;have h1:=yY h hn hl hc hk;obtain⟨hG,dm⟩:=hs h1;have hG:=hG rfl;simp only[PO.wp]at hG;simp only[wpOp,dJ];refine dm _ _ (by simp) ?_;rw[bN]at hG
  have hlen:(eX (List.replicate len z) (qs.map λ p=>(p.1,p.2.ev r))).length=len:=by
   have:∀(ps:List (Nat×AV)) (z:List AV),(eX z ps).length=z.length:=by
    intro ps
    induction ps with
    |nil=>intro z;rfl
    |cons p ps ih=>intro z;simp[eX,ih]
   rw[this];simp
  rw[hlen]at hG;exact hG
 ·cases h
theorem aiA{s:SS}{k t m len:Nat}{z:AV}{ps:List (Nat×aI)}{q}(hz:z.ag=true)(hp':ps.all (λ p=>p.2.okc)=true)(h:xO s k t m len z ps=some q):dN P (.gF k t m len z ps) s q:=by
 intro r hl hc hr gA K hk;unfold xO at h
 split at h
 ·rename_i hkp;have hO:=sN hkp r
  split at h
  ·rename_i ns qs hp;cases h;obtain⟨hn,hs⟩:=nJ (P:=P) hp;simp only[cD,jM,nU.wp,PO.wp]at hk;refine⟨hz,hp',?_⟩
   have nH:jM P ns r λ r1=>r1=r->∃xs,xs=eX (List.replicate len z) (qs.map λ p=>(p.1,p.2.ev r))/\xs≠[]/\K (.row k xs.length) ((bE s r).set k (.live t m xs)):=by
    refine k7 ns (λ mm hw he=> ?_) hk;rw[he]at hw;obtain⟨h1,h2⟩:=hw;simp only[D.ev,bC hl,bN]at h1;have e1:bX {s with ai:=s.ai.set k (.row false t m (.x s.nv)),nv:=s.nv+1} (r++ [.sl (eX (List.replicate len z) (qs.map λ p=>(p.1,p.2.ev r)))])=bX s r:=er (s:=s) hl hc;have h2:=h2 e1
    have e2:bE {s with ai:=s.ai.set k (.row false t m (.x s.nv)),nv:=s.nv+1} (r++ [.sl (eX (List.replicate len z) (qs.map λ p=>(p.1,p.2.ev r)))])=(bE s r).set k (.live t m (eX (List.replicate len z) (qs.map λ p=>(p.1,p.2.ev r)))):=by
     simp only[bE,map_set,SO.ev,D.ev,bC hl,bN];congr 1;exact e9 (s:=s) hl hc
    rw[e2]at h2;simp only[SV.ev,D.ev,bC hl,bN]at h2;exact⟨_,rfl,h1,h2⟩
   obtain⟨hG,dm⟩:=hs nH;obtain⟨xs,oG,bn,hK⟩:=hG rfl;refine dm _ _ (by simp) ?_;rw[←oG]
   have hlen:xs.length=len:=by
    have:∀(ps:List (Nat×AV)) (z:List AV),(eX z ps).length=z.length:=by
     intro ps
     induction ps with
     |nil=>intro z;rfl
     |cons p ps ih=>intro z;simp[eX,ih]
    rw[oG,this];simp
   rw[hlen]at hK;exact⟨hO,bn,hK⟩
  ·cases h
 ·cases h
theorem ax3{s:SS}{t m bytes:Nat}{z:AV}{n c:aI}{x y:D}{q}(hn:cP s n= .d x)(gf:cP s c= .d y)(h:newRow s t m (nx s [] (.rep bytes z x y))=some q):dN P (.mk t m bytes z n c) s q:=by
 intro r hl hc hr gA K hk;have h1:=yY h rfl hl hc hk;have h1:=h1 rfl;simp only[PO.wp,aeT]at h1;rw[axN,←aT,←aT,hn,gf];simp only[SV.ev]
 split at h1
 ·rename_i a b h2 h3;rw[h2,h3,anj];simp only[bN,List.length_replicate]at h1;rw[dJ];exact h1
 ·exact h1.elim
theorem afO{cs:List SV}{r:List AV}{f:Nat}{v:SV}(h:cs[f]? =some v)(hc:cs.length≠1∨(v.ev r).cells= [v.ev r]):f+1<=(mr (SV.a8 r cs)).cells.length/\(mr (SV.a8 r cs)).cells.getD f .top=v.ev r:=by
 have aF:=(List.getElem?_eq_some_iff.1 h).1;have he:(SV.a8 r cs)[f]? =some (v.ev r):=by rw[SV.aQ,getElem?_map,h];rfl
 by_cases h1:cs.length=1
 ·rcases hc with hc|hc
  ·exact(hc h1).elim
  ·have hf:f=0:=by omega
   subst hf
   have:SV.a8 r cs= [v.ev r]:=by
    have hl:(SV.a8 r cs).length=1:=by rw[SV.aQ];simpa using h1
    obtain⟨a,ha⟩:=List.length_eq_one_iff.1 hl;rw[ha]at he⊢;simp at he;rw[he]
   rw[this];simp[mr,hc]
 ·rw[eM (by rw[SV.aQ];simpa using h1)];simp only[AV.cells];refine⟨by rw[SV.aQ];simp;omega,by simp[List.getD,he]⟩
theorem y8{s:SS}{a:aI}{k f e:Nat}{cs:List SV}(ha:cP s a= .ptr k f)(hb:m8 s k=some (e,cs)){n:Option Nat}{r:List AV}{K:KT}
  (h:f+n.getD 1<=(mr (SV.a8 r cs)).cells.length/\K (dI n (mr (SV.a8 r cs)) f) (bE s r)):wpOp P (.load n a) (bX s r) (bE s r) K:=by
 rw[yU,←aT,ha];simp only[SV.ev,uV];rw[gg (jI hb) r];simp only[SO.ev,fK,List.getD_cons_zero,k1];exact⟨rfl,Nat.one_pos,h.1,h.2⟩
theorem ara{s:SS}{n:Option Nat}{a:aI}{q}(h:al9 s n (cP s a)=some q):dN P (.load n a) s q:=by
 intro r hl hc hr gA K hk;unfold al9 at h
 split at h
 ·rename_i k f ha
  split at h
  ·rename_i e cs hb
   split at h
   ·split at h
    ·rename_i v hv
     split at h
     ·rename_i h1
      split at h
      ·rename_i ht;cases h;obtain⟨hG,zI⟩:=sF ht hk;have lO:=AV.gD (zI (v.ev r) (by simp[SV.a8]));obtain⟨q1,q2⟩:=afO (r:=r) hv (.inr lO);refine y8 ha hb ⟨by simpa using q1,?_⟩;rw[gw,q2];exact hG rfl
      ·cases h
     ·rename_i h1;cases h;obtain⟨q1,q2⟩:=afO (r:=r) hv (.inl h1);refine y8 ha hb ⟨by simpa using q1,?_⟩;rw[gw,q2];exact hk rfl
    ·cases h
   ·rename_i m
    split at h
    ·rename_i h1;cases h;have h2:=yV (K:=K) hl hc hk;have hx:mr (SV.a8 r cs)= .agg (SV.a8 r cs):=eM (by rw[SV.aQ];simpa using h1.1);refine y8 ha hb ⟨by rw[hx];simp only[AV.cells,SV.aQ,length_map,getD_some];exact h1.2,?_⟩
     have h3:dI (some m) (mr (SV.a8 r cs)) f= .agg (SV.a8 r ((cs.drop f).take m)):=by
      rw[hx];unfold dI;simp only
      split
      ·rename_i h4;obtain⟨rfl,_,h5⟩:=h4;simp only[AV.cells,SV.aQ,length_map]at h5;rw[List.drop_zero,List.take_of_length_le (by omega)]
      ·simp only[AV.cells,SV.aQ,map_take,map_drop]
     rw[h3];exact h2
    ·cases h
  ·cases h
 ·rename_i y f ha
  have hb:∀{K:KT},(f+n.getD 1<=(y.ev r).cells.length/\K (dI n (y.ev r) f) (bE s r))->wpOp P (.load n a) (bX s r) (bE s r) K:=by
   intro K h;rw[yU,←aT,ha];simp only[SV.ev,sJ,k1];exact h
  split at h
  ·split at h
   ·rename_i i;cases h;obtain⟨h1,h2⟩:=hk;refine hb ⟨Nat.succ_le_of_lt h1,?_⟩;rw[gw];exact h2 rfl
   ·rename_i l
    split at h
    ·rename_i d hd;cases h;have aF:=(List.getElem?_eq_some_iff.1 hd).1;refine hb ⟨by simp only[D.ev,AV.cells,D.aQ,length_map,getD_none];omega,?_⟩;rw[gw];simp only[D.ev,AV.cells,D.aQ,List.getD,getElem?_map,hd];exact hk rfl
    ·cases h
   ·cases h;simp only[jM,PO.wp,nU.wp,D.ev,bC hl]at hk;refine hb ⟨Nat.succ_le_of_lt hk.1,?_⟩;rw[gw];have h1:bX {s with nv:=s.nv+1} (r++ [y.ev r])=bX s r:=er (s:=s) hl hc;have h2:=hk.2 h1;have h3:bE {s with nv:=s.nv+1} (r++ [y.ev r])=bE s r:=e9 (s:=s) hl hc;rw[h3]at h2;simp only[SV.ev,D.ev,bC hl]at h2;exact h2
  ·rename_i m
   split at h
   ·rename_i h0;obtain⟨h0,_⟩:=h0;subst h0;cases h;obtain⟨h1,h2,h3,h4⟩:=hk;refine hb ⟨by simp[h2],?_⟩;rw[ql h1 h2];exact h4 rfl
   ·cases h;have h1:=lL (K:=K) hl hc hk;exact hb h1
 ·rename_i k l i f ha
  split at h
  ·rename_i q' j3;obtain⟨nl,e,sz⟩:=q';cases h;have h1:=lL (K:=K) hl hc hk;obtain⟨h2,h3,h4⟩:=h1;rw[yU,←aT,ha];simp only[SV.ev,uV];rcases e7 (dZ j3) r with h5|⟨h5,h6,_⟩
   ·rw[h5,fK];exact⟨rfl,h2,h3,h4⟩
   ·rw[h6]at h2;simp at h2
  ·cases h
 ·rename_i y ha;cases h;have h1:=lL (K:=K) hl hc hk;simp only[PO.wp,akN]at h1;rw[yU,←aT,ha];simp only[SV.ev]
  split at h1
  ·rename_i z f hy;rw[hy,sJ,k1];exact h1
  ·exact h1.elim
 ·cases h
theorem xt{s:SS}{k:Nat}{o:SO}{r r':List AV}{nv:Nat}{env:List (Nat×SV)}(hp:∃m,r'=r++m)(hl:r.length=s.nv)(hc:s.cl=true):
  bE {s with env:=env,ai:=s.ai.set k o,nv:=nv} r'=(bE s r).set k (o.ev r'):=by
 obtain⟨m,rfl⟩:=hp;have:=e9 (s:=s) (r':=m) hl hc;simp only[bE,map_set]at this⊢;rw[this]
theorem amr{s:SS}{m:Nat}{a b:aI}{q}(hb0:vQ b=true)(h:agR s m (cP s a) (cP s b)=some q):dN P (.store m a b) s q:=by
 intro r hl hc hr gA K hk;unfold agR at h
 split at h
 ·rename_i k f ha
  split at h
  ·rename_i e cs ns vs hb he
   split at h
   ·rename_i oA;obtain⟨g1,g2,g3,g4⟩:=oA;cases h;rw[cD]at hk
    have vj:jM P ns r (λ r'=>bX {s with ai:=s.ai.set k (.box e (cs.take f++vs++cs.drop (f+m))),nv:=iO s.nv ns} r'=bX s r->K .top (bE {s with ai:=s.ai.set k (.box e (cs.take f++vs++cs.drop (f+m))),nv:=iO s.nv ns} r'))/\
      (cs.length=1->∀c∈SV.a8 r cs,c.cg=true):=by
     by_cases h1:cs.length=1
     ·rw[if_pos h1]at hk;obtain⟨p1,p2⟩:=sF (g4 h1) hk;exact⟨p1,λ _=>p2⟩
     ·rw[if_neg h1]at hk;exact⟨hk,λ h=>(h1 h).elim⟩
    obtain⟨hk,lO⟩:=vj;obtain⟨r',⟨more,rfl⟩,hlen,hG,hE⟩:=mg he hl (tv hc hb0) hk;have hG:=hG (er (s:=s) hl hc);rw[xt ⟨more,rfl⟩ hl hc]at hG;rw[adg,←aT,←aT,ha];simp only[SV.ev,sm];rw[gg (jI hb) r];simp only[SO.ev,fK,List.getD_cons_zero,k1,List.set_cons_zero];have nd:vs.length=m:=g1;have hnl:(cs.take f++vs++cs.drop (f+m)).length=cs.length:=by simp;omega
    have mu:SV.a8 (r++more) cs=SV.a8 r cs:=ach λ c hm=>by
     rw[hl];exact tj.1 (SS.sV hc (mem_of_getElem? (jI hb))) c hm
    have dM:SV.a8 (r++more) (cs.take f++vs++cs.drop (f+m))=(SV.a8 r cs).take f++((cP s b).ev r).cells++(SV.a8 r cs).drop (f+m):=by
     rw[hE.cells,←mu];simp only[SV.aQ,map_append,map_take,map_drop]
    have hw:f+m<=(mr (SV.a8 r cs)).cells.length/\mr (SV.a8 (r++more) (cs.take f++vs++cs.drop (f+m)))=rH (mr (SV.a8 r cs)) f ((cP s b).ev r):=by
     by_cases h1:cs.length=1
     ·have hm1:m=1:=by rcases g3 with h|h;exact h;exact(h h1).elim
      have hf:f=0:=by omega
      subst hm1;subst hf;obtain⟨c,hcc⟩:=List.length_eq_one_iff.1 (show(SV.a8 r cs).length=1 by rw[SV.aQ];simpa using h1);have hc1:=AV.gD (lO h1 c (by rw[hcc];simp));rw[dM,hcc];simp only[mr,hc1,List.length_singleton,List.take_zero,nil_append,zero_add,List.drop_one,List.tail_cons,append_nil];refine⟨le_refl _,?_⟩;rw[AV.gD (hE.one rfl)];unfold rH;rw[if_pos ⟨rfl,by rw[hc1,AV.gD (hE.one rfl)];rfl⟩]
     ·have hx:mr (SV.a8 r cs)= .agg (SV.a8 r cs):=eM (by rw[SV.aQ];simpa using h1);rw[hx,dM];refine⟨by simp only[AV.cells,SV.aQ,length_map];exact g2,?_⟩;rw[eM (by simp[SV.aQ,hE.len];omega)];unfold rH;have hlc:(AV.agg (SV.a8 r cs)).cells.length=cs.length:=by simp[AV.cells,SV.aQ]
      by_cases h2:f=0/\((cP s b).ev r).cells.length=(AV.agg (SV.a8 r cs)).cells.length
      ·rw[if_pos h2];obtain⟨rfl,h3⟩:=h2;rw[hlc,hE.len]at h3;rw[AV.vE (hE.agg (by omega))];simp only[AV.cells,List.take_zero,nil_append,zero_add];rw[List.drop_eq_nil_of_le (by rw[SV.aQ];simp;omega),append_nil]
      ·rw[if_neg h2,hE.len]
       rfl
    refine⟨rfl,Nat.one_pos,hE.len,hE.sto,hw.1,?_⟩;simp only[SO.ev,hnl,hw.2]at hG;exact hG
   ·cases h
  ·cases h
 ·rename_i k l i f ha
  split at h
  ·rename_i nl e sz ns d j3 hd;simp only[Option.some.injEq]at h;subst h;have hnv:iO s.nv (ns++ [oD m d])=s.nv:=by rw[jo,aao hd,af5]
   simp only[cD,hnv]at hk;obtain⟨hk,hde⟩:=kM hd hk;obtain⟨hk,hE⟩:=wo hk;simp only[jM,PO.wp,aqk]at hk;obtain⟨q1,q2,q3,q4,q5⟩:=hk;generalize oG:aU (l.ev r)=xs at*;generalize hv:AV.sl (xs.set (idxOf (i.ev r)) (rH (xs.getD (idxOf (i.ev r)) .top) f (d.ev r)))=v at q5;have hlv:(aU v).length=xs.length:=by rw[←hv];simp[aU]
   have dm:=dZ j3
   have ayS:l.cl r.length=true:=by
    have:=SS.sV hc (mem_of_getElem? dm);rw[hl];exact this
   have oJ:bX {s with env:=s.env.map (λ p=>(p.1,p.2.rew k l (.x s.nv))),ai:=s.ai.set k (.row nl e sz (.x s.nv)),nv:=s.nv+1} (r++ [v])=bX s r:=by
    funext t
    simp only[bX];rw[uW (f:=SV.rew k l (.x s.nv)) rfl];have mu:=SS.ph hc t;have hold:(lk s.env t).ev (r++ [v])=(lk s.env t).ev r:=SV.cO _ (by rw[hl];exact mu);rw[←hold];generalize lk s.env t=w;cases w with
    |row k' l'=>
     simp only[SV.rew]
     split
     ·rename_i h1;have:=D.beq_eq _ _ h1.2;subst this;simp only[SV.ev,D.ev,bC hl,hlv,D.cO l' ayS,oG]
     ·rfl
    |rp k' l' i' f'=>
     simp only[SV.rew]
     split
     ·rename_i h1;have:=D.beq_eq _ _ h1.2;subst this;simp only[SV.ev,D.ev,bC hl,hlv,D.cO l' ayS,oG]
     ·rfl
    |_=>rfl
   have hG:=q5 oJ;rw[xt ⟨[v],rfl⟩ hl hc]at hG;rw[adg,←aT,←aT,ha,←hde];simp only[SV.ev,sm];have bn:xs≠[]:=by intro h0;rw[h0]at q1;simp at q1
   rcases e7 dm r with h5|⟨h5,h6,_⟩
   ·rw[h5,fK,oG];refine⟨rfl,q1,q2,q3,q4,?_⟩;have afF:aU v≠[]:=by intro h0;rw[h0]at hlv;simp at hlv;exact bn (List.eq_nil_of_length_eq_zero hlv.symm)
    have:SO.ev (r++ [v]) (.row nl e sz (.x s.nv))= .live e sz (xs.set (idxOf (i.ev r)) (rH (xs.getD (idxOf (i.ev r)) .top) f (d.ev r))):=by
     cases nl<;>simp only[SO.ev,D.ev,bC hl,if_neg afF]<;>rw[←hv]<;>rfl
    rw[this]at hG;exact hG
   ·rw[oG]at h6;exact(bn h6).elim
  ·cases h
 ·cases h
end
end Go.Ab
namespace Go.Ab
section
variable {P:Program}
theorem df:∀(a b:List Node) (nv:Nat),cI nv (a++b)=(cI nv a&&cI (iO nv a) b)
 | [],b,nv=>by simp[cI,iO]
 | .op o::a,b,nv=>by simp only[cons_append,cI,iO,df a b,Bool.and_assoc]
 | .aL c::a,b,nv=>by simp only[cons_append,cI,iO,df a b]
theorem tZ(r:List AV)(τ:List D)(i:Nat):(D.a8 r τ).getD i .top=(τ.getD i (.c .top)).ev r:=by
 rw[D.aQ];simp only[List.getD,getElem?_map];cases τ[i]? <;>rfl
theorem qj{l:List AV}(h:AV.ae l=true)(σ:Nat->Nat)(i:Nat):(l.getD i .top).bP σ=l.getD i .top:=by
 refine dX _ ?_;simp only[List.getD];cases hl:l[i]? with
 |none=>rfl
 |some a=>exact ba h a (mem_of_getElem? hl)
theorem adt{n k:Nat}{r:List AV}{τ:List D}{σ:Nat->Nat}(hn:AV.ae (D.a8 r τ)=true):∀(v:SV),v.pat n k=true->(v.lj τ σ).ev r=(v.ev (D.a8 r τ)).bP σ:=by
 intro v h;cases v with
 |d x=>
  cases x with
  |x i=>simp only[SV.lj,SV.ev,D.ev];rw[qj hn,tZ]
  |c a=>simp only[SV.lj,SV.ev,D.ev];rw[dX a h]
  |_=>simp[SV.pat]at h
 |row m l=>
  cases l with
  |x i=>simp only[SV.lj,SV.ev,D.ev,AV.bP];rw[tZ]
  |_=>simp[SV.pat]at h
 |ptr m f=>rfl
 |_=>simp[SV.pat]at h
theorem tL{n k:Nat}{r:List AV}{τ:List D}{σ:Nat->Nat}(hn:AV.ae (D.a8 r τ)=true):∀(l:List SV),l.all (SV.pat n k)=true->SV.a8 r (l.map (SV.lj τ σ))=AV.sy σ (SV.a8 (D.a8 r τ) l)
 | [],_=>rfl
 |v::l,h=>by
  simp only[all_cons,and_eq_true]at h;simp only[map_cons,SV.a8,AV.sy,adt hn v h.1,tL hn l h.2]
theorem aq5(σ:Nat->Nat)(l:List AV):(mr l).bP σ=mr (AV.sy σ l):=by
 cases l with
 |nil=>rfl
 |cons a l=>cases l<;>rfl
theorem tM{n k:Nat}{r:List AV}{τ:List D}{σ:Nat->Nat}(hn:AV.ae (D.a8 r τ)=true):∀(o:SO),o.pat n k=true->(o.lj τ σ).ev r=(o.ev (D.a8 r τ)).bP σ:=by
 intro o h;cases o with
 |dead=>rfl
 |box e cs=>
  simp only[SO.pat]at h;simp only[SO.lj,SO.ev,ad.bP,map_cons,map_nil,aq5,tL hn cs h,length_map]
 |row nl e s l=>
  cases l with
  |x i=>
   have hl:(aU ((D.a8 r τ).getD i .top)).map (AV.bP σ)=aU ((D.a8 r τ).getD i .top):=by
    rw[←fh];refine fi _ (cH ?_);simp only[List.getD];cases hx:(D.a8 r τ)[i]? with
    |none=>rfl
    |some a=>exact ba hn a (mem_of_getElem? hx)
   simp only[SO.lj];rw[og,og]
   show cq nl e s (aU ((τ.getD i (.c .top)).ev r))=(cq nl e s (aU ((D.a8 r τ).getD i .top))).bP σ;rw[←tZ];generalize aU ((D.a8 r τ).getD i .top)=xs at hl;unfold cq
   split
   ·rfl
   ·simp only[ad.bP,hl]
  |_=>simp[SO.pat]at h
theorem ads{n k:Nat}{r:List AV}{τ:List D}{σ:Nat->Nat}(hn:AV.ae (D.a8 r τ)=true):∀(v:SV),v.aa3 n k=true->(v.ahW τ σ).ev r=(v.ev (D.a8 r τ)).bP σ:=by
 intro v h;cases v with
 |a9 cs=>simp only[SV.aa3]at h;simp only[SV.ahW,SV.ev,AV.bP,tL hn cs h]
 |agg cs=>simp only[SV.aa3]at h;simp only[SV.ahW,SV.ev,AV.bP,tL hn cs h]
 |_=>exact adt (n:=n) (k:=k) hn _ (by simpa only[SV.aa3]using h)
theorem amY{n k:Nat}{l:List AV}(hn:AV.ae l=true):∀(v:SV),v.pat n k=true->(v.ev l).inScope k=true:=by
 intro v h;cases v with
 |d x=>
  cases x with
  |x i=>
   simp only[SV.ev,D.ev];refine cr _ ?_;simp only[List.getD];cases hx:l[i]? with
   |none=>rfl
   |some a=>exact ba hn a (mem_of_getElem? hx)
  |c a=>exact cr _ h
  |_=>simp[SV.pat]at h
 |row m y=>
  cases y with
  |x i=>simp only[SV.pat,and_eq_true]at h;exact h.2
  |_=>simp[SV.pat]at h
 |ptr m f=>exact h
 |_=>simp[SV.pat]at h
theorem tt{n k:Nat}{l:List AV}(hn:AV.ae l=true):∀(vs:List SV),vs.all (SV.pat n k)=true->AV.cS k (SV.a8 l vs)=true
 | [],_=>rfl
 |v::vs,h=>by
  simp only[all_cons,and_eq_true]at h;simp only[SV.a8,AV.cS,amY hn v h.1,tt hn vs h.2];rfl
theorem auA{k:Nat}{l:List AV}(h:AV.cS k l=true):(mr l).inScope k=true:=by
 unfold mr
 split
 ·simpa [AV.cS]using h
 ·exact h
theorem ai8{n k:Nat}{l:List AV}(hn:AV.ae l=true):∀(o:SO),o.pat n k=true->(o.ev l).inScope k=true:=by
 intro o h;cases o with
 |dead=>rfl
 |box e cs=>
  simp only[SO.pat]at h;simp only[SO.ev,ad.inScope,AV.cS,Bool.and_true];exact auA (tt hn cs h)
 |row nl e s y=>
  cases y with
  |x i=>
   have:AV.cS k (aU (l.getD i .top))=true:=by
    refine de _ (cH ?_);simp only[List.getD];cases hx:l[i]? with
    |none=>rfl
    |some a=>exact ba hn a (mem_of_getElem? hx)
   rw[og]
   show ad.inScope k (cq nl e s (aU (l.getD i .top)))=true;unfold cq
   split
   ·rfl
   ·exact this
  |_=>simp[SO.pat]at h
theorem sC{j:Nat}:∀{l:List Nat} {i n:Nat},posOf j l i=some n->i<=n/\l[n- i]? =some j
 | [],_,_,h=>by cases h
 |x::l,i,n,h=>by
  unfold posOf at h
  split at h
  ·cases h;rename_i hx;subst hx;exact⟨le_refl _,by simp⟩
  ·obtain⟨h1,h2⟩:=sC h;refine⟨by omega,?_⟩;rw[show n- i=(n- (i+1))+1 by omega,List.getElem?_cons_succ];exact h2
theorem yG{j:Nat}:∀{l:List Nat} {i:Nat},posOf j l i=none->j∉l
 | [],_,_=>by simp
 |x::l,i,h=>by
  unfold posOf at h
  split at h
  ·cases h
  ·rename_i hx;simp only[mem_cons,not_or];exact⟨λ h=>hx h.symm,yG h⟩
theorem oW:∀{l:List Nat},uS l=true->∀{i j x:Nat},l[i]? =some x->l[j]? =some x->i=j
 | [],_,i,j,x,h,_=>by simp at h
 |y::l,h,i,j,x,h1,h2=>by
  simp only[uS,and_eq_true,Bool.not_eq_true',List.contains_eq_mem,decide_eq_false_iff_not]at h;cases i<;>cases j
  ·rfl
  ·simp at h1 h2;subst h1;exact(h.1 (mem_of_getElem? h2)).elim
  ·simp at h1 h2;subst h2;exact(h.1 (mem_of_getElem? h1)).elim
  ·simp at h1 h2;rw[oW h.2 h1 h2]
theorem vT{ai:List SO}{dp:List Nat}{ps:List SO}:(fG ai dp ps).length=ai.length+(ps.length- dp.length):=by simp[fG]
theorem vS{ai:List SO}{dp:List Nat}{ps:List SO}(hnd:uS dp=true){i n:Nat}(hi:dp[i]? =some n)(hn:n<ai.length)(hp:i<ps.length):(fG ai dp ps)[n]? =ps[i]? :=by
 unfold fG;rw[getElem?_append_left (by simpa using hn),getElem?_map,List.getElem?_range hn];simp only[map_some];cases h:posOf n dp 0 with
 |none=>exact(yG h (mem_of_getElem? hi)).elim
 |some m=>
  obtain⟨_,h2⟩:=sC h;have:=oW hnd hi h2;simp only[Nat.sub_zero]at this;subst this;simp only[List.getD,getElem?_eq_getElem hp,getD_some]
theorem vR{ai:List SO}{dp:List Nat}{ps:List SO}{n:Nat}(hn:n<ai.length)(h:n∉dp):(fG ai dp ps)[n]? =ai[n]? :=by
 unfold fG;rw[getElem?_append_left (by simpa using hn),getElem?_map,List.getElem?_range hn];simp only[map_some];cases hp:posOf n dp 0 with
 |none=>simp only[List.getD,getElem?_eq_getElem hn,getD_some]
 |some m=>exact(h (mem_of_getElem? (sC hp).2)).elim
theorem afa{ai:List SO}{dp:List Nat}{ps:List SO}{i:Nat}(hi:dp.length<=i):(fG ai dp ps)[ai.length+(i- dp.length)]? =ps[i]? :=by
 unfold fG;rw[getElem?_append_right (by simp),length_map,List.length_range,List.getElem?_drop];congr 1;omega
theorem qx{kn:List (Nat×Nat)}{τ:List D}{σ:Nat->Nat}{n k:Nat}:∀{ps vs:List SV} {ns:List Node},ace kn τ σ ps vs=some ns->ps.all (SV.pat n k)=true->∀{r:List AV} {G:List AV->Prop},AV.ae (D.a8 r τ)=true->jM P ns r G->
  G r/\SV.a8 r vs=AV.sy σ (SV.a8 (D.a8 r τ) ps)
 | [],[],ns,h,_,r,G,_,hw=>by cases h;exact⟨hw,rfl⟩
 |p::ps,v::vs,ns,h,hp,r,G,hn,hw=>by
  simp only[ace]at h
  split at h
  ·rename_i a b ha hb;cases h;simp only[all_cons,and_eq_true]at hp;rw[cD]at hw
   have hv:jM P b r (λ r'=>G r')/\v.ev r=(p.ev (D.a8 r τ)).bP σ:=by
    unfold azw at ha
    split at ha
    ·rename_i i
     split at ha
     ·rename_i ms d hd
      split at ha
      ·rename_i hbq;cases ha;obtain⟨h1,h2⟩:=kM hd hw;refine⟨h1,?_⟩;rw[←h2,←D.beq_eq _ _ hbq];simp only[SV.ev,D.ev];rw[qj hn,tZ]
      ·cases ha
     ·cases ha
    ·split at ha
     ·rename_i hbq;cases ha;refine⟨hw,?_⟩;rw[←SV.beq_eq _ _ hbq,adt hn p hp.1]
     ·cases ha
   obtain⟨h3,h4⟩:=qx hb hp.2 hn hv.1;exact⟨h3,by simp only[SV.a8,AV.sy,hv.2,h4]⟩
  ·cases h
 | [],_::_,_,h,_,_,_,_,_=>by simp[ace]at h
 |_::_,[],_,h,_,_,_,_,_=>by simp[ace]at h
theorem nI{s:SS}{τ:List D}{σ:Nat->Nat}:∀{ps:List SO} {n:Nat},afS s τ σ n ps=true->∀i p,ps[i]? =some p->s.ai[σ (n+i)]? =some (p.lj τ σ)
 | [],_,_,i,p,hi=>by simp at hi
 |q::ps,n,h,i,p,hi=>by
  simp only[afS,and_eq_true]at h;cases i with
  |zero=>
   simp at hi;subst hi;have h1:=h.1
   split at h1
   ·rename_i o ho;rw[add_zero,ho,SO.beq_eq h1]
   ·cases h1
  |succ i=>
   simp at hi;have:=nI h.2 i p hi;rw[←this];congr 2;omega
theorem yx{r r':List AV}{ks:List (Nat×D×D)}(hk:∀q∈ks,q.2.1.ev r'=q.2.1.ev r/\(aU (q.2.1.ev r)).length=(aU (q.2.2.ev r')).length):
  ∀(v:SV),v.ev r'=v.ev r->(ac6 ks v).ev r'=v.ev r:=by
 induction ks with
 |nil=>intro v h;exact h
 |cons q ks ih=>
  intro v h;simp only[ac6,foldl_cons];obtain⟨h1,h2⟩:=hk q (by simp)
  have key:(v.rew q.1 q.2.1 q.2.2).ev r'=v.ev r:=by
   rw[←h];cases v with
   |row m l=>
    simp only[SV.rew]
    split
    ·rename_i hc;have:=D.beq_eq _ _ hc.2;subst this;simp only[SV.ev,h1,h2]
    ·rfl
   |rp m l i f=>
    simp only[SV.rew]
    split
    ·rename_i hc;have:=D.beq_eq _ _ hc.2;subst this;simp only[SV.ev,h1,h2]
    ·rfl
   |_=>rfl
  have h3:∀(ks:List (Nat×D×D)),(∀q∈ks,q.2.1.ev r'=q.2.1.ev r/\(aU (q.2.1.ev r)).length=(aU (q.2.2.ev r')).length)->∀w:SV,w.ev r'=v.ev r->(ks.foldl (λ v q=>v.rew q.1 q.2.1 q.2.2) w).ev r'=v.ev r:=by
   intro ks
   induction ks with
   |nil=>intro _ w hw;exact hw
   |cons q ks ih2=>
    intro hk w hw;simp only[foldl_cons];refine ih2 (λ q hq=>hk q (by simp[hq])) _ ?_;obtain⟨h1,h2⟩:=hk q (by simp);rw[←hw];cases w with
    |row m l=>
     simp only[SV.rew]
     split
     ·rename_i hc;have:=D.beq_eq _ _ hc.2;subst this;simp only[SV.ev,h1,h2]
     ·rfl
    |rp m l i f=>
     simp only[SV.rew]
     split
     ·rename_i hc;have:=D.beq_eq _ _ hc.2;subst this;simp only[SV.ev,h1,h2]
     ·rfl
    |_=>rfl
  exact h3 ks (λ q hq=>hk q (by simp[hq])) _ key
theorem sT:∀{ks:List (Nat×D×D)} {r:List AV} {G:List AV->Prop},jM P (ks.map λ q=> .aL (.eql q.2.1 q.2.2)) r G->G r/\∀q∈ks,(aU (q.2.1.ev r)).length=(aU (q.2.2.ev r)).length
 | [],r,G,h=>⟨h,by simp⟩
 |q::ks,r,G,h=>by
  simp only[map_cons,jM,nU.wp]at h;obtain⟨h1,h2⟩:=h;obtain⟨h3,h4⟩:=sT h2;refine⟨h3,λ q' hq'=> ?_⟩;rcases List.mem_cons.1 hq' with rfl|hq'
  ·exact h1
  ·exact h4 q' hq'
theorem afl{g:hD}{τ:List D}{σ:Nat->Nat}{nv n:Nat}(h:D.cls n τ=true):∀q∈tJ g τ σ nv,q.2.1.cl n=true:=by
 intro q hq;simp only[tJ,List.mem_filterMap]at hq;obtain⟨m,_,hm⟩:=hq
 split at hm
 ·rename_i i _ _;cases hm
  have key:∀i,(τ.getD i (.c .top)).cl n=true:=by
   intro i;simp only[List.getD];cases hx:τ[i]? with
   |none=>rfl
   |some d=>exact ad4.1 h d (mem_of_getElem? hx)
  exact key _
 ·cases hm
theorem afU{r:List AV}{nv m:Nat}(hl:r.length=nv){outs:List AV}(ho:outs.length=m)(more:List AV):D.a8 (r++ .a9 outs::more) (pP nv m)=outs:=by
 rw[D.aQ,pP,map_map];apply ext_getElem
 ·simp[ho]
 ·intro i h1 h2;simp only[getElem_map,getElem_range,Function.comp_apply,D.ev]
  have:(r++AV.a9 outs::more).getD nv .top= .a9 outs:=by
   rw[List.getD,getElem?_append_right (by omega),hl,Nat.sub_self];rfl
  rw[this];simp only[amm,List.getD,getElem?_eq_getElem h2,getD_some]
theorem amv{s:SS}{f:FuncId}{gs:List hD}{args:List aI}{g:hD}{q}(h:yt s f (args.map (cP s)) g=some q):dN P (.bk gs f args) s q:=by
 intro r hl hc hr gA K hk;unfold yt at h
 split at h
 ·rename_i τ dp hm;simp only at h
  split at h
  ·rename_i ns ko
   split at h
   ·rename_i oA;obtain⟨g1,g2,g3,g4,g5,g6,g7⟩:=oA;simp only[Option.some.injEq]at h;subst h;simp only[hD.ok,and_eq_true,decide_eq_true_eq]at g1;obtain⟨⟨⟨⟨p1,p2⟩,p3⟩,p4⟩,p5⟩:=g1;have zE:∀n,fg s.ai dp n=if n<dp.length then dp.getD n 0 else s.ai.length+(n- dp.length):=λ _=>rfl
    have an0:D.cls s.nv τ=true:=by
     have gA:=gA;simp only at gA;rw[df,and_eq_true]at gA;have:=gA.2;simp only[cI,PO.cl,and_eq_true,g7]at this;exact this.1
    have pL:AV.ae (D.a8 r τ)=true:=D.cR hr τ (by rw[hl];exact an0);simp only at hk;rw[cD]at hk;obtain⟨hk,r9⟩:=qx ko p1 pL hk;simp only[jM,PO.wp]at hk;obtain⟨outs,eY,hlen,hon,hk⟩:=hk;obtain⟨hk,heq⟩:=sT hk;have hl1:(r++ [AV.a9 outs]).length=s.nv+1:=by simp[hl]
    have afG:∀d:D,d.cl s.nv=true->d.ev (r++ [.a9 outs])=d.ev r:=λ d hd=>D.cO d (by rw[hl];exact hd)
    have hE:D.a8 (r++ [.a9 outs]) (pP s.nv g.m)=outs:=afU hl hlen [];have aoc:AV.ae (D.a8 (r++ [.a9 outs]) (pP s.nv g.m))=true:=by rw[hE];exact hon
    have hK:=hk (by
     funext t
     simp only[bX]
     rw[uW (f:=ac6 (tJ g τ (fg s.ai dp) s.nv)) (by
      generalize tJ g τ (fg s.ai dp) s.nv=ks
      induction ks with
      |nil=>rfl
      |cons a ks ih=>simp only[ac6,foldl_cons,SV.rew]at ih⊢;exact ih)]
     refine yx (λ q hq=> ?_) _ (SV.cO _ (by rw[hl];exact SS.ph hc t));have mu:=afl an0 q hq;exact⟨afG _ mu,by rw[←afG _ mu];exact heq q hq⟩)
    have tV:∀i,i<g.ai.length->∃n,dp[i]? =some n/\fg s.ai dp i=n/\n<s.ai.length:=by
     intro i hi;have eH:i<dp.length:=by omega
     refine⟨dp[i],getElem?_eq_getElem eH,?_,?_⟩
     ·rw[zE,if_pos eH];simp[List.getD,eH]
     ·have:=List.all_eq_true.1 g4 dp[i] (List.getElem_mem eH);simpa using this
    have hO1:(g.ai.map (SO.ev (D.a8 r τ))).length=g.ai.length:=by simp
    have zS:(g.cz.map (SO.ev outs)).length=g.cz.length:=by simp
    have tT:(g.res.ahW (pP s.nv g.m) (fg s.ai dp)).ev (r++ [.a9 outs])=(g.res.ev outs).bP (fg s.ai dp):=by
     rw[ads aoc _ p4,hE]
    have aoe:bE {s with env:=s.env.map (λ p=>(p.1,ac6 (tJ g τ (fg s.ai dp) s.nv) p.2)),ai:=fG s.ai dp (g.cz.map (SO.lj (pP s.nv g.m) (fg s.ai dp))),nv:=s.nv+1} (r++ [.a9 outs])=
     (fG s.ai dp (g.cz.map (SO.lj (pP s.nv g.m) (fg s.ai dp)))).map (SO.ev (r++ [.a9 outs])):=rfl
    rw[tT,aoe]at hK;refine⟨_,_,?_,hK⟩
    have:=fE.frame (O:=bE s r) (nc:=(fG s.ai dp (g.cz.map (SO.lj (pP s.nv g.m) (fg s.ai dp)))).map (SO.ev (r++ [.a9 outs]))) eY (fg s.ai dp)
     (λ i hi=>by rw[hO1]at hi;obtain⟨n,_,h2,h3⟩:=tV i hi;rw[h2,dJ];exact h3)
     (λ i hi=>by
      rw[hO1]at hi;have hp:g.ai[i]? =some g.ai[i]:=getElem?_eq_getElem hi;have h1:=nI g6 i _ hp;rw[zero_add]at h1;simp only[bE,getElem?_map,h1,hp,map_some];rw[tM pL _ (List.all_eq_true.1 p2 _ (mem_of_getElem? hp))])
     (λ i j hi hj he=>by
      rw[hO1]at hi hj;obtain⟨n,a1,a2,_⟩:=tV i hi;obtain⟨m,b1,b2,_⟩:=tV j hj;rw[a2,b2]at he;subst he;exact oW g3 a1 b1)
     (λ i hi=>by rw[hO1]at hi;rw[zE,if_neg (by omega),dJ,hO1,g2])
     (λ a ha=>by rw[hO1];exact bU (tt pL _ p1) a ha)
     (λ ob ho=>by
      rw[hO1];obtain⟨o,hom,rfl⟩:=List.mem_map.1 ho;exact ai8 pL o (List.all_eq_true.1 p2 _ hom))
     (by rw[length_map,vT,dJ,hO1,zS,length_map,g2])
     (λ i hi=>by
      rw[zS]at hi;have hp:g.cz[i]? =some g.cz[i]:=getElem?_eq_getElem hi
      have hev:((g.cz[i]).lj (pP s.nv g.m) (fg s.ai dp)).ev (r++ [.a9 outs])=((g.cz[i]).ev outs).bP (fg s.ai dp):=by
       rw[tM aoc _ (List.all_eq_true.1 p3 _ (mem_of_getElem? hp)),hE]
      have hg:(fG s.ai dp (g.cz.map (SO.lj (pP s.nv g.m) (fg s.ai dp))))[fg s.ai dp i]? =some ((g.cz[i]).lj (pP s.nv g.m) (fg s.ai dp)):=by
       by_cases aF:i<g.ai.length
       ·obtain⟨n,a1,a2,a3⟩:=tV i aF;rw[a2,vS g3 a1 a3 (by simpa using hi),getElem?_map,hp];rfl
       ·rw[zE,if_neg (by omega),afa (by omega),getElem?_map,hp];rfl
      rw[getElem?_map,hg,getElem?_map,hp];simp only[map_some,hev])
     (λ n hn cA=>by
      rw[dJ]at hn
      have:n∉dp:=λ j2=>by
       obtain⟨i,hi⟩:=List.getElem?_of_mem j2;have hil:=(List.getElem?_eq_some_iff.1 hi).1;obtain⟨n',a1,a2,_⟩:=tV i (by omega);rw[hi]at a1;cases a1;exact cA i (by rw[hO1];omega) a2
      rw[getElem?_map,vR hn this];simp only[bE,getElem?_map];cases ho:s.ai[n]? with
      |none=>rfl
      |some o=>
       simp only[map_some];rw[SO.cO (r':=[.a9 outs]) o (by rw[hl];exact SS.sV hc (mem_of_getElem? ho))])
    have ha:args.map (aI.ev (bX s r))=(SV.a8 (D.a8 r τ) g.args).map (AV.bP (fg s.ai dp)):=by
     rw[←fh,←r9,SV.aQ,map_map];apply map_congr_left;intro x _;simp only[Function.comp_apply,aT]
    rw[ha];exact this
   ·cases h
  ·cases h
 ·cases h
theorem adb{n:Nat}{l:List AV}(hn:AV.ae l=true):∀(v:SV),v.pat n 0=true->(v.ev l).ag=true:=by
 intro v h;cases v with
 |d x=>
  cases x with
  |x i=>
   simp only[SV.ev,D.ev,List.getD];cases hx:l[i]? with
   |none=>rfl
   |some a=>exact ba hn a (mem_of_getElem? hx)
  |c a=>exact h
  |_=>simp[SV.pat]at h
 |row m y=>cases y<;>simp[SV.pat]at h
 |ptr m f=>simp[SV.pat]at h
 |_=>simp[SV.pat]at h
theorem xw{n:Nat}{l:List AV}(hn:AV.ae l=true):∀(vs:List SV),vs.all (SV.pat n 0)=true->AV.ae (SV.a8 l vs)=true
 | [],_=>rfl
 |v::vs,h=>by
  simp only[all_cons,and_eq_true]at h;simp only[SV.a8,AV.ae,adb hn v h.1,xw hn vs h.2];rfl
theorem aqF{n:Nat}{l:List AV}(hn:AV.ae l=true):∀(v:SV),v.aa3 n 0=true->(v.ev l).ag=true:=by
 intro v h;cases v with
 |a9 cs=>exact xw hn cs h
 |agg cs=>exact xw hn cs h
 |_=>exact adb (n:=n) hn _ h
theorem auB{l:List AV}(h:AV.ae l=true):(mr l).ag=true:=by
 unfold mr
 split
 ·simpa [AV.ae]using h
 ·exact h
theorem xx{n:Nat}{l:List AV}(hn:AV.ae l=true):∀(o:SO),o.pat n 0=true->(o.ev l).ae=true:=by
 intro o h;cases o with
 |dead=>rfl
 |box e cs=>
  simp only[SO.pat]at h;simp only[SO.ev,ad.ae,AV.ae,Bool.and_true];exact auB (xw hn cs h)
 |row nl e s y=>
  cases y with
  |x i=>
   have:AV.ae (aU (l.getD i .top))=true:=by
    refine cH ?_;simp only[List.getD];cases hx:l[i]? with
    |none=>rfl
    |some a=>exact ba hn a (mem_of_getElem? hx)
   rw[og]
   show ad.ae (cq nl e s (aU (l.getD i .top)))=true;unfold cq
   split
   ·rfl
   ·exact this
  |_=>simp[SO.pat]at h
theorem akA{a:AV}(h:a.ag=true):a.one=true:=by
 cases a<;>first|exact h|(simp[AV.ag]at h;done)
theorem ahA{a:AV}(h:a.ag=true):refs a= []:=by
 cases a<;>first|rfl|(simp[AV.ag]at h;done)
theorem aqE{n:Nat}{l:List AV}(hn:AV.ae l=true):∀(v:SV),v.pat n 1=true->(v.ev l).one=true:=by
 intro v h;cases v with
 |d x=>
  refine akA (adb (n:=n) hn (.d x) ?_);cases x<;>first|exact h|(simp[SV.pat]at h;done)
 |row m y=>
  cases y with
  |x i=>simp only[SV.pat,and_eq_true,decide_eq_true_eq]at h;simp only[SV.ev,AV.one,beq_iff_eq];omega
  |_=>simp[SV.pat]at h
 |ptr m f=>simp only[SV.pat,decide_eq_true_eq]at h;simp only[SV.ev,AV.one,beq_iff_eq];omega
 |_=>simp[SV.pat]at h
theorem abI{n k:Nat}{l:List AV}(hn:AV.ae l=true):∀(vs:List SV),vs.all (SV.pat n 1)=true->(vs.map ((AV.bP λ _=>k)∘SV.ev l)).flatMap refs=List.replicate (vs.filter SV.isR).length k
 | [],_=>rfl
 |v::vs,h=>by
  simp only[all_cons,and_eq_true]at h;simp only[map_cons,List.flatMap_cons,Function.comp_apply,abI hn vs h.2];cases v with
  |d x=>
   have:(SV.ev l (.d x)).ag=true:=adb (n:=n) hn (.d x) (by cases x<;>first|exact h.1|(simp[SV.pat]at h;done));rw[dX _ this,ahA this];rfl
  |row m y=>rfl
  |ptr m f=>rfl
  |_=>simp[SV.pat]at h
theorem aj8{s:SS}{f:FuncId}{gs:List hD}{args:List aI}{g:hD}{q}(zI:g.one=true)(h:yt s f (args.map (cP s)) g=some q):dN P (.jU gs f args) s q:=by
 intro r hl hc hr gA K hk;unfold yt at h
 split at h
 ·rename_i τ dp hm;simp only at h
  split at h
  ·rename_i ns ko
   split at h
   ·rename_i oA;obtain⟨g1,g2,g3,g4,g5,g6,g7⟩:=oA;simp only[Option.some.injEq]at h;subst h;simp only[hD.ok,and_eq_true,decide_eq_true_eq]at g1;obtain⟨⟨⟨⟨p1,p2⟩,p3⟩,p4⟩,p5⟩:=g1;have zE:∀n,fg s.ai dp n=if n<dp.length then dp.getD n 0 else s.ai.length+(n- dp.length):=λ _=>rfl
    have an0:D.cls s.nv τ=true:=by
     have gA:=gA;simp only at gA;rw[df,and_eq_true]at gA;have:=gA.2;simp only[cI,PO.cl,and_eq_true,g7]at this;exact this.1
    have pL:AV.ae (D.a8 r τ)=true:=D.cR hr τ (by rw[hl];exact an0);simp only at hk;rw[cD]at hk;obtain⟨hk,r9⟩:=qx ko p1 pL hk;simp only[jM,PO.wp]at hk;obtain⟨outs,eY,hlen,hon,hk⟩:=hk;obtain⟨hk,heq⟩:=sT hk;have hl1:(r++ [AV.a9 outs]).length=s.nv+1:=by simp[hl]
    have afG:∀d:D,d.cl s.nv=true->d.ev (r++ [.a9 outs])=d.ev r:=λ d hd=>D.cO d (by rw[hl];exact hd)
    have hE:D.a8 (r++ [.a9 outs]) (pP s.nv g.m)=outs:=afU hl hlen [];have aoc:AV.ae (D.a8 (r++ [.a9 outs]) (pP s.nv g.m))=true:=by rw[hE];exact hon
    have hK:=hk (by
     funext t
     simp only[bX]
     rw[uW (f:=ac6 (tJ g τ (fg s.ai dp) s.nv)) (by
      generalize tJ g τ (fg s.ai dp) s.nv=ks
      induction ks with
      |nil=>rfl
      |cons a ks ih=>simp only[ac6,foldl_cons,SV.rew]at ih⊢;exact ih)]
     refine yx (λ q hq=> ?_) _ (SV.cO _ (by rw[hl];exact SS.ph hc t));have mu:=afl an0 q hq;exact⟨afG _ mu,by rw[←afG _ mu];exact heq q hq⟩)
    have tV:∀i,i<g.ai.length->∃n,dp[i]? =some n/\fg s.ai dp i=n/\n<s.ai.length:=by
     intro i hi;have eH:i<dp.length:=by omega
     refine⟨dp[i],getElem?_eq_getElem eH,?_,?_⟩
     ·rw[zE,if_pos eH];simp[List.getD,eH]
     ·have:=List.all_eq_true.1 g4 dp[i] (List.getElem_mem eH);simpa using this
    have hO1:(g.ai.map (SO.ev (D.a8 r τ))).length=g.ai.length:=by simp
    have zS:(g.cz.map (SO.ev outs)).length=g.cz.length:=by simp
    have tT:(g.res.ahW (pP s.nv g.m) (fg s.ai dp)).ev (r++ [.a9 outs])=(g.res.ev outs).bP (fg s.ai dp):=by
     rw[ads aoc _ p4,hE]
    have aoe:bE {s with env:=s.env.map (λ p=>(p.1,ac6 (tJ g τ (fg s.ai dp) s.nv) p.2)),ai:=fG s.ai dp (g.cz.map (SO.lj (pP s.nv g.m) (fg s.ai dp))),nv:=s.nv+1} (r++ [.a9 outs])=
     (fG s.ai dp (g.cz.map (SO.lj (pP s.nv g.m) (fg s.ai dp)))).map (SO.ev (r++ [.a9 outs])):=rfl
    rw[tT,aoe]at hK;simp only[hD.one,and_eq_true,decide_eq_true_eq]at zI;obtain⟨⟨⟨⟨⟨e1,e2⟩,e3⟩,e4⟩,e5⟩,e6⟩:=zI;obtain⟨o,ho⟩:∃o,g.ai= [o]:=List.length_eq_one_iff.1 e1;obtain⟨o',ho'⟩:∃o,g.cz= [o]:=List.length_eq_one_iff.1 e2;obtain⟨n,a1,a2,a3⟩:=tV 0 (by omega);have asZ:(g.res.ev outs).ag=true:=aqF hon _ e5;have aow:∀v∈g.args,(v.ev (D.a8 r τ)).one=true:=λ v hv=>aqE pL v (by have:=List.all_eq_true.1 p1 v hv;rwa [e1]at this)
    have ha:args.map (aI.ev (bX s r))=(SV.a8 (D.a8 r τ) g.args).map (AV.bP λ _=>n):=by
     have h1:args.map (aI.ev (bX s r))=(SV.a8 (D.a8 r τ) g.args).map (AV.bP (fg s.ai dp)):=by
      rw[←fh,←r9,SV.aQ,map_map];apply map_congr_left;intro x _;simp only[Function.comp_apply,aT]
     rw[h1,SV.aQ,map_map,map_map];exact map_congr_left λ v hv=>ajb a2 (aow v hv)
    refine⟨n,SV.a8 (D.a8 r τ) g.args,o.ev (D.a8 r τ),g.res.ev outs,o'.ev outs,ha,?_,?_,?_,?_,asZ,?_,?_,?_⟩
    ·rw[SV.aQ,List.all_map];exact List.all_eq_true.2 λ v hv=>aow v hv
    ·have h1:(args.flatMap λ x=>refs (x.ev (bX s r)))=(args.map (aI.ev (bX s r))).flatMap refs:=by rw[List.flatMap_map]
     rw[h1,ha,SV.aQ,map_map,abI (k:=n) pL g.args (by rw[e1]at p1;exact p1),e6];rfl
    ·have h1:=nI g6 0 o (by rw[ho];rfl);rw[zero_add,a2]at h1;simp only[bE,getElem?_map,h1,map_some];rw[tM pL o (by have:=List.all_eq_true.1 p2 o (by rw[ho];simp);exact this),fJ (xx pL o (List.all_eq_true.1 e3 o (by rw[ho];simp)))]
    ·exact xx pL o (List.all_eq_true.1 e3 o (by rw[ho];simp))
    ·exact xx hon o' (List.all_eq_true.1 e4 o' (by rw[ho'];simp))
    ·have:=eY;unfold gQ at this;rw[ho,ho']at this;exact this
    ·have ajr:dp.length=1:=by rw[g2,e1]
     have hO:(fG s.ai dp (g.cz.map (SO.lj (pP s.nv g.m) (fg s.ai dp)))).map (SO.ev (r++ [.a9 outs]))=(bE s r).set n (o'.ev outs):=by
      apply ext_getElem?;intro j;by_cases hj:j=n
      ·subst hj;rw[getElem?_map,vS g3 a1 a3 (by rw[ho'];simp),getElem?_map,ho',List.getElem?_set_self (by rw[dJ];exact a3)];simp only[List.getElem?_cons_zero,map_some];rw[tM aoc o' (by have:=List.all_eq_true.1 p3 o' (by rw[ho'];simp);exact this),hE,fJ (xx hon o' (List.all_eq_true.1 e4 o' (by rw[ho'];simp)))]
      ·rw[getElem?_set_ne (λ h=>hj h.symm)];by_cases aF:j<s.ai.length
       ·rw[getElem?_map,vR aF (λ j2=>by
          obtain⟨i,hi⟩:=List.getElem?_of_mem j2;have hil:=(List.getElem?_eq_some_iff.1 hi).1;have:i=0:=by omega
          subst this;rw[a1]at hi;cases hi;exact hj rfl)]
        simp only[bE,getElem?_map];cases hx:s.ai[j]? with
        |none=>rfl
        |some ob=>
         simp only[map_some];rw[SO.cO (r':=[.a9 outs]) ob (by rw[hl];exact SS.sV hc (mem_of_getElem? hx))]
       ·rw[getElem?_eq_none (by rw[length_map,vT,length_map,ho',ajr];simp only[List.length_cons,length_nil];omega),getElem?_eq_none (by rw[dJ];omega)]
     rw[hO,dX _ asZ]at hK;exact hK
   ·cases h
  ·cases h
 ·cases h
theorem abD{s:SS}{f:FuncId}{gs:List hD}{args:List aI}:∀{ls:List hD} {q},qi s f (args.map (cP s)) ls=some q->dN P (.bk gs f args) s q
 | [],_,h=>by cases h
 |g::ls,q,h=>by
  unfold qi at h
  split at h
  ·rename_i q' hq;cases h;exact amv hq
  ·exact abD h
theorem sv{s:SS}{f:FuncId}{gs:List hD}{args:List aI}:∀{ls:List hD} {q},qi s f (args.map (cP s)) (ls.filter hD.one)=some q->dN P (.jU gs f args) s q
 | [],_,h=>by cases h
 |g::ls,q,h=>by
  by_cases hg:g.one=true
  ·rw[List.filter_cons_of_pos hg]at h;unfold qi at h
   split at h
   ·rename_i q' hq;cases h;exact aj8 hg hq
   ·exact sv h
  ·rw[List.filter_cons_of_neg hg]at h;exact sv h
theorem ar1{s:SS}{a:aI}{cs:List SV}{i:Nat}{v:SV}(ha:cP s a= .a9 cs)(hi:cs[i]? =some v):dN P (.ext a i) s ([],v,s):=by
 intro r hl hc hr gA K hk;have hG:=hk rfl
 show(match a.ev (bX s r)with| .a9 vs=>i<vs.length/\K (vs.getD i .top) (bE s r)|_=>False);rw[←aT,ha];simp only[SV.ev,SV.aQ];have aF:=(List.getElem?_eq_some_iff.1 hi).1;refine⟨by simpa using aF,?_⟩;simp only[List.getD,getElem?_map,hi,map_some,getD_some];exact hG
end
end Go.Ab
namespace Go.Ab
section
variable {P:Program}
theorem aoT{s:SS}{off:Nat}{a:aI}{q}(h:agT s off (cP s a)=some q):dN P (.aK off a) s q:=by
 intro r hl hc hr gA K hk;unfold agT at h
 split at h
 ·rename_i k f ha
  split at h
  ·rename_i q' hb;cases h;obtain⟨e,cs⟩:=q';rw[qT,←aT,ha];simp only[SV.ev,pc];rw[gg (jI hb) r];simp only[SO.ev,fK,k1];exact⟨rfl,hk rfl⟩
  ·cases h
 ·rename_i k l i f ha
  split at h
  ·rename_i q' j3;obtain⟨e,sz⟩:=q';cases h;rw[qT,←aT,ha];simp only[SV.ev,pc];have:=gg (dZ j3) r;simp only[SO.ev]at this;rw[this,fK,k1];exact⟨rfl,hk rfl⟩
  ·rename_i q' j3;obtain⟨e,sz⟩:=q';cases h;rw[qT,←aT,ha];simp only[SV.ev,pc];simp only[jM,nU.wp,ah2]at hk
   split at hk
   ·obtain⟨h0,h1,hk⟩:=hk;rcases e7 (dZ j3) r with h5|⟨h5,h6,_⟩
    ·rw[h5,fK,k1];exact⟨rfl,hk trivial⟩
    ·rw[h6]at h1;simp at h1;omega
   ·exact hk.elim
  ·cases h
 ·rename_i y f ha;cases h;rw[qT,←aT,ha];simp only[SV.ev,qA,k1];exact hk rfl
 ·rename_i y ha;cases h;have h1:=lL (K:=K) hl hc hk;simp only[PO.wp,alm]at h1;rw[qT,←aT,ha];simp only[SV.ev]
  split at h1
  ·rename_i z f hy;rw[hy,qA,k1];exact h1
  ·exact h1.elim
 ·cases h
theorem avQ{s:SS}{off:Nat}{n:Option Nat}{a:aI}{q}(h:atu s off n (cP s a)=some q):dN P (.zZ off n a) s q:=by
 intro r hl hc hr gA K hk
 have hb:∀{A:AV},(cP s a).ev r=A->(A.isAgg=true/\off+n.getD 1<=A.cells.length/\K (dI n A off) (bE s r))->wpOp P (.zZ off n a) (bX s r) (bE s r) K:=by
  intro A hA h;rw[asH,←aT,hA];exact h
 unfold atu at h
 split at h
 ·rename_i cs ha
  split at h
  ·split at h
   ·rename_i v hv;cases h;have aF:=(List.getElem?_eq_some_iff.1 hv).1;refine hb (A:= .agg (SV.a8 r cs)) (by rw[ha];rfl) ⟨rfl,by simp only[AV.cells,SV.aQ,length_map,getD_none];omega,?_⟩;rw[gw];simp only[AV.cells,SV.aQ,List.getD,getElem?_map,hv];exact hk rfl
   ·cases h
  ·rename_i m
   split at h
   ·rename_i h1;cases h;have h2:=yV (K:=K) hl hc hk;refine hb (A:= .agg (SV.a8 r cs)) (by rw[ha];rfl) ⟨rfl,by simp only[AV.cells,SV.aQ,length_map,getD_some];exact h1,?_⟩
    have h3:dI (some m) (.agg (SV.a8 r cs)) off= .agg (SV.a8 r ((cs.drop off).take m)):=by
     unfold dI;simp only
     split
     ·rename_i h4;obtain⟨rfl,_,h5⟩:=h4;simp only[AV.cells,SV.aQ,length_map]at h5;rw[List.drop_zero,List.take_of_length_le (by omega)]
     ·simp only[AV.cells,SV.aQ,map_take,map_drop]
    rw[h3];exact h2
   ·cases h
 ·rename_i l ha
  split at h
  ·split at h
   ·rename_i d hd;cases h;have aF:=(List.getElem?_eq_some_iff.1 hd).1;refine hb (A:= .agg (D.a8 r l)) (by rw[ha];rfl) ⟨rfl,by simp only[AV.cells,D.aQ,length_map,getD_none];omega,?_⟩;rw[gw];simp only[AV.cells,D.aQ,List.getD,getElem?_map,hd];exact hk rfl
   ·cases h
  ·cases h;exact hb (A:=(D.agg l).ev r) (by rw[ha];rfl) (lL (K:=K) hl hc hk)
 ·rename_i x _ ha;cases h;exact hb (A:=x.ev r) (by rw[ha];rfl) (lL (K:=K) hl hc hk)
 ·cases h
theorem anZ{s:SS}{m:Nat}{a b:aI}{q}(h:agS s m (cP s a) (cP s b)=some q):dN P (.bJ m a b) s q:=by
 intro r hl hc hr gA K hk;unfold agS at h
 split at h
 ·rename_i l i ha hb;cases h;rw[adh,←aT,←aT,ha,hb];simp only[SV.ev];simp only[jM,PO.wp,lQ]at hk
  split at hk
  ·rename_i xs _ j h1 h2;rw[h1,h2,ab5,k1];obtain⟨q1,q2,q3,q4⟩:=hk;refine⟨q1,q2,q3,?_⟩;have h3:bX {s with nv:=s.nv+1} (r++ [xs.getD j.toNat .top])=bX s r:=er (s:=s) hl hc;have h4:=q4 h3;have h5:bE {s with nv:=s.nv+1} (r++ [xs.getD j.toNat .top])=bE s r:=e9 (s:=s) hl hc;rw[h5]at h4;simp only[SV.ev,D.ev,bC hl]at h4;exact h4
  ·exact hk.elim
 ·rename_i k l i ha hb
  split at h
  ·rename_i nl e sz j3
   split at h
   ·rename_i qp;subst qp;cases h;rw[adh,←aT,←aT,ha,hb];simp only[SV.ev];simp only[jM,nU.wp,ah2]at hk
    split at hk
    ·rename_i j h2;obtain⟨q1,q2,q3⟩:=hk;rw[h2,sP];have h3:=q3 trivial;simp only[SV.ev,h2,idxOf]at h3;rcases e7 (dZ j3) r with h5|⟨h5,h6,_⟩
     ·rw[h5,fK,k1];exact⟨rfl,rfl,q1,q2,h3⟩
     ·rw[h6]at q2;simp at q2;omega
    ·exact hk.elim
   ·cases h
  ·cases h
 ·cases h
theorem vJ{O:List ad}{y:AV}{M:List AV->Prop}(h:k9 [] y M):k9 O y M:=by
 unfold k9 at*
 split at h
 ·exact h
 ·exact h
 ·simp[uR]at h
 ·exact h.elim
theorem awn{s:SS}{t m bytes k:Nat}{a b:aI}{l y:D}{nl:Bool}{e sz:Nat}(ha:cP s a= .row k l)(j3:cur s k l=some (nl,e,sz))(avo:e=t/\sz=m)
  (hy:cP s b= .d y∨∃k' l',cP s b= .row k' l'/\(cur s k' l').isSome=true/\y= .sl l'):
  dN P (.app t m bytes a b) s ([.op (.app m bytes l y)],.row k (.x s.nv),{s with ai:=s.ai.set k (.row nl e sz (.x s.nv)),nv:=s.nv+1}):=by
 intro r hl hc hr gA K hk;obtain⟨rfl,rfl⟩:=avo;rw[anc,←aT,←aT,ha]
 have ah5:∀{M:List AV->Prop},k9 [] (y.ev r) M->k9 (bE s r) ((cP s b).ev r) M:=by
  intro M h;rcases hy with hy|⟨k',l',hy,hcu,rfl⟩
  ·rw[hy];exact vJ h
  ·rw[hy];obtain⟨⟨nl',e',ta⟩,hq⟩:=Option.isSome_iff_exists.1 hcu;simp only[D.ev,x5]at h;simp only[SV.ev,uz];rcases e7 (dZ hq) r with h5|⟨h5,h6,_⟩
   ·rw[h5,kG];exact⟨rfl,h⟩
   ·rw[h5,om,h6];rw[h6]at h;exact⟨rfl,h⟩
 refine ah5 ?_;simp only[jM,PO.wp,aiF]at hk;refine qQ hk λ ys _ hK=>⟨hK.1,?_⟩
 obtain⟨_,o7,j0,hK⟩:=hK;generalize oG:aU (l.ev r)=xs at*;have oJ:bX {s with ai:=s.ai.set k (.row nl e sz (.x s.nv)),nv:=s.nv+1} (r++ [.sl (xs++ys)])=bX s r:=er (s:=s) hl hc;have hG:=hK oJ;rw[xt ⟨_,rfl⟩ hl hc]at hG;simp only[SV.ev,D.ev,bC hl,bN,List.length_append]at hG;simp only[SV.ev,oG,uQ,k1];have dm:=dZ j3;have aF:k<(bE s r).length:=by rw[dJ];exact(List.getElem?_eq_some_iff.1 dm).1
 have an5:∀{ob},(bE s r)[k]? =some ob->(bE s r).set k ob=bE s r:=by
  intro ob h;apply ext_getElem?;intro j;rw[getElem?_set]
  split
  ·rename_i hj;subst hj;rw[h]
  ·rfl
 rcases e7 dm r with h5|⟨h5,h6,h7⟩
 ·rw[h5,oG,kG];refine⟨rfl,rfl,rfl,o7,j0,?_⟩;cases nl with
  |false=>simpa only[SO.ev,D.ev,bC hl,bN]using hG
  |true=>
   have bn:xs≠[]:=by
    intro h0;have:=gg dm r;simp only[SO.ev,oG,h0,if_true]at this;rw[this]at h5;cases h5
   have afF:xs++ys≠[]:=by simp[bn]
   simp only[SO.ev,D.ev,bC hl,bN,if_neg afF]at hG;exact hG
 ·rw[oG]at h6;subst h6;subst h7;rw[h5,om];simp only[length_nil,zero_add]at o7 j0;refine⟨rfl,rfl,rfl,o7,j0,λ h0=> ?_,λ h0=> ?_⟩
  ·subst h0;simp only[SO.ev,D.ev,bC hl,bN,append_nil,if_true,length_nil,add_zero]at hG;rw[an5 h5]at hG;exact hG
  ·simp only[SO.ev,D.ev,bC hl,bN,nil_append,if_neg h0,length_nil,zero_add]at hG;exact hG
theorem asl{s:SS}{t m bytes:Nat}{a b:aI}{y:D}(ha:cP s a= .d (.c .aw))
  (hy:cP s b= .d y∨∃k' l',cP s b= .row k' l'/\(cur s k' l').isSome=true/\y= .sl l'):
  dN P (.app t m bytes a b) s ([.op (.app m bytes (.c (.sl [])) y),.aL (.ne (.x s.nv))],.row s.ai.length (.x s.nv),{s with ai:=s.ai++ [.row false t m (.x s.nv)],nv:=s.nv+1}):=by
 intro r hl hc hr gA K hk;rw[anc,←aT,←aT,ha]
 have ah5:∀{M:List AV->Prop},k9 [] (y.ev r) M->k9 (bE s r) ((cP s b).ev r) M:=by
  intro M h;rcases hy with hy|⟨k',l',hy,hcu,rfl⟩
  ·rw[hy];exact vJ h
  ·rw[hy];obtain⟨⟨nl',e',ta⟩,hq⟩:=Option.isSome_iff_exists.1 hcu;simp only[D.ev,x5]at h;simp only[SV.ev,uz];rcases e7 (dZ hq) r with h5|⟨h5,h6,_⟩
   ·rw[h5,kG];exact⟨rfl,h⟩
   ·rw[h5,om,h6];rw[h6]at h;exact⟨rfl,h⟩
 refine ah5 ?_;simp only[jM,PO.wp,aiF,D.ev,bN,length_nil,zero_add,nil_append]at hk;refine qQ hk λ ys _ hK=>⟨hK.1,?_⟩
 obtain⟨_,o7,j0,bn,hK⟩:=hK;simp only[D.ev,bC hl,bN]at bn;have oJ:bX {s with ai:=s.ai++ [.row false t m (.x s.nv)],nv:=s.nv+1} (r++ [.sl ys])=bX s r:=er (s:=s) hl hc;have hG:=hK oJ
 have hO:bE {s with ai:=s.ai++ [.row false t m (.x s.nv)],nv:=s.nv+1} (r++ [.sl ys])=bE s r++ [.live t m ys]:=by
  simp only[bE,map_append,map_cons,map_nil,SO.ev,D.ev,bC hl,bN];congr 1;exact e9 (s:=s) hl hc
 rw[hO]at hG;simp only[SV.ev,D.ev,bC hl,bN]at hG;simp only[SV.ev,D.ev,sE,k1,dJ];exact⟨o7,j0,λ h0=>(bn h0).elim,λ _=>hG⟩
theorem avW{s:SS}{a:aI}{i j:Nat}(ha:cP s a= .d (.x j)):dN P (.ext a i) s ([.aL (.a9 (.x j) i)],.d (.ext j i),s):=by
 intro r hl hc hr gA K hk;rw[asI,←aT,ha];simp only[jM,nU.wp,ajV]at hk;simp only[SV.ev]
 split at hk
 ·rename_i vs hv;rw[hv,ajC,k1];have h2:=hk.2 trivial;simp only[SV.ev,D.ev]at h2 hv;rw[hv]at h2;exact⟨hk.1,h2⟩
 ·exact hk.elim
theorem dF{s:SS}:∀{xs:List aI} {ns:List Node} {ds:List D} {b:Bool},gY s xs=some (ns,ds,b)->iO s.nv ns=s.nv/\∀{r:List AV} {G:List AV->Prop},jM P ns r G->G r/\
  (AV.ae (D.a8 r ds)=true->D.a8 r ds=xs.map (λ x=>iW (bE s r) (x.ev (bX s r)))/\(b=false->AV.ae (xs.map (aI.ev (bX s r)))=true/\D.a8 r ds=xs.map (aI.ev (bX s r))))
 | [],ns,ds,b,h=>by
   simp only[gY,Option.some.injEq,Prod.mk.injEq]at h;obtain⟨rfl,rfl,rfl⟩:=h;exact⟨rfl,λ hw=>⟨hw,λ _=>⟨rfl,λ _=>⟨rfl,rfl⟩⟩⟩⟩
 |x::xs,ns,ds,b,h=>by
  simp only[gY]at h
  split at h
  ·rename_i ns1 ds1 b1 h1;obtain⟨hn,ih⟩:=dF h1
   split at h
   ·rename_i k l hx
    split at h
    ·rename_i q j3;obtain⟨nl,e,sz⟩:=q;cases h;refine⟨hn,λ {r G} hw=> ?_⟩;obtain⟨h2,h3⟩:=ih hw;refine⟨h2,λ cA=> ?_⟩;simp only[D.a8,AV.ae,and_eq_true]at cA;obtain⟨h3,_⟩:=h3 cA.2;refine⟨?_,by simp⟩;simp only[D.a8,map_cons,h3,List.cons.injEq,and_true];rw[←aT,hx];simp only[SV.ev,D.ev,iW];rcases e7 (dZ j3) r with h5|⟨h5,h6,_⟩
     ·rw[h5];simp
     ·rw[h5,h6];simp
    ·cases h
   ·split at h
    ·rename_i ms d hd;cases h;refine⟨by rw[jo,aao hd,hn],λ {r G} hw=> ?_⟩;rw[cD]at hw;obtain⟨hw,he⟩:=kM hd hw;obtain⟨h2,h3⟩:=ih hw;rw[aT]at he;refine⟨h2,λ cA=> ?_⟩;simp only[D.a8,AV.ae,and_eq_true]at cA;obtain⟨h3,h4⟩:=h3 cA.2;rw[he]at cA;refine⟨?_,λ hb=> ?_⟩
     ·simp only[D.a8,map_cons,h3,he,ab9 cA.1]
     ·obtain⟨g1,g2⟩:=h4 hb;simp only[D.a8,map_cons,AV.ae,g1,g2,he,cA.1,Bool.and_true,and_self]
    ·cases h
  ·cases h
theorem iV{s:SS}{r:List AV}(hl:r.length=s.nv)(hc:s.cl=true){ns:List Node}(hn:iO s.nv ns=s.nv){o:PO}{K:KT}(h:jM P (nx s ns o).1 r (λ r'=>bX (nx s ns o).2.2 r'=bX s r->K ((nx s ns o).2.1.ev r') (bE (nx s ns o).2.2 r'))):
  jM P ns r λ r1=>r1=r->o.wp P r λ v=>K v (bE s r):=by
 simp only[nx,cD]at h;refine k7 ns (λ m hw he=> ?_) h;rw[he]at hw;exact PO.pW (o:=o) hw λ v hv=>ahx (ns:=ns) (o:=o) hl hc hn hv
theorem rh{s:SS}{ns:List Node}(hn:iO s.nv ns=s.nv){f:FuncId}{ds:List D}{b:Bool}(h:cI s.nv (nx s ns (.call f ds b)).1=true):D.cls s.nv ds=true:=by
 simp only[nx,df,and_eq_true]at h;have:=h.2;simp only[cI,PO.cl,Bool.and_true,hn]at this;exact this
theorem akr{s:SS}{r:List AV}{f:FuncId}{args:List aI}{ds:List D}{b:Bool}{K:KT}(cA:AV.ae (D.a8 r ds)=true)
  (h1:D.a8 r ds=args.map (λ x=>iW (bE s r) (x.ev (bX s r)))) (h2:b=false->AV.ae (args.map (aI.ev (bX s r)))=true)
  (h:(PO.call f ds b).wp P r λ v=>K v (bE s r)):yN P f (args.map λ x=>iW (bE s r) (x.ev (bX s r))) (args.map (aI.ev (bX s r))) (bE s r) K:=by
 obtain⟨res,q1,q2,q3,q4⟩:=h;rw[h1]at q1 cA;refine oU res q1 cA ?_
 have:xo (bE s r) (args.map (aI.ev (bX s r))) res=bE s r:=by
  cases b with
  |true=>exact um (q3 rfl)
  |false=>exact sX (h2 rfl)
 rw[this];exact q4
theorem amX{s:SS}{f:FuncId}{args:List aI}{ns:List Node}{ds:List D}{b:Bool}(h:gY s args=some (ns,ds,b)):dN P (.nw f args) s (nx s ns (.call f ds b)):=by
 intro r hl hc hr gA K hk;obtain⟨hn,hs⟩:=dF (P:=P) h;obtain⟨hG,ha⟩:=hs (iV hl hc hn hk);have cA:=D.cR hr ds (by rw[hl];exact rh hn gA);obtain⟨h1,h2⟩:=ha cA;rw[aje];exact akr cA h1 (λ hb=>(h2 hb).1) (hG rfl)
theorem amN{s:SS}{f:FuncId}{args:List aI}{ns:List Node}{ds:List D}(h:gY s args=some (ns,ds,false)):dN P (.lK f args) s (nx s ns (.call f ds false)):=by
 intro r hl hc hr gA K hk;obtain⟨hn,hs⟩:=dF (P:=P) h;obtain⟨hG,ha⟩:=hs (iV hl hc hn hk);have cA:=D.cR hr ds (by rw[hl];exact rh hn gA);obtain⟨h1,h2⟩:=(ha cA).2 rfl;obtain⟨res,q1,q2,q3,q4⟩:=hG rfl;rw[ajd];rw[h2]at q1;exact oR res q1 h1 q4
theorem aj7{s:SS}{gs:List hD}{f:FuncId}{args:List aI}{ns:List Node}{ds:List D}(h:gY s args=some (ns,ds,false)):dN P (.bk gs f args) s (nx s ns (.call f ds false)):=by
 intro r hl hc hr gA K hk;obtain⟨hn,hs⟩:=dF (P:=P) h;obtain⟨hG,ha⟩:=hs (iV hl hc hn hk);have cA:=D.cR hr ds (by rw[hl];exact rh hn gA);obtain⟨h1,h2⟩:=(ha cA).2 rfl;obtain⟨res,q1,q2,q3,q4⟩:=hG rfl;rw[h2]at q1;refine⟨res,bE s r,?_,q4⟩;have:=fE.fresh q1 h1 (bE s r);rwa [dX res q2,map_nil,append_nil]at this
theorem amC{s:SS}{f:FuncId}{args:List aI}{ns:List Node}{ds:List D}{b:Bool}(h:gY s args=some (ns,ds,b)):dN P (.mJ f args) s (nx s ns (.call f ds true)):=by
 intro r hl hc hr gA K hk;obtain⟨hn,hs⟩:=dF (P:=P) h;obtain⟨hG,ha⟩:=hs (iV hl hc hn hk);have cA:=D.cR hr ds (by rw[hl];exact rh hn gA);obtain⟨h1,h2⟩:=ha cA;obtain⟨res,q1,q2,q3,q4⟩:=hG rfl;rw[h1]at q1 cA;exact⟨res,q3 rfl,cA,q1,q4⟩
theorem abF{nl:Bool}{e s:Nat}{xs:List AV}(h:AV.ae xs=true)(t:Nat->Nat):(cq nl e s xs).bP t=cq nl e s xs:=by
 unfold cq
 split
 ·rfl
 ·simp only[ad.bP];rw[←fh,fi xs h]
theorem aoR{s:SS}{ns:List Node}(hn:iO s.nv ns=s.nv){nl:Bool}{e m:Nat}{f:FuncId}{ds:List D}(h:cI s.nv (nx s ns (.eW nl e m f ds)).1=true):D.cls s.nv ds=true:=by
 simp only[nx,df,and_eq_true]at h;have:=h.2;simp only[cI,PO.cl,Bool.and_true,hn]at this;exact this
theorem aoQ{s:SS}{nl:Bool}{e m:Nat}{f:FuncId}{args:List aI}{ns:List Node}{ds:List D}{q}(h:gY s args=some (ns,ds,false))(hq:tz s nl e m (nx s ns (.eW nl e m f ds))=some q):dN P (.eW nl e m f args) s q:=by
 intro r hl hc hr gA K hk;obtain⟨hn,hs⟩:=dF (P:=P) h;have hq1:q.1=(nx s ns (.eW nl e m f ds)).1:=by simp only[tz,nx,Option.some.injEq]at hq;subst hq;rfl
 obtain⟨hG,ha⟩:=hs (ae9 hq hn hl hc hk);have cA:=D.cR hr ds (by rw[hl];exact aoR hn (by rw[←hq1];exact gA));obtain⟨h1,h2⟩:=(ha cA).2 rfl;obtain⟨xs,q1,q2,q3⟩:=hG rfl;rw[h2]at q1;refine⟨.row 0 xs.length,cq nl e m xs,h1,q1,?_⟩;rw[abF q2,dJ];simp only[AV.bP,add_zero];exact q3
def known(g:D):Option (FuncId×List D):=
 match g with
 | .c (.fn f [])=>some (f,[])
 | .fn f aX=>some (f,aX)
 |_=>none
theorem abM{s:SS}{g:aI}{x:D}{f:FuncId}{aX:List D}{args:List aI}{ns:List Node}{ds:List D}{b:Bool}(hg:cP s g= .d x)(hx:∀r,x.ev r= .fn f (D.a8 r aX))(h:gY s args=some (ns,ds,b)):
  dN P (.jV g args) s (nx s ns (.call f (ds++aX) b)):=by
 intro r hl hc hr gA K hk;obtain⟨hn,hs⟩:=dF (P:=P) h;obtain⟨hG,ha⟩:=hs (iV hl hc hn hk);have cA:=D.cR hr (ds++aX) (by rw[hl];exact rh hn gA);have aox:D.a8 r (ds++aX)=D.a8 r ds++D.a8 r aX:=by simp only[D.aQ,map_append]
 rw[aox]at cA;have vi:=cA;rw[bF,and_eq_true]at vi;obtain⟨h1,h2⟩:=ha vi.1;obtain⟨res,q1,q2,q3,q4⟩:=hG rfl;rw[yT,←aT,hg];simp only[SV.ev,hx,sD];rw[aox,h1]at q1;rw[h1]at cA;refine oU res q1 cA ?_
 have:xo (bE s r) (args.map (aI.ev (bX s r))) res=bE s r:=by
  cases b with
  |true=>exact um (q3 rfl)
  |false=>exact sX (h2 rfl).1
 rw[this];exact q4
theorem af9{s:SS}{ns:List Node}(hn:iO s.nv ns=s.nv){g:D}{ds:List D}{b:Bool}(h:cI s.nv (nx s ns (.ew g ds b)).1=true):g.cl s.nv=true/\D.cls s.nv ds=true:=by
 simp only[nx,df,and_eq_true]at h;have:=h.2;simp only[cI,PO.cl,Bool.and_true,hn,and_eq_true]at this;exact this
theorem ahp{s:SS}{g:aI}{x:D}{args:List aI}{ns:List Node}{ds:List D}{b:Bool}(hg:cP s g= .d x)(h:gY s args=some (ns,ds,b)):
  dN P (.jV g args) s (nx s ns (.ew x ds b)):=by
 intro r hl hc hr gA K hk;obtain⟨hn,hs⟩:=dF (P:=P) h;obtain⟨hG,ha⟩:=hs (iV hl hc hn hk);obtain⟨hx,hds⟩:=af9 hn gA;have vi:=D.cR hr ds (by rw[hl];exact hds);have hnx:=D.bK hr x (by rw[hl];exact hx);obtain⟨h1,h2⟩:=ha vi;have hG:=hG rfl;rw[yT,←aT,hg];simp only[PO.wp,qH]at hG;simp only[SV.ev]
 split at hG
 ·rename_i f aX hf;rw[hf]at hnx⊢;rw[sD];obtain⟨res,q1,q2,q3,q4⟩:=hG;rw[h1]at q1 vi;refine oU res q1 (by rw[bF,vi];exact hnx) ?_
  have:xo (bE s r) (args.map (aI.ev (bX s r))) res=bE s r:=by
   cases b with
   |true=>exact um (q3 rfl)
   |false=>exact sX (h2 rfl).1
  rw[this];exact q4
 ·exact hG.elim
theorem abJ{s:SS}{g:aI}{x:D}{f:FuncId}{aX:List D}{args:List aI}{ns:List Node}{ds:List D}(hg:cP s g= .d x)(hx:∀r,x.ev r= .fn f (D.a8 r aX))(h:gY s args=some (ns,ds,false)):
  dN P (.iN g args) s (nx s ns (.call f (ds++aX) false)):=by
 intro r hl hc hr gA K hk;obtain⟨hn,hs⟩:=dF (P:=P) h;obtain⟨hG,ha⟩:=hs (iV hl hc hn hk);have cA:=D.cR hr (ds++aX) (by rw[hl];exact rh hn gA);have aox:D.a8 r (ds++aX)=D.a8 r ds++D.a8 r aX:=by simp only[D.aQ,map_append]
 rw[aox]at cA;have vi:=cA;rw[bF,and_eq_true]at vi;obtain⟨h1,h2⟩:=(ha vi.1).2 rfl;obtain⟨res,q1,q2,q3,q4⟩:=hG rfl;rw[yS,←aT,hg];simp only[SV.ev,hx,sA];rw[aox,h2]at q1;rw[h2]at cA;exact oR res q1 cA q4
theorem ahh{s:SS}{g:aI}{x:D}{args:List aI}{ns:List Node}{ds:List D}(hg:cP s g= .d x)(h:gY s args=some (ns,ds,false)):
  dN P (.iN g args) s (nx s ns (.ew x ds false)):=by
 intro r hl hc hr gA K hk;obtain⟨hn,hs⟩:=dF (P:=P) h;obtain⟨hG,ha⟩:=hs (iV hl hc hn hk);obtain⟨hx,hds⟩:=af9 hn gA;have vi:=D.cR hr ds (by rw[hl];exact hds);have hnx:=D.bK hr x (by rw[hl];exact hx);obtain⟨h1,h2⟩:=(ha vi).2 rfl;have hG:=hG rfl;rw[yS,←aT,hg];simp only[PO.wp,qH]at hG;simp only[SV.ev]
 split at hG
 ·rename_i f aX hf;rw[hf]at hnx⊢;rw[sA];obtain⟨res,q1,q2,q3,q4⟩:=hG;rw[h2]at q1 vi;exact oR res q1 (by rw[bF,vi];exact hnx) q4
 ·exact hG.elim
theorem aq3{s:SS}{f:FuncId}{aX:List aI}{ns:List Node}{ds:List D}(mu:D.cls s.nv ds=true)(h:gY s aX=some (ns,ds,false)):dN P (.sI f aX) s (done s ns (.d (.fn f ds))):=by
 intro r hl hc hr gA K hk;obtain⟨hn,hs⟩:=dF (P:=P) h;obtain⟨hG,ha⟩:=hs hk;have cA:=D.cR hr ds (by rw[hl];exact mu);obtain⟨h1,h2⟩:=(ha cA).2 rfl;have hG:=hG rfl;rw[am8,k1,←h2];exact hG
theorem aq2{s:SS}{a:aI}{q}(h:xOp (.ca a) s=some q):dN P (.ca a) s q:=by
 intro r hl hc hr gA K hk;simp only[xOp]at h;rw[am7,←aT]
 split at h
 ·rename_i k f ha
  split at h
  ·rename_i q' hb;obtain⟨e,cs⟩:=q';cases h;rw[ha];simp only[SV.ev,abP];rw[gg (jI hb) r];simp only[SO.ev,fK,k1];exact⟨rfl,hk rfl⟩
  ·cases h
 ·rename_i y f ha;cases h;rw[ha];simp only[SV.ev,sH,k1];exact hk rfl
 ·rename_i f l ha;cases h;rw[ha];simp only[SV.ev,D.ev,yX,k1];exact hk rfl
 ·rename_i x _ ha;cases h;rw[ha];simp only[SV.ev];simp only[jM,nU.wp,zl]at hk
  split at hk
  ·rename_i f cs hf;rw[hf,yX,k1];have:=hk trivial;simp only[SV.ev,hf]at this;exact this
  ·rename_i y f hf;rw[hf,sH,k1];have:=hk trivial;simp only[SV.ev,hf]at this;exact this
  ·exact hk.elim
 ·cases h
theorem akI{r:List AV}(hr:AV.ae r=true):∀(ps:List (Nat×D)) (z:List AV),AV.ae z=true->ps.all (λ p=>p.2.cl r.length)=true->AV.ae (eX z (ps.map λ p=>(p.1,p.2.ev r)))=true:=by
 intro ps
 induction ps with
 |nil=>intro z hz _;exact hz
 |cons p ps ih=>
  intro z hz hp;simp only[all_cons,and_eq_true]at hp;simp only[map_cons,eX];refine ih _ (fL λ a ha=> ?_) hp.2;rcases List.mem_or_eq_of_mem_set ha with h|rfl
  ·exact ba hz a h
  ·exact D.bK hr _ hp.1
theorem alK{s:SS}{t m len:Nat}{z:AV}{ps:List (Nat×aI)}{ns:List Node}{qs:List (Nat×D)}(h:pU s m len ps=some (ns,qs)):dN P (.iR t m len z ps) s (nx s ns (.mL z len qs)):=by
 intro r hl hc hr gA K hk;obtain⟨hn,hs⟩:=nJ (P:=P) h;obtain⟨hG,dm⟩:=hs (iV hl hc hn hk);have hG:=hG rfl;simp only[PO.wp]at hG;simp only[wpOp];simp only[nx,df,and_eq_true]at gA;have h2:=gA.2;simp only[cI,PO.cl,Bool.and_true,hn,and_eq_true]at h2;refine dm _ _ (by simp) ⟨akI hr qs _ (fL λ a ha=>by rw[List.eq_of_mem_replicate ha];exact h2.1) (by rw[hl];exact h2.2),hG⟩
theorem axp{s:SS}{o:PU}{args:List aI}{ns:List Node}{ds:List D}{b:Bool}(h:gY s args=some (ns,ds,b)):dN P (.pu o args) s (nx s ns (.pu o ds)):=by
 intro r hl hc hr gA K hk;obtain⟨hn,hs⟩:=dF (P:=P) h;obtain⟨hG,ha⟩:=hs (iV hl hc hn hk);simp only[nx,df,and_eq_true]at gA;have h2:=gA.2;simp only[cI,PO.cl,Bool.and_true,hn]at h2;have cA:=D.cR hr ds (by rw[hl];exact h2);obtain⟨h1,_⟩:=ha cA;have hG:=hG rfl;simp only[PO.wp]at hG;rw[h1]at hG cA;exact⟨cA,hG⟩
theorem aiO{e:Env}{O:List ad}{t m bytes:Nat}{a b:aI}{sb:ByteArray}(hb:b.ev e= .v (.string sb)){K:KT}(hm:m=1)(h:ny O (a.ev e) t m bytes (dr sb) K):wpOp P (.kN t m bytes a b) e O K:=by
 have h':iu O (a.ev e) t m bytes (dr sb) K=ny O (a.ev e) t m bytes (dr sb) K:=by
  unfold iu ny;cases a.ev e<;>first|rfl|(rename_i k l;cases O[k]? with|none=>rfl|some o=>cases o<;>rfl)
 simp only[wpOp,hb];refine⟨hm,?_⟩;have:(b.ev e= .v (.string sb)):=hb
 show iu O (a.ev e) t m bytes (dr sb) K;rw[h'];exact h
theorem asp{s:SS}{t m bytes k:Nat}{a b:aI}{l y:D}{nl:Bool}{e sz:Nat}(ha:cP s a= .row k l)(hy:cP s b= .d y)(j3:cur s k l=some (nl,e,sz))(avo:e=t/\sz=m):
  dN P (.kN t m bytes a b) s ([.op (.kN m bytes l y)],.row k (.x s.nv),{s with ai:=s.ai.set k (.row nl e sz (.x s.nv)),nv:=s.nv+1}):=by
 intro r hl hc hr gA K hk;obtain⟨rfl,rfl⟩:=avo;simp only[jM,PO.wp,aap]at hk
 split at hk
 case h_2=>exact hk.elim
 rename_i sb hsb;obtain⟨hm,o7,j0,hK⟩:=hk;have hbv:b.ev (bX s r)= .v (.string sb):=by rw[←aT,hy];exact hsb
 refine aiO hbv hm ?_;rw[←aT,ha];have hlen:=nn sb;generalize dr sb=ys at*;rw[←hlen]at o7 j0;generalize oG:aU (l.ev r)=xs at*;have oJ:bX {s with ai:=s.ai.set k (.row nl e sz (.x s.nv)),nv:=s.nv+1} (r++ [.sl (xs++ys)])=bX s r:=er (s:=s) hl hc;have hG:=hK oJ;rw[xt ⟨_,rfl⟩ hl hc]at hG;simp only[SV.ev,D.ev,bC hl,bN,List.length_append]at hG;simp only[SV.ev,oG,uQ,k1];have dm:=dZ j3
 have an5:∀{ob},(bE s r)[k]? =some ob->(bE s r).set k ob=bE s r:=by
  intro ob h;apply ext_getElem?;intro j;rw[getElem?_set]
  split
  ·rename_i hj;subst hj;split
   ·rw[h]
   ·rename_i aF;rw[getElem?_eq_none (by omega)]
  ·rfl
 rcases e7 dm r with h5|⟨h5,h6,h7⟩
 ·rw[h5,oG,kG];refine⟨rfl,rfl,rfl,o7,j0,?_⟩;cases nl with
  |false=>simpa only[SO.ev,D.ev,bC hl,bN]using hG
  |true=>
   have bn:xs≠[]:=by
    intro h0;have:=gg dm r;simp only[SO.ev,oG,h0,if_true]at this;rw[this]at h5;cases h5
   have afF:xs++ys≠[]:=by simp[bn]
   simp only[SO.ev,D.ev,bC hl,bN,if_neg afF]at hG;exact hG
 ·rw[oG]at h6;subst h6;subst h7;rw[h5,om];simp only[length_nil,zero_add]at o7 j0;refine⟨rfl,rfl,rfl,o7,j0,λ h0=> ?_,λ h0=> ?_⟩
  ·subst h0;simp only[SO.ev,D.ev,bC hl,bN,append_nil,if_true,length_nil,add_zero]at hG;rw[an5 h5]at hG;exact hG
  ·simp only[SO.ev,D.ev,bC hl,bN,nil_append,if_neg h0,length_nil,zero_add]at hG;exact hG
theorem apz{s:SS}{t m bytes:Nat}{a b:aI}{y:D}(ha:cP s a= .d (.c .aw))(hy:cP s b= .d y):
  dN P (.kN t m bytes a b) s ([.op (.kN m bytes (.c (.sl [])) y),.aL (.ne (.x s.nv))],.row s.ai.length (.x s.nv),{s with ai:=s.ai++ [.row false t m (.x s.nv)],nv:=s.nv+1}):=by
 intro r hl hc hr gA K hk;simp only[jM,PO.wp,aap]at hk
 split at hk
 case h_2=>exact hk.elim
 rename_i sb hsb;obtain⟨hm,o7,j0,bn,hK⟩:=hk;have hbv:b.ev (bX s r)= .v (.string sb):=by rw[←aT,hy];exact hsb
 refine aiO hbv hm ?_;rw[←aT,ha];have hlen:=nn sb;generalize dr sb=ys at*;rw[←hlen]at o7 j0;simp only[D.ev,bN,length_nil,zero_add,nil_append]at o7 j0 bn hK;simp only[bC hl,bN]at bn;have oJ:bX {s with ai:=s.ai++ [.row false t m (.x s.nv)],nv:=s.nv+1} (r++ [.sl ys])=bX s r:=er (s:=s) hl hc;have hG:=hK oJ
 have hO:bE {s with ai:=s.ai++ [.row false t m (.x s.nv)],nv:=s.nv+1} (r++ [.sl ys])=bE s r++ [.live t m ys]:=by
  simp only[bE,map_append,map_cons,map_nil,SO.ev,D.ev,bC hl,bN];congr 1;exact e9 (s:=s) hl hc
 rw[hO]at hG;simp only[SV.ev,D.ev,bC hl,bN]at hG;simp only[SV.ev,D.ev,sE,k1,dJ];exact⟨o7,j0,λ h0=>(bn h0).elim,λ _=>hG⟩
theorem nk{s:SS}{lo:Option aI}(h:abt s lo=true){r:List AV}{d:Int}(hd:lo=none->d=0){M:Int->Prop}(hm:M 0):fB d (bX s r) lo M:=by
 cases lo with
 |none=>rw[show fB d (bX s r) none M=M d from rfl,hd rfl];exact hm
 |some x=>
  simp only[abt]at h
  split at h
  ·rename_i k n hx;have:=of_decide_eq_true h;subst this;simp only[fB];rw[←aT,hx];exact hm
  ·cases h
theorem av2{s:SS}{m:Nat}{a:aI}{lo hi:Option aI}{q}(h:atv s m (cP s a) lo hi=some q):dN P (.cut m a lo hi) s q:=by
 intro r hl hc hr gA K hk;unfold atv at h
 split at h
 ·rename_i ha
  split at h
  ·rename_i hz;cases h;have hG:=hk rfl;simp only[wpOp];rw[←aT,ha];exact nk hz.1 (λ _=>rfl) (nk hz.2 (λ _=>rfl) ⟨rfl,rfl,hG⟩)
  ·cases h
 ·rename_i k l ha
  split at h
  ·rename_i nl e sz j3
   split at h
   ·rename_i oA;obtain⟨rfl,z1,z2,z3⟩:=oA;cases h;have dm:=dZ j3
    have nH:(nl=true->aU (l.ev r)≠[])/\K (.row s.ai.length 0) (bE {s with ai:=s.ai.set k .dead++ [.row false e sz (.c (.sl []))]} r):=by
     cases nl
     ·exact⟨λ h=>(by cases h),hk rfl⟩
     ·simp only[if_true,jM,nU.wp]at hk;exact⟨λ _=>hk.1,hk.2 rfl⟩
    obtain⟨bn,hG⟩:=nH
    have mY:(bE s r)[k]? =some (.live e sz (aU (l.ev r))):=by
     rw[gg dm r];cases nl
     ·rfl
     ·simp only[SO.ev];rw[if_neg (bn rfl)]
    have oJ:bE {s with ai:=s.ai.set k .dead++ [.row false e sz (.c (.sl []))]} r=(bE s r).set k .dead++ [.live e sz []]:=by
     simp only[bE,map_append,map_set,map_cons,map_nil];rfl
    rw[oJ]at hG;simp only[wpOp];rw[←aT,ha];simp only[SV.ev,mY];refine⟨by trivial,by trivial,nk z1 (λ _=>rfl) (nk z3 (λ h=>by rw[h]at z2;cases z2) ⟨rfl,rfl,?_⟩)⟩;rw[dJ];exact hG
   ·cases h
  ·cases h
 ·cases h
theorem aso{s:SS}{t m bytes:Nat}{z:AV}{a b:aI}{y:D}(ha:cP s a= .d (.c .aw))(hb:cP s b= .d y):
  dN P (.ad9 t m bytes z a b) s ([.op (.rep bytes z y y),.aL (.ne (.x s.nv))],.row s.ai.length (.x s.nv),{s with ai:=s.ai++ [.row false t m (.x s.nv)],nv:=s.nv+1}):=by
 intro r hl hc hr gA K hk;simp only[jM,PO.wp,aeT]at hk
 split at hk
 ·rename_i n c hn gf;rw[hn]at gf;cases gf;obtain⟨q1,_,q3,q4,hk⟩:=hk;simp only[nU.wp,D.ev,bC hl,bN]at hk;obtain⟨bn,hK⟩:=hk
  have sQ:0<n:=by
   rcases Int.lt_or_le 0 n with h|h
   ·exact h
   ·exact(bn (by rw[show n.toNat=0 by omega];rfl)).elim
  have oJ:bX {s with ai:=s.ai++ [.row false t m (.x s.nv)],nv:=s.nv+1} (r++ [.sl (List.replicate n.toNat z)])=bX s r:=er (s:=s) hl hc;have hG:=hK oJ
  have hO:bE {s with ai:=s.ai++ [.row false t m (.x s.nv)],nv:=s.nv+1} (r++ [.sl (List.replicate n.toNat z)])=bE s r++ [.live t m (List.replicate n.toNat z)]:=by
   simp only[bE,map_append,map_cons,map_nil,SO.ev,D.ev,bC hl,bN];congr 1;exact e9 (s:=s) hl hc
  rw[hO]at hG;simp only[SV.ev,D.ev,bC hl,bN,List.length_replicate]at hG;simp only[wpOp];rw[←aT,←aT,ha,hb];simp only[SV.ev,D.ev,hn];refine⟨sQ,by simpa using q3,by simp only[maxLen];omega,?_⟩;rw[dJ];exact hG
 ·exact hk.elim
theorem anC{s:SS}{a:aI}(ha:cP s a= .d (.c .aw)):dN P (.bm a) s ([],.d (.c (.v (.int .i64 0))),s):=by
 intro r hl hc hr gA K hk;have hG:=hk rfl;simp only[wpOp];rw[←aT,ha];exact hG
theorem asb{s:SS}{a:aI}(ha:cP s a= .d (.c .aw)):dN P (.pu .ej [a]) s ([],.d (.c (.v (.int .i64 0))),s):=by
 intro r hl hc hr gA K hk;have hG:=hk rfl;simp only[wpOp,map_cons,map_nil];rw[←aT,ha];exact⟨rfl,hG⟩
theorem att{op:ez}{s:SS}{q:List Node×SV×SS}(kV:op.okc=true)(zQ:s.cl=true)(hq:q.2.1.cl q.2.2.nv=true)(h:xOp op s=some q):dN P op s q:=by
 cases op<;>simp only[xOp]at h
 case stuck=>cases h;intro r hl hc hr gA K hk;exact hk.elim
 case iR t m len z ps=>
  split at h
  ·rename_i ns qs hx;cases h;exact alK hx
  ·cases h
 case ad9 t m bytes z a b=>
  split at h
  ·rename_i y ha hb;cases h;exact aso ha hb
  ·cases h
 case cut m a lo hi=>exact av2 h
 case pu o args=>
  split at h
  ·split at h
   ·rename_i ha;cases h;exact asb ha
   ·cases h
  ·split at h
   ·rename_i ns ds b hx;cases h;exact axp hx
   ·cases h
 case kN t m bytes a b=>
  split at h
  ·rename_i k l y ha hb
   split at h
   ·rename_i nl e sz j3
    split at h
    ·rename_i hes;cases h;exact asp ha hb j3 hes
    ·cases h
   ·cases h
  ·rename_i y ha hb;cases h;exact apz ha hb
  ·cases h
 case aA a=>cases h;exact auw s a
 case pick c a b=>
  split at h
  ·rename_i t hc;cases h;exact amV hc
  ·rename_i x _ hc
   split at h
   ·rename_i na a' nb b' ha hb;cases h;exact ada hc ha hb
   ·cases h
  ·cases h
 case alloc t n z=>exact apC h
 case box t n a=>exact awg (tv zQ kV) h
 case build z ps=>
  simp only[ez.okc,and_eq_true]at kV;exact api kV.2 kV.1 h
 case buildSlice t m len z ps=>exact abn h
 case gG k t n z=>exact aiH kV h
 case m9 k t n a=>exact apk kV (tv zQ kV) h
 case gF k t m len z ps=>
  simp only[ez.okc,and_eq_true]at kV;exact aiA kV.1 kV.2 h
 case load n a=>exact ara h
 case store m a b=>exact amr kV h
 case bin o a b=>
  split at h
  ·rename_i x y ha hb;cases h;exact awh ha hb
  ·cases h
 case beq neg a b=>
  split at h
  ·rename_i x y ha hb;cases h;exact awi ha hb
  ·cases h
 case un o a=>
  split at h
  ·rename_i x ha;cases h;exact aw9 ha
  ·cases h
 case j6 k a=>
  split at h
  ·rename_i x ha;cases h;exact ar4 ha
  ·cases h
 case aK off a=>exact aoT h
 case zZ off n a=>exact avQ h
 case bJ m a i=>exact anZ h
 case lF a i=>
  split at h
  ·rename_i x y ha hb;cases h;exact arw ha hb
  ·cases h
 case fI a lo hi=>
  split at h
  ·rename_i x dl dh ha h1 h2;cases h;exact aj2 ha h1 h2
  ·cases h
 case cX m a lo hi=>
  split at h
  ·rename_i x dl dh ha h1 h2;cases h;exact aj3 ha h1 h2
  ·cases h
 case mk t m bytes z n c=>
  split at h
  ·rename_i x y hn hc;exact ax3 hn hc h
  ·cases h
 case lg a=>
  split at h
  ·rename_i x ha;cases h;exact arb ha
  ·cases h
 case bm a=>
  split at h
  ·rename_i ha;cases h;exact anC ha
  ·rename_i x _ ha;cases h;exact arc ha
  ·rename_i k l ha
   split at h
   ·rename_i j3;cases h;exact anB ha (by rw[j3];rfl)
   ·cases h
  ·cases h
 case app t m bytes a b=>
  split at h
  ·rename_i k l ha
   split at h
   ·rename_i nl e sz j3
    split at h
    ·rename_i hes
     split at h
     ·rename_i y hy;cases h;refine awn ha j3 hes ?_
      split at hy
      ·rename_i y' hb;cases hy;exact .inl hb
      ·rename_i k' l' hb
       split at hy
       ·rename_i an4;cases hy;exact .inr ⟨k',l',hb,an4,rfl⟩
       ·cases hy
      ·cases hy
     ·cases h
    ·cases h
   ·cases h
  ·rename_i ha
   split at h
   ·rename_i y hy;cases h;refine asl ha ?_
    split at hy
    ·rename_i y' hb;cases hy;exact .inl hb
    ·rename_i k' l' hb
     split at hy
     ·rename_i an4;cases hy;exact .inr ⟨k',l',hb,an4,rfl⟩
     ·cases hy
    ·cases hy
   ·cases h
  ·cases h
 case ext a i=>
  split at h
  ·rename_i cs ha
   split at h
   ·rename_i v hv;cases h;exact ar1 ha hv
   ·cases h
  ·rename_i j ha;cases h;exact avW ha
  ·cases h
 case ca a=>exact aq2 h
 case sI f aX=>
  split at h
  ·rename_i ns ds hx;cases h;refine aq3 ?_ hx;have:=(dF (P:=P) hx).1;simp only[done,SV.cl,D.cl,this]at hq;exact hq
  ·cases h
 case nw f args=>
  split at h
  ·rename_i ns ds b hx;cases h;exact amX hx
  ·cases h
 case jV g args=>
  split at h
  ·rename_i f ns ds b hg hx;cases h;have:=abM (P:=P) (f:=f) (aX:=[]) hg (λ r=>rfl) hx;rwa [append_nil]at this
  ·rename_i f aX ns ds b hg hx;cases h;exact abM hg (λ r=>rfl) hx
  ·rename_i x ns ds b _ _ hg hx;cases h;exact ahp hg hx
  ·cases h
 case mJ f args=>
  split at h
  ·rename_i ns ds b hx;cases h;exact amC hx
  ·cases h
 case eW nl e m f args=>
  split at h
  ·rename_i ns ds hx;exact aoQ hx h
  ·cases h
 case lK f args=>
  split at h
  ·rename_i ns ds hx;cases h;exact amN hx
  ·cases h
 case jU gs f args=>exact sv h
 case bk gs f args=>
  split at h
  ·rename_i q' hq;cases h;exact abD hq
  ·split at h
   ·rename_i ns ds hx;cases h;exact aj7 hx
   ·cases h
 case iN g args=>
  split at h
  ·rename_i f ns ds hg hx;cases h;have:=abJ (P:=P) (f:=f) (aX:=[]) hg (λ r=>rfl) hx;rwa [append_nil]at this
  ·rename_i f aX ns ds hg hx;cases h;exact abJ hg (λ r=>rfl) hx
  ·rename_i x ns ds _ _ hg hx;cases h;exact ahh hg hx
  ·cases h
 all_goals cases h
end
end Go.Ab
namespace Go.Ab
def Wk(n0:Nat)(s s':SS):Prop:=s'.nv=s.nv/\∀r:List AV,r.length=s.nv->AV.ae r=true->WK n0 (bX s r) (bE s r) (bX s' r) (bE s' r)
theorem Wk.refl(n0:Nat)(s:SS):Wk n0 s s:=⟨rfl,λ _ _ _=> .refl _ _ _⟩
theorem Wk.trans{n0:Nat}{s s' s'':SS}(h:Wk n0 s s')(k:Wk n0 s' s''):Wk n0 s s'':=
 ⟨k.1.trans h.1,λ r hl hr=>(h.2 r hl hr).trans (k.2 r (hl.trans h.1.symm) hr)⟩
theorem anv(k:Nat)(v:SV):∀(l:List (Nat×SV)) (t:Nat),(t≠k->lk (l.map λ p=>(p.1,if p.1=k then v else p.2)) t=lk l t)/\(lk l k= .top∨lk (l.map λ p=>(p.1,if p.1=k then v else p.2)) k=v)
 | [],t=>⟨λ _=>rfl,.inl rfl⟩
 |(q,w)::l,t=>by
  obtain⟨h1,h2⟩:=anv k v l t;simp only[map_cons,lk];refine⟨λ ht=> ?_,?_⟩
  ·by_cases hq:t=q
   ·subst hq;rw[if_pos rfl,if_pos rfl,if_neg ht]
   ·rw[if_neg hq,if_neg hq];exact h1 ht
  ·by_cases hq:k=q
   ·subst hq;rw[if_pos rfl,if_pos rfl];exact .inr (if_pos rfl)
   ·rw[if_neg hq,if_neg hq];exact h2
theorem uT{n0:Nat}{s:SS}{t m k:Nat}(h:lk s.env k= .d (.c .aw)):Wk n0 s (oX s t m k):=by
 refine⟨rfl,λ r hl hr=> ?_⟩;refine WK.yW t m (by simp[bE,oX]) (by simp[bE,oX,SO.ev,D.ev,aU]) (λ j hj=> .inl ?_) λ q=> ?_
 ·simp only[bE,oX,map_append];rw[getElem?_append_left (by simpa [bE]using hj)]
 ·have:=anv k (.row s.ai.length (.c (.sl []))) s.env q;by_cases hq:q=k
  ·subst hq;rcases this.2 with h1|h1
   ·rw[h]at h1;cases h1
   ·refine .inr ⟨by simp only[bX,h];rfl,?_⟩;simp only[bX,oX,h1,SV.ev,D.ev,aU,dJ];rfl
  ·exact .inl (by simp only[bX,oX,this.1 hq])
theorem ahF{n0:Nat}{s:SS}{k j t m e:Nat}{cs:List SV}(hb:m8 s k=some (e,cs))(hj:cs[j]? =some (.d (.c .aw))):Wk n0 s (oY s k j t m):=by
 have mY:=jI hb;have hk:k<s.ai.length:=(List.getElem?_eq_some_iff.1 mY).1;refine⟨by simp only[oY,hb],λ r hl hr=> ?_⟩
 have hO:bE (oY s k j t m) r=(bE s r).set k (.live e cs.length [mr ((SV.a8 r cs).set j (.row s.ai.length 0))])++ [.nil t m]:=by
  simp only[oY,hb,bE,map_append,map_set,map_cons,map_nil,SO.ev,List.length_set,SV.aQ,SV.ev,D.ev,aU,length_nil,if_true]
 have hE:bX (oY s k j t m) r=bX s r:=by simp only[oY,hb];rfl
 rw[hO,hE];refine WK.yW t m (by simp) (by rw[getElem?_append_right (by simp)];simp) (λ i hi=> ?_) λ q=> .inl rfl
 rw[getElem?_append_left (by simpa using hi)];by_cases hik:i=k
 ·subst hik;refine .inr ⟨e,cs.length,[mr (SV.a8 r cs)],[mr ((SV.a8 r cs).set j (.row s.ai.length 0))],gg mY r,by rw[List.getElem?_set_self hi],rfl,λ i' y y' hy lN=> ?_⟩;cases i' with
  |succ i'=>simp at hy
  |zero=>
   simp at hy lN;subst hy;subst lN;rw[show(bE s r).length=s.ai.length from dJ s r];have hcj:(SV.a8 r cs)[j]? =some .aw:=by rw[SV.aQ,getElem?_map,hj];rfl
   generalize SV.a8 r cs=xs at hcj;have hjl:=(List.getElem?_eq_some_iff.1 hcj).1;by_cases h1:xs.length=1
   ·obtain⟨c,rfl⟩:=List.length_eq_one_iff.1 h1;have hj0:j=0:=by simp at hjl;exact hjl
    subst hj0;simp at hcj;subst hcj;refine⟨rfl,λ p c c' hc gf=> ?_⟩;cases p with
    |zero=>simp[mr,AV.cells]at hc gf;exact .inr ⟨hc.symm,gf.symm⟩
    |succ p=>simp[mr,AV.cells]at hc
   ·rw[eM h1,eM (by simpa using h1)];simp only[AV.cells];refine⟨by simp,λ p c c' hc gf=> ?_⟩;rw[getElem?_set]at gf
    split at gf
    ·rename_i hpj;subst hpj;rw[hcj]at hc;exact .inr ⟨(Option.some.inj hc).symm,(Option.some.inj gf).symm⟩
    ·rw[hc]at gf;exact .inl (Option.some.inj gf).symm
 ·rw[getElem?_set_ne (λ h=>hik h.symm)];exact .inl rfl
theorem Fr.cell{n:Nat}{xs:List AV}{a b:AV}(h:Fr n xs a b){j:Nat}{c d:AV}(hc:a.cells[j]? =some c)(hd:b.cells[j]? =some d):Fr n xs c d:=by
 cases h with
 |refl=>rw[hc]at hd;cases hd;exact .refl _
 |row=>
  cases j with
  |zero=>simp[AV.cells]at hc hd;subst hc;subst hd;exact .row
  |succ j=>simp[AV.cells]at hc
 |agg cs ds _ h=>exact h j c d hc hd
 |ptr a f ha=>
  cases j with
  |zero=>simp[AV.cells]at hc hd;subst hc;subst hd;exact .ptr a f ha
  |succ j=>simp[AV.cells]at hc
theorem Fr.mr{n:Nat}{xs:List AV}{cs ds:List AV}(hl:cs.length=ds.length)(h:∀(i:Nat) c d,cs[i]? =some c->ds[i]? =some d->Fr n xs c d):Fr n xs (mr cs) (mr ds):=by
 by_cases h1:cs.length=1
 ·obtain⟨c,rfl⟩:=List.length_eq_one_iff.1 h1;obtain⟨d,rfl⟩:=List.length_eq_one_iff.1 (show ds.length=1 by omega);exact h 0 c d rfl rfl
 ·rw[eM h1,eM (by omega)];exact .agg _ _ hl h
theorem aca{n0:Nat}{s:SS}(n:Nat):Wk n0 s (adT s n):=by
 unfold adT
 split
 ·rename_i nl e sz l mY
  split
  ·rename_i mu;refine⟨rfl,λ r hl hr=> ?_⟩;have hn:=cH (D.bK hr l (by rw[hl];exact mu))
   have fr1:∀v:SV,Fr n (aU (l.ev r)) (v.ev r) ((v.iW n l).ev r):=by
    intro v;cases v with
    |row m k=>
     simp only[SV.iW]
     split
     ·rename_i h1;have:=D.beq_eq _ _ h1.2;obtain⟨rfl,_⟩:=h1;subst this;exact .row
     ·exact .refl _
    |_=>exact .refl _
   have hpt:∀cs:List SV,∀(i:Nat) c d,(SV.a8 r cs)[i]? =some c->(SV.a8 r (cs.map (SV.iW n l)))[i]? =some d->Fr n (aU (l.ev r)) c d:=by
    intro cs i c d hc hd;rw[SV.aQ,getElem?_map]at hc hd;rw[getElem?_map]at hd;cases hi:cs[i]? with
    |none=>rw[hi]at hc;simp at hc
    |some v=>rw[hi]at hc hd;simp at hc hd;subst hc;subst hd;exact fr1 v
   refine WK.iW (n:=n) (t:=e) (s:=sz) (xs:=aU (l.ev r)) ?_ hn (by simp[bE]) ?_ (λ m hm=> ?_) λ t=> ?_
   ·rcases e7 mY r with h|⟨h,h',_⟩
    ·exact .inl h
    ·exact .inr ⟨h,h'⟩
   ·simp only[bE,map_set];rw[List.getElem?_set_self (by simpa using(List.getElem?_eq_some_iff.1 mY).1)];rfl
   ·simp only[bE,map_set];rw[getElem?_set_ne (λ h=>hm h.symm),map_map,getElem?_map,getElem?_map];cases ho:s.ai[m]? with
    |none=>exact .inl rfl
    |some o=>
     cases o with
     |box e' cs=>
      refine .inr ⟨e',cs.length,[mr (SV.a8 r cs)],[mr (SV.a8 r (cs.map (SV.iW n l)))],rfl,by simp[SO.iW,SO.ev],rfl,λ i y y' hy lN=> ?_⟩;cases i with
      |succ i=>simp at hy
      |zero=>
       simp at hy lN;subst hy;subst lN;have hf:=Fr.mr (n:=n) (xs:=aU (l.ev r)) (cs:=SV.a8 r cs) (ds:=SV.a8 r (cs.map (SV.iW n l))) (by simp[SV.aQ]) (hpt cs);exact⟨hf.width,λ j c c' hc gf=>hf.cell hc gf⟩
     |dead=>exact .inl rfl
     |row _ _ _ _=>exact .inl rfl
   ·simp only[bX];rw[uW (f:=SV.avK n l) rfl];generalize lk s.env t=v;cases v with
    |agg cs=>
     simp only[SV.avK,SV.ev];exact .agg _ _ (by simp[SV.aQ]) (hpt cs)
    |row m k=>exact fr1 (.row m k)
    |_=>exact .refl _
  ·exact .refl _ _
 ·exact .refl _ _
theorem auz(r:List AV)(ds:List D):(mkD ds).ev r=mr (D.a8 r ds):=by
 unfold mkD
 split
 ·rfl
 ·rename_i h;cases ds with
  |nil=>rfl
  |cons a l=>cases l with
   |nil=>exact(h a rfl).elim
   |cons b l=>rfl
theorem vt{n0:Nat}{s:SS}(n:Nat):Wk n0 s (zV s n):=by
 unfold zV
 split
 ·rename_i e cs mY
  split
  ·rename_i ds hd
   split
   ·rename_i mu;refine⟨rfl,λ r hl hr=> ?_⟩;have zQ:=ud hd;have hx:mr (SV.a8 r cs)=(mkD ds).ev r:=by rw[zQ,re,auz]
    have hn:AV.ae [(mkD ds).ev r]=true:=by
     have:(mkD ds).cl r.length=true:=by
      rw[hl];unfold mkD
      split
      ·simpa [D.cls]using mu
      ·exact mu
     simp only[AV.ae,D.bK hr _ this];rfl
    have fr1:∀v:SV,Fr n [(mkD ds).ev r] (v.ev r) ((v.fbx n (mkD ds)).ev r):=by
     intro v;cases v with
     |ptr m f=>
      simp only[SV.fbx]
      split
      ·rename_i h1;subst h1;exact .ptr _ f rfl
      ·exact .refl _
     |_=>exact .refl _
    have fr2:∀v:SV,Fr n [(mkD ds).ev r] (v.ev r) ((v.fbc n (mkD ds)).ev r):=by
     intro v;cases v with
     |ptr m f=>
      simp only[SV.fbc]
      split
      ·rename_i h1;subst h1;exact .ptr _ f rfl
      ·exact .refl _
     |_=>exact .refl _
    have hpt:∀cs:List SV,∀(i:Nat) c d,(SV.a8 r cs)[i]? =some c->(SV.a8 r (cs.map (SV.fbc n (mkD ds))))[i]? =some d->Fr n [(mkD ds).ev r] c d:=by
     intro cs i c d hc hd;rw[SV.aQ,getElem?_map]at hc hd;rw[getElem?_map]at hd;cases hi:cs[i]? with
     |none=>rw[hi]at hc;simp at hc
     |some v=>rw[hi]at hc hd;simp at hc hd;subst hc;subst hd;exact fr2 v
    refine WK.iW (n:=n) (t:=e) (s:=cs.length) (xs:=[(mkD ds).ev r]) (.inl ?_) hn (by simp[bE]) ?_ (λ m hm=> ?_) λ t=> ?_
    ·have:=gg mY r;rw[this];simp only[SO.ev,hx]
    ·simp only[bE,map_set];rw[List.getElem?_set_self (by simpa using(List.getElem?_eq_some_iff.1 mY).1)];rfl
    ·simp only[bE,map_set];rw[getElem?_set_ne (λ h=>hm h.symm),map_map,getElem?_map,getElem?_map];cases ho:s.ai[m]? with
     |none=>exact .inl rfl
     |some o=>
      cases o with
      |box e' cs=>
       refine .inr ⟨e',cs.length,[mr (SV.a8 r cs)],[mr (SV.a8 r (cs.map (SV.fbc n (mkD ds))))],rfl,by simp[SO.fbx,SO.ev],rfl,λ i y y' hy lN=> ?_⟩;cases i with
       |succ i=>simp at hy
       |zero=>
        simp at hy lN;subst hy;subst lN;have hf:=Fr.mr (n:=n) (xs:=[(mkD ds).ev r]) (cs:=SV.a8 r cs) (ds:=SV.a8 r (cs.map (SV.fbc n (mkD ds)))) (by simp[SV.aQ]) (hpt cs);exact⟨hf.width,λ j c c' hc gf=>hf.cell hc gf⟩
      |dead=>exact .inl rfl
      |row _ _ _ _=>exact .inl rfl
    ·simp only[bX];rw[uW (f:=SV.fbx n (mkD ds)) rfl];exact fr1 _
   ·exact .refl _ _
  ·exact .refl _ _
 ·exact .refl _ _
theorem gM{n0:Nat}{α:Type}{f:SS->α->SS}(h:∀s a,Wk n0 s (f s a)):∀(l:List α) (s:SS),Wk n0 s (l.foldl f s)
 | [],s=> .refl _ _
 |a::l,s=>(h s a).trans (gM h l (f s a))
theorem ir{n0:Nat}(s:SS)(v:SV):Wk n0 s (pB s v):=gM (λ s n=>aca n) _ s
theorem oC{n0:Nat}(s:SS)(l:List aI):Wk n0 s (vq s l):=gM (λ s x=>ir s _) l s
theorem alh{n0:Nat}(s:SS)(x:aI):Wk n0 s (aij s x):=by
 unfold aij
 split
 ·split
  ·exact(gM (λ s v=>ir s v) _ s).trans (vt _)
  ·exact .refl _ _
 ·exact ir _ _
theorem pa{n0:Nat}:∀(k:Nat) (s:SS) (n:Nat),Wk n0 s (ub k s n)
 |0,s,n=> .refl _ _
 |k+1,s,n=>by
  unfold ub
  split
  ·refine(gM (λ s v=> ?_) _ s).trans (vt _)
   split
   ·exact pa k s _
   ·exact ir _ _
  ·exact .refl _ _
theorem alg{n0:Nat}(s:SS)(x:aI):Wk n0 s (zU s x):=by
 unfold zU
 split
 ·exact pa _ _ _
 ·exact .refl _ _
theorem aik{n0:Nat}(s:SS)(l:List aI):Wk n0 s (ajz s l):=gM (λ s x=>by
 split
 ·exact ir _ _
 ·exact .refl _ _) l s
theorem o9{n0:Nat}(s:SS)(l:List aI):Wk n0 s (ua s l):=gM (λ s x=>by
 unfold zU
 split
 ·exact pa _ _ _
 ·exact .refl _ _) l s
theorem ali{n0:Nat}(s:SS)(l:List SV):Wk n0 s (aoL s l):=gM (λ s v=>by
 split
 ·exact pa _ _ _
 ·exact ir _ _) l s
theorem aqD{n0:Nat}(fl:List Nat)(op:ez)(s:SS):Wk n0 s (at4 fl op s):=by
 unfold at4
 split
 ·split
  ·rename_i h;exact uT h
  ·exact .refl _ _
 ·split
  ·rename_i h;exact uT h
  ·exact .refl _ _
 ·exact ir _ _
 ·exact oC _ _
 ·split
  ·exact ir _ _
  ·exact .refl _ _
 ·exact gM (λ s x=>alh s x) _ s
 ·split
  ·exact(aik _ _).trans (o9 _ _)
  ·exact(oC _ _).trans (o9 _ _)
 ·exact(oC _ _).trans (o9 _ _)
 ·exact(oC _ _).trans (o9 _ _)
 ·exact oC _ _
 ·split
  ·exact .refl _ _
  ·split
   ·refine gM (λ s p=> ?_) _ _
    split
    ·exact(ir _ _).trans (alg _ _)
    ·exact .refl _ _
   ·exact .refl _ _
 ·exact .refl _ _
theorem at6{n0:Nat}(fl:List Nat)(wk:Bool)(op:ez)(s:SS):Wk n0 s (pre fl wk op s):=by
 unfold pre;split
 ·exact aqD _ _ _
 ·exact .refl _ _
theorem ajG{n0:Nat}(s:SS)(c:Conv):Wk n0 s (c.run s):=by
 cases c with
 |slot k t m=>
  simp only[Conv.run]
  split
  ·rename_i h;exact uT h
  ·exact .refl _ _
 |cell k j t m=>
  simp only[Conv.run]
  split
  ·rename_i h
   split
   ·rename_i h2;exact ahF h h2
   ·exact .refl _ _
  ·exact .refl _ _
 |fbx n=>
  simp only[Conv.run]
  split
  ·exact(gM (λ s v=>ir s v) _ s).trans (vt _)
  ·exact .refl _ _
 |avO n=>exact aca n
theorem WK.anI{n0:Nat}{e:Env}{O O':List ad}(hlen:O'.length=O.length)(h:∀m:Nat,O'[m]? =O[m]? ∨O'[m]? =some .dead):WK n0 e O e O':=by
 intro I0 L0 O0 w0 I L w f h0 hg hr
 have ck:∀{m:Nat} {ob},O'[m]? =some ob->ob≠ .dead->O[m]? =some ob:=by
  intro m ob ho bn;rcases h m with h1|h1
  ·rw[←h1];exact ho
  ·rw[h1]at ho;cases ho;exact(bn rfl).elim
 have dt:Ext I L O I L O':=⟨λ _ _ _ h=>h,by omega,λ m _ ee k zs hz=> .inl ⟨zs,ck hz (by simp),le_refl _,λ _=>rfl⟩,λ m _ ee k h=>ck h (by simp),λ m _ a h=>⟨⟨a,ck h (by simp)⟩,rfl⟩,λ m _ a h=>⟨⟨a,ck h (by simp),rfl⟩,rfl⟩⟩;refine⟨I,L,hg.aml (by omega) (λ _ _ _ h=>h) (λ _ _ _ h=> .inl h) (λ m ee k zs hm=> ?_) (λ m ee k _ hm=>ck hm (by simp)) (λ m a hm=>ck hm (by simp)) (λ m a hm=>⟨ck hm (by simp),λ _ _ h=>h.mono dt⟩),λ t=>(hr t).mono dt⟩;have h1:=ck hm (by simp);exact⟨zs,h1,rfl,(hg.inv.obj m _ _ _ h1).congr rfl λ _ _ h=>h.mono dt,λ o=>hg.inv.dS m _ _ _ o h1⟩
theorem vW(t:List SO):∀(k:Nat) (l:List SO),(eE t k l).length=l.length
 |_,[]=>rfl
 |k,o::l=>by simp[eE,vW t (k+1) l]
theorem xU:∀(ts cs:List SV),(kA ts cs).length=cs.length
 | [],cs=>by cases cs<;>simp[kA]
 |t::ts,[]=>by cases t<;>simp[kA]
 |t::ts,c::cs=>by cases t<;>simp[kA,xU ts cs]
theorem xV:∀(ts cs:List SV) (j:Nat),(kA ts cs)[j]? =cs[j]? ∨(kA ts cs)[j]? =some .top
 | [],cs,j=>by cases cs<;>simp[kA]
 |t::ts,[],j=>by cases t<;>simp[kA]
 |t::ts,c::cs,j=>by
  cases j with
  |zero=>cases t<;>simp[kA]
  |succ j=>cases t<;>simpa [kA]using xV ts cs j
inductive apN:Option ad->Option ad->Prop
 |same (o):apN o o
 |dead (o):apN o (some .dead)
 |box (e s:Nat) (cs cs':List AV) (hl:cs'.length=cs.length) (hc:∀j:Nat,cs'[j]? =cs[j]? ∨cs'[j]? =some .top):apN (some (.live e s [.agg cs])) (some (.live e s [.agg cs']))
theorem WK.aC6{n0:Nat}{e:Env}{O O':List ad}(hlen:O'.length=O.length)(h:∀m:Nat,apN O[m]? O'[m]?):WK n0 e O e O':=by
 intro I0 L0 O0 w0 I L w f h0 hg hr
 have xf:∀{m:Nat} {ee k},O'[m]? =some (.nil ee k)->O[m]? =some (.nil ee k):=by
  intro m ee k ho;have:=h m;rw[ho]at this;generalize hq:O[m]? =q at this;cases this
  rfl
 have afJ:∀{m:Nat} {ee k zs},O'[m]? =some (.live ee k zs)->∃xs,O[m]? =some (.live ee k xs)/\xs.length=zs.length/\(xs=zs∨∃cs cs',xs= [.agg cs]/\zs= [.agg cs']/\cs'.length=cs.length/\∀j:Nat,cs'[j]? =cs[j]? ∨cs'[j]? =some .top):=by
  intro m ee k zs ho;have:=h m;rw[ho]at this;generalize hq:O[m]? =q at this;cases this with
  |same=>exact⟨zs,rfl,rfl,.inl rfl⟩
  |box _ _ cs cs' hl hc=>exact⟨_,rfl,rfl,.inr ⟨cs,cs',rfl,rfl,hl,hc⟩⟩
 have dt:Ext I L O I L O':=⟨λ _ _ _ h=>h,by omega,λ m _ ee k zs hz=>by
  obtain⟨xs,h1,h2,_⟩:=afJ hz;exact .inl ⟨xs,h1,by omega,λ _=>rfl⟩,λ m _ ee k h=>xf h,λ m _ a hm=>⟨⟨a,by
  have:=h m;rw[hm]at this;generalize hq:O[m]? =q at this;cases this
  rfl⟩,rfl⟩,λ m _ a hm=>⟨⟨a,by
  have:=h m;rw[hm]at this;generalize hq:O[m]? =q at this;cases this
  rfl,rfl⟩,rfl⟩⟩
 refine⟨I,L,hg.aml (by omega) (λ _ _ _ h=>h) (λ _ _ _ h=> .inl h) (λ m ee k zs hm=> ?_) (λ m ee k _ hm=>xf hm) (λ m a hm=>by
  have:=h m;rw[hm]at this;generalize hq:O[m]? =q at this;cases this
  rfl) (λ m a hm=>⟨by
  have:=h m;rw[hm]at this;generalize hq:O[m]? =q at this;cases this
  rfl,λ _ _ h=>h.mono dt⟩),λ t=>(hr t).mono dt⟩
 obtain⟨xs,h1,h2,h3⟩:=afJ hm;refine⟨xs,h1,h2,?_,λ o=>hg.inv.dS m _ _ _ o h1⟩;have ho:=(hg.inv.obj m _ _ _ h1).congr rfl λ _ _ h=>h.mono dt
 rcases h3 with rfl|⟨cs,cs',rfl,rfl,hl,hc⟩
 ·exact ho
 ·obtain⟨c,k1,k2,k3,k4,k5,k6⟩:=ho;refine⟨c,k1,k2,by simpa using k3,k4,k5,λ i x hx=> ?_⟩
  match i,hx with
  |0,hx=>
   simp at hx;subst hx;obtain⟨q1,q2⟩:=k6 0 (.agg cs) rfl;refine⟨by simpa [AV.cells,hl]using q1,λ j a ha=> ?_⟩;simp only[AV.cells]at ha q2;rcases hc j with hj|hj
   ·exact q2 j a (by rw[←hj];exact ha)
   ·rw[hj]at ha;cases ha;have hjl:j<cs.length:=by rw[←hl];exact(List.getElem?_eq_some_iff.1 hj).1
    obtain⟨y,y1,y2,_⟩:=q2 j cs[j] (getElem?_eq_getElem hjl);exact⟨y,y1,y2,.top _⟩
theorem vX(r:List AV)(t:List SO):∀(k:Nat) (l:List SO) (m:Nat),apN ((l.map (SO.ev r))[m]?) (((eE t k l).map (SO.ev r))[m]?)
 |_,[],m=>by simp only[eE];exact .same _
 |k,o::l,m=>by
  cases m with
  |zero=>
   simp only[eE,map_cons,List.getElem?_cons_zero];unfold apm
   split
   ·exact .dead _
   ·split
    ·split
     ·rename_i e ts _ _ e' cs h2;have h1:=xU ts cs;simp only[SO.ev,SV.aQ,h1]
      have ha:∀l:List SV,2<=l.length->mr (l.map (SV.ev r))= .agg (l.map (SV.ev r)):=λ l hl=>by
       match l,hl with
       |a::b::l,_=>rfl
      rw[ha _ h2,ha _ (by omega)];refine .box _ _ _ _ (by simp[h1]) λ j=> ?_
      simp only[getElem?_map];rcases xV ts cs j with h|h
      ·exact .inl (by rw[h])
      ·exact .inr (by rw[h];rfl)
     ·exact .same _
    ·exact .same _
   ·exact .same _
  |succ m=>simpa [eE]using vX r t (k+1) l m
section
variable {rb m:List AV} {vs:List D} {base:Nat}
theorem u9(hb:rb.length=base):∀(d e:D),(d.inst base vs).beq e=true->d.ev (rb++D.a8 (rb++m) vs)=e.ev (rb++m):=by
 intro d e h;cases d with
 |x i=>
  simp only[D.inst]at h
  split at h
  ·rename_i hi;have:=D.beq_eq _ _ h;subst this;simp only[D.ev];rw[oB (by omega),oB (by omega)]
  ·rename_i hi;cases hv:vs[i- base]? with
   |none=>
    rw[List.getD,hv]at h;simp only[getD_none]at h;cases e<;>simp[D.beq,AV.ceq]at h
   |some d'=>
    rw[List.getD,hv]at h;simp only[getD_some]at h;have:=D.beq_eq _ _ h;subst this;simp only[D.ev,List.getD];rw[getElem?_append_right (by omega),hb,D.aQ,getElem?_map,hv]
    rfl
 |_=>
  simp only[D.inst]at h
  split at h
  ·rename_i mu;have:=D.beq_eq _ _ h;subst this;rw[D.cO _ (by rw[hb];exact mu),D.cO _ (by rw[hb];exact mu)]
  ·cases e<;>simp[D.beq,AV.ceq]at h
theorem ajn(hb:rb.length=base):∀(v w:SV),(v.inst base vs).beq w=true->v.ev (rb++D.a8 (rb++m) vs)=w.ev (rb++m):=by
 intro v w h;cases v with
 |d x=>cases w<;>simp only[SV.inst,SV.beq,false_eq_true]at h;exact(u9 hb _ _ h)
 |row n l=>
  cases w<;>simp only[SV.inst,SV.beq,false_eq_true,and_eq_true,decide_eq_true_eq]at h
  obtain⟨rfl,h⟩:=h;exact(by simp only[SV.ev,u9 hb _ _ h])
 |ptr n f=>
  cases w<;>simp only[SV.inst,SV.beq,false_eq_true,and_eq_true,decide_eq_true_eq]at h
  obtain⟨rfl,rfl⟩:=h
  rfl
 |rp n l i f=>
  cases w<;>simp only[SV.inst,SV.beq,false_eq_true,and_eq_true,decide_eq_true_eq]at h
  obtain⟨⟨⟨rfl,h1⟩,h2⟩,rfl⟩:=h;exact(by simp only[SV.ev,u9 hb _ _ h1,u9 hb _ _ h2])
 |ip x f=>
  cases w<;>simp only[SV.inst,SV.beq,false_eq_true,and_eq_true,decide_eq_true_eq]at h
  obtain⟨h,rfl⟩:=h;exact(by simp only[SV.ev,u9 hb _ _ h])
 |agg cs=>
  simp only[SV.inst]at h
  split at h
  ·rename_i mu;have:=SV.beq_eq _ _ h;subst this;exact(by simp only[SV.ev];rw[SV.fP cs (by rw[hb];exact mu),SV.fP cs (by rw[hb];exact mu)])
  ·cases w<;>simp only[SV.beq,false_eq_true]at h
   rename_i e;cases e<;>simp[D.beq,AV.ceq]at h
 |a9 cs=>
  simp only[SV.inst]at h
  split at h
  ·rename_i mu;have:=SV.beq_eq _ _ h;subst this;exact(by simp only[SV.ev];rw[SV.fP cs (by rw[hb];exact mu),SV.fP cs (by rw[hb];exact mu)])
  ·cases w<;>simp only[SV.beq,false_eq_true]at h
   rename_i e;cases e<;>simp[D.beq,AV.ceq]at h
 |top=>cases w<;>simp only[SV.inst,SV.beq,false_eq_true]at h;rfl
theorem afo(hb:rb.length=base):∀(cs ds:List SV),SV.lH (cs.map (SV.inst base vs)) ds=true->SV.a8 (rb++D.a8 (rb++m) vs) cs=SV.a8 (rb++m) ds
 | [],[],_=>rfl
 |c::cs,d::ds,h=>by
  simp only[map_cons,SV.lH,and_eq_true]at h;simp only[SV.a8,ajn hb c d h.1,afo hb cs ds h.2]
 | [],_::_,h=>by simp[SV.lH]at h
 |_::_,[],h=>by simp[SV.lH]at h
theorem agy:∀(cs ds:List SV),SV.lH cs ds=true->cs.length=ds.length
 | [],[],_=>rfl
 |c::cs,d::ds,h=>by
  simp only[SV.lH,and_eq_true]at h;simp[agy cs ds h.2]
 | [],_::_,h=>by simp[SV.lH]at h
 |_::_,[],h=>by simp[SV.lH]at h
theorem art(hb:rb.length=base):∀(a b:SO),(a.inst base vs).beq b=true->a.ev (rb++D.a8 (rb++m) vs)=b.ev (rb++m):=by
 intro a b h;cases a with
 |dead=>cases b<;>simp only[SO.inst,SO.beq,false_eq_true]at h;rfl
 |box e cs=>
  cases b<;>simp only[SO.inst,SO.beq,false_eq_true,and_eq_true,decide_eq_true_eq]at h
  obtain⟨rfl,h⟩:=h;have h2:=agy _ _ h;simp only[length_map]at h2;simp only[SO.ev,afo hb _ _ h,h2]
 |row nl e s l=>
  cases b<;>simp only[SO.inst,SO.beq,false_eq_true,and_eq_true,decide_eq_true_eq]at h
  obtain⟨⟨⟨rfl,rfl⟩,rfl⟩,h⟩:=h;cases nl<;>simp only[SO.ev,u9 hb _ _ h]
end
mutual
theorem SV.ai0{k:Nat}{r:List AV}(hr:AV.ae r=true):∀(v:SV),v.sc k=true->v.cl r.length=true->(v.ev r).inScope k=true
 | .d x,_,h=>cr _ (D.bK hr x h)
 | .row n l,h,_=>h
 | .ptr n f,h,_=>h
 | .rp n l i f,h,_=>h
 | .ip x f,_,h=>cr (.cj (x.ev r) f) (D.bK hr x h)
 | .agg cs,h,h'=>by
   simp only[SV.sc]at h;simp only[SV.cl]at h';exact SV.acZ hr cs h h'
 | .a9 cs,h,h'=>by
   simp only[SV.sc]at h;simp only[SV.cl]at h';exact SV.acZ hr cs h h'
 | .top,_,_=>rfl
theorem SV.acZ{k:Nat}{r:List AV}(hr:AV.ae r=true):∀(l:List SV),SV.scs k l=true->SV.cls r.length l=true->AV.cS k (SV.a8 r l)=true
 | [],_,_=>rfl
 |v::l,h,h'=>by
  simp only[SV.scs,and_eq_true]at h;simp only[SV.cls,and_eq_true]at h';simp only[SV.a8,AV.cS,SV.ai0 hr v h.1 h'.1,SV.acZ hr l h.2 h'.2];rfl
end
theorem ahG{k:Nat}{l:List AV}(h:AV.cS k l=true):(mr l).inScope k=true:=by
 unfold mr
 split
 ·simpa [AV.cS]using h
 ·exact h
theorem SO.ai0{k:Nat}{r:List AV}(hr:AV.ae r=true)(o:SO)(h:o.sc k=true)(h':o.cl r.length=true):(o.ev r).inScope k=true:=by
 cases o with
 |dead=>rfl
 |box e cs=>
  simp only[SO.ev,ad.inScope,AV.cS,Bool.and_true];exact ahG (SV.acZ hr cs h h')
 |row nl e s l=>
  have:=de (k:=k) _ (cH (D.bK hr l h'));cases nl
  ·exact this
  ·simp only[SO.ev]
   split
   ·rfl
   ·exact this
theorem auG{l:List (Nat×SV)}{t:Nat}:lk l t= .top∨(t,lk l t)∈l:=by
 induction l with
 |nil=>exact .inl rfl
 |cons p l ih=>
  obtain⟨k,v⟩:=p;simp only[lk]
  split
  ·rename_i h;subst h;exact .inr (by simp)
  ·rcases ih with h|h
   ·exact .inl h
   ·exact .inr (by simp[h])
theorem pg{n0 base:Nat}{s t:SS}{vs:List D}(h:coerce n0 base s t=some vs){rb m:List AV}(hb:rb.length=base)(hl:(rb++m).length=s.nv)(hr:AV.ae (rb++m)=true):
  vs.length=t.nv- base/\kh rb (rb++D.a8 (rb++m) vs) t.nv/\WK n0 (bX s (rb++m)) (bE s (rb++m)) (bX t (rb++D.a8 (rb++m) vs)) (bE t (rb++D.a8 (rb++m) vs)):=by
 unfold coerce at h;simp only at h
 split at h
 ·cases h
 ·rename_i nV nd
  split at h
  ·rename_i oA;cases h;obtain⟨c0,c1,c2,c3,c4,c5,c6,c7⟩:=oA
   have hlen:vs.length=t.nv- base:=by
    have:=(mapM_some nd).1;simpa using this
   have hn:AV.ae (rb++D.a8 (rb++m) vs)=true:=by
    rw[bF,and_eq_true]at hr⊢;exact⟨hr.1,D.cR (by rw[bF,and_eq_true];exact hr) vs (by rw[hl];exact c4)⟩
   have hl2:(rb++D.a8 (rb++m) vs).length=t.nv:=by
    rw[List.length_append,D.aQ,length_map,hlen,hb];omega
   refine⟨hlen,⟨⟨_,rfl⟩,hl2,hn⟩,?_⟩
   have vj:WK n0 (bX s (rb++m)) (bE s (rb++m)) (bX s (rb++m)) ((eE t.ai 0 s.ai).map (SO.ev (rb++m))):=by
    exact WK.aC6 (by simp[bE,vW]) λ j=>vX _ t.ai 0 s.ai j
   refine vj.trans (WK.forget (k:=t.ai.length) ?_ c0 (by simpa using c3) (λ ob ho=> ?_) λ q=> ?_)
   ·apply ext_getElem?;intro j;simp only[bE,List.getElem?_take,getElem?_map]
    split
    ·rename_i hj;have hj2:j<(eE t.ai 0 s.ai).length:=by omega
     have h1:t.ai[j]? =some t.ai[j]:=by simp[hj]
     have h2:(eE t.ai 0 s.ai)[j]? =some (eE t.ai 0 s.ai)[j]:=by simp[hj2]
     rw[h1,h2]
     have hz:(t.ai[j],(eE t.ai 0 s.ai)[j])∈t.ai.zip (eE t.ai 0 s.ai):=by
      apply mem_of_getElem? (i:=j);rw[List.getElem?_zip_eq_some];exact⟨h1,h2⟩
     have:=List.all_eq_true.1 c7 _ hz;simp only[and_eq_true]at this;simp only[map_some,art hb _ _ this.1]
    ·rename_i hj;rw[getElem?_eq_none (by omega)];rfl
   ·simp only[bE,mem_map]at ho;obtain⟨o,ho,rfl⟩:=ho;refine SO.ai0 hn o ?_ (by rw[hl2];exact SS.sV c5 ho);obtain⟨j,hj⟩:=List.getElem?_of_mem ho;have hjl:=(List.getElem?_eq_some_iff.1 hj).1;have h2:(eE t.ai 0 s.ai)[j]? =some ((eE t.ai 0 s.ai)[j]'(by omega)):=by simp[show j<(eE t.ai 0 s.ai).length by omega]
    have hz:(o,(eE t.ai 0 s.ai)[j]'(by omega))∈t.ai.zip (eE t.ai 0 s.ai):=by
     apply mem_of_getElem? (i:=j);rw[List.getElem?_zip_eq_some];exact⟨hj,h2⟩
    have:=List.all_eq_true.1 c7 _ hz;simp only[and_eq_true]at this;exact this.2
   ·simp only[bX];rcases auG (l:=t.env) (t:=q)with h|h
    ·rw[h];exact .inl rfl
    ·have:=List.all_eq_true.1 c6 _ h;simp only[and_eq_true]at this;exact .inr ⟨ajn hb _ _ this.1,SV.ai0 hn _ this.2 (by rw[hl2];exact SS.ph c5 q)⟩
  ·cases h
end Go.Ab
namespace Go.Ab
section
variable {P:Program}
theorem kh.trans{r r1 r2:List AV}{n k:Nat}(h:kh r r1 n)(k':kh r1 r2 k):kh r r2 k:=by
 obtain⟨m,rfl⟩:=h.pre;obtain⟨m',rfl⟩:=k'.pre;exact⟨⟨m++m',by simp⟩,k'.len,k'.nor⟩
theorem aeq{L:AX->SS->List AV->Prop}{R:AV->Prop}{t:T}{r:List AV}:∀(Js S:List (List AV->Prop)),bD P L R (ar2 Js.length t) r (Js++S)=bD P L R t r S
 | [],S=>rfl
 |J::Js,S=>by simp only[List.length_cons,ar2,cons_append,bD,aeq Js S]
inductive aiL:List (List AV->Prop)->List (List AV->Prop)->Prop
 |nil:aiL [] []
 |cons {J J':List AV->Prop} {S S':List (List AV->Prop)}:(∀vs,J vs->J' vs)->aiL S S'->aiL (J::S) (J'::S')
theorem aiL.refl:∀(S:List (List AV->Prop)),aiL S S
 | []=> .nil
 |_::S=> .cons (λ _ h=>h) (aiL.refl S)
theorem dz{L L':AX->SS->List AV->Prop}{R R':AV->Prop}(hL:∀x s r,L x s r->L' x s r)(hR:∀a,R a->R' a):∀(t:T) {r:List AV} {S S':List (List AV->Prop)},aiL S S'->bD P L R t r S->bD P L' R' t r S'
 | .leaf x s,r,S,S',hs,h=>hL _ _ _ h
 | .ret d,r,S,S',hs,h=>hR _ h
 | .jump vs,r,S,S',hs,h=>by
   cases hs with
   |nil=>exact h
   |cons hJ _=>exact hJ _ h
 | .dq t,r,S,S',hs,h=>by
   cases hs with
   |nil=>exact h
   |cons _ hs=>exact dz hL hR t hs h
 | .op o t,r,S,S',hs,h=>PO.pW h λ v hv=>dz hL hR t hs hv
 | .aL c t,r,S,S',hs,h=>nU.wp_mono h λ h=>dz hL hR t hs h
 | .ite c t f,r,S,S',hs,h=>by
   simp only[bD]at h⊢
   split at h
   ·exact⟨λ hb=>dz hL hR t hs (h.1 hb),λ hb=>dz hL hR f hs (h.2 hb)⟩
   ·exact h.elim
 | .bind k a b,r,S,S',hs,h=>dz hL hR a (.cons (λ vs hv hk=>dz hL hR b hs (hv hk)) hs) h
 | .loop init b,r,S,S',hs,h=>by
   obtain⟨J,n,h0,h1⟩:=h;exact⟨J,n,h0,λ n vs hJ hk=>dz hL hR b (.cons (λ _ h=>h) hs) (h1 n vs hJ hk)⟩
theorem gC{L:AX->SS->List AV->Prop}{R:AV->Prop}{k:AX->SS->Option T}:∀(t:T) {d:Nat} {t':T},t.fill k d=some t'->∀{r:List AV} {Js S:List (List AV->Prop)},Js.length=d->bD P L R t' r (Js++S)->
  bD P (λ x s r'=>∃t2,k x s=some t2/\bD P L R t2 r' S) R t r (Js++S)
 | .leaf x s,d,t',h,r,Js,S,hd,hw=>by
   simp only[T.fill,map_eq_some_iff]at h;obtain⟨t2,h1,rfl⟩:=h;subst hd;rw[aeq]at hw;exact⟨t2,h1,hw⟩
 | .ret d',d,t',h,r,Js,S,hd,hw=>by cases h;exact hw
 | .jump vs,d,t',h,r,Js,S,hd,hw=>by
   simp only[T.fill]at h
   split at h
   ·cases h
   ·cases h;exact hw
 | .dq t,d,t',h,r,Js,S,hd,hw=>by
   cases d with
   |zero=>simp[T.fill]at h
   |succ d=>
    simp only[T.fill,map_eq_some_iff]at h;obtain⟨t2,h1,rfl⟩:=h;cases Js with
    |nil=>cases hd
    |cons J Js=>
     simp only[cons_append,bD]at hw⊢;exact gC t h1 (by simpa using hd) hw
 | .op o t,d,t',h,r,Js,S,hd,hw=>by
   simp only[T.fill,map_eq_some_iff]at h;obtain⟨t2,h1,rfl⟩:=h;exact PO.pW (o:=o) hw λ v hv=>gC t h1 hd hv
 | .aL c t,d,t',h,r,Js,S,hd,hw=>by
   simp only[T.fill,map_eq_some_iff]at h;obtain⟨t2,h1,rfl⟩:=h;exact nU.wp_mono (c:=c) hw λ hv=>gC t h1 hd hv
 | .ite c t f,d,t',h,r,Js,S,hd,hw=>by
   simp only[T.fill]at h
   split at h
   ·rename_i t2 f2 h1 h2;cases h;simp only[bD]at hw⊢
    split at hw
    ·exact⟨λ hb=>gC t h1 hd (hw.1 hb),λ hb=>gC f h2 hd (hw.2 hb)⟩
    ·exact hw.elim
   ·cases h
 | .bind m a b,d,t',h,r,Js,S,hd,hw=>by
   simp only[T.fill]at h
   split at h
   ·rename_i a2 b2 h1 h2;cases h;simp only[bD]at hw⊢;have:=gC a h1 (Js:=_::Js) (by simpa using hd) hw;exact dz (λ _ _ _ h=>h) (λ _ h=>h) a (.cons (λ vs hv hk=>gC b h2 hd (hv hk)) (.refl _)) this
   ·cases h
 | .loop init b,d,t',h,r,Js,S,hd,hw=>by
   simp only[T.fill,map_eq_some_iff]at h;obtain⟨t2,h1,rfl⟩:=h;obtain⟨J,n,h0,h2⟩:=hw;exact⟨J,n,h0,λ n vs hJ hk=>gC b h1 (Js:=_::Js) (by simpa using hd) (h2 n vs hJ hk)⟩
theorem wg{L:AX->SS->List AV->Prop}{R:AV->Prop}{k:AX->SS->Option T}{t t':T}(h:t.fill k 0=some t'){r:List AV}{S:List (List AV->Prop)}(hw:bD P L R t' r S):
 bD P (λ x s r'=>∃t2,k x s=some t2/\bD P L R t2 r' S) R t r S:=gC t h (Js:=[]) rfl hw
theorem pS{op:ez}{s:SS}{ns:List Node}{v:SV}{s':SS}(h:lI op s=some (ns,v,s')){r:List AV}(hl:r.length=s.nv)(hr:AV.ae r=true){G:List AV->Prop}(hw:jM P ns r G){K:KT}
  (hk:∀r',G r'->kh r r' s'.nv->bX s' r'=bX s r->K (v.ev r') (bE s' r')):wpOp P op (bX s r) (bE s r) K:=by
 unfold lI at h
 split at h
 ·rename_i h1
  split at h
  ·rename_i ns2 v2 s2 hx
   split at h
   ·rename_i h2;cases h;obtain⟨c1,c2,c3,c4⟩:=h2;refine att h1.2 h1.1 c3 hx r hl h1.1 hr c1 K ?_;refine xQ ns hr (by rw[hl];exact c1) hw λ r' hm hG he=>hk r' hG ⟨hm.pre,?_,hm.nor⟩ he
    exact(hm.len.trans (by rw[hl])).trans c2
   ·cases h
  ·cases h
 ·cases h
theorem od{e:Env}{t:Nat}{a:AV}(h:e t=a):e.set t a=e:=yq h
theorem sh{fl:List Nat}{n0:Nat}{L:AX->SS->List AV->Prop}{R:AV->Prop}{S:List (List AV->Prop)}{K:Env->List ad->Prop}:∀(ops:List aO) {s:SS} {t:T},pG fl true ops s=some t->∀{r:List AV},r.length=s.nv->AV.ae r=true->
  bD P L R t r S->(∀s' r',L .normal s' r'->kh r r' s'.nv->K (bX s' r') (bE s' r'))->gU P n0 ops (bX s r) (bE s r) K
 | [],s,t,h,r,hl,hr,hw,hk=>by
   simp only[pG,Option.some.injEq]at h;subst h;exact⟨_,_,.refl _ _ _,hk s r hw ⟨⟨[],by simp⟩,hl,hr⟩⟩
 |o::ops,s,t,h,r,hl,hr,hw,hk=>by
  have aic:Wk n0 s (pre fl true o.op s):=at6 fl true o.op s;have xc:=aic.2 r hl hr;have xD:r.length=(pre fl true o.op s).nv:=hl.trans aic.1.symm
  have step:∀{s0:SS} {ns:List Node} {v:SV} {s':SS} {t':T},lI o.op s0=some (ns,v,s')->pG fl true ops (s'.bO o.dst v)=some t'->r.length=s0.nv->bD P L R (wrap ns t') r S->
    wpOp P o.op (bX s0 r) (bE s0 r) λ x O'=>gU P n0 ops (bO (bX s0 r) o.dst x) O' K:=by
   intro s0 ns v s' t' hx ht xD hw;rw[pX]at hw;refine pS hx xD hr hw λ r' hG hm he=> ?_
   rw[←he,←n9,←n8 s' o.dst v r'];refine sh ops ht (by rw[qU];exact hm.len) hm.nor hG λ s2 r2 hL hm2=>hk s2 r2 hL (hm.trans hm2)
  have skip:∀{s0:SS} {t':T},pG fl true ops (s0.bO o.dst un)=some t'->r.length=s0.nv->bD P L R t' r S->gU P n0 ops (bO (bX s0 r) o.dst (.a9 [])) (bE s0 r) K:=by
   intro s0 t' ht xD hw;have:(un).ev r= .a9 []:=rfl;rw[←this,←n9,←n8 s0 o.dst un r];exact sh ops ht (by rw[qU];exact xD) hr hw hk
  simp only[pG]at h;simp only[gU]
  split at h
  ·rename_i hg
   split at h
   ·rename_i ns v s' hx;simp only[map_eq_some_iff]at h;obtain⟨t',ht,rfl⟩:=h;refine⟨_,_,xc,?_⟩;rw[hg];exact step hx ht xD hw
   ·cases h
  ·rename_i g want hg
   split at h
   ·rename_i b hb;have heb:bX s r g= .v (.bool b):=by simp only[bX,hb];rfl
    split at h
    ·rename_i me
     split at h
     ·rename_i b' lP;have ay8:bX (pre fl true o.op s) r g= .v (.bool b'):=by simp only[bX,lP];rfl
      split at h
      ·rename_i aCu;subst aCu
       split at h
       ·rename_i ns v s' hx;simp only[map_eq_some_iff]at h;obtain⟨t',ht,rfl⟩:=h;refine⟨_,_,xc,?_⟩;rw[hg];simp only[ay8];rw[od ay8];refine⟨λ _=>step hx ht xD hw,λ h=> ?_⟩;cases b'<;>simp at h
       ·cases h
      ·cases h
     ·cases h
    ·rename_i me;refine⟨_,_,.refl _ _ _,?_⟩;rw[hg];simp only[heb];have lG:b= !want:=by cases b<;>cases want<;>simp_all
     refine⟨λ h=>(me h).elim,λ _=> ?_⟩;rw[od (by rw[heb,lG])];exact skip h hl hw
   ·rename_i hb;have heb:bX s r g= .a9 []:=by simp only[bX,hb];rfl
    refine⟨_,_,.refl _ _ _,?_⟩;rw[hg];simp only[heb];exact skip h hl hw
   ·split at h
    ·rename_i c hc;have hec:bX (pre fl true o.op s) r g=c.ev r:=by simp only[bX,hc];rfl
     split at h
     ·rename_i ns v s' hx
      split at h
      ·rename_i t1 t2 h1 h2;simp only[Option.some.injEq]at h;refine⟨_,_,xc,?_⟩;rw[hg];simp only[hec]
       have key:∃b,c.ev r= .v (.bool b)/\(b=want->bD P L R (wrap ns t1) r S)/\(b= !want->bD P L R t2 r S):=by
        subst h;cases want
        ·simp only[false_eq_true,if_false,bD]at hw
         split at hw
         ·rename_i b hb;exact⟨b,hb,hw.2,λ h=>hw.1 (by simpa using h)⟩
         ·exact hw.elim
        ·simp only[if_true,bD]at hw
         split at hw
         ·rename_i b hb;exact⟨b,hb,hw.1,λ h=>hw.2 (by simpa using h)⟩
         ·exact hw.elim
       obtain⟨b,hb,k1,k2⟩:=key;simp only[hb];have e1:∀b':Bool,(bX (pre fl true o.op s) r).set g (.v (.bool b'))=bX ((pre fl true o.op s).set g (.d (.c (.v (.bool b'))))) r:=λ b'=>by rw[xu];rfl
       refine⟨λ me=> ?_,λ me=> ?_⟩
       ·rw[e1];exact step hx h1 xD (k1 me)
       ·rw[e1];exact skip h2 xD (k2 me)
      ·cases h
     ·cases h
    ·cases h
   ·cases h
theorem pT{fl:List Nat}{L:AX->SS->List AV->Prop}{R:AV->Prop}{S:List (List AV->Prop)}{K:Env->List ad->Prop}:∀(ops:List aO) {s:SS} {t:T},pG fl false ops s=some t->∀{r:List AV},r.length=s.nv->AV.ae r=true->
  bD P L R t r S->(∀s' r',L .normal s' r'->kh r r' s'.nv->K (bX s' r') (bE s' r'))->wpOps P ops (bX s r) (bE s r) K
 | [],s,t,h,r,hl,hr,hw,hk=>by
   simp only[pG,Option.some.injEq]at h;subst h;exact hk s r hw ⟨⟨[],by simp⟩,hl,hr⟩
 |o::ops,s,t,h,r,hl,hr,hw,hk=>by
  have aic:pre fl false o.op s=s:=rfl
  have step:∀{s0:SS} {ns:List Node} {v:SV} {s':SS} {t':T},lI o.op s0=some (ns,v,s')->pG fl false ops (s'.bO o.dst v)=some t'->r.length=s0.nv->bD P L R (wrap ns t') r S->
    wpOp P o.op (bX s0 r) (bE s0 r) λ x O'=>wpOps P ops (bO (bX s0 r) o.dst x) O' K:=by
   intro s0 ns v s' t' hx ht xD hw;rw[pX]at hw;refine pS hx xD hr hw λ r' hG hm he=> ?_
   rw[←he,←n9,←n8 s' o.dst v r'];refine pT ops ht (by rw[qU];exact hm.len) hm.nor hG λ s2 r2 hL hm2=>hk s2 r2 hL (hm.trans hm2)
  have skip:∀{s0:SS} {t':T},pG fl false ops (s0.bO o.dst un)=some t'->r.length=s0.nv->bD P L R t' r S->wpOps P ops (bO (bX s0 r) o.dst (.a9 [])) (bE s0 r) K:=by
   intro s0 t' ht xD hw;have:(un).ev r= .a9 []:=rfl;rw[←this,←n9,←n8 s0 o.dst un r];exact pT ops ht (by rw[qU];exact xD) hr hw hk
  simp only[pG,aic]at h;simp only[wpOps]
  split at h
  ·rename_i hg
   split at h
   ·rename_i ns v s' hx;simp only[map_eq_some_iff]at h;obtain⟨t',ht,rfl⟩:=h;rw[hg];exact step hx ht hl hw
   ·cases h
  ·rename_i g want hg
   split at h
   ·rename_i b hb;have heb:bX s r g= .v (.bool b):=by simp only[bX,hb];rfl
    rw[hg];simp only[heb]
    split at h
    ·rename_i me;simp only[hb]at h;rw[if_pos me]at h;subst me
     split at h
     ·rename_i ns v s' hx;simp only[map_eq_some_iff]at h;obtain⟨t',ht,rfl⟩:=h;rw[od heb];refine⟨λ _=>step hx ht hl hw,λ h=> ?_⟩;cases b<;>simp at h
     ·cases h
    ·rename_i me;have lG:b= !want:=by cases b<;>cases want<;>simp_all
     refine⟨λ h=>(me h).elim,λ _=> ?_⟩;rw[od (by rw[heb,lG])];exact skip h hl hw
   ·rename_i hb;have heb:bX s r g= .a9 []:=by simp only[bX,hb];rfl
    rw[hg];simp only[heb];exact skip h hl hw
   ·split at h
    ·rename_i c hc;have hec:bX s r g=c.ev r:=by simp only[bX,hc];rfl
     split at h
     ·rename_i ns v s' hx
      split at h
      ·rename_i t1 t2 h1 h2;simp only[Option.some.injEq]at h;rw[hg];simp only[hec]
       have key:∃b,c.ev r= .v (.bool b)/\(b=want->bD P L R (wrap ns t1) r S)/\(b= !want->bD P L R t2 r S):=by
        subst h;cases want
        ·simp only[false_eq_true,if_false,bD]at hw
         split at hw
         ·rename_i b hb;exact⟨b,hb,hw.2,λ h=>hw.1 (by simpa using h)⟩
         ·exact hw.elim
        ·simp only[if_true,bD]at hw
         split at hw
         ·rename_i b hb;exact⟨b,hb,hw.1,λ h=>hw.2 (by simpa using h)⟩
         ·exact hw.elim
       obtain⟨b,hb,k1,k2⟩:=key;simp only[hb];have e1:∀b':Bool,(bX s r).set g (.v (.bool b'))=bX (s.set g (.d (.c (.v (.bool b'))))) r:=λ b'=>by rw[xu];rfl
       refine⟨λ me=> ?_,λ me=> ?_⟩
       ·rw[e1];exact step hx h1 hl (k1 me)
       ·rw[e1];exact skip h2 hl (k2 me)
      ·cases h
     ·cases h
    ·cases h
   ·cases h
theorem ahd{a:AV}(h:a.ag=true):refs a= []:=by
 cases a<;>first|rfl|(simp[AV.ag]at h)
theorem axl{s:SS}(hc:s.cl=true){r:List AV}(hl:r.length=s.nv)(hr:AV.ae r=true)(x:aI):refs (x.ev (bX s r))=rfS s x:=by
 cases x with
 |c a=>rfl
 |t n=>
  simp only[aI.ev,bX,rfS];have:=SS.ph hc n;generalize lk s.env n=v at this;cases v<;>try rfl
  exact ahd (D.bK hr _ (by rw[hl];exact this))
theorem ahL{op:ez}{s:SS}(hc:s.cl=true){r:List AV}(hl:r.length=s.nv)(hr:AV.ae r=true):cF op (bX s r) (bE s r).length=anE op s:=by
 unfold cF anE;rw[show(λ x=>refs (aI.ev (bX s r) x))=rfS s from funext λ x=>axl hc hl hr x,dJ]
theorem xL{op:ez}{s:SS}{q}(h:lI op s=some q):s.cl=true:=by
 unfold lI at h
 split at h
 ·rename_i h1;exact h1.1
 ·cases h
theorem np{rows:List (List Nat)}{all:List aO}{L:AX->SS->List AV->Prop}{R:AV->Prop}{S:List (List AV->Prop)}{K:Env->List ad->Prop}:∀(ops:List aO) {acc:List iw} {s:SS} {t:T},mC rows all ops acc s=some t->∀{r:List AV},r.length=s.nv->AV.ae r=true->
  bD P L R t r S->(∀s' r',L .normal s' r'->kh r r' s'.nv->K (bX s' r') (bE s' r'))->cC P ops acc (bX s r) (bE s r) λ iD e O=>iF rows (all.zip iD)=true/\K e O
 | [],acc,s,t,h,r,hl,hr,hw,hk=>by
   simp only[mC]at h
   split at h
   ·rename_i hd;simp only[Option.some.injEq]at h;subst h;simp only[cC];exact⟨hd,hk s r hw ⟨⟨[],by simp⟩,hl,hr⟩⟩
   ·cases h
 |o::ops,acc,s,t,h,r,hl,hr,hw,hk=>by
  have step:∀{s0:SS} {ns:List Node} {v:SV} {s':SS} {t':T} {aiJ:List iw},lI o.op s0=some (ns,v,s')->mC rows all ops aiJ (s'.bO o.dst v)=some t'->r.length=s0.nv->bD P L R (wrap ns t') r S->
    wpOp P o.op (bX s0 r) (bE s0 r) λ x O'=>cC P ops aiJ (bO (bX s0 r) o.dst x) O' λ iD e O=>iF rows (all.zip iD)=true/\K e O:=by
   intro s0 ns v s' t' aiJ hx ht xD hw;rw[pX]at hw;refine pS hx xD hr hw λ r' hG hm he=> ?_
   rw[←he,←n9,←n8 s' o.dst v r'];refine np ops ht (by rw[qU];exact hm.len) hm.nor hG λ s2 r2 hL hm2=>hk s2 r2 hL (hm.trans hm2)
  have skip:∀{s0:SS} {t':T} {aiJ:List iw},mC rows all ops aiJ (s0.bO o.dst un)=some t'->r.length=s0.nv->bD P L R t' r S->cC P ops aiJ (bO (bX s0 r) o.dst (.a9 [])) (bE s0 r) λ iD e O=>iF rows (all.zip iD)=true/\K e O:=by
   intro s0 t' aiJ ht xD hw;have:(un).ev r= .a9 []:=rfl;rw[←this,←n9,←n8 s0 o.dst un r];exact np ops ht (by rw[qU];exact xD) hr hw hk
  simp only[mC]at h;simp only[cC]
  split at h
  ·rename_i hg
   split at h
   ·rename_i ns v s' hx;simp only[map_eq_some_iff]at h;obtain⟨t',ht,rfl⟩:=h;rw[hg];simp only[ahL (xL hx) hl hr];exact step hx ht hl hw
   ·cases h
  ·rename_i g want hg
   split at h
   ·rename_i b hb;have heb:bX s r g= .v (.bool b):=by simp only[bX,hb];rfl
    rw[hg];simp only[heb]
    split at h
    ·rename_i me;subst me
     split at h
     ·rename_i ns v s' hx;simp only[map_eq_some_iff]at h;obtain⟨t',ht,rfl⟩:=h;rw[od heb];refine⟨λ _=> ?_,λ h=> ?_⟩
      ·simp only[ahL (xL hx) hl hr];exact step hx ht hl hw
      ·cases b<;>simp at h
     ·cases h
    ·rename_i me;have lG:b= !want:=by cases b<;>cases want<;>simp_all
     refine⟨λ h=>(me h).elim,λ _=> ?_⟩;rw[od (by rw[heb,lG])];exact skip h hl hw
   ·rename_i hb;have heb:bX s r g= .a9 []:=by simp only[bX,hb];rfl
    rw[hg];simp only[heb];exact skip h hl hw
   ·rename_i c _ _ hc;have hec:bX s r g=c.ev r:=by simp only[bX,hc];rfl
    split at h
    ·rename_i ns v s' hx
     split at h
     ·rename_i t1 t2 h1 h2;simp only[Option.some.injEq]at h;rw[hg];simp only[hec]
      have key:∃b,c.ev r= .v (.bool b)/\(b=want->bD P L R (wrap ns t1) r S)/\(b= !want->bD P L R t2 r S):=by
       subst h;cases want
       ·simp only[false_eq_true,if_false,bD]at hw
        split at hw
        ·rename_i b hb;exact⟨b,hb,hw.2,λ h=>hw.1 (by simpa using h)⟩
        ·exact hw.elim
       ·simp only[if_true,bD]at hw
        split at hw
        ·rename_i b hb;exact⟨b,hb,hw.1,λ h=>hw.2 (by simpa using h)⟩
        ·exact hw.elim
      obtain⟨b,hb,k1,k2⟩:=key;simp only[hb];have e1:∀b':Bool,(bX s r).set g (.v (.bool b'))=bX (s.set g (.d (.c (.v (.bool b'))))) r:=λ b'=>by rw[xu];rfl
      have e2:∀b':Bool,bE s r=bE (s.set g (.d (.c (.v (.bool b'))))) r:=λ b'=>rfl
      refine⟨λ me=> ?_,λ me=> ?_⟩
      ·rw[e1,e2 want];simp only[ahL (s:=s.set g (.d (.c (.v (.bool want))))) (xL hx) hl hr];exact step hx h1 hl (k1 me)
      ·rw[e1,e2 (!want)];exact skip h2 hl (k2 me)
     ·cases h
    ·cases h
   ·cases h
theorem adp{n0:Nat}(s:SS)(t m:Nat):Wk n0 s {s with ai:=s.ai++ [.row true t m (.c (.sl []))]}:=by
 refine⟨rfl,λ r hl hr=> ?_⟩;refine WK.yW t m (by simp[bE]) (by simp[bE,SO.ev,D.ev,aU]) (λ j hj=> .inl ?_) λ q=> .inl rfl
 simp only[bE,map_append];rw[getElem?_append_left (by simpa [bE]using hj)]
theorem jY{n0:Nat}:∀(ops:List aO) (s:SS),Wk n0 s (jd ops s).2/\(jd ops s).1.map aO.strip=ops.map aO.strip
 | [],s=>⟨.refl _ _,rfl⟩
 |o::r,s=>by
  obtain⟨g,d,op⟩:=o;simp only[jd]
  split
  ·rename_i _ t m z;obtain⟨h1,h2⟩:=jY (n0:=n0) r {s with ai:=s.ai++ [.row true t m (.c (.sl []))]};exact⟨(adp s t m).trans h1,by simp only[map_cons,h2];rfl⟩
  ·rename_i _ t m x;obtain⟨h1,h2⟩:=jY (n0:=n0) r {s with ai:=s.ai++ [.row true t m (.c (.sl []))]};exact⟨(adp s t m).trans h1,by simp only[map_cons,h2];rfl⟩
  ·rename_i _ t m len z ps;obtain⟨h1,h2⟩:=jY (n0:=n0) r {s with ai:=s.ai++ [.row true t m (.c (.sl []))]};exact⟨(adp s t m).trans h1,by simp only[map_cons,h2];rfl⟩
  ·obtain⟨h1,h2⟩:=jY (n0:=n0) r s;exact⟨h1,by simp only[map_cons,h2]⟩
theorem aad{rows:List (List Nat)}{ops:List aO}{n0:Nat}:∀(n:Nat) {s s1:SS} {al:List aO} {t:T},afY rows ops n s=some (s1,al,t)->Wk n0 s s1/\al.map aO.strip=ops.map aO.strip/\mC rows al al [] s1=some t
 |0,s,s1,al,t,h=>by simp[afY]at h
 |n+1,s,s1,al,t,h=>by
  simp only[afY]at h
  split at h
  ·rename_i t0 ht;cases h;exact⟨.refl _ _,rfl,ht⟩
  ·split at h
   ·split at h
    ·rename_i t0 ht;cases h;obtain⟨h1,h2⟩:=jY (n0:=n0) ops s;exact⟨h1,h2,ht⟩
    ·cases h
   ·obtain⟨q1,q2⟩:=aad n h;exact⟨(ali _ _).trans q1,q2⟩
end
end Go.Ab
namespace Go.Ab
section
variable {P:Program}
theorem anK(live:List Nat)(s:SS)(t:Nat):lk (anM live s).env t=if live.contains t=true then lk s.env t else .top:=by
 have key:∀(l:List Nat),lk (l.filterMap λ t=>match lk s.env t with| .top=>none|v=>some (t,v)) t=if l.contains t=true then lk s.env t else .top:=by
  intro l
  induction l with
  |nil=>rfl
  |cons q l ih=>
   simp only[List.filterMap_cons,List.contains_cons];by_cases hq:t=q
   ·subst hq;simp only[BEq.rfl,Bool.true_or,if_true]
    split
    ·rename_i h
     split at h
     ·rename_i h2;rw[h2]at ih⊢;rw[ih];simp
     ·cases h
    ·rename_i p h
     split at h
     ·cases h
     ·cases h;simp[lk]
   ·have hb:(t==q)=false:=by simpa using hq
    simp only[hb,Bool.false_or]
    split
    ·exact ih
    ·rename_i p h
     split at h
     ·cases h
     ·cases h;simp only[lk,if_neg hq];exact ih
 exact key live
theorem anL(live:List Nat)(s:SS)(r:List AV):bX (anM live s) r=tK live (bX s r):=by
 funext t
 simp only[bX,anK,tK]
 split<;>rfl
theorem qu{n0:Nat}{body:SS->Option T}:∀(n:Nat) {s h s1 h1:SS} {t:T},vm body n s h=some (s1,h1,t)->Wk n0 s s1/\body h1=some t
 |0,s,h,s1,h1,t,hh=>by simp[vm]at hh
 |n+1,s,h,s1,h1,t,hh=>by
  simp only[vm]at hh
  split at hh
  ·cases hh
  ·rename_i t0 hb
   split at hh
   ·rename_i c hc
    split at hh
    ·cases hh
    ·obtain⟨q1,q2⟩:=qu n hh;exact⟨(ajG s c).trans q1,q2⟩
   ·split at hh
    ·cases hh;exact⟨.refl _ _,hb⟩
    ·exact qu n hh
theorem sd{n0:Nat}{body:SS->Option T}:∀(n:Nat) {s s1:SS} {t:T},qE body n s=some (s1,t)->Wk n0 s s1/\body s1=some t
 |0,s,s1,t,hh=>by simp[qE]at hh
 |n+1,s,s1,t,hh=>by
  simp only[qE]at hh
  split at hh
  ·cases hh
  ·rename_i t0 hb
   split at hh
   ·split at hh
    ·rename_i c hc;obtain⟨q1,q2⟩:=sd n hh;exact⟨(ajG s c).trans q1,q2⟩
    ·cases hh;exact⟨.refl _ _,hb⟩
   ·cases hh;exact⟨.refl _ _,hb⟩
theorem aoZ{b:aR}{q:List (List Nat)×List aO}(h:b.drawn=some q):b= .region (some q.1) q.2:=by
 cases b<;>simp only[aR.drawn,reduceCtorEq]at h
 rename_i d ops;cases d<;>simp only[reduceCtorEq,Option.some.injEq]at h
 subst h;rfl
theorem akV{b:aR}(h:b.ahP=true):∃c,b= .k8 c:=by
 cases b<;>first|exact⟨_,rfl⟩|(simp[aR.ahP]at h)
theorem xN{n0:Nat}{fl:List Nat}(c:aR):∀{s:SS} {t:T},xC n0 fl c s=some t->∀{r:List AV},r.length=s.nv->AV.ae r=true->∀{L:AX->SS->List AV->Prop} {R:AV->Prop} {S:List (List AV->Prop)} {Q:AX->Env->List ad->Prop},
  bD P L R t r S->(∀x s' r',L x s' r'->kh r r' s'.nv->Q x (bX s' r') (bE s' r'))->ky P n0 c Q (bX s r) (bE s r):=by
 induction c with
 |skip=>
  intro s t h r hl hr L R S Q hw hq;simp only[xC,Option.some.injEq]at h;subst h;exact hq _ _ _ hw ⟨⟨[],by simp⟩,hl,hr⟩
 |region d ops=>
  intro s t h r hl hr L R S Q hw hq;cases d with
  |none=>exact pT ops h hl hr hw λ s' r' hL hm=>hq _ _ _ hL hm
  |some rows=>exact⟨ops,rfl,np ops h hl hr hw λ s' r' hL hm=>hq _ _ _ hL hm⟩
 |gZ ops=>
  intro s t h r hl hr L R S Q hw hq;exact sh ops h hl hr hw λ s' r' hL hm=>hq _ _ _ hL hm
 |exit id=>
  intro s t h r hl hr L R S Q hw hq;simp only[xC,Option.some.injEq]at h;subst h;exact hq _ _ _ hw ⟨⟨[],by simp⟩,hl,hr⟩
 |ret=>
  intro s t h r hl hr L R S Q hw hq;simp only[xC,Option.some.injEq]at h;subst h;exact hq _ _ _ hw ⟨⟨[],by simp⟩,hl,hr⟩
 |seq a b iha ihb=>
  intro s t h r hl hr L R S Q hw hq;simp only[xC]at h
  split at h
  ·cases h
  ·rename_i t0 ha
   split at h
   ·rename_i oA;obtain⟨b',rfl⟩:=akV oA.1
    split at h
    ·rename_i t1 t2 h1 h2;cases h;simp only[bD]at hw;have hf:=wg h1 hw;refine iha ha hl hr hf λ x s' r' hL hm=> ?_
     obtain⟨t3,e3,w3⟩:=hL
     have oth:∀{x'},t3= .dq (.leaf x' s')->x'=x->Q x (bX s' r') (bE s' r'):=by
      intro x' h3 hx;subst h3;subst hx;simp only[bD]at w3;exact hq _ _ _ w3 hm
     cases x with
     |exit i=>cases e3;exact oth rfl rfl
     |ret=>cases e3;exact oth rfl rfl
     |normal=>
      simp only[map_eq_some_iff]at e3;obtain⟨vs,hco,rfl⟩:=e3;simp only[bD]at w3;obtain⟨m,rfl⟩:=hm.pre;obtain⟨c1,c2,c3⟩:=pg hco hl hm.len hm.nor;have w4:=w3 (by rw[D.aQ,length_map,c1]);obtain⟨e',O',xc,gf⟩:=ihb h2 c2.len c2.nor w4 λ x s2 r2 rG hm2=>hq x s2 r2 rG (c2.trans hm2)
      exact⟨e',O',c3.trans xc,gf⟩
    ·cases h
   ·have hf:=wg h hw;refine iha ha hl hr hf λ x s' r' hL hm=> ?_
    obtain⟨t3,e3,w3⟩:=hL;cases x with
    |exit i=>cases e3;exact hq _ _ _ w3 hm
    |ret=>cases e3;exact hq _ _ _ w3 hm
    |normal=>exact ihb e3 hm.len hm.nor w3 λ x s2 r2 rG hm2=>hq x s2 r2 rG (hm.trans hm2)
 |cond c a b iha ihb=>
  intro s t h r hl hr L R S Q hw hq;simp only[xC]at h;simp only[ky,←aT]
  split at h
  ·rename_i bb hc;rw[hc];simp only[SV.ev,D.ev]
   split at h
   ·rename_i hb;refine⟨λ _=>iha h hl hr hw hq,λ h=> ?_⟩;rw[hb]at h;cases h
   ·rename_i hb;refine⟨λ h=>(hb h).elim,λ _=>ihb h hl hr hw hq⟩
  ·rename_i d _ hc
   split at h
   ·rename_i t1 t2 h1 h2
    split at h
    ·cases h;rw[hc];simp only[bD]at hw;simp only[SV.ev]
     split at hw
     ·rename_i bb hb;rw[hb];exact⟨λ h=>iha h1 hl hr (hw.1 h) hq,λ h=>ihb h2 hl hr (hw.2 h) hq⟩
     ·exact hw.elim
    ·cases h
   ·cases h
  ·cases h
 |block id b ih=>
  intro s t h r hl hr L R S Q hw hq;simp only[xC]at h
  split at h
  ·cases h
  ·rename_i t0 hb;have hf:=wg h hw;refine ih hb hl hr hf λ x s' r' hL hm=> ?_
   obtain⟨t3,e3,w3⟩:=hL;cases x with
   |normal=>cases e3;exact hq _ _ _ w3 hm
   |ret=>cases e3;exact hq _ _ _ w3 hm
   |exit i=>
    simp only[Option.some.injEq]at e3;simp only
    split
    ·rename_i hi;rw[if_pos hi]at e3;subst e3;exact hq _ _ _ w3 hm
    ·rename_i hi;rw[if_neg hi]at e3;subst e3;exact hq _ _ _ w3 hm
 |loop b ih=>
  intro s t h r hl hr L R S Q hw hq;simp only[xC]at h
  split at h
  ·cases h
  ·rename_i s1 hd t0 hh;obtain⟨xc,hb⟩:=qu 8 hh
   split at h
   ·rename_i init hco
    split at h
    ·rename_i t1 h1;cases h;obtain⟨J,n,hJ0,ah8⟩:=hw;have hl1:r.length=s1.nv:=hl.trans xc.1.symm;obtain⟨c1,c2,c3⟩:=pg (rb:=r) (m:=[]) hco hl1 (by simpa using hl1) (by simpa using hr);simp only[append_nil]at c1 c2 c3;refine⟨λ n e O=>∃vs,J n vs/\vs.length=init.length/\kh r (r++vs) hd.nv/\e=bX hd (r++vs)/\O=bE hd (r++vs),n,⟨_,_,(xc.2 r hl hr).trans c3,D.a8 r init,hJ0,by rw[D.aQ,length_map],c2,rfl,rfl⟩,?_⟩;rintro n e O ⟨vs,hJ,hlen,hm0,rfl,rfl⟩;have hf:=wg h1 (ah8 n vs hJ hlen);refine ih hb hm0.len hm0.nor hf λ x s' r' hL hm=> ?_
     obtain⟨t3,e3,w3⟩:=hL;cases x with
     |exit i=>cases e3;simp only[bD]at w3;exact hq _ _ _ w3 (hm0.trans hm)
     |ret=>cases e3;simp only[bD]at w3;exact hq _ _ _ w3 (hm0.trans hm)
     |normal=>
      simp only[map_eq_some_iff]at e3;obtain⟨nV,aCo,rfl⟩:=e3;simp only[bD]at w3;obtain⟨m',aF,hJ'⟩:=w3;obtain⟨m2,rfl⟩:=hm.pre;have o6:=hm.nor;have mc:=hm.len;rw[List.append_assoc]at o6 mc hJ'⊢;obtain⟨d1,d2,d3⟩:=pg (rb:=r) (m:=vs++m2) aCo hl1 mc o6;exact⟨m',_,_,aF,d3,_,hJ',by rw[D.aQ,length_map,d1,c1],d2,rfl,rfl⟩
    ·cases h
   ·cases h
 |ar live c ih=>
  intro s t h r hl hr L R S Q hw hq;simp only[xC]at h
  split at h
  ·cases h
  ·rename_i t0 hb;have hf:=wg h hw;refine ih hb hl hr hf λ x s' r' hL hm=> ?_
   obtain⟨t3,e3,w3⟩:=hL;cases x with
   |exit i=>cases e3;exact hq _ _ _ w3 hm
   |ret=>cases e3;exact hq _ _ _ w3 hm
   |normal=>
    cases e3;simp only;rw[←anL];exact hq _ _ _ w3 hm
 |k8 c ih=>
  intro s t h r hl hr L R S Q hw hq;simp only[xC]at h
  split at h
  ·split at h
   ·rename_i q hc;obtain⟨s1,t1⟩:=q;cases h;obtain⟨xc,hb⟩:=sd 6 hc;exact⟨_,_,xc.2 r hl hr,ih hb (hl.trans xc.1.symm) hr hw hq⟩
   ·cases h
  ·split at h
   ·rename_i q hd;simp only[map_eq_some_iff]at h;obtain⟨⟨s1,al,t1⟩,hdr,rfl⟩:=h;obtain⟨xc,oJ,hx⟩:=aad (n0:=n0) 6 hdr;have hc:=aoZ hd;subst hc;exact⟨_,_,xc.2 r hl hr,al,oJ,np al hx (hl.trans xc.1.symm) hr hw λ s' r' hL hm=>hq _ _ _ hL hm⟩
   ·exact⟨_,_,.refl _ _ _,ih h hl hr hw hq⟩
theorem eB:∀(c:aR),c.weaken.strip=c.strip
 | .skip=>rfl
 | .region none ops=>rfl
 | .region (some rows) ops=>rfl
 | .seq a b=>by simp only[aR.weaken,aR.strip,eB a,eB b]
 | .cond c t f=>by simp only[aR.weaken,aR.strip,eB t,eB f]
 | .block id b=>by simp only[aR.weaken,aR.strip,eB b]
 | .loop b=>by simp only[aR.weaken,aR.strip,eB b]
 | .exit id=>rfl
 | .ret=>rfl
 | .ar l c=>by simp only[aR.weaken,aR.strip,eB c]
 | .k8 c=>by simp only[aR.weaken,aR.strip,eB c]
 | .gZ ops=>rfl
def mo.weaken(A:mo):mo:={A with code:= .k8 A.code.weaken}
theorem rj.weaken{f:FuncId}{A:mo}(h:rj P f A):rj P f A.weaken:=by
 obtain⟨fn,code,h1,h2,h3,h4,h5,h6,h7⟩:=h;exact⟨fn,code,h1,h2,h3,h4,h5,h6.trans (congrArg some (eB A.code).symm),h7⟩
def pd(n:Nat):SS:=⟨(List.range n).map λ i=>(i,.d (.x i)),[],n,[]⟩
theorem afW(args:List AV):∀t,bX (pd args.length) args t= .top∨bX (pd args.length) args t=mZ args t:=by
 intro t
 have key:∀(n k:Nat),lk ((List.range' k n).map λ i=>(i,SV.d (.x i))) t=if k<=t/\t<k+n then .d (.x t)else .top:=by
  intro n
  induction n with
  |zero=>intro k;rw[if_neg (by omega)];rfl
  |succ n ih=>
   intro k;simp only[List.range'_succ,map_cons,lk,ih];by_cases h:t=k
   ·subst h;simp
   ·rw[if_neg h];by_cases h2:k+1<=t/\t<k+1+n
    ·rw[if_pos h2,if_pos (by omega)]
    ·rw[if_neg h2,if_neg (by omega)]
 simp only[bX,pd,List.range_eq_range'];rw[key]
 split
 ·rename_i h;refine .inr ?_;simp only[SV.ev,D.ev,mZ,List.getD];have:t<args.length:=by omega
  rw[getElem?_eq_getElem this];rfl
 ·exact .inl rfl
inductive uo(O:List ad):AV->AV->Prop
 |refl (a:AV):a.ag=true->uo O a a
 |row (n t s:Nat) (xs:List AV):(O[n]? =some (.live t s xs)∨(O[n]? =some (.nil t s)/\xs= []))->AV.ae xs=true->uo O (.row n xs.length) (.sl xs)
 |agg (cs ds:List AV):cs.length=ds.length->(∀(i:Nat) c d,cs[i]? =some c->ds[i]? =some d->uo O c d)->uo O (.agg cs) (.agg ds)
 |a9 (cs ds:List AV):cs.length=ds.length->(∀(i:Nat) c d,cs[i]? =some c->ds[i]? =some d->uo O c d)->uo O (.a9 cs) (.a9 ds)
theorem uo.sound{I:du}{L:Nat->Loc}{O:List ad}{w:World}(hi:Inv I L O w){a b:AV}(h:uo O a b):∀{x:Value},R I L O a x->R (allI I L O w) L [] b x:=by
 induction h with
 |refl a hn=>intro x hr;exact hr.ag (uk hi) hn
 |row n t s xs hO hn=>
  intro x hr;rcases hO with hO|⟨hO,rfl⟩
  ·have:=hr.eu hO rfl;subst this;obtain⟨c,⟨lD,h1,dE⟩,h2,h3,h4,h5,h6⟩:=hi.obj n t s xs hO;have hlb:LB L O (L n).bf:= .inl ⟨n,t,s,xs,hO,rfl⟩;by_cases hx:xs= []
   ·subst hx;exact .mq _ _
   ·refine(.sl xs (L n).bf 0 (L n).cap s (λ i j=>(c[i*s+j]?).getD undef) h3 hx (λ i x hx=>(h6 i x hx).1) (λ i x j d hx hj=> ?_) λ i x j d hx hj=> ?_)
    ·obtain⟨y,hy,ho,_⟩:=(h6 i x hx).2 j d hj;unfold allI;rw[if_pos hlb,zero_add,eN h1,hy];exact⟨rfl,ho⟩
    ·obtain⟨y,hy,ho,ou⟩:=(h6 i x hx).2 j d hj;rw[hy];exact ou.ag (uk hi) (fj (ba hn x (mem_of_getElem? hx)) d (mem_of_getElem? hj))
  ·obtain⟨rfl,_⟩:=hr.kR hO;exact .mq _ _
 |agg cs ds h _ ih=>
  intro x hr;cases hr with
  |agg _ vs hl hr=>
   refine .agg _ _ (by omega) λ i d v hd hv=> ?_
   have hc:cs[i]? =some (cs[i]'(by have:=(List.getElem?_eq_some_iff.1 hd).1;omega)):=by simp
   exact ih i _ _ hc hd (hr i _ v hc hv)
 |a9 cs ds h _ ih=>
  intro x hr;cases hr with
  |a9 _ vs hl hr=>
   refine .a9 _ _ (by omega) λ i d v hd hv=> ?_
   have hc:cs[i]? =some (cs[i]'(by have:=(List.getElem?_eq_some_iff.1 hd).1;omega)):=by simp
   exact ih i _ _ hc hd (hr i _ v hc hv)
theorem amA{rs:List dG}{res:AV}{x:AX}(hx:x= .ret∨x= .normal){e:Env}{O:List ad}(h:dK e O rs [] λ xs=>uo O (br xs) res):oQ 0 rs res [] x e O:=by
 have key:∀(rs:List dG) (acc:List AV) (M M':List AV->Prop),(∀xs,M xs->M' xs)->dK e O rs acc M->dK e O rs acc M':=by
  intro rs
  induction rs with
  |nil=>intro acc M M' hm h;exact hm _ h
  |cons r rs ih=>
   intro acc M M' hm h;cases r with
   |tmp t=>exact ih _ _ _ hm h
   |cell t n=>
    simp only[dK,dG.get]at h⊢
    split at h
    ·split at h
     ·exact⟨h.1,ih _ _ _ hm h.2⟩
     ·exact h.elim
    ·exact h.elim
 have:dK e O rs [] λ xs=>∃e',WK 0 (λ t=>if t=0 then br xs else .top) O e' []/\e' 0=res:=by
  refine key rs _ _ _ (λ xs hp=>⟨λ t=>if t=0 then res else .top,?_,rfl⟩) h;intro I0 L0 O0 w0 I L w f hl hg hr;obtain rfl:O0= []:=List.eq_nil_of_length_eq_zero hl;refine⟨_,L,hg.all,λ t=> ?_⟩;by_cases ht:t=0
  ·subst ht;have h0:=hr 0;simp only[if_true]at h0⊢;exact hp.sound hg.inv h0
  ·simp only[if_neg ht];exact .top _
 rcases hx with rfl|rfl<;>exact this
section
variable {s:SS} {r:List AV}
theorem aaa(hl:r.length=s.nv)(hr:AV.ae r=true)(hc:s.cl=true){v:SV}{d:D}(h:arY s v=some d)(hv:v.cl s.nv=true):uo (bE s r) (v.ev r) (d.ev r):=by
 unfold arY at h
 split at h
 ·cases h;exact .refl _ (D.bK hr _ (by rw[hl];exact hv))
 ·rename_i n l
  split at h
  ·rename_i j3;cases h;obtain⟨⟨nl,e,sz⟩,hq⟩:=Option.isSome_iff_exists.1 j3;have hn:=cH (D.bK hr l (by rw[hl];exact hv));simp only[SV.ev,D.ev];refine .row n e sz _ ?_ hn;rcases e7 (dZ hq) r with h|⟨h,h',_⟩
   ·exact .inl h
   ·exact .inr ⟨h,h'⟩
  ·cases h
 ·cases h
theorem wc(hl:r.length=s.nv)(hr:AV.ae r=true)(hc:s.cl=true):∀{vs:List SV} {ds:List D},afT s vs=some ds->SV.cls s.nv vs=true->vs.length=ds.length/\∀(i:Nat) c d,(SV.a8 r vs)[i]? =some c->(D.a8 r ds)[i]? =some d->uo (bE s r) c d
 | [],ds,h,_=>by simp only[afT,Option.some.injEq]at h;subst h;exact⟨rfl,by simp[SV.a8]⟩
 |v::vs,ds,h,mu=>by
  simp only[afT]at h
  split at h
  ·rename_i d ds' h1 h2;cases h;simp only[SV.cls,and_eq_true]at mu;obtain⟨k1,k2⟩:=wc hl hr hc h2 mu.2;refine⟨by simp[k1],λ i c d' hi eH=> ?_⟩;cases i with
   |zero=>
    simp only[SV.a8,D.a8,List.getElem?_cons_zero,Option.some.injEq]at hi eH;subst hi;subst eH;exact aaa hl hr hc h1 mu.1
   |succ i=>exact k2 i c d' (by simpa [SV.a8]using hi) (by simpa [D.a8]using eH)
  ·cases h
theorem ail(hl:r.length=s.nv)(hr:AV.ae r=true)(hc:s.cl=true){v:SV}{d:D}(h:avT s v=some d)(hv:v.cl s.nv=true):uo (bE s r) (v.ev r) (d.ev r):=by
 unfold avT at h
 split at h
 ·rename_i cs;simp only[map_eq_some_iff]at h;obtain⟨ds,h1,rfl⟩:=h;obtain⟨k1,k2⟩:=wc hl hr hc h1 hv;exact .agg _ _ (by simp[SV.aQ,D.aQ,k1]) k2
 ·exact aaa hl hr hc h hv
theorem we(hl:r.length=s.nv)(hr:AV.ae r=true)(hc:s.cl=true):∀{rs:List dG} {ds:List D},aab s rs=some ds->∀(acc:List AV) (M:List AV->Prop),
  (∀xs:List AV,xs.length=ds.length->(∀(i:Nat) c d,xs[i]? =some c->(D.a8 r ds)[i]? =some d->uo (bE s r) c d)->M (acc.reverse++xs))->dK (bX s r) (bE s r) rs acc M
 | [],ds,h,acc,M,hM=>by
   simp only[aab,Option.some.injEq]at h;subst h;have:=hM [] rfl (by simp);simpa [dK]using this
 |q::rs,ds,h,acc,M,hM=>by
  simp only[aab]at h
  split at h
  ·rename_i v hv
   split at h
   ·rename_i d ds' h1 h2;cases h
    have cont:∀{x:AV},x=v.ev r->v.cl s.nv=true->dK (bX s r) (bE s r) rs (x::acc) M:=by
     rintro x rfl mu;refine we hl hr hc h2 _ _ λ xs hlen hx=> ?_
     have:=hM (v.ev r::xs) (by simp[hlen]) (λ i c d' hi eH=> ?_)
     ·simpa using this
     ·cases i with
      |zero=>
       simp only[D.a8,List.getElem?_cons_zero,Option.some.injEq]at hi eH;subst hi;subst eH;exact ail hl hr hc h1 mu
      |succ i=>exact hx i c d' (by simpa using hi) (by simpa [D.a8]using eH)
    cases q with
    |tmp t=>
     simp only[abH,Option.some.injEq]at hv;subst hv;exact cont rfl (SS.ph hc t)
    |cell t n=>
     simp only[abH]at hv
     split at hv
     ·rename_i k hk
      split at hv
      ·rename_i e cs hb;have mY:=jI hb;have aCq:SV.cls s.nv cs=true:=SS.sV hc (mem_of_getElem? mY);simp only[dK,dG.get,bX,hk,SV.ev];rw[gg mY r];simp only[SO.ev]
       split at hv
       ·cases hv
       ·rename_i m
        split at hv
        ·rename_i hm;cases hv;have hx:mr (SV.a8 r cs)= .agg (SV.a8 r cs):=eM (by rw[SV.aQ];simpa [hm.1]using hm.2);rw[hx];refine⟨by simp[AV.cells,SV.aQ,hm.1],?_⟩;rw[ql rfl (by simp[AV.cells,SV.aQ,hm.1])];exact cont rfl aCq
        ·cases hv
      ·cases hv
     ·cases hv
   ·cases h
  ·cases h
end
def avS(rs:List dG)(x:AX)(s:SS):Option T:=
 match x with
 | .exit _=>none
 |_=>if s.cl=true then(aab s rs).map .ret else none
def mo.left(fl:List Nat)(A:mo):Option T:=
 match xC 0 fl A.weaken.code (pd A.cT)with
 |some t=>t.fill (avS A.res) 0
 |none=>none
theorem arX{rs:List dG}{s:SS}{r:List AV}{ds:List D}(hl:r.length=s.nv)(hr:AV.ae r=true)(hc:s.cl=true)(h:aab s rs=some ds){x:AX}(hx:x= .ret∨x= .normal):oQ 0 rs (br (D.a8 r ds)) [] x (bX s r) (bE s r):=by
 refine amA hx (we hl hr hc h [] _ λ xs hlen oG=> ?_);simp only[reverse_nil,nil_append];by_cases h1:ds.length=1
 ·obtain⟨d,rfl⟩:=List.length_eq_one_iff.1 h1;obtain⟨a,rfl⟩:=List.length_eq_one_iff.1 (hlen.trans h1);exact oG 0 a (d.ev r) rfl rfl
 ·have p1:br xs= .a9 xs:=by
    unfold br;split
    ·simp at hlen;omega
    ·rfl
  have p2:br (D.a8 r ds)= .a9 (D.a8 r ds):=by
   unfold br;split
   ·rename_i h2;have:=congrArg List.length h2;rw[D.aQ]at this;simp at this;omega
   ·rfl
  rw[p1,p2];exact .a9 _ _ (by rw[D.aQ];simpa using hlen) oG
theorem ao7{f:FuncId}{A:mo}{fl:List Nat}{t:T}(hf:rj P f A)(ht:A.left fl=some t){args:List AV}(hl:args.length=A.cT)(hn:AV.ae args=true){res:AV}
  (h:bD P (λ _ _ _=>False) (λ a=>a=res) t args []):a7 P f args res:=by
 refine gT (hf.weaken) hl ?_;unfold mo.left at ht
 split at ht
 ·rename_i t0 h0;have hw:=wg ht h;have hs:=xN (P:=P) (fl:=fl) (mo.weaken A).code (s:=pd A.cT) h0 (r:=args) hl hn hw (Q:=oQ 0 A.res res []) λ x s r hL hm=> ?_
  ·obtain⟨e',O',xc,hc⟩:=hs;refine⟨e',O',?_,hc⟩;refine WK.trans ?_ xc;have he:bE (pd A.cT) args= []:=rfl;rw[he,←hl];exact WK.env (afW args)
  ·obtain⟨t2,e2,w2⟩:=hL
   have key:(x= .ret∨x= .normal)/\s.cl=true/\∃ds,aab s A.res=some ds/\t2= .ret ds:=by
    cases x with
    |exit i=>cases e2
    |ret=>
     simp only[avS]at e2
     split at e2
     ·rename_i hc;simp only[map_eq_some_iff]at e2;obtain⟨ds,h1,h2⟩:=e2;exact⟨.inl rfl,hc,ds,h1,h2.symm⟩
     ·cases e2
    |normal=>
     simp only[avS]at e2
     split at e2
     ·rename_i hc;simp only[map_eq_some_iff]at e2;obtain⟨ds,h1,h2⟩:=e2;exact⟨.inr rfl,hc,ds,h1,h2.symm⟩
     ·cases e2
   obtain⟨hx,hc,ds,h1,rfl⟩:=key;simp only[bD]at w2;subst w2;exact arX hm.len hm.nor hc h1 hx
 ·cases ht
theorem aj9{t k ty z:Nat}{nl:Bool}{xs:List AV}{x:AX}(hx:x= .ret∨x= .normal){e:Env}{O:List ad}(he:e t= .row k xs.length)(hk:O[k]? =some (cq nl ty z xs))(hn:AV.ae xs=true):
  oQ 0 [.tmp t] (.row 0 xs.length) [cq nl ty z xs] x e O:=by
 have:dK e O [.tmp t] [] λ iv=>∃e',WK 0 (λ t=>if t=0 then br iv else .top) O e' [cq nl ty z xs]/\e' 0= .row 0 xs.length:=by
  simp only[dK,dG.get,reverse_cons,reverse_nil,nil_append,br,he];refine⟨λ t=>if t=0 then .row 0 xs.length else .top,.select (λ n=>if n=0 then k else k+n) (λ i hi=> ?_) (λ i j hi hj _=> ?_) (λ ob ho=> ?_) (λ t=> ?_),rfl⟩
  ·simp at hi;subst hi;simp[hk,abF hn]
  ·simp at hi hj;omega
  ·simp at ho;subst ho;unfold cq
   split
   ·rfl
   ·exact de xs hn
  ·by_cases ht:t=0
   ·subst ht;exact .inr ⟨rfl,rfl⟩
   ·exact .inl (by simp[ht])
 rcases hx with rfl|rfl<;>exact this
theorem aka{t ty z:Nat}{x:AX}(hx:x= .ret∨x= .normal){e:Env}{O:List ad}(he:e t= .aw):oQ 0 [.tmp t] (.row 0 0) [cq true ty z []] x e O:=by
 have mY:cq true ty z []= .nil ty z:=by simp[cq]
 have:dK e O [.tmp t] [] λ iv=>∃e',WK 0 (λ t=>if t=0 then br iv else .top) O e' [cq true ty z []]/\e' 0= .row 0 0:=by
  simp only[dK,dG.get,reverse_cons,reverse_nil,nil_append,br,he]
  have w1:WK 0 (λ t=>if t=0 then .aw else .top) O (λ t=>if t=0 then .row O.length 0 else .top) (O++ [.nil ty z]):=by
   refine WK.yW ty z (by simp) (by simp) (λ m hm=> .inl (getElem?_append_left hm)) λ t=> ?_
   by_cases ht:t=0
   ·subst ht;exact .inr ⟨rfl,rfl⟩
   ·exact .inl (by simp[ht])
  refine⟨λ t=>if t=0 then .row 0 0 else .top,w1.trans (.select (λ n=>O.length+n) (λ i hi=> ?_) (λ i j hi hj _=> ?_) (λ ob ho=> ?_) (λ t=> ?_)),rfl⟩
  ·simp at hi;subst hi;simp[mY,ad.bP]
  ·simp at hi hj;omega
  ·simp at ho;subst ho;rw[mY];rfl
  ·by_cases ht:t=0
   ·subst ht;exact .inr ⟨rfl,rfl⟩
   ·exact .inl (by simp[ht])
 rcases hx with rfl|rfl<;>exact this
def adV(nl:Bool)(e m:Nat)(s:SS):List dG->Option D
 | [.tmp t]=>match lk s.env t with
   | .row n l=>match cur s n l with
     |some (nl',e',m')=>if nl'=nl/\e'=e/\m'=m then some l else none
     |none=>none
   | .d (.c .aw)=>if nl=true then some (.c (.sl []))else none
   |_=>none
 |_=>none
def aoP(nl:Bool)(e m:Nat)(rs:List dG)(x:AX)(s:SS):Option T:=
 match x with
 | .exit _=>none
 |_=>if s.cl=true then(adV nl e m s rs).map λ l=> .ret [.sl l]else none
def mo.tG(fl:List Nat)(nl:Bool)(e m:Nat)(A:mo):Option T:=
 match xC 0 fl A.weaken.code (pd A.cT)with
 |some t=>t.fill (aoP nl e m A.res) 0
 |none=>none
theorem arW{nl:Bool}{e m:Nat}{rs:List dG}{s:SS}{r:List AV}{l:D}{xs:List AV}(hl:r.length=s.nv)(hr:AV.ae r=true)(hc:s.cl=true)(h:adV nl e m s rs=some l)(hx:aU (l.ev r)=xs){x:AX}(hxx:x= .ret∨x= .normal):
  oQ 0 rs (.row 0 xs.length) [cq nl e m xs] x (bX s r) (bE s r):=by
 unfold adV at h
 split at h
 ·rename_i t
  split at h
  ·rename_i n l' hlk
   split at h
   ·rename_i nl' e' m' j3
    split at h
    ·rename_i heq;cases h;obtain⟨rfl,rfl,rfl⟩:=heq;have mu:=SS.ph hc t;rw[hlk]at mu;have hn:=cH (D.bK hr l (by rw[hl];exact mu));subst hx;refine aj9 hxx (k:=n) ?_ ?_ hn
     ·simp only[bX,hlk,SV.ev]
     ·rw[gg (dZ j3) r,og]
    ·cases h
   ·cases h
  ·rename_i hlk
   split at h
   ·rename_i hnl;cases h;subst hnl;simp only[D.ev,aU]at hx;subst hx;exact aka hxx (by simp only[bX,hlk];rfl)
   ·cases h
  ·cases h
 ·cases h
theorem alk{f:FuncId}{A:mo}{fl:List Nat}{nl:Bool}{e m:Nat}{t:T}(hf:rj P f A)(ht:A.tG fl nl e m=some t){args:List AV}(hl:args.length=A.cT)(hn:AV.ae args=true){xs:List AV}
  (h:bD P (λ _ _ _=>False) (λ a=>a= .sl xs) t args []):uq P f args nl e m xs:=by
 refine gT (hf.weaken) hl ?_;unfold mo.tG at ht
 split at ht
 ·rename_i t0 h0;have hw:=wg ht h;have hs:=xN (P:=P) (fl:=fl) (mo.weaken A).code (s:=pd A.cT) h0 (r:=args) hl hn hw (Q:=oQ 0 A.res (.row 0 xs.length) [cq nl e m xs]) λ x s r hL hm=> ?_
  ·obtain⟨e',O',xc,hc⟩:=hs;refine⟨e',O',?_,hc⟩;refine WK.trans ?_ xc;have he:bE (pd A.cT) args= []:=rfl;rw[he,←hl];exact WK.env (afW args)
  ·obtain⟨t2,e2,w2⟩:=hL
   have key:(x= .ret∨x= .normal)/\s.cl=true/\∃l,adV nl e m s A.res=some l/\t2= .ret [.sl l]:=by
    cases x with
    |exit i=>cases e2
    |ret=>
     simp only[aoP]at e2
     split at e2
     ·rename_i hc;simp only[map_eq_some_iff]at e2;obtain⟨ds,h1,h2⟩:=e2;exact⟨.inl rfl,hc,ds,h1,h2.symm⟩
     ·cases e2
    |normal=>
     simp only[aoP]at e2
     split at e2
     ·rename_i hc;simp only[map_eq_some_iff]at e2;obtain⟨ds,h1,h2⟩:=e2;exact⟨.inr rfl,hc,ds,h1,h2.symm⟩
     ·cases e2
   obtain⟨hx,hc,l,h1,rfl⟩:=key;simp only[bD,D.a8,br,D.ev]at w2;exact arW hm.len hm.nor hc h1 (by simpa using w2) hx
 ·cases ht
theorem uq.plain{f:FuncId}{args:List AV}{nl:Bool}{e m:Nat}{xs:List AV}(h:uq P f args nl e m xs)(hn:AV.ae xs=true):a7 P f args (.sl xs):=by
 refine⟨h.1,λ I L w vs hi hr=>(h.2 I L w vs hi hr).mono ?_⟩;rintro ev w' ⟨y,I',L',rfl,hy,hg⟩;refine⟨y,_,L',rfl,?_,hg.all⟩;refine uo.sound hg.inv (a:= .row 0 xs.length) ?_ hy;unfold cq
 split
 ·rename_i hx;obtain⟨_,rfl⟩:=hx;exact .row 0 e m [] (.inr ⟨rfl,rfl⟩) rfl
 ·exact .row 0 e m xs (.inl rfl) hn
end
end Go.Ab
namespace Go.Ab
theorem WK.aqm{n0:Nat}{e e':Env}{O O1:List ad}(s:Nat->Nat)(hn0:n0<=O1.length)(hid:∀i,i<n0->s i=i)(hg:∀i,i<O1.length->O[s i]? =(O1[i]?).map (ad.bP s))(xh:∀i j,i<O1.length->j<O1.length->s i=s j->i=j)
  (hsO:∀ob∈O1,ob.inScope O1.length=true) (he:∀t,e' t= .top∨(e t=(e' t).bP s/\(e' t).inScope O1.length=true)):WK n0 e O e' O1:=by
 intro I0 L0 O0 w0 I L w f hl iQ hr;have hi:=iQ.inv
 have gL:∀{n e k ys},O1[n]? =some (.live e k ys)->O[s n]? =some (.live e k (ys.map (AV.bP s))):=by
  intro n e k ys hn;rw[hg n (List.getElem?_eq_some_iff.1 hn).1,hn];rfl
 have aBc:∀{n e k:Nat},O1[n]? =some (.nil e k)->O[s n]? =some (.nil e k):=by
  intro n e k hn;rw[hg n (List.getElem?_eq_some_iff.1 hn).1,hn];rfl
 have jm:∀{n:Nat} {a:AV},O1[n]? =some (.own a)->O[s n]? =some (.own a):=by
  intro n a hn;rw[hg n (List.getElem?_eq_some_iff.1 hn).1,hn];rfl
 have o8:∀{n:Nat} {g:gJ},O1[n]? =some (.cZ g)->O[s n]? =some (.cZ (g.bP s)):=by
  intro n a hn;rw[hg n (List.getElem?_eq_some_iff.1 hn).1,hn];rfl
 have un:∀{a:AV} {x:Value},R I L O (a.bP s) x->a.inScope O1.length=true->R I (λ n=>L (s n)) O1 a x:=λ hr hsc=>R.ami hg (λ _ _=>rfl) hr _ rfl hsc
 refine⟨I,λ n=>L (s n),⟨⟨hi.kJ,λ n e k ys hn=> ?_,λ n n' e k ys e' k' vG hn mb hb=> ?_,λ n e k ys o hn=>hi.dS _ _ _ _ o (gL hn),hi.fix,hi.bf,
  ⟨λ n a hn=>hi.ow.tree _ a (jm hn),λ n a hn=>hi.ow.cell _ a (jm hn),λ n a hn=>hi.ow.kJ _ a (jm hn),λ n a hn b o v hv m e k xs hm=>hi.ow.live _ a (jm hn) b o v hv _ _ _ _ (gL hm),
   λ n m a c hn hm b o o' v v' hv km=>xh _ _ (List.getElem?_eq_some_iff.1 hn).1 (List.getElem?_eq_some_iff.1 hm).1 (hi.ow.sep _ _ a c (jm hn) (jm hm) b o o' v v' hv km),λ n a hn=>hi.ow.deep _ a (jm hn)⟩,
  ⟨λ n g hn=>(hi.gh.ok _ _ (o8 hn)).un (λ _ _ hr hsc=>un hr hsc) (hsO _ (mem_of_getElem? hn)),λ n m a c hn hm hb=>xh _ _ (List.getElem?_eq_some_iff.1 hn).1 (List.getElem?_eq_some_iff.1 hm).1 (hi.gh.sep _ _ _ _ (o8 hn) (o8 hm) hb)⟩⟩,⟨iQ.ext.kJ,by omega,λ n hn e k xs hx=> ?_,λ n hn e k hx=> ?_,λ n hn a hx=>by
   have h1:=jm hx;have hs:=hid n (by omega);rw[hs]at h1;obtain⟨q1,q2⟩:=iQ.ext.own n hn a h1;exact⟨q1,by show(L (s n)).val=_;rw[hs];exact q2⟩,λ n hn a hx=>by
   have h1:=o8 hx;have hs:=hid n (by omega);rw[hs]at h1;obtain⟨⟨q,q0,q1⟩,q2⟩:=iQ.ext.cZ n hn _ h1;exact⟨⟨q,q0,by rw[q1,gJ.yB]⟩,by show(L (s n)).bf=_;rw[hs];exact q2⟩⟩,iQ.pO,?_,iQ.iP⟩,λ t=> ?_⟩
 ·obtain⟨c,⟨lD,q1,dE⟩,q2,q3,q4,q5,q6⟩:=hi.obj _ _ _ _ (gL hn);refine⟨c,⟨lD,q1,dE⟩,q2,by simpa using q3,q4,q5,λ i x hx=> ?_⟩;have j0:(ys.map (AV.bP s))[i]? =some (x.bP s):=by rw[getElem?_map,hx];rfl
  obtain⟨r1,r2⟩:=q6 i _ j0;rw[ea,length_map]at r1;refine⟨r1,λ j a ha=> ?_⟩;obtain⟨y,hy,ho,ou⟩:=r2 j (a.bP s) (by rw[ea,getElem?_map,ha];rfl);have hbo:=hsO _ (mem_of_getElem? hn);exact⟨y,hy,ho,un ou (cd (bU hbo x (mem_of_getElem? hx)) a (mem_of_getElem? ha))⟩
 ·exact xh _ _ (List.getElem?_eq_some_iff.1 hn).1 (List.getElem?_eq_some_iff.1 mb).1 (hi.sep _ _ _ _ _ _ _ _ (gL hn) (gL mb) hb)
 ·have h1:=gL hx;have hs:=hid n (by omega);rw[hs]at h1;rcases iQ.ext.obj n hn e k _ h1 with⟨zs,z1,z2,z3⟩|⟨z1,z2⟩
  ·exact .inl ⟨zs,z1,by simpa using z2,λ he=>by show L (s n)=_;rw[hs];exact z3 (by simpa using he)⟩
  ·exact .inr ⟨z1,by simpa using z2⟩
 ·have h1:=aBc hx;rw[hid n (by omega)]at h1;exact iQ.ext.nil n hn e k h1
 ·rintro b (⟨n,e,k,xs,hn,hb⟩|⟨n,a,o,v,hn,hb⟩|⟨n,a,hn,hb⟩)
  ·exact iQ.lb b (.inl ⟨s n,_,_,_,gL hn,hb⟩)
  ·exact iQ.lb b (.inr (.inl ⟨s n,a,o,v,jm hn,hb⟩))
  ·exact iQ.lb b (.inr (.inr ⟨s n,_,o8 hn,hb⟩))
 ·rcases he t with h|⟨h,h'⟩
  ·rw[h];exact .top _
  ·have:=hr t;rw[h]at this;exact un this h'
section
variable {P:Program}
theorem ac9{r:List AV}{v:SV}{d:D}(h:ahn v=some d):d.ev r=v.ev r:=by
 unfold ahn at h
 split at h
 ·cases h;rfl
 ·rename_i cs;simp only[map_eq_some_iff]at h;obtain⟨ds,h1,rfl⟩:=h;rw[ud h1];simp only[D.ev,SV.ev,re]
 ·cases h;rfl
 ·cases h
theorem uN(r:List AV)(p v:SV):(yH p v).ev r=v.ev r:=by
 unfold yH
 split
 ·split
  ·rename_i d hd;simp only[SV.ev,ac9 hd]
  ·rfl
 ·rfl
theorem akq(r:List AV)(p v:SV):(ac8 p v).ev r=v.ev r:=by
 unfold ac8
 split
 ·rename_i ps vs;simp only[SV.ev,SV.aQ,map_map];congr 1;apply ext_getElem
  ·simp
  ·intro i h1 h2;simp only[getElem_map,getElem_range,Function.comp_apply,uN];simp only[length_map]at h2;simp only[List.getD,getElem?_eq_getElem h2,getD_some]
 ·rename_i ps vs;simp only[SV.ev,SV.aQ,map_map];congr 1;apply ext_getElem
  ·simp
  ·intro i h1 h2;simp only[getElem_map,getElem_range,Function.comp_apply,uN];simp only[length_map]at h2;simp only[List.getD,getElem?_eq_getElem h2,getD_some]
 ·exact uN r _ _
theorem akc{s:SS}{r:List AV}{a:dG}{v:SV}(h:abH s a=some v){K:AV->Prop}(hk:K (v.ev r)):a.get (bX s r) (bE s r) K:=by
 unfold abH at h
 split at h
 ·cases h;exact hk
 ·rename_i t n
  split at h
  ·rename_i k hlk
   split at h
   ·rename_i e cs hb
    split at h
    ·cases h
    ·rename_i m
     split at h
     ·rename_i oA;cases h;simp only[dG.get,bX,hlk,SV.ev];rw[gg (jI hb) r];simp only[SO.ev];have hx:mr (SV.a8 r cs)= .agg (SV.a8 r cs):=eM (by rw[SV.aQ];simpa [oA.1]using oA.2);rw[hx];have hlen:(SV.a8 r cs).length=m:=by rw[SV.aQ];simpa using oA.1
      refine⟨by simp only[AV.cells,hlen,getD_some];first|exact le_refl _|trivial|done,?_⟩
      have:dI (some m) (.agg (SV.a8 r cs)) 0= .agg (SV.a8 r cs):=by
       show(if 0=0/\(AV.agg (SV.a8 r cs)).isAgg=true/\(AV.agg (SV.a8 r cs)).cells.length=m then _ else _)=_;rw[if_pos ⟨rfl,rfl,by simpa [AV.cells]using hlen⟩]
      rw[this];exact hk
     ·cases h
   ·cases h
  ·cases h
theorem qS{s:SS}{r:List AV}:∀{rs:List dG} {vs:List SV},yA s rs=some vs->∀(acc:List AV) (K:List AV->Prop),K (acc.reverse++SV.a8 r vs)->dK (bX s r) (bE s r) rs acc K
 | [],vs,h,acc,K,hk=>by cases h;simpa [dK,SV.a8]using hk
 |a::rs,vs,h,acc,K,hk=>by
  simp only[yA]at h
  split at h
  ·rename_i v nV h1 h2;cases h;simp only[dK];refine akc h1 (qS h2 _ _ ?_);simpa [SV.a8]using hk
  ·cases h
theorem yO(r:List AV)(vs:List SV):(vP vs).ev r=br (SV.a8 r vs):=by
 cases vs with
 |nil=>rfl
 |cons v vs=>cases vs<;>rfl
theorem akt{l m:List AV}(hl:l.length=m.length)(h:br l=br m):l=m:=by
 rcases l with _|⟨a,_|⟨b,l⟩⟩<;>rcases m with _|⟨c,_|⟨d,m⟩⟩<;>simp[br]at h hl⊢<;>exact h
def aoK(g:hD)(s:SS)(vs:List SV):SS:=
 let s2:SS:={s with env:=[(0,vP vs)]}
 (List.zip (match g.res with| .a9 ps=>ps|p=>[p]) vs).foldl (λ (s:SS) (q:SV×SV)=>match q.1 with
  | .d _=>pB s q.2
  |_=>s) s2
def ra(g:hD)(rs:List dG)(s:SS):Option (List D×List Nat):=
 match yA s rs with
 |some vs=>qy g [.tmp 0] (aoK g s vs)
 |none=>none
def axV(ai:List SO)(ps cs:List SV):Option (Nat×Nat×Nat):=
 (List.range cs.length).findSome? λ j=>match ps.getD j .top,cs[j]? with
  | .row n _,some (.d (.c .aw))=>match ai.getD n .dead with
    | .row true e m _=>some (j,e,m)
    |_=>none
  |_,_=>none
def ahE(s:SS)(f:List SV->SV)(cs:List SV)(j e m:Nat):SS:={s with env:=[(0,f (cs.set j (.row s.ai.length (.c (.sl [])))))],ai:=s.ai++ [.row true e m (.c (.sl []))]}
def adW(g:hD)(s:SS)(f:List SV->SV)(ps cs:List SV):Option (List D×List Nat):=
 match axV g.cz ps cs with
 |some (j,e,m)=>match cs[j]? with
  |some (.d (.c .aw))=>qy g [.tmp 0] (ahE s f cs j e m)
  |_=>none
 |none=>none
def qZ(g:hD)(rs:List dG)(s:SS):Option (List D×List Nat):=
 match yA s rs with
 |some vs=>match g.res,vP vs with
  | .agg ps,.agg cs=>adW g s .agg ps cs
  | .a9 ps,.a9 cs=>adW g s .a9 ps cs
  |_,_=>none
 |none=>none
def aoO(g:hD)(rs:List dG)(x:AX)(s:SS):Option T:=
 match x with
 | .exit _=>none
 |_=>match qy g rs s with
  |some (τ,_)=>some (.ret τ)
  |none=>match ra g rs s with
   |some (τ,_)=>some (.ret τ)
   |none=>match qZ g rs s with
    |some (τ,_)=>some (.ret τ)
    |none=>some (.aL .no (.ret []))
def mo.soft(A:mo):mo:={A with code:= .k8 A.code}
theorem rj.soft{f:FuncId}{A:mo}(h:rj P f A):rj P f A.soft:=by
 obtain⟨fn,code,h1,h2,h3,h4,h5,h6,h7⟩:=h;exact⟨fn,code,h1,h2,h3,h4,h5,h6,h7⟩
def mo.jX(fl:List Nat)(g:hD)(A:mo):Option T:=
 if g.ok=true/\g.args.length=A.cT then
  match(xC g.ai.length fl A.weaken.code (lv g)).bind λ t=>t.fill (aoO g A.res) 0 with
  |some t=>some t
  |none=>(xC g.ai.length fl A.soft.code (lv g)).bind λ t=>t.fill (aoO g A.res) 0
 else none
theorem adU{g:hD}{rs:List dG}{s1:SS}{τ:List D}{dp:List Nat}(h:qy g rs s1=some (τ,dp)){r:List AV}(hl1:r.length=s1.nv)(hr:AV.ae r=true){x:AX}(hx:x= .ret∨x= .normal):
  τ.length=g.m/\oQ g.ai.length rs (g.res.ev (D.a8 r τ)) (g.cz.map (SO.ev (D.a8 r τ))) x (bX s1 r) (bE s1 r):=by
 unfold qy at h
 ·split at h
  ·cases h
  ·rename_i vs nd
   split at h
   ·cases h
   ·rename_i τ' apX aDG
    split at h
    ·rename_i oA;simp only[Option.some.injEq,Prod.mk.injEq]at h;obtain⟨rfl,rfl⟩:=h;obtain⟨c1,c2,c3,c4,c5,c6,c7,c8,c9⟩:=oA;refine⟨c8,?_⟩;simp only[hD.ok,and_eq_true,decide_eq_true_eq]at c2;obtain⟨⟨⟨⟨p1,p2⟩,p3⟩,p4⟩,p5⟩:=c2;have pL:AV.ae (D.a8 r τ')=true:=D.cR hr τ' (by rw[hl1];exact c9);generalize zE:aac s1 apX=σ at*
     have tV:∀i,i<g.cz.length->∃n,apX[i]? =some n/\σ i=n:=by
      intro i hi;have eH:i<apX.length:=by omega
      refine⟨apX[i],getElem?_eq_getElem eH,?_⟩;rw[←zE];simp only[aac,if_pos eH,List.getD,getElem?_eq_getElem eH,getD_some]
     have zS:(g.cz.map (SO.ev (D.a8 r τ'))).length=g.cz.length:=by simp
     have tT:dK (bX s1 r) (bE s1 r) rs [] λ xs=>∃e',WK g.ai.length (λ t=>if t=0 then br xs else .top) (bE s1 r) e' (g.cz.map (SO.ev (D.a8 r τ')))/\e' 0=g.res.ev (D.a8 r τ'):=by
      refine qS nd _ _ ?_;simp only[reverse_nil,nil_append];refine⟨λ t=>if t=0 then g.res.ev (D.a8 r τ')else .top,.aqm σ (by rw[zS];exact p5) (λ i hi=> ?_) (λ i hi=> ?_) (λ i j hi hj he=> ?_) (λ ob ho=> ?_) (λ t=> ?_),rfl⟩
      ·have:=List.all_eq_true.1 c6 i (by simpa using hi);simpa using this
      ·rw[zS]at hi;have hp:g.cz[i]? =some g.cz[i]:=getElem?_eq_getElem hi;have h1:=nI c7 i _ hp;rw[zero_add]at h1;simp only[bE,getElem?_map,h1,hp,map_some];rw[tM pL _ (List.all_eq_true.1 p3 _ (mem_of_getElem? hp))]
      ·rw[zS]at hi hj;obtain⟨n,a1,a2⟩:=tV i hi;obtain⟨m,b1,b2⟩:=tV j hj;rw[a2,b2]at he;subst he;exact oW c5 a1 b1
      ·rw[zS];obtain⟨o,hom,rfl⟩:=List.mem_map.1 ho;exact ai8 pL o (List.all_eq_true.1 p3 _ hom)
      ·by_cases ht:t=0
       ·subst ht;refine .inr ⟨?_,?_⟩
        ·simp only[if_pos];rw[←yO,←akq r g.res,←SV.beq_eq _ _ c3,ads pL _ p4]
        ·simp only[if_pos];rw[zS];cases hgr:g.res with
         |a9 cs=>
          rw[hgr]at p4;simp only[SV.aa3]at p4;exact tt pL cs p4
         |agg cs=>
          rw[hgr]at p4;simp only[SV.aa3]at p4;exact tt pL cs p4
         |_=>
          rw[hgr]at p4;exact amY (n:=g.m) pL _ (by simpa only[SV.aa3]using p4)
       ·exact .inl (by simp[ht])
     rcases hx with rfl|rfl<;>exact tT
    ·cases h
theorem alf{n0:Nat}(g:hD)(s:SS)(vs:List SV):Wk n0 {s with env:=[(0,vP vs)]} (aoK g s vs):=
 gM (λ s q=>by
  split
  ·exact ir _ _
  ·exact .refl _ _) _ _
theorem aoN{g:hD}{rs:List dG}{s1:SS}{τ:List D}{dp:List Nat}(h:ra g rs s1=some (τ,dp)){r:List AV}(hl1:r.length=s1.nv)(hr:AV.ae r=true){x:AX}(hx:x= .ret∨x= .normal):
  τ.length=g.m/\oQ g.ai.length rs (g.res.ev (D.a8 r τ)) (g.cz.map (SO.ev (D.a8 r τ))) x (bX s1 r) (bE s1 r):=by
 unfold ra at h
 split at h
 ·rename_i vs nd;have hw:=alf (n0:=g.ai.length) g s1 vs;obtain⟨h1,h2⟩:=adU h (r:=r) (hl1.trans hw.1.symm) hr (x:= .ret) (.inl rfl);refine⟨h1,?_⟩;have h3:=hw.2 r hl1 hr;simp only[oQ,dK,dG.get,reverse_cons,reverse_nil,nil_append,br]at h2;obtain⟨e',h4,h5⟩:=h2
  have tT:dK (bX s1 r) (bE s1 r) rs [] λ xs=>∃e',WK g.ai.length (λ t=>if t=0 then br xs else .top) (bE s1 r) e' (g.cz.map (SO.ev (D.a8 r τ)))/\e' 0=g.res.ev (D.a8 r τ):=by
   refine qS nd _ _ ?_;simp only[reverse_nil,nil_append];refine⟨e',?_,h5⟩
   have e1:(λ t=>if t=0 then br (SV.a8 r vs)else .top)=bX {s1 with env:=[(0,vP vs)]} r:=by
    funext t
    simp only[bX,lk];by_cases ht:t=0
    ·simp only[if_pos ht,yO]
    ·simp only[if_neg ht,SV.ev]
   rw[e1];refine WK.trans h3 (WK.trans (WK.env λ t=> ?_) h4);by_cases ht:t=0
   ·right;subst ht;rfl
   ·left;simp only[if_neg ht]
  rcases hx with rfl|rfl<;>exact tT
 ·cases h
theorem WK.aCX{n0:Nat}{e e':Env}{O:List ad}(h:∀(I:du) (L:Nat->Loc) (t:Nat) (x:Value),R I L O (e t) x->R I L O (e' t) x):WK n0 e O e' O:=
 λ _ _ _ _ I L _ f _ hg hr=>⟨I,L,hg,λ t=>h I L t (f t) (hr t)⟩
theorem abQ{I:du}{L:Nat->Loc}{O:List ad}{r:List AV}{cs:List SV}{vs:Array Value}{j n e m:Nat}(hj:cs[j]? =some (.d (.c .aw)))(hn:O[n]? =some (.nil e m))(q1:(SV.a8 r cs).length=vs.size)
  (q2:∀(i:Nat) (c:AV) (x:Value),(SV.a8 r cs)[i]? =some c->vs[i]? =some x->R I L O c x):
  (SV.a8 r (cs.set j (.row n (.c (.sl []))))).length=vs.size/\∀(i:Nat) (c:AV) (x:Value),(SV.a8 r (cs.set j (.row n (.c (.sl [])))))[i]? =some c->vs[i]? =some x->R I L O c x:=by
 refine⟨by rw[←q1];simp[SV.aQ],λ i c x hc hv=> ?_⟩;rw[SV.aQ,getElem?_map,getElem?_set]at hc;by_cases hij:j=i
 ·subst hij;have hjl:j<cs.length:=(List.getElem?_eq_some_iff.1 hj).1;simp only[if_true,hjl,map_some,Option.some.injEq,SV.ev,D.ev,aU,length_nil]at hc;subst hc;have:=q2 j .aw x (by rw[SV.aQ,getElem?_map,hj];rfl) hv;cases this;exact .gu _ e m hn
 ·rw[if_neg hij]at hc;exact q2 i c x (by rw[SV.aQ,getElem?_map];exact hc) hv
theorem ajB{g:hD}{rs:List dG}{s1:SS}{f:List SV->SV}{ps cs vs:List SV}{τ:List D}{dp:List Nat}(nd:yA s1 rs=some vs)(hp:vP vs=f cs)(h:adW g s1 f ps cs=some (τ,dp))
  (hf:∀(I:du) (L:Nat->Loc) (O:List ad) (r:List AV) (n e m j:Nat) (y:Value),cs[j]? =some (.d (.c .aw))->O[n]? =some (.nil e m)->R I L O ((f cs).ev r) y->R I L O ((f (cs.set j (.row n (.c (.sl []))))).ev r) y)
  {r:List AV} (hl1:r.length=s1.nv) (hr:AV.ae r=true) {x:AX} (hx:x= .ret∨x= .normal):
  τ.length=g.m/\oQ g.ai.length rs (g.res.ev (D.a8 r τ)) (g.cz.map (SO.ev (D.a8 r τ))) x (bX s1 r) (bE s1 r):=by
 unfold adW at h
 split at h
 ·rename_i j e m hna
  split at h
  ·rename_i hj;obtain⟨h1,h2⟩:=adU h (r:=r) hl1 hr (x:= .ret) (.inl rfl);refine⟨h1,?_⟩;simp only[oQ,dK,dG.get,reverse_cons,reverse_nil,nil_append,br]at h2;obtain⟨e',h4,h5⟩:=h2
   have tT:dK (bX s1 r) (bE s1 r) rs [] λ xs=>∃e',WK g.ai.length (λ t=>if t=0 then br xs else .top) (bE s1 r) e' (g.cz.map (SO.ev (D.a8 r τ)))/\e' 0=g.res.ev (D.a8 r τ):=by
    refine qS nd _ _ ?_;simp only[reverse_nil,nil_append];refine⟨e',?_,h5⟩
    have hO:bE (ahE s1 f cs j e m) r=bE s1 r++ [.nil e m]:=by
     simp only[ahE,bE,map_append,map_cons,map_nil,SO.ev,D.ev,aU,if_true]
    have hOl:(bE s1 r).length=s1.ai.length:=dJ s1 r;refine WK.trans (WK.yW (e':=λ t=>if t=0 then br (SV.a8 r vs)else .top) (O':=bE s1 r++ [.nil e m]) e m (by simp) (by rw[getElem?_append_right (by simp)];simp) (λ i hi=> .inl (getElem?_append_left hi)) λ t=> .inl rfl) ?_;rw[←hO];refine WK.trans (e':=λ t=>if t=0 then(f (cs.set j (.row s1.ai.length (.c (.sl []))))).ev r else .top) (WK.aCX λ I L t y hy=> ?_) (WK.trans (WK.env λ t=> ?_) h4)
    ·by_cases ht:t=0
     ·simp only[if_pos ht]at hy⊢;rw[←yO,hp]at hy;exact hf I L _ r s1.ai.length e m j y hj (by rw[hO,←hOl,getElem?_append_right (by simp)];simp) hy
     ·simp only[if_neg ht]at hy⊢;exact .top _
    ·by_cases ht:t=0
     ·right;subst ht;rfl
     ·left;simp only[if_neg ht]
   rcases hx with rfl|rfl<;>exact tT
  ·cases h
 ·cases h
theorem aoM{g:hD}{rs:List dG}{s1:SS}{τ:List D}{dp:List Nat}(h:qZ g rs s1=some (τ,dp)){r:List AV}(hl1:r.length=s1.nv)(hr:AV.ae r=true){x:AX}(hx:x= .ret∨x= .normal):
  τ.length=g.m/\oQ g.ai.length rs (g.res.ev (D.a8 r τ)) (g.cz.map (SO.ev (D.a8 r τ))) x (bX s1 r) (bE s1 r):=by
 unfold qZ at h
 split at h
 ·rename_i vs nd
  split at h
  ·rename_i ps cs _ hp;refine ajB nd hp h (λ I L O r n e m j y hj hn hy=> ?_) hl1 hr hx;cases hy with
   |agg _ ws q1 q2=>obtain⟨p1,p2⟩:=abQ hj hn q1 q2;exact .agg _ ws p1 p2
  ·rename_i ps cs _ hp;refine ajB nd hp h (λ I L O r n e m j y hj hn hy=> ?_) hl1 hr hx;cases hy with
   |a9 _ ws q1 q2=>obtain⟨p1,p2⟩:=abQ hj hn q1 q2;exact .a9 _ ws p1 p2
  ·cases h
 ·cases h
theorem afX(g:hD)(ins:List AV):∀t,bX (lv g) ins t= .top∨bX (lv g) ins t=mZ (SV.a8 ins g.args) t:=by
 intro t
 have key:∀(n k:Nat),lk ((List.range' k n).map λ i=>(i,g.args.getD i .top)) t= .top∨(t<k+n/\lk ((List.range' k n).map λ i=>(i,g.args.getD i .top)) t=g.args.getD t .top):=by
  intro n
  induction n with
  |zero=>intro k;exact .inl rfl
  |succ n ih=>
   intro k;simp only[List.range'_succ,map_cons,lk]
   split
   ·rename_i h;subst h;exact .inr ⟨by omega,rfl⟩
   ·rcases ih (k+1)with h|⟨h1,h2⟩
    ·exact .inl h
    ·exact .inr ⟨by omega,h2⟩
 have hr:(lv g).env=(List.range' 0 g.args.length).map λ i=>(i,g.args.getD i .top):=by
  simp only[lv,List.range_eq_range']
 simp only[bX,hr];rcases key g.args.length 0 with h|⟨h1,h2⟩
 ·rw[h];exact .inl rfl
 ·rw[h2];refine .inr ?_;have ht:t<g.args.length:=by omega
  simp only[mZ,SV.aQ,List.getD,getElem?_map,getElem?_eq_getElem ht,getD_some,map_some]
theorem yr{f:FuncId}{A:mo}{c:aR}{fl:List Nat}{g:hD}{t0 t:T}(hf:rj P f A)(aos:A.code= .k8 c)(hla:g.args.length=A.cT)(h0:xC g.ai.length fl A.code (lv g)=some t0)(ht:t0.fill (aoO g A.res) 0=some t)
  {ins outs:List AV} (hl:ins.length=g.n) (hn:AV.ae ins=true) (ho:outs.length=g.m)
  (h:bD P (λ _ _ _=>False) (λ a=>a=br outs) t ins []):gQ P f g ins outs:=by
 have hla:(SV.a8 ins g.args).length=A.cT:=by rw[SV.aQ,length_map];exact hla
 have hlo:(g.ai.map (SO.ev ins)).length=g.ai.length:=by simp
 refine gT hf hla ?_;rw[hlo];have hw:=wg ht h;rw[aos]at h0⊢;have hs:=xN (P:=P) (n0:=g.ai.length) (fl:=fl) (.k8 c) (s:=lv g) h0 (r:=ins) hl hn hw (Q:=oQ g.ai.length A.res (g.res.ev outs) (g.cz.map (SO.ev outs))) λ x s r hL hm=> ?_
 ·obtain⟨e',O',xc,hc⟩:=hs;refine⟨e',O',WK.trans ?_ xc,hc⟩;exact WK.env (afX g ins)
 ·obtain⟨t2,e2,w2⟩:=hL
  have key:(x= .ret∨x= .normal)/\∃τ dp,(qy g A.res s=some (τ,dp)∨ra g A.res s=some (τ,dp)∨qZ g A.res s=some (τ,dp))/\t2= .ret τ:=by
   have one:(match qy g A.res s with|some (τ,_)=>some (T.ret τ)|none=>match ra g A.res s with|some (τ,_)=>some (T.ret τ)|none=>match qZ g A.res s with|some (τ,_)=>some (T.ret τ)|none=>some (.aL .no (.ret [])))=some t2->∃τ dp,(qy g A.res s=some (τ,dp)∨ra g A.res s=some (τ,dp)∨qZ g A.res s=some (τ,dp))/\t2= .ret τ:=by
    intro e2
    split at e2
    ·rename_i τ dp hfs;cases e2;exact⟨τ,dp,.inl hfs,rfl⟩
    ·split at e2
     ·rename_i τ dp hfs;cases e2;exact⟨τ,dp,.inr (.inl hfs),rfl⟩
     ·split at e2
      ·rename_i τ dp hfs;cases e2;exact⟨τ,dp,.inr (.inr hfs),rfl⟩
      ·cases e2;exact w2.elim
   cases x with
   |exit i=>cases e2
   |ret=>exact⟨.inl rfl,one e2⟩
   |normal=>exact⟨.inr rfl,one e2⟩
  obtain⟨hx,τ,dp,hfs,rfl⟩:=key
  obtain⟨hlen,ayA⟩:τ.length=g.m/\oQ g.ai.length A.res (g.res.ev (D.a8 r τ)) (g.cz.map (SO.ev (D.a8 r τ))) x (bX s r) (bE s r):=by
   rcases hfs with hfs|hfs|hfs
   ·exact adU hfs hm.len hm.nor hx
   ·exact aoN hfs hm.len hm.nor hx
   ·exact aoM hfs hm.len hm.nor hx
  simp only[bD]at w2;have:D.a8 r τ=outs:=akt (by rw[D.aQ,length_map,hlen,ho]) w2;rw[this]at ayA;exact ayA
theorem aj6{f:FuncId}{A:mo}{fl:List Nat}{g:hD}{t:T}(hf:rj P f A)(ht:A.jX fl g=some t){ins outs:List AV}(hl:ins.length=g.n)(hn:AV.ae ins=true)(ho:outs.length=g.m)
  (h:bD P (λ _ _ _=>False) (λ a=>a=br outs) t ins []):gQ P f g ins outs:=by
 unfold mo.jX at ht
 split at ht
 ·rename_i oA
  split at ht
  ·rename_i t' h1;cases ht;rw[Option.bind_eq_some_iff]at h1;obtain⟨t0,h2,h3⟩:=h1;exact yr hf.weaken rfl oA.2 h2 h3 hl hn ho h
  ·rw[Option.bind_eq_some_iff]at ht;obtain⟨t0,h2,h3⟩:=ht;exact yr hf.soft rfl oA.2 h2 h3 hl hn ho h
 ·cases ht
end
end Go.Ab
