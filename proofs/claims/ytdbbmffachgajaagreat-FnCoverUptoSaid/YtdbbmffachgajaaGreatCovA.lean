/- Part of a proof: the functions that the law reaches, walked by the abstract logic of the texts Ab. -/
import Derived.Test.YtdbbmffachgajaaGreatCPut
set_option maxRecDepth 100000
open Bool(not_eq_true)
open Option(map_some)
open List(filterMap_cons length_cons mem_cons mem_singleton)
set_option linter.unusedVariables false
set_option linter.unusedSimpArgs false
namespace Go.Ab
structure Hd where
 p:aa
 ks:List ai
 other:Bool
def fg(p:aa):Bool:=decide (p.Kind=1)||decide (p.Kind=2)
def cw(t:ai):aa:= .mk 1 0 ⟨#[]⟩ t []
def noT:ai:= .mk 0 0 ⟨#[]⟩ []
def oo:List aa->Bool
 | []=>true
 |p::_=>fg p
def bg(rows:List (List aa)):Bool:=rows.all oo
def iD:List aa->Option Int
 | []=>none
 |p::_=>if p.Kind=3 then some p.fM else none
def xD(n:Int):List Int->List Int
 | []=>[n]
 |a::l=>if n<a then n::a::l else if n=a then a::l else a::xD n l
def fy(l:List Int):List Int:=l.foldl (λ acc n=>xD n acc) []
def aiZ(n:Int):Hd:=⟨.mk 3 n ⟨#[]⟩ noT [],[],false⟩
def po(t:ai):Hd:=⟨cw t,[],true⟩
def oO(t:ai)(c:ak):Hd:=⟨.mk 7 0 c.Name t [],if c.Has=true then [c.Arg.put 10 t.Kids]else [],false⟩
def fh(list:List ad)(name:ByteArray):Option ad:=list.find? λ d=>decide (d.Name=name)
def mR(list:List ad)(t:ai):List Hd:=
 if t.Kind=6 then [⟨.mk 6 0 ⟨#[]⟩ noT [],t.Kids,false⟩]
 else if t.Kind=3 then [⟨.mk 5 0 ⟨#[]⟩ noT [],[],false⟩]
 else if t.Kind=2 then [⟨.mk 4 0 ⟨#[]⟩ noT [],[],false⟩,⟨.mk 4 1 ⟨#[]⟩ noT [],[],false⟩]
 else if t.Kind=7 then(match fh list t.Name with
  |some d=>d.br.map (oO t)
  |none=>[])
 else []
def bE(list:List ad)(t:ai)(rows:List (List aa)):List Hd:=
 if t.Kind=1 then(fy (rows.filterMap iD)).map aiZ++ [po t]else mR list t
def eb(h:Hd):List aa->Option (List aa)
 | []=>some (h.ks.map cw)
 |p::r=>if fg p=true then some (h.ks.map cw++r)else if h.other=true∨p.Kind≠h.p.Kind∨p.fM≠h.p.fM∨p.Name≠h.p.Name then none else some (p.Kids++r)
def aR(h:Hd)(rows:List (List aa)):List (List aa):=rows.filterMap (eb h)
mutual
def aa.nw:aa->Nat
 | .mk k _ _ _ kids=>if k=1∨k=2 then 0 else 1+aa.x6 kids
def aa.x6:List aa->Nat
 | []=>0
 |x::l=>x.nw+aa.x6 l
end
theorem akm:∀a b:List aa,aa.x6 (a++b)=aa.x6 a+aa.x6 b
 | [],b=>by simp[aa.x6]
 |x::a,b=>by simp only[List.cons_append,aa.x6,akm a b];omega
theorem axZ(p:aa):p.nw=if fg p=true then 0 else 1+aa.x6 p.Kids:=by
 obtain⟨k,n,m,t,kids⟩:=p;rw[aa.nw];have e:fg (.mk k n m t kids)=(decide (k=1)||decide (k=2)):=rfl;rw[e];by_cases h1:k=1
 ·rw[if_pos (.inl h1),decide_eq_true h1];rfl
 ·by_cases h2:k=2
  ·rw[if_pos (.inr h2),decide_eq_true h2,Bool.or_true];rfl
  ·rw[if_neg (λ h=>h.elim h1 h2),decide_eq_false h1,decide_eq_false h2];rfl
theorem akn:∀ks:List ai,aa.x6 (ks.map cw)=0
 | []=>rfl
 |k::ks=>by
  rw[List.map_cons,aa.x6,akn ks]
  rfl
def qA:List (List aa)->Nat
 | []=>0
 |r::l=>aa.x6 r+qA l
theorem adT{h:Hd}{r x:List aa}(hx:eb h r=some x):aa.x6 x<=aa.x6 r/\(oo r=false->aa.x6 x<aa.x6 r):=by
 cases r with
 |nil=>
  rw[eb]at hx;injection hx with hx;subst hx;rw[akn];exact⟨Nat.zero_le _,λ h=>by cases h⟩
 |cons p r=>
  rw[eb]at hx;have hp:=axZ p
  split at hx
  ·rename_i ho;injection hx with hx;subst hx;rw[akm,akn,aa.x6];exact⟨by omega,λ h=>by rw[oo,ho]at h;cases h⟩
  ·rename_i ho
   split at hx
   ·cases hx
   ·injection hx with hx;subst hx;rw[if_neg ho]at hp;rw[akm,aa.x6];exact⟨by omega,λ _=>by omega⟩
theorem aBE{r:List aa}(h:oo r=false):1<=aa.x6 r:=by
 cases r with
 |nil=>cases h
 |cons p r=>
  have hp:=axZ p;rw[oo]at h;rw[h,if_neg (by simp)]at hp;rw[aa.x6];omega
theorem dc(h:Hd):∀rows:List (List aa),qA (aR h rows)<=qA rows/\(bg rows=false->qA (aR h rows)<qA rows)
 | []=>⟨Nat.le_refl _,λ h=>by cases h⟩
 |r::rows=>by
  obtain⟨h1,h2⟩:=dc h rows;have e:bg (r::rows)=(oo r&&bg rows):=rfl;rw[e,qA];unfold aR at h1 h2⊢;rw[filterMap_cons];cases hu:eb h r with
  |none=>
   refine⟨by simp only;omega,λ ho=> ?_⟩;simp only;rcases Bool.and_eq_false_iff.1 ho with ho|ho
   ·have:=aBE ho;omega
   ·have:=h2 ho;omega
  |some x=>
   obtain⟨h3,h4⟩:=adT hu;simp only[qA];refine⟨by omega,λ ho=> ?_⟩;rcases Bool.and_eq_false_iff.1 ho with ho|ho
   ·have:=h4 ho;omega
   ·have:=h2 ho;omega
def cF(rows:List (List aa)):List (List aa):=rows.map List.tail
theorem lI:∀rows:List (List aa),qA (cF rows)<=qA rows
 | []=>Nat.le_refl _
 |r::rows=>by
  have:=lI rows
  show qA (r.tail::cF rows)<=_;rw[qA,qA];cases r with
  |nil=>simp only[List.tail_nil];omega
  |cons p r=>simp only[List.tail_cons,aa.x6];omega
def aa.cP(p:aa)(kids:List aa):aa:= .mk p.Kind p.fM p.Name p.T kids
def dn(list:List ad):List ai->List (List aa)->Option (List aa)
 | [],rows=>if rows= []then some []else none
 |t::ts,rows=>
  if _h:bg rows=true then(dn list ts (cF rows)).map (cw t::·)
  else(bE list t rows).findSome? λ h=>(dn list (h.ks++ts) (aR h rows)).map λ row=>h.p.cP (row.take h.ks.length)::row.drop h.ks.length
 termination_by ts rows=>(qA rows,ts.length)
 decreasing_by
  ·have:=lI rows;simp only[Prod.lex_def,length_cons];omega
  ·have:=(dc h rows).2 (by simpa using _h);simp only[Prod.lex_def];omega
def fi(list:List ad):List ai->List (List aa)->List aa->Bool
 | [],rows,_=>rows.isEmpty
 |_::_,_,[]=>false
 |t::ts,rows,p::q=>
  if _h:fg p=true/\bg rows=true then fi list ts (cF rows) q
  else(bE list t (rows++ [p::q])).any λ h=>match _hx:eb h (p::q)with
   |none=>false
   |some x=>fi list (h.ks++ts) (aR h rows) x
 termination_by ts rows q=>(qA rows+aa.x6 q,ts.length)
 decreasing_by
  ·have:=lI rows;simp only[Prod.lex_def,length_cons,aa.x6];omega
  ·have h1:=dc h rows;have h2:=adT _hx
   have h3:fg p=false∨bg rows=false:=by
    rcases ho:fg p with _|_
    ·exact .inl rfl
    ·refine .inr ?_;rw[←not_eq_true];exact λ h=>_h ⟨ho,h⟩
   simp only[Prod.lex_def];rcases h3 with h3|h3
   ·have:=h2.2 h3;have:=h1.1;omega
   ·have:=h1.2 h3;have:=h2.1;omega
theorem pG(list:List ad)(rows:List (List aa)):dn list [] rows=if rows= []then some []else none:=by rw[dn]
theorem jh(list:List ad)(t:ai)(ts:List ai)(rows:List (List aa))(h:bg rows=true):dn list (t::ts) rows=(dn list ts (cF rows)).map (cw t::·):=by
 rw[dn,dif_pos h]
theorem qT(list:List ad)(t:ai)(ts:List ai)(rows:List (List aa))(h:bg rows=false):dn list (t::ts) rows=(bE list t rows).findSome? λ h=>(dn list (h.ks++ts) (aR h rows)).map λ row=>h.p.cP (row.take h.ks.length)::row.drop h.ks.length:=by
 rw[dn,dif_neg (by rw[h];simp)]
theorem uz(list:List ad)(rows:List (List aa))(q:List aa):fi list [] rows q=rows.isEmpty:=by rw[fi]
theorem sG(list:List ad)(t:ai)(ts:List ai)(rows:List (List aa))(p:aa)(q:List aa)(h:fg p=true/\bg rows=true):fi list (t::ts) rows (p::q)=fi list ts (cF rows) q:=by
 rw[fi,dif_pos h]
def adS(list:List ad)(ts:List ai)(rows:List (List aa))(r:List aa)(h:Hd):Bool:=match eb h r with
 |none=>false
 |some x=>fi list (h.ks++ts) (aR h rows) x
theorem rv(list:List ad)(t:ai)(ts:List ai)(rows:List (List aa))(p:aa)(q:List aa)(h:¬(fg p=true/\bg rows=true)):fi list (t::ts) rows (p::q)=(bE list t (rows++ [p::q])).any (adS list ts rows (p::q)):=by
 rw[fi,dif_neg h];congr 1
 funext h
 unfold adS
 split<;>rename_i hx<;>rw[hx]
theorem yK{n x:Int}:∀{l:List Int},x∈xD n l↔x=n∨x∈l
 | []=>by simp[xD]
 |a::l=>by
  rw[xD]
  split
  ·simp
  ·split
   ·rename_i h;subst h;simp
   ·rw[mem_cons,yK,mem_cons];constructor
    ·rintro(h|h|h)
     ·exact .inr (.inl h)
     ·exact .inl h
     ·exact .inr (.inr h)
    ·rintro(h|h|h)
     ·exact .inr (.inl h)
     ·exact .inl h
     ·exact .inr (.inr h)
theorem uZ{n:Int}:∀{l:List Int},l.Pairwise (·<·)->(xD n l).Pairwise (·<·)
 | [],_=>by simp[xD]
 |a::l,h=>by
  rw[xD];obtain⟨h1,h2⟩:=List.pairwise_cons.1 h
  split
  ·rename_i hn;refine List.pairwise_cons.2 ⟨λ x hx=> ?_,h⟩;rcases List.mem_cons.1 hx with rfl|hx
   ·exact hn
   ·have:=h1 x hx;omega
  ·split
   ·exact h
   ·rename_i hn hn2;refine List.pairwise_cons.2 ⟨λ x hx=> ?_,uZ h2⟩;rcases yK.1 hx with rfl|hx
    ·omega
    ·exact h1 x hx
theorem afj{n:Int}:∀{l:List Int},l.Pairwise (·<·)->n∈l->xD n l=l
 | [],_,h=>by cases h
 |a::l,hs,h=>by
  obtain⟨h1,h2⟩:=List.pairwise_cons.1 hs;rw[xD]
  split
  ·rename_i hn;rcases List.mem_cons.1 h with rfl|h
   ·omega
   ·have:=h1 n h;omega
  ·split
   ·rfl
   ·rename_i hn hn2;rcases List.mem_cons.1 h with rfl|h
    ·exact absurd rfl hn2
    ·rw[afj h2 h]
theorem zp:∀(l acc:List Int),acc.Pairwise (·<·)->(l.foldl (λ acc n=>xD n acc) acc).Pairwise (·<·)
 | [],acc,h=>h
 |n::l,acc,h=>zp l (xD n acc) (uZ h)
theorem ai8{x:Int}:∀(l acc:List Int),x∈l.foldl (λ acc n=>xD n acc) acc↔x∈l∨x∈acc
 | [],acc=>by simp
 |n::l,acc=>by
  rw[List.foldl_cons,ai8 l,yK,mem_cons];constructor
  ·rintro(h|h|h)
   ·exact .inl (.inr h)
   ·exact .inl (.inl h)
   ·exact .inr h
  ·rintro((h|h)|h)
   ·exact .inr (.inl h)
   ·exact .inl h
   ·exact .inr (.inr h)
theorem kJ(l:List Int):(fy l).Pairwise (·<·):=zp l [] List.Pairwise.nil
theorem vB{l:List Int}{x:Int}:x∈fy l↔x∈l:=by
 unfold fy;rw[ai8];simp
theorem xm(l:List Int)(n:Int):fy (l++ [n])=xD n (fy l):=by
 unfold fy;rw[List.foldl_append];rfl
theorem akY{list:List ad}{t:ai}{h:Hd}(hm:h∈mR list t):h.p.Kids= []/\h.other=false/\fg h.p=false:=by
 unfold mR at hm
 split at hm
 ·rw[mem_singleton]at hm;subst hm;exact⟨rfl,rfl,rfl⟩
 split at hm
 ·rw[mem_singleton]at hm;subst hm;exact⟨rfl,rfl,rfl⟩
 split at hm
 ·simp only[mem_cons,List.not_mem_nil,or_false]at hm;rcases hm with rfl|rfl<;>exact⟨rfl,rfl,rfl⟩
 split at hm
 ·split at hm
  ·obtain⟨c,_,rfl⟩:=List.mem_map.1 hm;exact⟨rfl,rfl,rfl⟩
  ·cases hm
 ·cases hm
theorem s8{list:List ad}{t:ai}{rows:List (List aa)}{h:Hd}(hm:h∈bE list t rows):h.p.Kids= []/\(h.other=true/\h.ks= []/\fg h.p=true∨h.other=false/\fg h.p=false):=by
 unfold bE at hm
 split at hm
 ·rcases List.mem_append.1 hm with hm|hm
  ·obtain⟨n,_,rfl⟩:=List.mem_map.1 hm;exact⟨rfl,.inr ⟨rfl,rfl⟩⟩
  ·rw[mem_singleton]at hm;subst hm;exact⟨rfl,.inl ⟨rfl,rfl,rfl⟩⟩
 ·obtain⟨h1,h2,h3⟩:=akY hm;exact⟨h1,.inr ⟨h2,h3⟩⟩
theorem anI{list:List ad}{t:ai}{rows:List (List aa)}{h:Hd}(hm:h∈bE list t rows)(kids r:List aa):bE list t (rows++ [h.p.cP kids::r])=bE list t rows:=by
 unfold bE at hm⊢;by_cases ht:t.Kind=1
 ·rw[if_pos ht]at hm⊢;rw[if_pos ht]
  have key:fy ((rows++ [h.p.cP kids::r]).filterMap iD)=fy (rows.filterMap iD):=by
   rw[List.filterMap_append];rcases List.mem_append.1 hm with hm|hm
   ·obtain⟨n,hn,rfl⟩:=List.mem_map.1 hm;have e: [(aiZ n).p.cP kids::r].filterMap iD= [n]:=rfl;rw[e,xm,afj (kJ _) hn]
   ·rw[mem_singleton]at hm;subst hm;have e: [(po t).p.cP kids::r].filterMap iD= []:=rfl;rw[e,List.append_nil]
  rw[key]
 ·rw[if_neg ht,if_neg ht]
theorem asV{list:List ad}{t:ai}{rows:List (List aa)}{h:Hd}(hm:h∈bE list t rows)(row:List aa):eb h (h.p.cP (row.take h.ks.length)::row.drop h.ks.length)=some row:=by
 obtain⟨_,h2⟩:=s8 hm;have ho:fg (h.p.cP (row.take h.ks.length))=fg h.p:=rfl;rw[eb,ho];rcases h2 with⟨h2,h3,h4⟩|⟨h2,h4⟩
 ·rw[if_pos h4,h3];rfl
 ·rw[if_neg (by rw[h4];simp),if_neg]
  ·have:(h.p.cP (row.take h.ks.length)).Kids=row.take h.ks.length:=rfl;rw[this,List.take_append_drop]
  ·rw[h2];rintro(h|h|h|h)
   ·cases h
   ·exact h rfl
   ·exact h rfl
   ·exact h rfl
theorem uT(list:List ad):∀(ts:List ai) (rows:List (List aa)) (m:List aa),dn list ts rows=some m->fi list ts rows m=true
 | [],rows,m,h=>by
   rw[pG]at h
   split at h
   ·rename_i hr;subst hr;rw[uz];rfl
   ·cases h
 |t::ts,rows,m,h=>by
  cases ho:bg rows with
  |true=>
   rw[jh _ _ _ _ ho]at h;cases hm:dn list ts (cF rows)with
   |none=>rw[hm]at h;cases h
   |some m'=>
    rw[hm]at h;simp only[map_some,Option.some.injEq]at h;subst h;rw[sG _ _ _ _ _ _ ⟨rfl,ho⟩];exact uT list ts _ m' hm
  |false=>
   rw[qT _ _ _ _ ho]at h;obtain⟨hd,gI,hf⟩:=List.exists_of_findSome?_eq_some h;cases hm:dn list (hd.ks++ts) (aR hd rows)with
   |none=>rw[hm]at hf;cases hf
   |some row=>
    rw[hm]at hf;simp only[map_some,Option.some.injEq]at hf;subst hf;rw[rv _ _ _ _ _ _ (λ h=>by rw[ho]at h;exact absurd h.2 (by simp))];rw[anI gI,List.any_eq_true];refine⟨hd,gI,?_⟩;unfold adS;rw[asV gI];exact uT list _ _ row hm
 termination_by ts rows=>(qA rows,ts.length)
 decreasing_by all_goals first
  |(have:=lI rows
    simp only[Prod.lex_def,length_cons];omega)
  |(have:=(dc hd rows).2 ho
    simp only[Prod.lex_def];omega)
theorem wZ{h:Hd}:∀{rows:List (List aa)},bg rows=true->aR h rows=(cF rows).map (h.ks.map cw++·)
 | [],_=>rfl
 |r::rows,ho=>by
  have e:bg (r::rows)=(oo r&&bg rows):=rfl;rw[e,Bool.and_eq_true]at ho;have ih:=wZ (h:=h) ho.2;unfold aR at ih⊢
  have hu:eb h r=some (h.ks.map cw++r.tail):=by
   cases r with
   |nil=>rw[eb,List.tail_nil,List.append_nil]
   |cons p r=>
    rw[eb,if_pos (by simpa [oo]using ho.1)];rfl
  rw[filterMap_cons,hu];simp only;rw[ih]
  rfl
theorem aiM(list:List ad)(ts:List ai)(R:List (List aa))(h:dn list ts R=none):∀ks:List ai,dn list (ks++ts) (R.map (ks.map cw++·))=none
 | []=>by
   have:R.map (([]:List ai).map cw++·)=R:=by simp
   rw[this];exact h
 |k::ks=>by
  have ho:bg (R.map ((k::ks).map cw++·))=true:=by
   unfold bg;rw[List.all_map,List.all_eq_true];intro r _
   rfl
  have ht:cF (R.map ((k::ks).map cw++·))=R.map (ks.map cw++·):=by
   unfold cF;rw[List.map_map]
   rfl
  rw[List.cons_append,jh _ _ _ _ ho,ht,aiM list ts R h ks]
  rfl
theorem aqd{list:List ad}{t:ai}{rows:List (List aa)}{p:aa}{q:List aa}{h:Hd}(hm:h∈bE list t (rows++ [p::q])):h∈bE list t rows∨t.Kind=1/\∃n,h=aiZ n/\n∉rows.filterMap iD:=by
 unfold bE at hm⊢;by_cases ht:t.Kind=1
 ·rw[if_pos ht]at hm;rw[if_pos ht];rcases List.mem_append.1 hm with hm|hm
  ·obtain⟨n,hn,rfl⟩:=List.mem_map.1 hm;by_cases hn2:n∈rows.filterMap iD
   ·exact .inl (List.mem_append.2 (.inl (List.mem_map.2 ⟨n,vB.2 hn2,rfl⟩)))
   ·exact .inr ⟨ht,n,rfl,hn2⟩
  ·exact .inl (List.mem_append.2 (.inr hm))
 ·rw[if_neg ht]at hm;rw[if_neg ht];exact .inl hm
theorem vr(t:ai)(n:Int):∀rows:List (List aa),n∉rows.filterMap iD->aR (aiZ n) rows=aR (po t) rows
 | [],_=>rfl
 |r::rows,hn=>by
  have hn2:n∉rows.filterMap iD:=λ h=>hn (by
   rw[filterMap_cons]
   split
   ·exact h
   ·exact List.mem_cons_of_mem _ h)
  have ih:=vr t n rows hn2;unfold aR at ih⊢
  have hu:eb (aiZ n) r=eb (po t) r:=by
   cases r with
   |nil=>rfl
   |cons p r=>
    rw[eb,eb];by_cases ho:fg p=true
    ·rw[if_pos ho,if_pos ho];rfl
    ·rw[if_neg ho,if_neg ho,if_pos (show(po t).other=true∨_ from .inl rfl),if_pos];by_cases hk:p.Kind=3
     ·refine .inr (.inr (.inl λ e=>hn ?_));have e:p.fM=n:=e;rw[filterMap_cons];have:iD (p::r)=some n:=by show(if p.Kind=3 then some p.fM else none)=some n;rw[if_pos hk,e]
      rw[this];exact List.mem_cons_self
     ·exact .inr (.inl hk)
  rw[filterMap_cons,filterMap_cons,hu,ih]
theorem aaw(list:List ad):∀(ts:List ai) (rows:List (List aa)) (q:List aa),dn list ts rows=none->fi list ts rows q=false
 | [],rows,q,h=>by
   rw[pG]at h;rw[uz]
   split at h
   ·cases h
   ·rename_i hr;cases rows with
    |nil=>exact absurd rfl hr
    |cons _ _=>rfl
 |t::ts,rows,[],h=>by rw[fi]
 |t::ts,rows,p::q,h=>by
  by_cases hb:fg p=true/\bg rows=true
  ·rw[sG _ _ _ _ _ _ hb];rw[jh _ _ _ _ hb.2]at h;refine aaw list ts _ q ?_;cases hm:dn list ts (cF rows)with
   |none=>rfl
   |some m=>rw[hm]at h;cases h
  ·rw[rv _ _ _ _ _ _ hb,List.any_eq_false];intro hd gI;unfold adS;cases hx:eb hd (p::q)with
   |none=>simp
   |some x=>
    simp only[not_eq_true];have h1:=dc hd rows;have h2:=adT hx
    have h3:fg p=false∨bg rows=false:=by
     rcases ho:fg p with _|_
     ·exact .inl rfl
     ·refine .inr ?_;rw[←not_eq_true];exact λ h=>hb ⟨ho,h⟩
    have aUe:qA (aR hd rows)+aa.x6 x<qA rows+aa.x6 (p::q):=by
     rcases h3 with h3|h3
     ·have:=h2.2 h3;have:=h1.1;omega
     ·have:=h1.2 h3;have:=h2.1;omega
    refine aaw list _ _ x ?_;cases ho:bg rows with
    |true=>
     rw[jh _ _ _ _ ho]at h;rw[wZ ho];refine aiM list ts _ ?_ _;cases hm:dn list ts (cF rows)with
     |none=>rfl
     |some m=>rw[hm]at h;cases h
    |false=>
     rw[qT _ _ _ _ ho]at h
     have wi:∀g∈bE list t rows,dn list (g.ks++ts) (aR g rows)=none:=λ g hg=>by
      have:=List.findSome?_eq_none_iff.1 h g hg;cases hm:dn list (g.ks++ts) (aR g rows)with
      |none=>rfl
      |some m=>rw[hm]at this;cases this
     rcases aqd gI with gI|⟨ht,n,rfl,hn⟩
     ·exact wi hd gI
     ·have hot:po t∈bE list t rows:=by
        unfold bE;rw[if_pos ht];exact List.mem_append.2 (.inr (List.mem_singleton.2 rfl))
      have:=wi _ hot;rw[vr t n rows hn];exact this
 termination_by ts rows q=>(qA rows+aa.x6 q,ts.length)
 decreasing_by all_goals first
  |(have:=lI rows
    simp only[Prod.lex_def,length_cons,aa.x6];omega)
  |(simp only[Prod.lex_def]
    omega)
end Go.Ab
