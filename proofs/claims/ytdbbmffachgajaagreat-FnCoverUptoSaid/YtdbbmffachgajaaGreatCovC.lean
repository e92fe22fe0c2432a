/- Part of a proof: the functions that the law reaches, walked by the abstract logic of the texts Ab. -/
import Derived.Test.YtdbbmffachgajaaGreatCovB
import Derived.Test.YtdbbmffachgajaaGreatPSort
import Derived.Test.YtdbbmffachgajaaGreatPCov3
import Derived.Test.YtdbbmffachgajaaGreatSA
set_option maxHeartbeats 4000000
set_option maxRecDepth 100000
open Nat(le_refl)
open Bool(and_eq_true)
open Option(map_some getD_some)
open List(map_map find?_cons length_cons length_nil length_map filterMap_cons mem_of_find?_eq_some map_cons mem_singleton length_append getElem?_map map_nil getElem?_eq_getElem)
set_option linter.unusedVariables false
set_option linter.unusedSimpArgs false
namespace Go.Ab
inductive LeL:List AV->List AV->Prop
 |nil:LeL [] []
 |cons {a b:AV} {l m:List AV}:AV.oY a b->LeL l m->LeL (a::l) (b::m)
inductive LeA:AV->AV->Prop
 |mk {cs ds:List AV}:LeL cs ds->LeA (.agg cs) (.agg ds)
inductive lH:List AV->List AV->Prop
 |nil:lH [] []
 |cons {a b:AV} {l m:List AV}:LeA a b->lH l m->lH (a::l) (b::m)
theorem LeL.len{l m:List AV}(h:LeL l m):l.length=m.length:=by
 induction h with
 |nil=>rfl
 |cons _ _ ih=>simp[ih]
theorem LeL.get{l m:List AV}(h:LeL l m):∀{i:Nat} {a b:AV},l[i]? =some a->m[i]? =some b->AV.oY a b:=by
 induction h with
 |nil=>intro i a b h;simp at h
 |cons h0 _ ih=>
  intro i a b ha hb;cases i with
  |zero=>simp only[List.getElem?_cons_zero,Option.some.injEq]at ha hb;rw[←ha,←hb];exact h0
  |succ i=>exact ih (by simpa using ha) (by simpa using hb)
theorem LeL.refl:∀l:List AV,LeL l l
 | []=> .nil
 |_::l=> .cons (.refl _) (LeL.refl l)
theorem lH.len{l m:List AV}(h:lH l m):l.length=m.length:=by
 induction h with
 |nil=>rfl
 |cons _ _ ih=>simp[ih]
theorem lH.get{l m:List AV}(h:lH l m):∀{i:Nat} {a b:AV},l[i]? =some a->m[i]? =some b->LeA a b:=by
 induction h with
 |nil=>intro i a b h;simp at h
 |cons h0 _ ih=>
  intro i a b ha hb;cases i with
  |zero=>simp only[List.getElem?_cons_zero,Option.some.injEq]at ha hb;rw[←ha,←hb];exact h0
  |succ i=>exact ih (by simpa using ha) (by simpa using hb)
theorem lH.sl{l m:List AV}(h:lH l m):AV.oY (.sl l) (.sl m):=by
 refine .sl _ _ h.len (λ i x y hx hy=> ?_) (λ i x y j c d hx hy hc hd=> ?_)
 ·cases h.get hx hy with
  |mk h=>exact h.len
 ·have:=h.get hx hy;cases this with
  |mk h=>exact h.get hc hd
theorem lH.app{l m l' m':List AV}(h:lH l m)(h':lH l' m'):lH (l++l') (m++m'):=by
 induction h with
 |nil=>exact h'
 |cons h0 _ ih=>exact .cons h0 ih
theorem lH.map{α:Type}{f g:α->AV}:∀{l:List α},(∀x∈l,LeA (f x) (g x))->lH (l.map f) (l.map g)
 | [],_=> .nil
 |x::l,h=> .cons (h x (by simp)) (lH.map λ y hy=>h y (by simp[hy]))
def aPN(t:ai):AV:= .agg [aD 6,aD 0,.v (.string ⟨#[]⟩),aD 0,aD 0,.v (.string ⟨#[]⟩),.an,.an,.sl (t.Kids.map ai.av),.v (.bool false)]
def aeC(k n:Int):AV:= .agg [aD k,aD n,.v (.string ⟨#[]⟩),aD 0,aD 0,.v (.string ⟨#[]⟩),.an,.an,.an,.v (.bool false)]
def aGA(t:ai):AV:= .agg [aD 1,aD 0,.v (.string ⟨#[]⟩),aD t.Kind,aD t.N,.v (.string t.Name),.sl (t.Kids.map ai.av),.sl [],.an,.v (.bool true)]
def amQ(t:ai)(c:ak):AV:= .agg [aD 7,aD 0,.v (.string c.Name),aD t.Kind,aD t.N,.v (.string t.Name),.sl (t.Kids.map ai.av),.an,.sl ((oO t c).ks.map ai.av),.v (.bool false)]
def xN(list:List ad)(t:ai)(rows:List (List aa)):List AV:=
 if t.Kind=6 then [aPN t]else if t.Kind=3 then [aeC 5 0]else if t.Kind=2 then [aeC 4 0,aeC 4 1]
 else if t.Kind=1 then(fy (rows.filterMap iD)).map (aeC 3)++ [aGA t]
 else match fh list t.Name with
  |some d=>d.br.map (amQ t)
  |none=>[]
theorem auf(list:List ad)(t:ai)(rows:List (List aa))(hk:t.Kind=1∨t.Kind=2∨t.Kind=3∨t.Kind=6∨t.Kind=7):lH (xN list t rows) ((bE list t rows).map Hd.av):=by
 have e:AV.oY .an (.sl ([].map ai.av)):= .nil;have e':AV.oY .an (.sl ([].map aa.av)):= .nil;have r:=AV.oY.refl;unfold xN bE mR;rcases hk with h|h|h|h|h<;>simp only[h,show¬((1:Int)=6) by decide,show¬((1:Int)=3) by decide,show¬((1:Int)=2) by decide,show¬((2:Int)=6) by decide,show¬((2:Int)=3) by decide,show¬((2:Int)=1) by decide,show¬((3:Int)=6) by decide,show¬((3:Int)=1) by decide,show¬((6:Int)=1) by decide,show¬((7:Int)=1) by decide,show¬((7:Int)=2) by decide,show¬((7:Int)=3) by decide,show¬((7:Int)=6) by decide,if_true,if_false]
 ·rw[List.map_append];refine .app ?_ (.cons (.mk ?_) .nil)
  ·rw[map_map];exact .map λ n _=> .mk (.cons (r _) (.cons (r _) (.cons (r _) (.cons (r _) (.cons (r _) (.cons (r _) (.cons e (.cons e' (.cons e (.cons (r _) .nil))))))))))
  ·exact .cons (r _) (.cons (r _) (.cons (r _) (.cons (r _) (.cons (r _) (.cons (r _) (.cons (r _) (.cons (r _) (.cons e (.cons (r _) .nil)))))))))
 ·exact .cons (.mk (.cons (r _) (.cons (r _) (.cons (r _) (.cons (r _) (.cons (r _) (.cons (r _) (.cons e (.cons e' (.cons e (.cons (r _) .nil))))))))))) (.cons (.mk (.cons (r _) (.cons (r _) (.cons (r _) (.cons (r _) (.cons (r _) (.cons (r _) (.cons e (.cons e' (.cons e (.cons (r _) .nil))))))))))) .nil)
 ·exact .cons (.mk (.cons (r _) (.cons (r _) (.cons (r _) (.cons (r _) (.cons (r _) (.cons (r _) (.cons e (.cons e' (.cons e (.cons (r _) .nil))))))))))) .nil
 ·exact .cons (.mk (.cons (r _) (.cons (r _) (.cons (r _) (.cons (r _) (.cons (r _) (.cons (r _) (.cons e (.cons e' (.cons (r _) (.cons (r _) .nil))))))))))) .nil
 ·cases fh list t.Name with
  |none=>exact .nil
  |some d=>
   simp only;rw[map_map];exact .map λ c _=> .mk (.cons (r _) (.cons (r _) (.cons (r _) (.cons (r _) (.cons (r _) (.cons (r _) (.cons (r _) (.cons e' (.cons (r _) (.cons (r _) .nil))))))))))
theorem kN{p:ad->Bool}{name:ByteArray}(hp:∀d,p d=decide (d.Name=name)):∀(l:List ad) (k:Nat) {d:ad},fh l name=some d->∃i,fQ p l k=((i+k:Nat):Int)/\l[i]? =some d
 | [],_,_,h=>by simp[fh]at h
 |x::l,k,d,h=>by
  rw[fQ,hp];by_cases hx:x.Name=name
  ·rw[decide_eq_true hx,if_pos rfl]
   have:d=x:=by
    unfold fh at h;rw[find?_cons,decide_eq_true hx]at h;exact(Option.some.inj h).symm
   exact⟨0,by simp,by simp[this]⟩
  ·rw[decide_eq_false hx,if_neg (by simp)]
   have h':fh l name=some d:=by
    unfold fh at h⊢;rw[find?_cons,decide_eq_false hx]at h;exact h
   obtain⟨i,h1,h2⟩:=kN hp l (k+1) h';exact⟨i+1,by rw[h1];congr 1;omega,by simpa using h2⟩
theorem xE{p:ad->Bool}{name:ByteArray}(hp:∀d,p d=decide (d.Name=name)):∀(l:List ad) (k:Nat),fh l name=none->fQ p l k= -1
 | [],_,_=>rfl
 |x::l,k,h=>by
  rw[fQ,hp];by_cases hx:x.Name=name
  ·unfold fh at h;rw[find?_cons,decide_eq_true hx]at h;cases h
  ·rw[decide_eq_false hx,if_neg (by simp)];refine xE hp l (k+1) ?_;unfold fh at h⊢;rw[find?_cons,decide_eq_false hx]at h;exact h
structure DB(list:List ad):Prop where
 len:list.length<=1000
 ct:∀d∈list,d.br.length<=1000/\∀c∈d.br,c.Has=true->c.Arg.wN=true/\c.Arg.wt<=1000
structure HQ(list:List ad)(t:ai)(rows:List (List aa)):Prop where
 kind:t.Kind=1∨t.Kind=2∨t.Kind=3∨t.Kind=6∨t.Kind=7
 wt:t.wt<=100000
 int:t.Kind=1->rows.filterMap iD≠[]
 dat:t.Kind=7->∃d,fh list t.Name=some d
 kw:∀h∈mR list t,∀u∈h.ks,u.wt<=1000
end Go.Ab
namespace Go.Proofs.Ab
open Go.Ab
theorem afy(x:ai)(l:List ai)(vM:x.wN=true)(hb:x.wt<=1048576)(hl:l.length+(l.map ai.wt).sum<=1048576):aW Tryz.prog F.sq [x.av,aD 10,.sl (l.map ai.av)] (x.put 10 l).av:=by
 have hn:AV.ae [x.av,aD 10,.sl (l.map ai.av)]=true:=by simp[AV.ae,AV.ag,ai.ag,mO]
 refine T.akN rfl hn ?_;simp only[T.sq,ai.B,WA,seval];refine aw ?_;simp only[WA,seval];refine aG [.v (.bool false)] rfl ?_ ?_
 ·repeat' (first|(simp(disch:=(first|omega|rfl|exact rfl|(simp only[au,length_cons,length_nil];done)|exact ai.width _)) only[ai.E,WA,seval])|(refine aC (λ hq=> ?_) (λ hq=> ?_)<;>(try simp only[hq,BN]))|(refine aP (λ hq=> ?_) (λ hq=> ?_)<;>(try simp only[hq,BN]))|(refine aA (λ hq=> ?_) (λ hq=> ?_)<;>(try simp only[hq]))|(refine aw ?_)|(refine aJ (aCb 10) ?_)|(refine aJ (qY x hb) ?_))
  all_goals simp_all [my]
 ·simp only[ai.B,WA,seval];refine bH (afm x 10 l vM (.inr (.inl rfl)) hb hl) (ai.ag _) ?_;simp only[ai.B,WA,seval];exact ai.eta _
theorem anH(d:ad)(t:ai):aW Tryz.prog F.iO [d.av,.bW t.av 0] (.v (.bool (decide (d.Name=t.Name)))):=by
 refine T.xG rfl (by simp[AV.ae,AV.ag,ad.ag,ai.ag]) ?_;simp only[T.iO,ad.B,ai.cells,WA,seval]
theorem fq(l:List ad):AV.ae (l.map ad.av)=true:=bt ad.ag
theorem ai3(list:List ad)(t:ai)(rows:List (List aa))(hD:DB list)(hb:RB rows)(hq:HQ list t rows):aW Tryz.prog F.kO [.sl (list.map ad.av),t.av,dq rows] (.sl ((bE list t rows).map Hd.av)):=by
 refine aW.ahb ?_ (auf list t rows hq.kind).sl;have hl0:=hb.len;have hwt:=hq.wt;have htw:=t.dY;have aHl:AV.ae [.sl (list.map ad.av),t.av,dq rows]=true:=by simp only[AV.ae,AV.ag,fq,ai.ag,jF,Bool.and_true]
 refine T.aaH rfl aHl ?_;simp only[T.kO,ai.B,WA,seval];refine aC (λ h6=> ?_) (λ h6=> ?_)
 ·simp only[ai.B,WA,seval];rw[xN,if_pos h6]
  rfl
 simp only[ai.B,WA,seval];refine aC (λ h3=> ?_) (λ h3=> ?_)
 ·simp only[WA,seval];rw[xN,if_neg h6,if_pos h3]
  rfl
 simp only[ai.B,WA,seval];refine aC (λ h2=> ?_) (λ h2=> ?_)
 ·simp only[WA,seval];rw[xN,if_neg h6,if_neg h3,if_pos h2]
  rfl
 simp only[WA,seval];refine bN (λ ws=>t.Kind=7/\ws= []) ?_ ?_
 ·simp only[ai.B,WA,seval];refine aC (λ h1=> ?_) (λ h1=> ?_)
  ·have ej:=hq.int h1;have hfl:(rows.filterMap iD).length<=rows.length:=List.length_filterMap_le _ _;simp only[WA,seval];refine aG [.sl ((rows.filterMap iD).map aD)] rfl ?_ ?_
   ·simp only[dq,length_map,WA,seval];refine bk rows (λ i (q:List Int)=>[.sl (q.map aD),aD i]) (λ i rest q=>q++rest.filterMap iD=rows.filterMap iD/\q.length<=i) [] rfl ⟨by simp,Nat.zero_le _⟩ (λ i k rest b hi hx hm ez hd hg=> ?_) (λ b hd hg=> ?_)
    ·obtain⟨hg,hl⟩:=hg;have hr:=hb.row k hm;rcases k with _|⟨p,k⟩
     ·exact absurd rfl hr.1
     have e1:IntKind.i64.wrap ((i:Int)+1)=((i+1:Nat):Int):=aI (by omega);have zl:∀K,jE 1 (.sl (rows.map jX)) (.v (.int .i64 (i:Int))) K=gn K (.sl (p.av::k.map aa.av)):=λ K=>ez jX 1 _ _ (pM _)
     simp only[hd,WA,seval];refine aw ?_;simp(disch:=exact aa.width _) only[zl,j5,ia,aa.B,WA,seval];refine aC (λ h=> ?_) (λ h=> ?_)
     ·simp(disch:=exact aa.width _) only[j5,ia,aa.B,length_map,WA,seval];have e0:iD (p::k)=some p.fM:=by rw[iD,if_pos h]
      rw[filterMap_cons,e0]at hg;refine⟨λ y hy=>by rw[hy];rfl,by omega,by omega,hi,b++ [p.fM],⟨by rw[←hg];simp,by simp;omega⟩,?_⟩;rw[e1];simp
     ·simp(disch:=exact aa.width _) only[WA,seval];have e0:iD (p::k)=none:=by rw[iD,if_neg h]
      rw[filterMap_cons,e0]at hg;refine⟨hi,b,⟨hg,by omega⟩,?_⟩;rw[e1]
    ·have j6:b=rows.filterMap iD:=by simpa using hg.1
     simp only[hd,j6,WA,seval]
   generalize afC:rows.filterMap iD=bG at ej hfl⊢;simp only[WA,seval];refine fj (aGp bG ej (by omega)) rfl (by simp[AV.ae,AV.ag,ax3]) ?_;simp only[length_map,pc,WA,seval]
   have aQj:srt bG≠[]:=λ h=>by
    have:=congrArg List.length h;rw[pc]at this;exact ej (List.eq_nil_of_length_eq_zero this)
   refine aG [.sl ((fy bG).map (aeC 3))] rfl ?_ ?_
   ·simp only[WA,seval];have hc:=auF (srt bG) aQj (by rw[pc];omega);rw[rj]at hc;refine fj hc rfl (by simp[AV.ae,AV.ag,ax3]) ?_
    have hsl:(fy bG).length<=bG.length:=by
     rw[←rj];have:=Lib.compact_length_le (srt bG);rwa [pc]at this
    simp only[length_map,WA,seval];refine bk (fy bG) (λ i (q:List Int)=>[.sl (q.map (aeC 3)),aD i]) (λ i rest q=>q++rest=fy bG/\q.length=i) [] rfl ⟨by simp,rfl⟩ (λ i k rest b hi hx hm ez hd hg=> ?_) (λ b hd hg=> ?_)
    ·obtain⟨hg,hl⟩:=hg;have e1:IntKind.i64.wrap ((i:Int)+1)=((i+1:Nat):Int):=aI (by omega);simp only[hd,WA,seval];rw[ez aD 1 _ _ rfl];simp only[au,jy,length_map,WA,seval];refine⟨λ y hy=>by rw[hy];rfl,by omega,by omega,hi,b++ [k],⟨by rw[←hg];simp,by simp[hl]⟩,?_⟩;rw[e1];simp[aeC]
    ·have j6:b=fy bG:=by simpa using hg.1
     simp only[hd,j6,WA,seval]
   ·simp only[ai.B,WA,seval];refine bH (alj t (by omega)) (aa.ag _) ?_
    have hsl:(fy bG).length<=bG.length:=by
     rw[←rj];have:=Lib.compact_length_le (srt bG);rwa [pc]at this
    rw[zI];simp only[AV.cells,length_map,WA,seval];refine⟨λ y hy=>by rw[hy];rfl,by omega,by omega,?_⟩;rw[xN,if_neg h6,if_neg h3,if_neg h2,if_pos h1,afC]
    rfl
  ·simp only[WA,seval];have:=hq.kind;omega
 ·rintro ws ⟨h7,rfl⟩ _;obtain⟨d,hd0⟩:=hq.dat h7;have hdm:d∈list:=mem_of_find?_eq_some hd0;obtain⟨hd1,hd2⟩:=hD.ct d hdm;have hlen:=hD.len;obtain⟨n,hn1,hn2⟩:=kN (p:=λ d=>decide (d.Name=t.Name)) (λ _=>rfl) list 0 hd0;have aqb:=wR list F.iO [.bW t.av 0] (λ d=>decide (d.Name=t.Name)) (by omega) (by simp[AV.ae,AV.ag,ai.ag]) (λ x _=>anH x t);rw[hn1,Nat.add_zero]at aqb;have hnl:n<list.length:=(List.getElem?_eq_some_iff.1 hn2).1;have hdn:list[n]=d:=(List.getElem?_eq_some_iff.1 hn2).2;simp only[ai.cells,ai.eta,WA,seval];refine aJ aqb ?_;simp only[WA,seval];refine aG [.sl (d.br.map (amQ t))] rfl ?_ ?_
  ·simp only[WA,seval];refine fS ad.av hnl (ad.width _) ?_;rw[hdn];simp only[ad.B,length_map,WA,seval];refine bk d.br (λ i (q:List ak)=>[.sl (q.map (amQ t)),aD i]) (λ i rest q=>q++rest=d.br/\q.length=i) [] rfl ⟨by simp,rfl⟩ (λ i k rest b hi hx hm ez hd hg=> ?_) (λ b hd hg=> ?_)
   ·obtain⟨hg,hl⟩:=hg;have e1:IntKind.i64.wrap ((i:Int)+1)=((i+1:Nat):Int):=aI (by omega);simp only[hd,WA,seval];refine aw ?_;simp only[ad.cells,WA,seval];rw[ez ak.av 6 _ _ (ak.width _)];simp only[ak.B,ai.E,WA,seval];refine bH (nP t (by omega)) (ai.ag _) ?_;simp only[ak.B,ai.E,WA,seval];refine aA (λ hh=> ?_) (λ hh=> ?_)
    ·obtain⟨q1,q2⟩:=hd2 k hm hh;simp only[ak.B,ai.E,WA,seval];refine bH (afy k.Arg t.Kids q1 (by omega) (by omega)) (ai.ag _) ?_;simp only[ak.cells,ai.E,length_map,WA,seval];refine⟨λ y hy=>by rw[hy];rfl,by omega,by omega,hi,b++ [k],⟨by rw[←hg];simp,by simp[hl]⟩,?_⟩;rw[e1];simp[amQ,oO,hh]
    ·simp only[ak.cells,ai.E,length_map,WA,seval];refine⟨λ y hy=>by rw[hy];rfl,by omega,by omega,hi,b++ [k],⟨by rw[←hg];simp,by simp[hl]⟩,?_⟩;rw[e1];simp[amQ,oO,hh]
   ·have j6:b=d.br:=by simpa using hg.1
    simp only[hd,j6,WA,seval]
  ·simp only[WA,seval];rw[xN,if_neg h6,if_neg h3,if_neg h2,if_neg (by omega),hd0]
end Go.Proofs.Ab
namespace Go.Ab
def TG(list:List ad):Nat->ai->Prop
 |0,t=>t.wt<=1000
 |k+1,t=>t.wt<=1000/\∀h∈mR list t,h.ks.length<=1000/\∀u∈h.ks,TG list k u
theorem TG.wt{list:List ad}{k:Nat}{t:ai}(h:TG list k t):t.wt<=1000:=by
 cases k with
 |zero=>exact h
 |succ k=>exact h.1
theorem TG.down{list:List ad}:∀{k:Nat} {t:ai},TG list (k+1) t->TG list k t
 |0,_,h=>h.1
 |_+1,_,h=>⟨h.1,λ g hg=>⟨(h.2 g hg).1,λ u hu=>((h.2 g hg).2 u hu).down⟩⟩
theorem TG.mono{list:List ad}{k m:Nat}(hk:m<=k){t:ai}(h:TG list k t):TG list m t:=by
 induction k with
 |zero=>rw[show m=0 by omega];exact h
 |succ k ih=>
  rcases Nat.lt_or_ge k m with hm|hm
  ·rw[show m=k+1 by omega];exact h
  ·exact ih hm h.down
inductive TP(list:List ad):aa->ai->Prop
 |any (p:aa) (t:ai):fg p=true->TP list p t
 |flat (p:aa) (t:ai):(p.Kind=3/\t.Kind=1∨p.Kind=4/\t.Kind=2∨p.Kind=5/\t.Kind=3)->p.Kids= []->TP list p t
 |aZ (p:aa) (t:ai):p.Kind=6->t.Kind=6->p.Kids.length=t.Kids.length->(∀(i:Nat) q u,p.Kids[i]? =some q->t.Kids[i]? =some u->TP list q u)->TP list p t
 |ctor (p:aa) (t:ai) (ks:List ai):p.Kind=7->t.Kind=7->(oK list p.Name t).map Option.toList=some ks->p.Kids.length=ks.length->(∀(i:Nat) q u,p.Kids[i]? =some q->ks[i]? =some u->TP list q u)->TP list p t
structure RT(list:List ad)(r:List aa)(ts:List ai):Prop where
 len:r.length=ts.length
 tp:∀(i:Nat) p t,r[i]? =some p->ts[i]? =some t->TP list p t
 dZ:∀p∈r,p.dZ<=1000
structure DU(list:List ad):Prop extends DB list where
 uniq:∀d∈list,∀c∈d.br,∀c'∈d.br,c.Name=c'.Name->c=c'
structure MQ(list:List ad)(ts:List ai)(rows:List (List aa)):Prop where
 len:rows.length<=100
 row:∀r∈rows,RT list r ts
 tg:∀t∈ts,TG list (qA rows) t
 sum:ts.length+1000*qA rows<=90000
theorem aa.aB3{p q:aa}(h:q∈p.Kids):q.dZ<p.dZ:=by
 have:=p.jV;have:=eH aa.dZ h;omega
theorem aa.ayw(p:aa):p.Kids.length<p.dZ:=by
 have h1:=p.jV
 have h2:∀l:List aa,l.length<=(l.map aa.dZ).sum:=by
  intro l
  induction l with
  |nil=>simp
  |cons a l ih=>
   have:=a.jV;simp only[length_cons,map_cons,List.sum_cons];omega
 have:=h2 p.Kids;omega
theorem RT.rb{list:List ad}{rows:List (List aa)}{t:ai}{ts:List ai}(h:MQ list (t::ts) rows):RB rows:=by
 refine⟨h.len,λ r hr=> ?_⟩;have q:=h.row r hr;have hl:=q.len;have:=h.sum;simp only[length_cons]at hl this;refine⟨λ e=>by rw[e]at hl;simp at hl,by omega,λ p hp=> ?_⟩;have:=q.dZ p hp;have:=p.ayw;omega
theorem TP.kinds{list:List ad}{p:aa}{t:ai}(h:TP list p t)(ho:fg p=false):
  (p.Kind=3/\t.Kind=1∨p.Kind=4/\t.Kind=2∨p.Kind=5/\t.Kind=3∨p.Kind=6/\t.Kind=6)∨(p.Kind=7/\t.Kind=7/\∃d,fh list t.Name=some d):=by
 cases h with
 |any _ _ h=>rw[h]at ho;cases ho
 |flat _ _ h _=>omega
 |aZ _ _ h1 h2 _ _=>exact .inl (.inr (.inr (.inr ⟨h1,h2⟩)))
 |ctor _ _ ks h1 h2 h3 _ _=>
  refine .inr ⟨h1,h2,?_⟩;unfold oK at h3;rw[if_pos h2]at h3;cases hi:fh list t.Name with
  |none=>rw[hi]at h3;simp at h3
  |some d=>exact⟨d,rfl⟩
theorem HQ.of{list:List ad}{rows:List (List aa)}{t:ai}(hw:t.wt<=1000)(hkw:∀h∈mR list t,∀u∈h.ks,u.wt<=1000)(htp:∀r∈rows,∀p,r[0]? =some p->TP list p t){p:aa}{r:List aa}(hr:(p::r)∈rows)(hp:fg p=false):HQ list t rows:=by
 have h:=(htp _ hr p rfl).kinds hp;refine⟨by omega,by omega,λ h1=> ?_,λ h7=> ?_,?_⟩
 ·have hk:p.Kind=3:=by omega
  intro e;have:p.fM∈rows.filterMap iD:=List.mem_filterMap.2 ⟨p::r,hr,by rw[iD,if_pos hk]⟩;rw[e]at this;cases this
 ·rcases h with h|⟨_,_,h⟩
  ·omega
  ·exact h
 ·exact hkw
theorem ahK{rows:List (List aa)}(h:bg rows=false):∃p r,(p::r)∈rows/\fg p=false:=by
 unfold bg at h;rw[List.all_eq_false]at h;obtain⟨r,hr,ho⟩:=h;cases r with
 |nil=>simp[oo]at ho
 |cons p r=>exact⟨p,r,hr,by simpa [oo]using ho⟩
theorem MQ.hq{list:List ad}{rows:List (List aa)}{t:ai}{ts:List ai}(h:MQ list (t::ts) rows)(ho:bg rows=false):HQ list t rows:=by
 obtain⟨p,r,hr,hp⟩:=ahK ho;obtain⟨k,hk⟩:∃k,qA rows=k+1:=⟨qA rows- 1,by have:=(dc (po t) rows).2 ho;omega⟩;have htg:TG list (k+1) t:=by rw[←hk];exact h.tg t (by simp)
 exact .of (h.tg t (by simp)).wt (λ g hg u hu=>((htg.2 g hg).2 u hu).wt) (λ r hr p hp=>(h.row r hr).tp 0 p t hp rfl) hr hp
theorem ai4{list:List ad}(hD:DU list){t:ai}{rows:List (List aa)}{h:Hd}(hm:h∈bE list t rows){k:Nat}(ht:TG list (k+1) t):h.ks.length<=1000/\∀u∈h.ks,TG list k u:=by
 unfold bE at hm
 split at hm
 ·rcases List.mem_append.1 hm with hm|hm
  ·obtain⟨n,_,rfl⟩:=List.mem_map.1 hm;exact⟨by simp[aiZ],λ u hu=>by cases hu⟩
  ·rw[mem_singleton]at hm;subst hm;exact⟨by simp[po],λ u hu=>by cases hu⟩
 ·exact ht.2 h hm
theorem HB.of{list:List ad}(hD:DU list){t:ai}{rows:List (List aa)}{h:Hd}(hm:h∈bE list t rows){k:Nat}(ht:TG list (k+1) t):HB h:=by
 obtain⟨h1,h2⟩:=ai4 hD hm ht;exact⟨h1,λ u hu=>by have:=(h2 u hu).wt;omega⟩
theorem RT.under{list:List ad}(hD:DU list){t:ai}{ts:List ai}{rows:List (List aa)}{h:Hd}(hm:h∈bE list t rows){r x:List aa}(hr:RT list r (t::ts))(hx:eb h r=some x):RT list x (h.ks++ts):=by
 have hl:=hr.len;rcases r with _|⟨p,r⟩
 ·simp at hl
 simp only[length_cons]at hl;have hp:=hr.tp 0 p t rfl rfl;have aM0:∀(i:Nat) q u,r[i]? =some q->ts[i]? =some u->TP list q u:=λ i q u hq hu=>hr.tp (i+1) q u (by simpa using hq) (by simpa using hu)
 have key:∀kids:List aa,kids.length=h.ks.length->(∀(i:Nat) q u,kids[i]? =some q->h.ks[i]? =some u->TP list q u)->(∀q∈kids,q.dZ<=1000)->RT list (kids++r) (h.ks++ts):=by
  intro kids h1 h2 h3;refine⟨by simp only[length_append];omega,λ i q u hq hu=> ?_,λ q hq=> ?_⟩
  ·rcases Nat.lt_or_ge i kids.length with hi|hi
   ·rw[List.getElem?_append_left hi]at hq;rw[List.getElem?_append_left (by omega)]at hu;exact h2 i q u hq hu
   ·rw[List.getElem?_append_right hi]at hq;rw[List.getElem?_append_right (by omega)]at hu;rw[←h1]at hu;exact aM0 _ q u hq hu
  ·rcases List.mem_append.1 hq with hq|hq
   ·exact h3 q hq
   ·exact hr.dZ q (by simp[hq])
 rw[eb]at hx
 split at hx
 ·injection hx with hx;subst hx;refine key _ (by simp) (λ i q u hq _=> ?_) (λ q hq=> ?_)
  ·rw[getElem?_map]at hq;obtain⟨v,_,rfl⟩:=Option.map_eq_some_iff.1 hq;exact .any _ _ rfl
  ·obtain⟨v,_,rfl⟩:=List.mem_map.1 hq;have:(cw v).dZ=1:=by rw[aa.jV];rfl
   omega
 ·rename_i ho;have ho:fg p=false:=by simpa using ho
  split at hx
  ·cases hx
  ·rename_i ej;injection hx with hx;subst hx
   have hn:h.other=false/\p.Kind=h.p.Kind/\p.Name=h.p.Name:=by
    refine⟨?_,?_,?_⟩
    ·cases he:h.other with
     |false=>rfl
     |true=>exact absurd (.inl he) ej
    ·exact Decidable.byContradiction λ e=>ej (.inr (.inl e))
    ·exact Decidable.byContradiction λ e=>ej (.inr (.inr (.inr e)))
   obtain⟨hn1,hn2,hn3⟩:=hn
   have rI:∀q∈p.Kids,q.dZ<=1000:=λ q hq=>by
    have:=hr.dZ p (by simp);have:=aa.aB3 hq;omega
   have hk:=hp.kinds ho;unfold bE at hm
   split at hm
   ·rename_i h1;rcases List.mem_append.1 hm with hm|hm
    ·obtain⟨n,_,rfl⟩:=List.mem_map.1 hm;cases hp with
     |any _ _ e=>rw[e]at ho;cases ho
     |flat _ _ _ e=>exact key _ (by rw[e];rfl) (λ i q u hq _=>by rw[e]at hq;simp at hq) rI
     |aZ _ _ e1 e2 _ _=>omega
     |ctor _ _ _ e1 e2 _ _ _=>omega
    ·rw[mem_singleton]at hm;subst hm;cases hn1
   ·rename_i h1;unfold mR at hm
    split at hm
    ·rename_i h6;rw[mem_singleton]at hm;subst hm;cases hp with
     |any _ _ e=>rw[e]at ho;cases ho
     |flat _ _ e _=>omega
     |aZ _ _ e1 e2 e3 e4=>exact key _ e3 e4 rI
     |ctor _ _ _ e1 e2 _ _ _=>omega
    split at hm
    ·rename_i h6 h3;rw[mem_singleton]at hm;subst hm;cases hp with
     |any _ _ e=>rw[e]at ho;cases ho
     |flat _ _ _ e=>exact key _ (by rw[e];rfl) (λ i q u hq _=>by rw[e]at hq;simp at hq) rI
     |aZ _ _ e1 e2 _ _=>omega
     |ctor _ _ _ e1 e2 _ _ _=>omega
    split at hm
    ·rename_i h6 h3 h2
     have hks:h.ks= []:=by
      simp only[List.mem_cons,List.not_mem_nil,or_false]at hm;rcases hm with rfl|rfl<;>rfl
     cases hp with
     |any _ _ e=>rw[e]at ho;cases ho
     |flat _ _ _ e=>exact key _ (by rw[e,hks];rfl) (λ i q u hq _=>by rw[e]at hq;simp at hq) rI
     |aZ _ _ e1 e2 _ _=>omega
     |ctor _ _ _ e1 e2 _ _ _=>omega
    split at hm
    ·rename_i h6 h3 h2 h7;cases hi:fh list t.Name with
     |none=>rw[hi]at hm;cases hm
     |some d=>
      rw[hi]at hm;obtain⟨c,hc,rfl⟩:=List.mem_map.1 hm;have hn3:p.Name=c.Name:=hn3;cases hp with
      |any _ _ e=>rw[e]at ho;cases ho
      |flat _ _ e _=>omega
      |aZ _ _ e1 e2 _ _=>omega
      |ctor _ _ ks e1 e2 e3 e4 e5=>
       have hks:(oO t c).ks=ks:=by
        unfold oK at e3;rw[if_pos h7,hi]at e3;simp only at e3;cases hf:d.br.find? (λ c'=>decide (c'.Name=p.Name))with
        |none=>rw[hf]at e3;simp at e3
        |some c'=>
         rw[hf]at e3;have h8:=mem_of_find?_eq_some hf;have h9:=List.find?_some hf;simp only[decide_eq_true_eq]at h9;have:c'=c:=hD.uniq d (mem_of_find?_eq_some hi) c' h8 c hc (by rw[h9,hn3]);subst this;simp only[map_some,Option.some.injEq]at e3;rw[←e3];unfold oO;simp only;cases c'.Has<;>rfl
       exact key _ (by rw[hks];exact e4) (by rw[hks];exact e5) rI
    ·cases hm
theorem MQ.under{list:List ad}(hD:DU list){t:ai}{ts:List ai}{rows:List (List aa)}(h:MQ list (t::ts) rows)(ho:bg rows=false){hd:Hd}(hm:hd∈bE list t rows):MQ list (hd.ks++ts) (aR hd rows):=by
 have aK:=(dc hd rows).2 ho;obtain⟨k,hk⟩:∃k,qA rows=k+1:=⟨qA rows- 1,by omega⟩;have htg:TG list (k+1) t:=by rw[←hk];exact h.tg t (by simp)
 obtain⟨h1,h2⟩:=ai4 hD hm htg;have hs:=h.sum;refine⟨?_,λ x hx=> ?_,λ u hu=> ?_,?_⟩
 ·have:(aR hd rows).length<=rows.length:=List.length_filterMap_le _ _;have:=h.len;omega
 ·obtain⟨r,hr,hu⟩:=List.mem_filterMap.1 hx;exact(h.row r hr).under hD hm hu
 ·rcases List.mem_append.1 hu with hu|hu
  ·exact(h2 u hu).mono (by omega)
  ·exact(h.tg u (by simp[hu])).mono (by omega)
 ·simp only[length_append,length_cons]at hs⊢;omega
theorem RT.tail{list:List ad}{t:ai}{ts:List ai}{r:List aa}(h:RT list r (t::ts)):RT list r.tail ts:=by
 have hl:=h.len;rcases r with _|⟨p,r⟩
 ·simp at hl
 simp only[length_cons]at hl;exact⟨by simpa using hl,λ i q u hq hu=>h.tp (i+1) q u (by simpa using hq) (by simpa using hu),λ q hq=>h.dZ q (by simp at hq;simp[hq])⟩
theorem MQ.axb{list:List ad}{t:ai}{ts:List ai}{rows:List (List aa)}(h:MQ list (t::ts) rows):MQ list ts (cF rows):=by
 have:=lI rows;have hs:=h.sum;refine⟨by have:=h.len;simpa [cF]using this,λ x hx=> ?_,λ u hu=>(h.tg u (by simp[hu])).mono this,?_⟩
 ·obtain⟨r,hr,rfl⟩:=List.mem_map.1 hx;exact(h.row r hr).tail
 ·simp only[length_cons]at hs;omega
def abF:List ai->List (List aa)->List aa
 | [],_=>[]
 |t::ts,rows=>if bg rows=true then cw t::abF ts (cF rows)else []
def kt(list:List ad)(ts:List ai)(rows:List (List aa)):List aa:=(dn list ts rows).getD (abF ts rows)
theorem ae1(list:List ad)(t:ai)(ts:List ai)(rows:List (List aa))(h:bg rows=true):kt list (t::ts) rows=cw t::kt list ts (cF rows):=by
 unfold kt;rw[jh _ _ _ _ h,abF,if_pos h];cases dn list ts (cF rows)<;>rfl
theorem jM(list:List ad):∀(ts:List ai) (rows:List (List aa)) (m:List aa),dn list ts rows=some m->m.length=ts.length
 | [],rows,m,h=>by
   rw[pG]at h
   split at h
   ·injection h with h;subst h;rfl
   ·cases h
 |t::ts,rows,m,h=>by
  cases ho:bg rows with
  |true=>
   rw[jh _ _ _ _ ho]at h;obtain⟨m',hm,rfl⟩:=Option.map_eq_some_iff.1 h;simp[jM list ts _ m' hm]
  |false=>
   rw[qT _ _ _ _ ho]at h;obtain⟨hd,gI,hf⟩:=List.exists_of_findSome?_eq_some h;obtain⟨row,mz,rfl⟩:=Option.map_eq_some_iff.1 hf;have:=jM list _ _ row mz;simp only[length_append]at this;simp only[length_cons,List.length_drop];omega
 termination_by ts rows=>(qA rows,ts.length)
 decreasing_by all_goals first
  |(have:=lI rows
    simp only[Prod.lex_def,length_cons];omega)
  |(have:=(dc hd rows).2 ho
    simp only[Prod.lex_def];omega)
theorem aiN:∀(ts:List ai) (rows:List (List aa)),(abF ts rows).length<=ts.length
 | [],_=>le_refl _
 |t::ts,rows=>by
  rw[abF]
  split
  ·have:=aiN ts (cF rows);simp only[length_cons];omega
  ·simp
theorem aiO(list:List ad)(ts:List ai)(rows:List (List aa)):(kt list ts rows).length<=ts.length:=by
 unfold kt;cases h:dn list ts rows with
 |none=>exact aiN ts rows
 |some m=>rw[getD_some,jM list ts rows m h];exact le_refl _
def nh(list:List ad)(ts:List ai)(rows:List (List aa)):AV:= .aZ [.sl ((kt list ts rows).map aa.av),.v (.bool (dn list ts rows).isSome)]
theorem vK(list:List ad)(ts:List ai)(rows:List (List aa)):(nh list ts rows).ag=true:=by
 have:AV.ae ((kt list ts rows).map aa.av)=true:=bt aa.ag;simp only[nh,AV.ag,AV.ae,this,Bool.and_true]
def qh(list:List ad)(ts:List ai)(rows:List (List aa))(h:Hd):Option (List aa):=(dn list (h.ks++ts) (aR h rows)).map λ row=>h.p.cP (row.take h.ks.length)::row.drop h.ks.length
theorem pv(list:List ad)(t:ai)(ts:List ai)(rows:List (List aa))(h:bg rows=false):dn list (t::ts) rows=(bE list t rows).findSome? (qh list ts rows):=qT list t ts rows h
theorem aal(l:List Int):(fy l).length<=l.length:=by
 rw[←rj];have:=Lib.compact_length_le (srt l);rwa [pc]at this
theorem xO{list:List ad}(hD:DB list)(t:ai){rows:List (List aa)}(hl:rows.length<=1000):(bE list t rows).length<=1001:=by
 unfold bE
 split
 ·have h1:=aal (rows.filterMap iD);have h2:(rows.filterMap iD).length<=rows.length:=List.length_filterMap_le _ _;simp only[length_append,length_map,length_cons,length_nil];omega
 ·unfold mR
  split
  ·simp
  split
  ·simp
  split
  ·simp
  split
  ·split
   ·rename_i d hi;have:=(hD.ct d (mem_of_find?_eq_some hi)).1;rw[length_map];omega
   ·simp
  ·simp
theorem ae2{list:List ad}{t:ai}{ts:List ai}{rows:List (List aa)}(ho:bg rows=false)(h:dn list (t::ts) rows=none):kt list (t::ts) rows= []:=by
 unfold kt;rw[h,abF,if_neg (by rw[ho];simp)]
 rfl
end Go.Ab
namespace Go.Proofs.Ab
open Go.Ab
theorem aFv(l:List Hd):AV.ae (l.map Hd.av)=true:=bt Hd.ag
theorem aav(list:List ad)(hD:DU list):∀(ts:List ai) (rows:List (List aa)),MQ list ts rows->aW Tryz.prog F.hQ [.sl (list.map ad.av),.sl (ts.map ai.av),dq rows] (nh list ts rows)
 | [],rows,hM=>by
   have e:nh list [] rows= .aZ [.sl [],.v (.bool (decide (rows= [])))]:=by
    unfold nh kt;rw[pG,abF]
    split<;>rename_i h<;>simp[h]
   rw[e];refine aW.aGx (a:= .an) ?_ .nil;refine T.sm rfl (by simp only[AV.ae,AV.ag,fq,jF,map_nil,Bool.and_true]) ?_;have z0:decide (((0:Nat):Int)=0)=true:=rfl;simp only[T.hQ,dq,map_nil,length_nil,z0,WA]
   have:decide ((rows.length:Int)=0)=decide (rows= []):=by
    cases rows<;>simp<;>omega
   simp only[this]
 |t::ts,rows,hM=>by
  have hb:=RT.rb hM;have hs:=hM.sum;have htw:=(hM.tg t (by simp)).wt;simp only[length_cons]at hs;have hn:AV.ae [.sl (list.map ad.av),.sl ((t::ts).map ai.av),dq rows]=true:=by simp only[AV.ae,AV.ag,fq,mO,jF,Bool.and_true]
  have hw:∀(l:List ai) (y:AV),y∈l.map ai.av->y.cells.length=4:=λ l y hy=>by obtain⟨z,_,rfl⟩:=List.mem_map.1 hy;exact ai.width z
  have hwp:∀(l:List aa) (y:AV),y∈l.map aa.av->y.cells.length=8:=λ l y hy=>by obtain⟨z,_,rfl⟩:=List.mem_map.1 hy;exact aa.width z
  have htl:List.drop (Int.toNat 1) (List.take (ts.length+1) (t.av::ts.map ai.av))=ts.map ai.av:=sP (by simp);have hhl:=xO hD.toDB t (rows:=rows) (by have:=hb.len;omega);have ay9:∀x,(bE list t rows).findSome? (qh list ts rows)=x->bg rows=false->dn list (t::ts) rows=x:=λ x h ho=>by rw[pv _ _ _ _ ho,h]
  refine aW.aGx (a:=if bg rows=false/\dn list (t::ts) rows=none then .an else .sl ((kt list (t::ts) rows).map aa.av)) ?_ (by
   split
   ·rename_i h;rw[ae2 h.1 h.2];exact .nil
   ·exact .refl _)
  refine T.sm rfl hn ?_;have hz:decide (((ts.length+1:Nat):Int)=0)=false:=decide_eq_false (by omega);simp only[T.hQ,map_cons,length_cons,length_map,hz,WA];refine aJ (ajv rows hb) ?_;simp only[WA];refine aA (λ ho=> ?_) (λ ho=> ?_)
  ·simp(disch:=exact ai.width _) only[htl,length_cons,length_map,WA,Int.reduceLE];refine⟨by omega,by omega,?_,?_⟩
   ·intro y hy;rcases hy with rfl|hy
    ·exact ai.width _
    ·exact hw ts y hy
   refine bH ((arW rows hb).nl (jg _)) (sT (jg _)) ?_;simp only[WA];refine bH (aav list hD ts (cF rows) hM.axb).nl3 (vK _ _ _) ?_;have hwl:=aiO list ts (cF rows);simp(disch:=exact ai.width _) only[nh,j5,ai.B,length_cons,WA,Nat.reduceAdd];refine bH (alj t (by omega)) (aa.ag _) ?_;simp only[aa.E,length_map,WA,Nat.reduceAdd];refine⟨hwp _,by omega,by omega,?_⟩;rw[if_neg (by rw[ho];simp),ae1 _ _ _ _ ho,jh _ _ _ _ ho,Option.isSome_map]
   rfl
  ·simp only[WA];refine aw ?_;simp(disch:=exact ai.width _) only[j5,ai.B,length_cons,WA,Nat.reduceAdd];refine bH (ai3 list t rows hD.toDB hb (hM.hq ho)) (aFv _) ?_;simp only[length_map,WA];refine bk (bE list t rows) (λ i (_:Unit)=>[aD i]) (λ i rest _=>(bE list t rows).findSome? (qh list ts rows)=rest.findSome? (qh list ts rows)) () rfl rfl (λ i k rest b hi hx hm ez hd hg=> ?_) (λ b hd hg=> ?_)
   ·simp only[hd,WA];refine aw ?_;simp only[WA];rw[ez Hd.av 10 _ _ (Hd.width _)];simp(disch:=exact ai.width _) only[Hd.B,htl,length_cons,length_map,WA,Nat.reduceAdd,Int.reduceLE];have aK:=(dc k rows).2 ho;obtain⟨n,pH⟩:∃n,qA rows=n+1:=⟨qA rows- 1,by omega⟩;have htg:TG list (n+1) t:=by rw[←pH];exact hM.tg t (by simp)
    have hbH:=HB.of hD hm htg;have hks:=hbH.ks;have hp0:=(s8 hm).1;refine⟨by omega,by omega,?_,?_⟩
    ·intro y hy;rcases hy with rfl|hy
     ·exact ai.width _
     ·exact hw ts y hy
    refine bH (az3 k.ks ts (by omega)) (mO _) ?_;simp only[Hd.B,WA,Nat.reduceAdd];refine bH ((agb rows k hb hbH).nl (jg _)) (sT (jg _)) ?_;simp only[WA];refine bH (aav list hD (k.ks++ts) (aR k rows) (hM.under hD ho hm)).nl3 (vK _ _ _) ?_;simp only[nh,WA,Nat.reduceAdd];rw[List.findSome?_cons]at hg;cases hr:dn list (k.ks++ts) (aR k rows)with
    |none=>
     have e0:qh list ts rows k=none:=by unfold qh;rw[hr];rfl
     rw[e0]at hg;simp only[Option.isSome_none,Hd.cells,WA];exact⟨hi,(),hg,by rw[aI (by omega)]⟩
    |some row=>
     have e0:qh list ts rows k=some (k.p.cP (row.take k.ks.length)::row.drop k.ks.length):=by unfold qh;rw[hr];rfl
     rw[e0]at hg;have hrl:=jM list _ _ _ hr;have hwr:kt list (k.ks++ts) (aR k rows)=row:=by unfold kt;rw[hr];rfl
     rw[hwr];simp only[Option.isSome_some,Hd.cells,length_map,WA,Nat.reduceAdd];have u4:=ay9 _ hg ho;simp only[length_append]at hrl;refine aG [.sl ((row.take k.ks.length).map aa.av)] rfl ?_ ?_
     ·simp only[WA];refine aC (λ hq=> ?_) (λ hq=> ?_)
      ·simp only[length_map,WA,Int.reduceLE];refine⟨by omega,hwp _,?_⟩;simp[List.map_take]
      ·simp only[Hd.cells,hp0,WA];rw[show k.ks.length=0 by omega]
       rfl
     ·simp only[Hd.cells,length_map,WA,Nat.reduceAdd]
      have e5:List.drop k.ks.length (List.take row.length (row.map aa.av))=(row.drop k.ks.length).map aa.av:=by
       rw[List.take_of_length_le (by simp),List.map_drop]
      rw[e5];refine⟨by omega,by omega,hwp _,hwp _,by simp;omega,by simp;omega,?_⟩;have e6:dn list (t::ts) rows=some (k.p.cP (row.take k.ks.length)::row.drop k.ks.length):=u4;have e7:kt list (t::ts) rows=k.p.cP (row.take k.ks.length)::row.drop k.ks.length:=by unfold kt;rw[e6];rfl
      rw[if_neg (by rw[e6];simp),e7,e6,map_cons];have e8:(k.p.cP (row.take k.ks.length)).av=AV.agg [aD k.p.Kind,aD k.p.fM,AV.v (Value.string k.p.Name),aD k.p.T.Kind,aD k.p.T.N,AV.v (Value.string k.p.T.Name),AV.sl (List.map ai.av k.p.T.Kids),AV.sl (List.map aa.av (List.take k.ks.length row))]:=(aa.eta _).symm;rw[e8]
      rfl
   ·rw[List.findSome?_nil]at hg;have u4:=ay9 _ hg ho;simp only[hd,WA];rw[if_pos ⟨ho,u4⟩,u4]
    rfl
 termination_by ts rows=>(qA rows,ts.length)
 decreasing_by all_goals first
  |(have:=lI rows
    simp only[Prod.lex_def,length_cons];omega)
  |(have:=(dc k rows).2 ho
    simp only[Prod.lex_def];omega)
theorem amT(O:List aj)(K:KT):apc (.qk false) [.an] O K=k1 (.v (.bool true)) O K:=by simp[apc,puK,zR,AV.ae,AV.ag,k1]
theorem amS(x:AV)(l:List AV)(hn:AV.ae (x::l)=true)(O:List aj)(K:KT):apc (.qk false) [.sl (x::l)] O K=k1 (.v (.bool false)) O K:=by
 have:AV.ae [.sl (x::l)]=true:=by simp only[AV.ae,AV.ag,Bool.and_true]at hn⊢;exact hn
 simp[apc,puK,zR,this,k1]
theorem aCX(rows:List (List aa))(hl:rows.length<=100000):vv Tryz.prog F.bp [nlL (rows.map jX)] true 28 1 (rows.map jX):=by
 unfold vv;rcases rows with _|⟨r,rows⟩
 ·refine gx A.fo rfl ?_;simp only[A.bp,map_nil,nlL,amT,↓OD,OA,seval];exact aix (.inl rfl) rfl
 ·have e:nlL ((r::rows).map jX)= .sl (jX r::rows.map jX):=by
    unfold nlL;rw[if_neg (by simp)]
    rfl
  have hn:AV.ae (jX r::rows.map jX)=true:=jg (r::rows);rw[e];refine gx A.fo rfl ?_;simp only[length_cons]at hl;simp only[A.bp,map_cons,length_cons,length_map,amS _ _ hn,↓OD,OA,seval];refine⟨λ y hy=> ?_,by omega,by unfold maxLen;omega,?_⟩
  ·rcases List.mem_cons.1 hy with rfl|hy
   ·rfl
   ·obtain⟨z,_,rfl⟩:=List.mem_map.1 hy
    rfl
  ·rw[show rows.length+1=(jX r::rows.map jX).length by simp];exact aiw (.inl rfl) rfl (by simp[fp]) hn
theorem adR(list:List ad)(hD:DU list):∀(ts:List ai) (rows:List (List aa)) (q:List aa),MQ list ts (rows++ [q])->aW Tryz.prog F.gZ [.sl (list.map ad.av),.sl (ts.map ai.av),nlL (rows.map jX),jX q] (.v (.bool (fi list ts rows q)))
 | [],rows,q,hM=>by
   rw[uz];have hn:AV.ae [.sl (list.map ad.av),.sl ([].map ai.av),nlL (rows.map jX),jX q]=true:=by simp only[AV.ae,AV.ag,fq,sT (jg rows),pC,map_nil,Bool.and_true]
   have z0:decide (((0:Nat):Int)=0)=true:=rfl;refine T.tP rfl hn ?_;rcases rows with _|⟨r,rows⟩
   ·simp only[T.gZ,map_nil,length_nil,z0,nlL,if_true,WA]
    rfl
   ·have e:nlL (jX r::rows.map jX)= .sl (jX r::rows.map jX):=by
      unfold nlL;rw[if_neg (by simp)]
    have z1:decide (((rows.length+1:Nat):Int)=0)=false:=decide_eq_false (by omega);simp only[T.gZ,map_nil,map_cons,length_nil,z0,e,length_cons,length_map,z1,WA]
    rfl
 |t::ts,rows,[],hM=>by
  have:=(hM.row [] (by simp)).len;simp at this
 |t::ts,rows,p::q,hM=>by
  have hb:=RT.rb hM;have hbr:RB rows:=⟨by have:=hb.len;simp only[length_append]at this;omega,λ r hr=>hb.row r (by simp[hr])⟩;have hbq:=hb.row (p::q) (by simp);have hpk:=hbq.2.2 p (by simp);have hql:=hbq.2.1;simp only[length_cons]at hql;have hs:=hM.sum;have htw:=(hM.tg t (by simp)).wt;have hrl:=hbr.len;simp only[length_cons]at hs;have hn:AV.ae [.sl (list.map ad.av),.sl ((t::ts).map ai.av),nlL (rows.map jX),jX (p::q)]=true:=by simp only[AV.ae,AV.ag,fq,mO,sT (jg rows),pC,Bool.and_true]
  have hw:∀(l:List ai) (y:AV),y∈l.map ai.av->y.cells.length=4:=λ l y hy=>by obtain⟨z,_,rfl⟩:=List.mem_map.1 hy;exact ai.width z
  have hwp:∀(l:List aa) (y:AV),y∈l.map aa.av->y.cells.length=8:=λ l y hy=>by obtain⟨z,_,rfl⟩:=List.mem_map.1 hy;exact aa.width z
  have htl:List.drop (Int.toNat 1) (List.take (ts.length+1) (t.av::ts.map ai.av))=ts.map ai.av:=sP (by simp);have aQp:List.drop (Int.toNat 1) (List.take (q.length+1) (p.av::q.map aa.av))=q.map aa.av:=sP (by simp)
  have hw1:∀y:AV,y=t.av∨y∈ts.map ai.av->y.cells.length=4:=λ y hy=>by
   rcases hy with rfl|hy
   ·exact ai.width _
   ·exact hw ts y hy
  have hw2:∀y:AV,y=p.av∨y∈q.map aa.av->y.cells.length=8:=λ y hy=>by
   rcases hy with rfl|hy
   ·exact aa.width _
   ·exact hwp q y hy
  have hhl:=xO hD.toDB t (rows:=rows++ [p::q]) (by have:=hb.len;omega);have hz:decide (((ts.length+1:Nat):Int)=0)=false:=decide_eq_false (by omega);refine T.tP rfl hn ?_;simp only[T.gZ,map_cons,length_cons,length_map,hz,WA];refine aw ?_;simp only[WA];refine aG [.v (.bool (fg p&&bg rows))] rfl ?_ ?_
  ·simp(disch:=exact aa.width _) only[jX,map_cons,j5,aa.B,WA,Nat.reduceAdd];refine aJ (afh p) ?_;simp only[WA];refine aA (λ ho=> ?_) (λ ho=> ?_)
   ·simp only[WA];refine aJ (ajv rows hbr).nl1 ?_;simp only[ho,Bool.true_and,WA]
   ·simp only[ho,Bool.false_and,WA]
  ·simp only[WA];refine aA (λ hb2=> ?_) (λ hb2=> ?_)
   ·rw[and_eq_true]at hb2;rw[sG _ _ _ _ _ _ hb2];simp(disch:=exact ai.width _) only[jX,map_cons,htl,length_cons,length_map,WA,Int.reduceLE];refine⟨by omega,by omega,hw1,?_⟩;refine bH (((arW rows hbr).nl (jg _))).nl1 (sT (jg _)) ?_;simp(disch:=exact ai.width _) only[aQp,length_cons,length_map,WA,Int.reduceLE];refine⟨by omega,by omega,hw2,?_⟩
    have hM2:MQ list ts (cF rows++ [q]):=by
     have:=hM.axb;rwa [show cF (rows++ [p::q])=cF rows++ [q] by simp[cF]]at this
    refine aJ (adR list hD ts (cF rows) q hM2) ?_;simp only[WA]
   ·have ej:¬(fg p=true/\bg rows=true):=by
      rw[←and_eq_true,hb2];simp
    have hoo:bg (rows++ [p::q])=false:=by
     unfold bg at ej⊢;rw[List.all_append,Bool.and_eq_false_iff];cases h1:rows.all oo with
     |false=>exact .inl rfl
     |true=>
      refine .inr ?_;cases h2:fg p with
      |false=>simp[oo,h2]
      |true=>exact absurd ⟨h2,h1⟩ ej
    rw[rv _ _ _ _ _ _ ej];refine asA (aCX rows (by omega)) (jg _) ?_;simp only[vT,length_map,WA,Nat.reduceLeDiff];refine⟨rfl,λ y hy=>by rw[hy];rfl,by omega,by omega,?_⟩;have ers:AV.sl (rows.map jX++ [jX (p::q)])=dq (rows++ [p::q]):=by simp[dq]
    refine aw ?_;simp(disch:=exact ai.width _) only[j5,ai.B,ers,WA,Nat.reduceAdd];refine bH (ai3 list t (rows++ [p::q]) hD.toDB hb (hM.hq hoo)) (aFv _) ?_;simp only[length_map,WA];refine bk (bE list t (rows++ [p::q])) (λ i (_:Unit)=>[aD i]) (λ i rest _=>(bE list t (rows++ [p::q])).any (adS list ts rows (p::q))=rest.any (adS list ts rows (p::q))) () rfl rfl (λ i k rest b hi hx hm ez hd hg=> ?_) (λ b hd hg=> ?_)
    ·have aK:=(dc k (rows++ [p::q])).2 hoo;obtain⟨n,pH⟩:∃n,qA (rows++ [p::q])=n+1:=⟨qA (rows++ [p::q])- 1,by omega⟩;have htg:TG list (n+1) t:=by rw[←pH];exact hM.tg t (by simp)
     have hbH:=HB.of hD hm htg;have hks:=hbH.ks;simp only[hd,WA];refine aw ?_;simp only[WA];rw[ez Hd.av 10 _ _ (Hd.width _)];simp only[Hd.B,WA,Nat.reduceAdd];refine bH (arM p q k hbH.wt hbH.ks (by omega) hpk) (adU _) ?_;have hM3:=hM.under hD hoo hm;rw[List.any_cons]at hg;cases hu:eb k (p::q)with
     |none=>
      simp only[xe,WA,Nat.reduceAdd];refine aG [.v (.bool false)] rfl ?_ ?_
      ·simp only[WA]
      ·simp only[Hd.cells,WA];have e0:adS list ts rows (p::q) k=false:=by unfold adS;rw[hu]
       rw[e0,Bool.false_or]at hg;exact⟨hi,(),hg,by rw[aI (by omega)]⟩
     |some x=>
      have hxl:x.length<=100000:=by
       have h1:=(hM3.row x (by unfold aR;rw[List.filterMap_append];simp[hu])).len;have h2:=hM3.sum;omega
      have e0:adS list ts rows (p::q) k=fi list (k.ks++ts) (aR k rows) x:=by unfold adS;rw[hu]
      have hM4:MQ list (k.ks++ts) (aR k rows++ [x]):=by
       have:aR k (rows++ [p::q])=aR k rows++ [x]:=by unfold aR;rw[List.filterMap_append];simp[hu]
       rwa [this]at hM3
      simp only[xe,WA,Nat.reduceAdd];refine aG [.v (.bool (adS list ts rows (p::q) k))] rfl ?_ ?_
      ·simp(disch:=exact ai.width _) only[htl,Hd.B,map_cons,length_cons,length_map,WA,Int.reduceLE];refine⟨by omega,by omega,hw1,?_⟩;refine bH (az3 k.ks ts (by omega)) (mO _) ?_;simp only[Hd.B,WA,Nat.reduceAdd];refine bH ((agb rows k hbr hbH).nl (jg _)).nl1 (sT (jg _)) ?_;simp only[WA];refine aJ (adR list hD (k.ks++ts) (aR k rows) x hM4) ?_;simp only[e0,WA]
      ·simp only[WA];refine aA (λ h=> ?_) (λ h=> ?_)
       ·rw[h,Bool.true_or]at hg;simp only[hg,WA]
       ·rw[h,Bool.false_or]at hg;simp only[Hd.cells,WA];exact⟨hi,(),hg,by rw[aI (by omega)]⟩
    ·rw[List.any_nil]at hg;simp only[hd,hg,WA]
 termination_by ts rows q=>(qA (rows++ [q]),ts.length)
 decreasing_by all_goals first
  |(have:=lI (rows++ [p::q])
    rw[show cF (rows++ [p::q])=cF rows++ [q] by simp[cF]]at this;simp only[Prod.lex_def,length_cons];omega)
  |(have e:aR k (rows++ [p::q])=aR k rows++ [x]:=by unfold aR;rw[List.filterMap_append];simp[hu]
    have:=(dc k (rows++ [p::q])).2 hoo;rw[e]at this;simp only[Prod.lex_def];omega)
end Go.Proofs.Ab
namespace Go.Ab
def rD(bG:List Int)(k:Nat)(w:Int):List Int:=bG.take k++w::bG.drop k
theorem anq{bG:List Int}{k:Nat}{w:Int}(hk:k<=bG.length):(rD bG k w).length=bG.length+1:=by
 simp only[rD,length_append,List.length_take,length_cons,List.length_drop];omega
theorem anr{bG:List Int}{k:Nat}{w:Int}(hk:k<=bG.length)(h0:0<k):((rD bG k w).map aD).getD (k- 1) .top=aD (bG.getD (k- 1) 0):=by
 have h1:(rD bG k w)[k- 1]? =some (bG.getD (k- 1) 0):=by
  unfold rD;rw[List.getElem?_append_left (by simp;omega),List.getElem?_take,if_pos (by omega),getElem?_eq_getElem (by omega)];simp[List.getD,getElem?_eq_getElem (show k- 1<bG.length by omega)]
 simp only[List.getD,getElem?_map,h1,map_some,getD_some]
theorem asj{bG:List Int}{k:Nat}{w:Int}(hk:k<=bG.length):((rD bG k w).map aD).getD k .top=aD w:=by
 have h1:(rD bG k w)[k]? =some w:=by
  unfold rD;rw[List.getElem?_append_right (by simp[Nat.min_le_left])];simp[Nat.min_eq_left hk]
 simp only[List.getD,getElem?_map,h1,map_some,getD_some]
theorem anp{bG:List Int}{k:Nat}{w y:Int}(hk:k<=bG.length):((rD bG k w).map aD).set k (aD y)=(rD bG k y).map aD:=by
 have e:(bG.take k).length=k:=by simp[Nat.min_eq_left hk]
 rw[←List.map_set];congr 1;unfold rD;rw[List.set_append_right _ _ (by omega),e,Nat.sub_self]
 rfl
theorem auz{bG:List Int}{k:Nat}(hk:k<=bG.length)(h0:0<k):bG.drop (k- 1)=bG.getD (k- 1) 0::bG.drop k:=by
 have aK:k- 1<bG.length:=by omega
 have:=List.drop_eq_getElem_cons aK;rw[show k- 1+1=k by omega]at this;rw[this];simp[List.getD,getElem?_eq_getElem aK]
theorem air{bG:List Int}{k:Nat}(hk:k<=bG.length)(h0:0<k):bG.take k=bG.take (k- 1)++ [bG.getD (k- 1) 0]:=by
 have aK:k- 1<bG.length:=by omega
 have:=List.take_add_one (i:=k- 1) (l:=bG);rw[show k- 1+1=k by omega]at this;rw[this,getElem?_eq_getElem aK];simp[List.getD,getElem?_eq_getElem aK]
theorem aA5{bG:List Int}{k:Nat}{n:Int}(hs:bG.Pairwise (·<·))(hk:k<=bG.length)(h:0<k->bG.getD (k- 1) 0<n):∀x∈bG.take k,x<n:=by
 intro x hx;rcases Nat.eq_zero_or_pos k with h0|h0
 ·rw[h0]at hx;simp at hx
 ·have hn:=h h0;have h1:(bG.take k).Pairwise (·<·):=hs.sublist (List.take_sublist _ _);rw[air hk h0]at hx h1;rcases List.mem_append.1 hx with hx|hx
  ·have:=(List.pairwise_append.1 h1).2.2 x hx _ (List.mem_singleton.2 rfl);omega
  ·rw[mem_singleton]at hx;omega
theorem atY{bG:List Int}{k:Nat}(hk:k<=bG.length)(h0:0<k):rD bG k (bG.getD (k- 1) 0)=rD bG (k- 1) (bG.getD (k- 1) 0):=by
 have aK:k- 1<bG.length:=by omega
 have e1:bG.take k=bG.take (k- 1)++ [bG.getD (k- 1) 0]:=by
  have:=List.take_add_one (i:=k- 1) (l:=bG);rw[show k- 1+1=k by omega]at this;rw[this,getElem?_eq_getElem aK];simp[List.getD,getElem?_eq_getElem aK]
 have e2:bG.drop (k- 1)=bG.getD (k- 1) 0::bG.drop k:=by
  have:=List.drop_eq_getElem_cons aK;rw[show k- 1+1=k by omega]at this;rw[this];simp[List.getD,getElem?_eq_getElem aK]
 unfold rD;rw[e1,e2];simp
theorem aCe{bG:List Int}{n:Int}{k:Nat}(hs:bG.Pairwise (·<·))(h1:∀x∈bG.take k,x<n)(h2:∀x∈bG.drop k,n<x):rD bG k n=xD n bG:=by
 refine sO _ _ ?_ (uZ hs) λ x=> ?_
 ·have hs':(bG.take k++bG.drop k).Pairwise (·<·):=by rw[List.take_append_drop];exact hs
  obtain⟨p1,p2,p3⟩:=List.pairwise_append.1 hs';refine List.pairwise_append.2 ⟨p1,List.pairwise_cons.2 ⟨h2,p2⟩,λ a ha b hb=> ?_⟩;rcases List.mem_cons.1 hb with rfl|hb
  ·exact h1 a ha
  ·exact p3 a ha b hb
 ·rw[yK];unfold rD;rw[List.mem_append,List.mem_cons];have:x∈bG↔x∈bG.take k∨x∈bG.drop k:=by rw[←List.mem_append,List.take_append_drop]
  rw[this];constructor
  ·rintro(h|h|h)
   ·exact .inr (.inl h)
   ·exact .inl h
   ·exact .inr (.inr h)
  ·rintro(h|h|h)
   ·exact .inr (.inl h)
   ·exact .inl h
   ·exact .inr (.inr h)
def aPL(t:ai):AV:= .agg [aD 6,aD 0,.v (.string ⟨#[]⟩),aD 0,aD 0,.v (.string ⟨#[]⟩),.an,.sl ((t.Kids.map cw).map aa.av)]
def abv(k n:Int):AV:= .agg [aD k,aD n,.v (.string ⟨#[]⟩),aD 0,aD 0,.v (.string ⟨#[]⟩),.an,.an]
def amF(t:ai)(c:ak):AV:= .agg [aD 7,aD 0,.v (.string c.Name),aD t.Kind,aD t.N,.v (.string t.Name),.sl (t.Kids.map ai.av),if c.Has=true then .sl [(cw (c.Arg.put 10 t.Kids)).av]else .an]
def xM(list:List ad)(t:ai)(rows:List (List aa)):List AV:=
 if t.Kind=6 then [aPL t]else if t.Kind=3 then [abv 5 0]else if t.Kind=2 then [abv 4 0,abv 4 1]
 else if t.Kind=7 then(match fh list t.Name with
  |some d=>d.br.map (amF t)
  |none=>[])
 else(fy (rows.filterMap iD)).map (abv 3)++ [(cw t).av]
def Hd.spa(h:Hd):AV:=h.sp.av
theorem Hd.xl(h:Hd):h.spa=AV.agg [aD h.p.Kind,aD h.p.fM,.v (.string h.p.Name),aD h.p.T.Kind,aD h.p.T.N,.v (.string h.p.T.Name),.sl (h.p.T.Kids.map ai.av),.sl ((h.ks.map cw).map aa.av)]:=(aa.eta h.sp).symm
theorem aAv(t:ai):LeA (cw t).av (po t).spa:=by
 rw[Hd.xl,zI];exact .mk (.refl _)
theorem aue(list:List ad)(t:ai)(rows:List (List aa))(hk:t.Kind=1∨t.Kind=2∨t.Kind=3∨t.Kind=6∨t.Kind=7):lH (xM list t rows) ((bE list t rows).map Hd.spa):=by
 have e:AV.oY .an (.sl ([].map ai.av)):= .nil;have e':AV.oY .an (.sl (([].map cw).map aa.av)):= .nil;have r:=AV.oY.refl
 have flat:∀(k n:Int) (o:Bool),LeA (abv k n) (Hd.spa ⟨.mk k n ⟨#[]⟩ noT [],[],o⟩):=λ k n o=>by
  rw[Hd.xl];exact .mk (.cons (r _) (.cons (r _) (.cons (r _) (.cons (r _) (.cons (r _) (.cons (r _) (.cons e (.cons e' .nil))))))))
 unfold xM bE mR;rcases hk with h|h|h|h|h<;>simp only[h,show¬((1:Int)=6) by decide,show¬((1:Int)=3) by decide,show¬((1:Int)=2) by decide,show¬((1:Int)=7) by decide,show¬((2:Int)=6) by decide,show¬((2:Int)=3) by decide,show¬((2:Int)=1) by decide,show¬((3:Int)=6) by decide,show¬((3:Int)=1) by decide,show¬((6:Int)=1) by decide,show¬((7:Int)=1) by decide,show¬((7:Int)=2) by decide,show¬((7:Int)=3) by decide,show¬((7:Int)=6) by decide,if_true,if_false]
 ·rw[List.map_append];refine .app ?_ (.cons (aAv t) .nil);rw[map_map];exact .map λ n _=>flat 3 n false
 ·exact .cons (flat 4 0 false) (.cons (flat 4 1 false) .nil)
 ·exact .cons (flat 5 0 false) .nil
 ·refine .cons ?_ .nil;rw[Hd.xl];exact .mk (.cons (r _) (.cons (r _) (.cons (r _) (.cons (r _) (.cons (r _) (.cons (r _) (.cons e (.cons (r _) .nil))))))))
 ·cases fh list t.Name with
  |none=>exact .nil
  |some d=>
   simp only;rw[map_map];refine .map λ c _=> ?_
   show LeA (amF t c) (oO t c).spa;rw[Hd.xl];refine .mk (.cons (r _) (.cons (r _) (.cons (r _) (.cons (r _) (.cons (r _) (.cons (r _) (.cons (r _) (.cons ?_ .nil))))))));unfold oO;simp only;cases c.Has with
   |true=>exact r _
   |false=>exact .nil
end Go.Ab
namespace Go.Proofs.Ab
open Go.Ab
theorem yV(list:List ad)(name:ByteArray)(hl:list.length<=1000):aW Tryz.prog F.iY [.sl (list.map ad.av),.v (.string name)] (aD (fQ (λ d=>decide (d.Name=name)) list 0)):=by
 refine T.aca rfl (by simp only[AV.ae,AV.ag,fq,Bool.and_true]) ?_;simp only[T.iY,WA,seval];refine aw ?_;simp only[WA,seval];refine bk list (λ i (_:Unit)=>[aD i]) (λ i rest _=>fQ (λ d=>decide (d.Name=name)) list 0=fQ (λ d=>decide (d.Name=name)) rest i) () rfl rfl (λ i k rest b hi hx hm ez hd hg=> ?_) (λ b hd hg=> ?_)
 ·rw[fQ]at hg;simp only[length_map,hd,WA,seval];rw[ez ad.av 3 _ _ (ad.width _)];simp only[ad.cells,WA,seval];refine aC (λ h=> ?_) (λ h=> ?_)
  ·rw[decide_eq_true h,if_pos rfl]at hg;simp only[hg,WA,seval]
  ·rw[decide_eq_false h,if_neg (by simp)]at hg;simp(disch:=omega) only[aI,WA,seval];exact⟨hi,(),hg⟩
 ·rw[fQ]at hg;simp only[length_map,hd,hg,WA,seval]
theorem atP(list:List ad)(t:ai)(rows:List (List aa))(hD:DB list)(hb:RB rows)(hq:HQ list t rows):aW Tryz.prog F.dV [.sl (list.map ad.av),t.av,dq rows] (.sl ((bE list t rows).map Hd.spa)):=by
 refine aW.ahb ?_ (aue list t rows hq.kind).sl;have hl0:=hb.len;have hwt:=hq.wt;have htw:=t.dY;have aHl:AV.ae [.sl (list.map ad.av),t.av,dq rows]=true:=by simp only[AV.ae,AV.ag,fq,ai.ag,jF,Bool.and_true]
 refine T.z7 rfl aHl ?_;simp only[T.dV,ai.B,WA,seval];refine bN (λ ws=>t.Kind=1/\ws= []) ?_ ?_
 ·simp only[ai.B,WA,seval];refine aC (λ h6=> ?_) (λ h6=> ?_)
  ·simp only[WA,seval];refine aG [.sl ((t.Kids.map cw).map aa.av)] rfl ?_ ?_
   ·simp only[WA,seval];refine bk t.Kids (λ i (q:List ai)=>[.sl ((q.map cw).map aa.av),aD i]) (λ i rest q=>q++rest=t.Kids/\q.length=i) [] rfl ⟨by simp,rfl⟩ (λ i k rest b hi hx hm ez hd hg=> ?_) (λ b hd hg=> ?_)
    ·obtain⟨hg,hl⟩:=hg;have hkw:=eH ai.wt hm;have e1:IntKind.i64.wrap ((i:Int)+1)=((i+1:Nat):Int):=aI (by omega);simp only[ai.cells,length_map,hd,WA,seval];rw[ez ai.av 4 _ _ (ai.width _)];simp only[ai.B,WA,seval];refine bH (qX k (by omega)) (aa.ag _) ?_;simp only[aa.E,length_map,WA,seval];refine⟨λ y hy=>by rw[hy];exact aa.width _,by omega,by omega,hi,b++ [k],⟨by rw[←hg];simp,by simp[hl]⟩,?_⟩;rw[e1];simp
    ·have j6:b=t.Kids:=by simpa using hg.1
     simp only[ai.cells,length_map,hd,j6,WA,seval]
   ·simp only[WA,seval];rw[xM,if_pos h6];exact⟨λ y hy=>by rw[hy];rfl,rfl⟩
  simp only[ai.B,WA,seval];refine aC (λ h3=> ?_) (λ h3=> ?_)
  ·simp only[WA,seval];rw[xM,if_neg h6,if_pos h3];exact⟨λ y hy=>by rw[hy];rfl,rfl⟩
  simp only[ai.B,WA,seval];refine aC (λ h2=> ?_) (λ h2=> ?_)
  ·simp only[WA,seval];rw[xM,if_neg h6,if_neg h3,if_pos h2];exact⟨λ y hy=>by rcases hy with rfl|rfl<;>rfl,rfl⟩
  simp only[ai.B,WA,seval];refine aC (λ h7=> ?_) (λ h7=> ?_)
  ·obtain⟨d,hd0⟩:=hq.dat h7;have hdm:d∈list:=mem_of_find?_eq_some hd0;obtain⟨hd1,hd2⟩:=hD.ct d hdm;have hlen:=hD.len;obtain⟨n,hn1,hn2⟩:=kN (p:=λ d=>decide (d.Name=t.Name)) (λ _=>rfl) list 0 hd0;have aqb:=yV list t.Name (by omega);rw[hn1,Nat.add_zero]at aqb;have hnl:n<list.length:=(List.getElem?_eq_some_iff.1 hn2).1;have hdn:list[n]=d:=(List.getElem?_eq_some_iff.1 hn2).2;simp only[ai.cells,WA,seval];refine aJ aqb ?_;simp only[WA,seval];refine fS ad.av hnl (ad.width _) ?_;rw[hdn];simp only[ad.B,WA,seval];refine aG [.sl (d.br.map (amF t))] rfl ?_ ?_
   ·simp only[WA,seval];refine bk d.br (λ i (q:List ak)=>[.sl (q.map (amF t)),aD i]) (λ i rest q=>q++rest=d.br/\q.length=i) [] rfl ⟨by simp,rfl⟩ (λ i k rest b hi hx hm ez hd hg=> ?_) (λ b hd hg=> ?_)
    ·obtain⟨hg,hl⟩:=hg;have e1:IntKind.i64.wrap ((i:Int)+1)=((i+1:Nat):Int):=aI (by omega);have zl:∀K,jE 6 (.sl (d.br.map ak.av)) (.v (.int .i64 (i:Int))) K=gn K k.av:=λ K=>ez ak.av 6 _ _ (ak.width _)
     simp only[ad.cells,length_map,hd,WA,seval];refine aw ?_;simp only[ad.cells,zl,ak.cells,ai.E,WA,seval];refine bH (gm t (by omega)) (ai.ag _) ?_;simp only[ak.B,ai.E,WA,seval];refine aG [if k.Has=true then .sl [(cw (k.Arg.put 10 t.Kids)).av]else .an] rfl ?_ ?_
     ·simp only[ad.cells,zl,ak.B,WA,seval];refine aA (λ hh=> ?_) (λ hh=> ?_)
      ·obtain⟨q1,q2⟩:=hd2 k hm hh
       have hpw:(k.Arg.put 10 t.Kids).wt<=1000:=by
        refine hq.kw (oO t k) ?_ _ ?_
        ·unfold mR;rw[if_neg h6,if_neg h3,if_neg h2,if_pos h7,hd0];exact List.mem_map.2 ⟨k,hm,rfl⟩
        ·unfold oO;simp[hh]
       simp(disch:=exact ak.width _) only[ad.cells,zl,ak.ov,ak.B,ai.E,WA,seval];refine bH (pd k.Arg 10 t.Kids q1 (.inr (.inl rfl)) (by omega) (by omega)) (ai.ag _) ?_;simp only[WA,seval];refine bH (qX _ (by omega)) (aa.ag _) ?_;simp only[aa.E,hh,WA,seval]
      ·simp only[hh,WA,seval]
     ·simp only[ak.B,ai.B,length_map,WA,seval];refine⟨by split<;>rfl,λ y hy=>by rw[hy];rfl,by omega,by omega,hi,b++ [k],⟨by rw[←hg];simp,by simp[hl]⟩,?_⟩;rw[e1];simp[amF]
    ·have j6:b=d.br:=by simpa using hg.1
     simp only[ad.cells,length_map,hd,j6,WA,seval]
   ·simp only[WA,seval];rw[xM,if_neg h6,if_neg h3,if_neg h2,if_pos h7,hd0]
  ·simp only[WA,seval];have:=hq.kind;omega
 ·rintro ws ⟨h1,rfl⟩ _;have hfl:(rows.filterMap iD).length<=rows.length:=List.length_filterMap_le _ _;simp only[WA,seval];refine aG [.sl ((fy (rows.filterMap iD)).map aD)] rfl ?_ ?_
  ·simp only[dq,WA,seval];refine bk rows (λ i (q:List Int)=>[.sl ((fy q).map aD),aD i]) (λ i rest q=>q++rest.filterMap iD=rows.filterMap iD/\q.length<=i) [] rfl ⟨by simp,Nat.zero_le _⟩ (λ i k rest b hi hx hm ez hd hg=> ?_) (λ b hd hg=> ?_)
   ·obtain⟨hg,hl⟩:=hg;have hr:=hb.row k hm;rcases k with _|⟨p,k⟩
    ·exact absurd rfl hr.1
    have hsl:=aal b;have e1:IntKind.i64.wrap ((i:Int)+1)=((i+1:Nat):Int):=aI (by omega);have zl:∀K,jE 1 (.sl (rows.map jX)) (.v (.int .i64 (i:Int))) K=gn K (.sl (p.av::k.map aa.av)):=λ K=>ez jX 1 _ _ (pM _)
    simp only[length_map,hd,WA,seval];refine aw ?_;simp only[WA,seval];refine aG [.v (.bool (decide (p.Kind=3)&& !wh p.fM (fy b)))] rfl ?_ ?_
    ·simp(disch:=exact aa.width _) only[zl,j5,ia,aa.B,WA,seval];refine aC (λ h=> ?_) (λ h=> ?_)
     ·simp(disch:=exact aa.width _) only[zl,j5,ia,aa.B,WA,seval];refine aJ (sI (fy b) p.fM (by omega)) ?_;simp only[decide_eq_true h,Bool.true_and,WA,seval]
     ·simp only[decide_eq_false h,Bool.false_and,WA,seval]
    ·simp only[WA,seval];refine aA (λ h=> ?_) (λ h=> ?_)
     ·rw[and_eq_true,decide_eq_true_eq,Bool.not_eq_true']at h;have e0:iD (p::k)=some p.fM:=by rw[iD,if_pos h.1]
      rw[filterMap_cons,e0]at hg
      have vN:p.fM∉fy b:=by
       intro hin;have:wh p.fM (fy b)=true:=(afK _ _).2 hin;rw[this]at h;cases h.2
      generalize afC:fy b=bG at hsl vN⊢;simp(disch:=exact aa.width _) only[zl,j5,ia,aa.B,length_map,WA,seval];refine⟨λ y hy=>by rw[hy];rfl,by omega,by omega,?_⟩;have hns:bG.Pairwise (·<·):=afC▸kJ b;refine bN (λ ws=>∃(kk:Nat) (w:Int),kk<=bG.length/\(∀x∈bG.take kk,x<p.fM)/\(∀x∈bG.drop kk,p.fM<x)/\ws= [.sl ((rD bG kk w).map aD),aD kk]) ?_ ?_
      ·simp only[WA,seval];refine fK (ι:=Nat×Int) (λ q=>q.1<=bG.length/\∀x∈bG.drop q.1,p.fM<x) (λ q=>[.sl ((rD bG q.1 q.2).map aD),aD q.1]) (λ q=>q.1) (bG.length,p.fM) ⟨le_refl _,by simp⟩ (by simp[rD]) ?_;rintro⟨kk,w⟩ ⟨hk,hgt⟩;have hk:kk<=bG.length:=hk;have hgt:∀x∈bG.drop kk,p.fM<x:=hgt;have hlen:=anq (w:=w) hk;simp only[WA,seval];refine aw ?_;simp only[WA,seval];refine aG [.v (.bool (decide (0<kk)&&decide (p.fM<bG.getD (kk- 1) 0)))] rfl ?_ ?_
       ·simp only[WA,seval];refine aC (λ h0=> ?_) (λ h0=> ?_)
        ·have h0':0<kk:=by omega
         have ew:IntKind.i64.wrap ((kk:Int)- 1)=((kk- 1:Nat):Int):=by rw[cE (by omega) (by omega)];omega
         have hik:kk- 1<bG.length+1:=by omega
         simp(disch:=exact aa.width _) only[ew,zl,j5,ia,aa.B,length_map,hlen,anr hk h0',WA,seval];exact⟨by omega,by omega,by rw[decide_eq_true h0',Bool.true_and]⟩
        ·rw[decide_eq_false (show¬0<kk by omega),Bool.false_and];simp only[WA,seval]
       ·simp only[WA,seval];refine aA (λ hc=> ?_) (λ hc=> ?_)
        ·rw[and_eq_true,decide_eq_true_eq,decide_eq_true_eq]at hc;have ew:IntKind.i64.wrap ((kk:Int)- 1)=((kk- 1:Nat):Int):=by rw[cE (by omega) (by omega)];omega
         simp only[ew,length_map,hlen,anr hk hc.1,asj hk,WA,seval];refine⟨by omega,by omega,by omega,by omega,(kk- 1,bG.getD (kk- 1) 0),⟨by show kk- 1<=_;omega,λ x hx=> ?_⟩,by show kk- 1<kk;omega,?_⟩
         ·have hx:x∈bG.drop (kk- 1):=hx;rw[auz hk hc.1]at hx;rcases List.mem_cons.1 hx with rfl|hx
          ·exact hc.2
          ·exact hgt x hx
         ·have hu:ua (aD w) 0 (aD (bG.getD (kk- 1) 0))=aD (bG.getD (kk- 1) 0):=rfl
          show [AV.sl ((List.map aD (rD bG kk w)).set kk (ua (aD w) 0 (aD (bG.getD (kk- 1) 0)))),_]=_;rw[hu,anp hk,atY hk hc.1]
        ·simp only[WA,seval];refine⟨kk,w,hk,aA5 hns hk λ h0=> ?_,hgt,rfl⟩
         have h2:¬p.fM<bG.getD (kk- 1) 0:=by
          intro h2;rw[decide_eq_true h0,decide_eq_true h2]at hc;cases hc
         have h3:bG.getD (kk- 1) 0∈bG:=by
          have:bG.getD (kk- 1) 0∈bG.take kk:=by rw[air hk h0];simp
          exact List.mem_of_mem_take this
         have h4:bG.getD (kk- 1) 0≠p.fM:=λ e=>vN (e▸h3)
         omega
      ·rintro ws ⟨kk,w,hk,hk1,hk2,rfl⟩ _;have hlen:=anq (w:=w) hk;simp(disch:=exact aa.width _) only[zl,j5,ia,aa.B,length_map,hlen,asj hk,WA,seval];refine⟨by omega,by omega,hi,b++ [p.fM],⟨by rw[←hg];simp,by simp;omega⟩,?_⟩;have hu:ua (aD w) 0 (aD p.fM)=aD p.fM:=rfl
       show [AV.sl ((List.map aD (rD bG kk w)).set kk (ua (aD w) 0 (aD p.fM))),_]=_;rw[e1,hu,anp hk,aCe hns hk1 hk2,xm,afC]
     ·have aM1:fy (b++(iD (p::k)).toList)=fy b:=by
        rw[iD];by_cases h3:p.Kind=3
        ·rw[if_pos h3];rw[decide_eq_true h3,Bool.true_and,Bool.not_eq_false',afK]at h
         show fy (b++ [p.fM])=_;rw[xm,afj (kJ _) h]
        ·rw[if_neg h3]
         show fy (b++ [])=_;rw[List.append_nil]
      simp only[WA,seval];refine⟨hi,b++(iD (p::k)).toList,⟨?_,?_⟩,?_⟩
      ·rw[←hg,filterMap_cons];cases iD (p::k)<;>simp
      ·have:(iD (p::k)).toList.length<=1:=by cases iD (p::k)<;>simp
       rw[length_append];omega
      ·rw[e1,aM1]
   ·have j6:b=rows.filterMap iD:=by simpa using hg.1
    simp only[length_map,hd,j6,WA,seval]
  ·generalize afC:fy (rows.filterMap iD)=bG
   have hsl:bG.length<=100:=by
    have:=aal (rows.filterMap iD);rw[afC]at this;omega
   simp only[WA,seval];refine aG [.sl (bG.map (abv 3))] rfl ?_ ?_
   ·simp only[WA,seval];refine bk bG (λ i (q:List Int)=>[.sl (q.map (abv 3)),aD i]) (λ i rest q=>q++rest=bG/\q.length=i) [] rfl ⟨by simp,rfl⟩ (λ i k rest b hi hx hm ez hd hg=> ?_) (λ b hd hg=> ?_)
    ·obtain⟨hg,hl⟩:=hg;have e1:IntKind.i64.wrap ((i:Int)+1)=((i+1:Nat):Int):=aI (by omega);have hgi:(bG.map aD).getD i .top=aD k:=by simp[List.getD,getElem?_map,hx]
     simp only[hd,hgi,length_map,WA,seval];refine⟨by omega,hi,λ y hy=>by rw[hy];rfl,by omega,by omega,hi,b++ [k],⟨by rw[←hg];simp,by simp[hl]⟩,?_⟩;rw[e1];simp[abv]
    ·have j6:b=bG:=by simpa using hg.1
     simp only[length_map,hd,j6,WA,seval]
   ·simp only[ai.B,WA,seval];refine bH (qX t (by omega)) (aa.ag _) ?_;simp only[aa.E,length_map,WA,seval];refine⟨λ y hy=>by rw[hy];exact aa.width _,by omega,by omega,?_⟩;rw[xM,if_neg (by omega),if_neg (by omega),if_neg (by omega),if_neg (by omega),afC]
end Go.Proofs.Ab
