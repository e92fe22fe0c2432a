/- Part of a proof: the functions that the law reaches, walked by the abstract logic of the texts Ab. -/
import Derived.Test.YtdbbmffachgajaaGreatEvM
import Derived.Test.YtdbbmffachgajaaGreatRigM
set_option maxHeartbeats 4000000
set_option maxRecDepth 100000
open Bool(and_eq_true)
open List(length_cons map_cons sum_cons mem_append all_eq_true sum_append map_append)
set_option linter.unusedVariables false
set_option linter.unusedSimpArgs false
namespace Go.Ab
def leV:Value->Value->Bool
 | .int k n,.int j m=>decide (k=j)&&decide (n=m)
 | .bool a,.bool b=>a==b
 | .string a,.string b=>decide (a.data=b.data)
 |_,_=>false
theorem ayn{a b:Value}(h:leV a b=true):a=b:=by
 cases a<;>cases b<;>simp[leV]at h
 ·rw[h]
 ·rw[h.1,h.2]
 ·rename_i a b;cases a;cases b;simp only at h;rw[h]
mutual
def leB:AV->AV->Bool
 | .an,.an=>true
 | .an,.sl []=>true
 | .v a,.v b=>leV a b
 | .agg cs,.agg ds=>anc cs ds
 | .sl xs,.sl ys=>atK xs ys
 |_,_=>false
def anc:List AV->List AV->Bool
 | [],[]=>true
 |a::tq,b::bs=>leB a b&&anc tq bs
 |_,_=>false
def leE:AV->AV->Bool
 | .agg cs,.agg ds=>anc cs ds
 | .v a,.v b=>leV a b
 |_,_=>false
def atK:List AV->List AV->Bool
 | [],[]=>true
 |a::tq,b::bs=>leE a b&&atK tq bs
 |_,_=>false
end
theorem anb{P:AV->AV->Prop}:∀{tq bs:List AV},anc tq bs=true->(∀a∈tq,∀b,leB a b=true->P a b)->tq.length=bs.length/\∀(i:Nat) a b,tq[i]? =some a->bs[i]? =some b->P a b
 | [],[],_,_=>⟨rfl,λ i a b ha=>by simp at ha⟩
 | [],_::_,h,_=>by simp[anc]at h
 |_::_,[],h,_=>by simp[anc]at h
 |x::tq,y::bs,h,hP=>by
  simp only[anc,and_eq_true]at h;obtain⟨h1,h2⟩:=anb h.2 λ a ha b hb=>hP a (List.mem_cons_of_mem _ ha) b hb
  refine⟨by simp[h1],λ i a b ha hb=> ?_⟩;cases i with
  |zero=>simp at ha hb;subst ha;subst hb;exact hP x (by simp) y h.1
  |succ i=>exact h2 i a b (by simpa using ha) (by simpa using hb)
theorem ana{P:AV->AV->Prop}:∀{tq bs:List AV},atK tq bs=true->(∀a∈tq,∀b,leE a b=true->P a b)->tq.length=bs.length/\∀(i:Nat) a b,tq[i]? =some a->bs[i]? =some b->P a b
 | [],[],_,_=>⟨rfl,λ i a b ha=>by simp at ha⟩
 | [],_::_,h,_=>by simp[atK]at h
 |_::_,[],h,_=>by simp[atK]at h
 |x::tq,y::bs,h,hP=>by
  simp only[atK,and_eq_true]at h;obtain⟨h1,h2⟩:=ana h.2 λ a ha b hb=>hP a (List.mem_cons_of_mem _ ha) b hb
  refine⟨by simp[h1],λ i a b ha hb=> ?_⟩;cases i with
  |zero=>simp at ha hb;subst ha;subst hb;exact hP x (by simp) y h.1
  |succ i=>exact h2 i a b (by simpa using ha) (by simpa using hb)
theorem apF(a:AV):∀b,(leB a b=true->AV.oY a b)/\(leE a b=true->a.cells.length=b.cells.length/\∀(j:Nat) c d,a.cells[j]? =some c->b.cells[j]? =some d->AV.oY c d):=by
 intro b;cases a with
 |an=>
  refine⟨λ h=> ?_,λ h=>by cases b<;>simp[leE]at h⟩;cases b with
  |an=>exact .refl _
  |sl ys=>cases ys with
   |nil=>exact .nil
   |cons _ _=>simp[leB]at h
  |_=>simp[leB]at h
 |v x=>
  refine⟨λ h=> ?_,λ h=> ?_⟩
  ·cases b with
   |v y=>simp only[leB]at h;rw[ayn h];exact .refl _
   |_=>simp[leB]at h
  ·cases b with
   |v y=>
    simp only[leE]at h;rw[ayn h];exact⟨rfl,λ j c d hc hd=>by rw[hc]at hd;cases hd;exact .refl _⟩
   |_=>simp[leE]at h
 |agg cs=>
  have key:∀ds,anc cs ds=true->cs.length=ds.length/\∀(i:Nat) c d,cs[i]? =some c->ds[i]? =some d->AV.oY c d:=λ ds h=>anb h λ a ha b hb=>(apF a b).1 hb
  refine⟨λ h=> ?_,λ h=> ?_⟩
  ·cases b with
   |agg ds=>
    simp only[leB]at h;obtain⟨h1,h2⟩:=key ds h;exact .agg _ _ h1 h2
   |_=>simp[leB]at h
  ·cases b with
   |agg ds=>
    simp only[leE]at h;exact key ds h
   |_=>simp[leE]at h
 |sl xs=>
  refine⟨λ h=> ?_,λ h=>by cases b<;>simp[leE]at h⟩;cases b with
  |sl ys=>
   simp only[leB]at h;obtain⟨h1,h2⟩:=ana (P:=λ a b=>a.cells.length=b.cells.length/\∀(j:Nat) c d,a.cells[j]? =some c->b.cells[j]? =some d->AV.oY c d) h λ a ha b hb=>(apF a b).2 hb
   exact .sl _ _ h1 (λ i x y hx hy=>(h2 i x y hx hy).1) λ i x y j c d hx hy=>(h2 i x y hx hy).2 j c d
  |_=>simp[leB]at h
 |_=>exact⟨λ h=>by cases b<;>simp[leB]at h,λ h=>by cases b<;>simp[leE]at h⟩
termination_by SizeOf.sizeOf a
decreasing_by
 all_goals
  have:=List.sizeOf_lt_of_mem ha;simp;omega
def tyG:ai:= .mk 10 0 ⟨#[]⟩ []
def ig:ai:= .mk 7 0 ⟨#[116,114,101,101]⟩ []
def wF:ai:= .mk 1 0 ⟨#[]⟩ []
def aN:List ad:=[
 .mk ⟨#[108,105,115,116]⟩ 1 [.mk ⟨#[78,105,108]⟩ false (.mk 0 0 ⟨#[]⟩ []),.mk ⟨#[67,111,110,115]⟩ true (.mk 6 0 ⟨#[]⟩ [tyG,.mk 7 0 ⟨#[108,105,115,116]⟩ [tyG]])],
 .mk ⟨#[116,114,101,101]⟩ 0 [.mk ⟨#[76,101,97,102]⟩ false (.mk 0 0 ⟨#[]⟩ []),.mk ⟨#[78,111,100,101]⟩ true (.mk 6 0 ⟨#[]⟩ [ig,wF,ig])]]
end Go.Ab
namespace Go.Proofs.Ab
open Go.Ab
theorem aBu:AV.oY aL3 (.sl (aN.map ad.av)):=(apF _ _).1 (by kernel_rfl)
theorem atq:aW Tryz.prog F.je [.v (.string aGD)] (.aZ [amU,akb]):=acV F.je 1 TC.je rfl rfl rfl (azM acV amq 1000 0 _ _ _ _ [] rfl axM rfl)
theorem asY:aW Tryz.prog F.jd [amU] (.aZ [.sl (aN.map ad.av),akb]):=aW.aGx (acV F.jd 1 TC.jd rfl rfl (by kernel_rfl) (azM acV amq 1000 0 _ _ _ _ [] rfl axc rfl)) aBu
theorem abG{d:ad}(h:d∈aN):d=aN[0]∨d=aN[1]:=by
 rcases List.mem_cons.1 h with h|h
 ·exact .inl h
 ·exact .inr (List.mem_singleton.1 h)
theorem vL{i:Nat}{d:ad}(h:aN[i]? =some d):(i=0/\d=aN[0])∨(i=1/\d=aN[1]):=by
 match i,h with
 |0,h=>injection h with h;exact .inl ⟨rfl,h.symm⟩
 |1,h=>injection h with h;exact .inr ⟨rfl,h.symm⟩
 |n+2,h=>simp[aN]at h
theorem ajk{c:ak}(h:c∈aN[0].br):c=aN[0].br[0]∨c=aN[0].br[1]:=by
 rcases List.mem_cons.1 h with h|h
 ·exact .inl h
 ·exact .inr (List.mem_singleton.1 h)
theorem ajj{c:ak}(h:c∈aN[1].br):c=aN[1].br[0]∨c=aN[1].br[1]:=by
 rcases List.mem_cons.1 h with h|h
 ·exact .inl h
 ·exact .inr (List.mem_singleton.1 h)
theorem pw:UL aN:=by
 refine{len:=by decide,ct:=λ d hd=> ?_,uniq:=λ d hd c hc c' nS hn=> ?_,nm:=λ i j d e hi hj hn=> ?_,ct2:=λ i j d e c c' hi hj hc nS hn=> ?_}
 ·rcases abG hd with rfl|rfl
  ·refine⟨by decide,λ c hc hh=> ?_⟩;rcases ajk hc with rfl|rfl
   ·cases hh
   ·exact⟨by kernel_rfl,by decide⟩
  ·refine⟨by decide,λ c hc hh=> ?_⟩;rcases ajj hc with rfl|rfl
   ·cases hh
   ·exact⟨by kernel_rfl,by decide⟩
 ·rcases abG hd with rfl|rfl
  ·rcases ajk hc with rfl|rfl<;>rcases ajk nS with rfl|rfl<;>first|rfl|exact absurd hn (by decide)
  ·rcases ajj hc with rfl|rfl<;>rcases ajj nS with rfl|rfl<;>first|rfl|exact absurd hn (by decide)
 ·rcases vL hi with⟨rfl,rfl⟩|⟨rfl,rfl⟩<;>rcases vL hj with⟨rfl,rfl⟩|⟨rfl,rfl⟩<;>first|rfl|exact absurd hn (by decide)
 ·rcases vL hi with⟨rfl,rfl⟩|⟨rfl,rfl⟩<;>rcases vL hj with⟨rfl,rfl⟩|⟨rfl,rfl⟩
  ·rfl
  ·rcases ajk hc with rfl|rfl<;>rcases ajj nS with rfl|rfl<;>exact absurd hn (by decide)
  ·rcases ajj hc with rfl|rfl<;>rcases ajk nS with rfl|rfl<;>exact absurd hn (by decide)
  ·rfl
theorem qW:aN.length+(aN.map ad.wt).sum<=1000000:=by decide
end Go.Proofs.Ab
namespace Go.Ab
def yN(A:ai):ai:= .mk 7 0 ⟨#[108,105,115,116]⟩ [A]
def GBt(s:Nat)(t:ai):Prop:=t.wt<=400/\t.dZ<=s
def GC(s:Nat)(t:ai):Prop:=GBt s t∨(∃A,GBt s A/\t=yN A)∨(∃A,GBt s A/\t= .mk 6 0 ⟨#[]⟩ [A,yN A])∨t= .mk 6 0 ⟨#[]⟩ [ig,wF,ig]
theorem asd(A:ai):(yN A).wt=A.wt+5:=by
 rw[ai.dY]
 show 4+(1+(A.wt+0))=_;omega
theorem azX(A:ai):(ai.mk 6 0 ⟨#[]⟩ [A,yN A]).wt=2*A.wt+7:=by
 rw[ai.dY]
 show 0+(2+(A.wt+((yN A).wt+0)))=_;rw[asd];omega
theorem GC.wt{s:Nat}{t:ai}(h:GC s t):t.wt<=1000:=by
 rcases h with h|⟨A,hA,rfl⟩|⟨A,hA,rfl⟩|rfl
 ·have:=h.1;omega
 ·rw[asd];have:=hA.1;omega
 ·rw[azX];have:=hA.1;omega
 ·decide
theorem axi(t:ai):t.Kids.length<t.dZ:=by
 have h1:=t.jV
 have h2:∀l:List ai,l.length<=(l.map ai.dZ).sum:=by
  intro l
  induction l with
  |nil=>simp
  |cons a l ih=>
   have:=a.jV;simp only[length_cons,map_cons,sum_cons];omega
 have:=h2 t.Kids;omega
theorem GBt.yX{s:Nat}{t u:ai}(h:GBt s t)(hu:u∈t.Kids):GBt s u:=by
 have h1:=t.jV;have h2:=eH ai.dZ hu;have h3:=t.dY;have h4:=eH ai.wt hu;exact⟨by have:=h.1;omega,by have:=h.2;omega⟩
theorem asw{s:Nat}(hs:1<=s):GBt s ig:=⟨by decide,hs⟩
theorem aHK{s:Nat}(hs:1<=s):GBt s wF:=⟨by decide,hs⟩
theorem aHL{s:Nat}(hs:1<=s):GBt s tyG:=⟨by decide,hs⟩
theorem GC.kids{s:Nat}(hs:1<=s){t:ai}(h:GC s t)(h6:t.Kind=6):t.Kids.length<=s+2/\∀u∈t.Kids,GC s u:=by
 rcases h with h|⟨A,hA,rfl⟩|⟨A,hA,rfl⟩|rfl
 ·have:=axi t;have:=h.2;exact⟨by omega,λ u hu=> .inl (h.yX hu)⟩
 ·cases h6
 ·refine⟨by show 2<=s+2;omega,λ u hu=> ?_⟩;rcases List.mem_cons.1 hu with rfl|hu
  ·exact .inl hA
  ·rw[List.mem_singleton.1 hu];exact .inr (.inl ⟨A,hA,rfl⟩)
 ·refine⟨by show 3<=s+2;omega,λ u hu=> ?_⟩;rcases List.mem_cons.1 hu with rfl|hu
  ·exact .inl (asw hs)
  rcases List.mem_cons.1 hu with rfl|hu
  ·exact .inl (aHK hs)
  ·rw[List.mem_singleton.1 hu];exact .inl (asw hs)
theorem arZ(kids:List ai):tyG.put 10 kids=match kids with
  | []=>tyG
  |x::_=>x:=by
 cases kids with
 |nil=>rfl
 |cons x l=>
  rw[ai.put_eq,if_pos]
  ·rfl
  ·refine⟨rfl,?_⟩
   show(0:Int)<((x::l).length:Int);simp only[length_cons];omega
theorem GC.aRV{s:Nat}(hs:1<=s){t:ai}(h:GC s t)(h7:t.Kind=7):GBt s (tyG.put 10 t.Kids):=by
 rw[arZ];rcases h with h|⟨A,hA,rfl⟩|⟨A,hA,rfl⟩|rfl
 ·cases hk:t.Kids with
  |nil=>exact aHL hs
  |cons x l=>exact h.yX (by rw[hk];simp)
 ·exact hA
 ·cases h7
 ·cases h7
theorem aeE(kids:List ai):(aN[0].br[1]).Arg.put 10 kids= .mk 6 0 ⟨#[]⟩ [tyG.put 10 kids,yN (tyG.put 10 kids)]:=by
 show ai.put (.mk 6 0 ⟨#[]⟩ [tyG,.mk 7 0 ⟨#[108,105,115,116]⟩ [tyG]]) 10 kids=_;rw[ai.put_eq,if_neg (by rintro⟨h,_⟩;cases h)]
 show ai.mk 6 0 ⟨#[]⟩ [tyG.put 10 kids,ai.put (.mk 7 0 ⟨#[108,105,115,116]⟩ [tyG]) 10 kids]=_;rw[ai.put_eq (.mk 7 0 ⟨#[108,105,115,116]⟩ [tyG]),if_neg (by rintro⟨h,_⟩;cases h)]
 rfl
theorem aeD(kids:List ai):(aN[1].br[1]).Arg.put 10 kids= .mk 6 0 ⟨#[]⟩ [ig,wF,ig]:=by
 have e1:ig.put 10 kids=ig:=by
  rw[ai.put_eq,if_neg (by rintro⟨h,_⟩;cases h)];rfl
 have e2:wF.put 10 kids=wF:=by
  rw[ai.put_eq,if_neg (by rintro⟨h,_⟩;cases h)];rfl
 show ai.put (.mk 6 0 ⟨#[]⟩ [ig,wF,ig]) 10 kids=_;rw[ai.put_eq,if_neg (by rintro⟨h,_⟩;cases h)]
 show ai.mk 6 0 ⟨#[]⟩ [ig.put 10 kids,wF.put 10 kids,ig.put 10 kids]=_;rw[e1,e2]
theorem GC.put{s:Nat}(hs:1<=s){t:ai}(h:GC s t)(h7:t.Kind=7){d:ad}{c:ak}(hd:d∈aN)(hc:c∈d.br)(hh:c.Has=true):GC s (c.Arg.put 10 t.Kids):=by
 have hd':d=aN[0]∨d=aN[1]:=by
  rcases List.mem_cons.1 hd with h|h
  ·exact .inl h
  ·exact .inr (List.mem_singleton.1 h)
 rcases hd' with rfl|rfl
 ·rcases List.mem_cons.1 hc with rfl|hc
  ·cases hh
  ·have:c=aN[0].br[1]:=List.mem_singleton.1 hc;rw[this,aeE];exact .inr (.inr (.inl ⟨_,h.aRV hs h7,rfl⟩))
 ·rcases List.mem_cons.1 hc with rfl|hc
  ·cases hh
  ·have:c=aN[1].br[1]:=List.mem_singleton.1 hc;rw[this,aeD];exact .inr (.inr (.inr rfl))
theorem GC.aza{s:Nat}(hs:1<=s){t:ai}(h:GC s t):∀hd∈mR aN t,hd.ks.length<=s+2/\∀u∈hd.ks,GC s u:=by
 intro hd hm;unfold mR at hm
 split at hm
 ·rename_i h6;rw[List.mem_singleton]at hm;rw[hm];exact h.kids hs h6
 ·split at hm
  ·rw[List.mem_singleton]at hm;rw[hm];exact⟨by simp,λ u hu=>by cases hu⟩
  ·split at hm
   ·simp only[List.mem_cons,List.not_mem_nil,or_false]at hm;rcases hm with rfl|rfl<;>exact⟨by simp,λ u hu=>by cases hu⟩
   ·split at hm
    ·rename_i h7;cases hi:fh aN t.Name with
     |none=>rw[hi]at hm;cases hm
     |some d=>
      rw[hi]at hm;obtain⟨c,hc,rfl⟩:=List.mem_map.1 hm;unfold oO;by_cases hh:c.Has=true
      ·rw[if_pos hh];exact⟨by simp,λ u hu=>by rw[List.mem_singleton.1 hu];exact h.put hs h7 (List.mem_of_find?_eq_some hi) hc hh⟩
      ·rw[if_neg hh];exact⟨by simp,λ u hu=>by cases hu⟩
    ·cases hm
theorem GC.tg{s:Nat}(hs:1<=s)(hb:s<=900){t:ai}(h:GC s t):∀k,TG aN k t:=by
 intro k
 induction k generalizing t with
 |zero=>exact h.wt
 |succ k ih=>exact⟨h.wt,λ hd hm=>⟨by have:=(h.aza hs hd hm).1;omega,λ u hu=>ih ((h.aza hs hd hm).2 u hu)⟩⟩
theorem afT{list:List ad}{d:Int}:∀{l:List aa} {ts:List ai},aa.jD l list d ts=true->∀{i:Nat} {q:aa} {u:ai},l[i]? =some q->ts[i]? =some u->q.fit list d u=true
 | [],ts,_,i,q,u,hq,_=>by simp at hq
 |p::l,[],h,i,q,u,hq,hu=>by simp at hu
 |p::l,t::ts,h,i,q,u,hq,hu=>by
  rw[aa.jD,and_eq_true]at h;cases i with
  |zero=>simp at hq hu;rw[←hq,←hu];exact h.1
  |succ i=>exact afT h.2 (by simpa using hq) (by simpa using hu)
theorem aqm(list:List ad)(d:Int)(p:aa):∀t:ai,p.fit list d t=true->TP list p t:=by
 intro t h;have hr:=p.zr list d t;rw[h]at hr;have lV:=hr.symm;simp only[and_eq_true]at lV;obtain⟨r1,r2,r3⟩:=lV;by_cases k12:p.Kind=1∨p.Kind=2
 ·refine .any p t ?_;unfold fg;rcases k12 with k|k<;>rw[k]<;>rfl
 have hk0:p.Kind≠7->p.Kind≠6->p.Kids= []:=λ k7 k6=>by
  unfold aa.c2 at r2;simp only[k7,k6,decide_false,Bool.false_or,and_eq_true,decide_eq_true_eq]at r2;exact List.eq_nil_of_length_eq_zero r2.2.2
 unfold aa.rest at r3;rw[if_neg k12]at r3;by_cases k3:p.Kind=3
 ·rw[if_pos k3]at r3;simp only[and_eq_true,decide_eq_true_eq]at r3;exact .flat p t (.inl ⟨k3,r3.1⟩) (hk0 (by omega) (by omega))
 rw[if_neg k3]at r3;by_cases k4:p.Kind=4
 ·rw[if_pos k4]at r3;simp only[and_eq_true,decide_eq_true_eq]at r3;exact .flat p t (.inr (.inl ⟨k4,r3.1⟩)) (hk0 (by omega) (by omega))
 rw[if_neg k4]at r3;by_cases k5:p.Kind=5
 ·rw[if_pos k5]at r3;simp only[decide_eq_true_eq]at r3;exact .flat p t (.inr (.inr ⟨k5,r3⟩)) (hk0 (by omega) (by omega))
 rw[if_neg k5]at r3;by_cases k7:p.Kind=7
 ·rw[if_pos k7]at r3;cases ha:oK list p.Name t with
  |none=>rw[ha]at r3;cases r3
  |some o=>
   rw[ha]at r3;simp only[and_eq_true,decide_eq_true_eq]at r3
   have ht7:t.Kind=7:=by
    unfold oK at ha;by_cases h7:t.Kind=7
    ·exact h7
    ·rw[if_neg h7]at ha;cases ha
   exact .ctor p t o.toList k7 ht7 (by rw[ha];rfl) r3.1 λ i q u hq hu=>aqm list d q u (afT r3.2 hq hu)
 rw[if_neg k7]at r3;by_cases k6:p.Kind=6
 ·rw[if_pos k6]at r3;simp only[and_eq_true,decide_eq_true_eq]at r3;exact .aZ p t k6 r3.1.1.2 r3.1.2.symm λ i q u hq hu=>aqm list d q u (afT r3.2 hq hu)
 ·rw[if_neg k6]at r3;cases r3
termination_by SizeOf.sizeOf p
decreasing_by all_goals exact aa.cT (List.mem_of_getElem? hq)
theorem afO{k n:Int}:∀{l:List ai} {u:ai},u∈l->n∈u.ja k->n∈ai.jW l k
 |x::l,u,hu,hn=>by
  rw[ai.jW,mem_append];rcases List.mem_cons.1 hu with rfl|hu
  ·exact .inl hn
  ·exact .inr (afO hu hn)
theorem aur{k n:Int}{t u:ai}(hu:u∈t.Kids)(hn:n∈u.ja k):n∈t.ja k:=by
 rw[ai.sw,mem_append];exact .inr (afO hu hn)
def VB(e:Int)(t:ai):Prop:=∀n∈t.ja 9,n<e
theorem VB.yX{e:Int}{t u:ai}(h:VB e t)(hu:u∈t.Kids):VB e u:=λ n hn=>h n (aur hu hn)
theorem VB.ac3{e:Int}{t:ai}(h9:t.Kind≠9)(h:∀u∈t.Kids,VB e u):VB e t:=by
 intro n hn;rw[ai.sw,if_neg h9,List.nil_append]at hn
 have key:∀l:List ai,(∀u∈l,VB e u)->n∈ai.jW l 9->n<e:=by
  intro l
  induction l with
  |nil=>intro _ h;simp[ai.jW]at h
  |cons x l ih=>
   intro hl h;rw[ai.jW,mem_append]at h;rcases h with h|h
   ·exact hl x (by simp) n h
   ·exact ih (λ u hu=>hl u (by simp[hu])) h
 exact key _ h hn
theorem yI{list:List ad}{d e g:Int}(t:ai):t.names list d g=true->VB e t->t.names list e g=true:=by
 intro h hv;rw[ai.yJ,and_eq_true]at h⊢;refine⟨?_,List.all_eq_true.2 λ u hu=>yI u (List.all_eq_true.1 h.2 u hu) (hv.yX hu)⟩;have h1:=h.1;unfold ai.aiL at h1⊢;by_cases h9:t.Kind=9
 ·rw[if_pos h9];refine decide_eq_true (hv _ ?_);rw[ai.sw,if_pos h9];simp
 ·rw[if_neg h9]at h1⊢;exact h1
termination_by SizeOf.sizeOf t
decreasing_by exact ai.cT hu
theorem aeZ{list:List ad}{d g:Int}(t:ai):t.names list d g=true->VB d t:=by
 intro h;rw[ai.yJ,and_eq_true]at h;have hk:∀u∈t.Kids,VB d u:=λ u hu=>aeZ u (List.all_eq_true.1 h.2 u hu)
 by_cases h9:t.Kind=9
 ·have h1:=h.1;unfold ai.aiL at h1;rw[if_pos h9,decide_eq_true_eq]at h1;intro n hn;rw[ai.sw,if_pos h9,mem_append]at hn;rcases hn with hn|hn
  ·rw[List.mem_singleton.1 hn];exact h1
  ·have hv:=VB.ac3 (t:= .mk 0 0 ⟨#[]⟩ t.Kids) (e:=d) (by show(0:Int)≠9;decide) hk;refine hv n ?_;rw[ai.sw,if_neg (by show¬((0:Int)=9);decide),List.nil_append];exact hn
 ·exact VB.ac3 h9 hk
termination_by SizeOf.sizeOf t
decreasing_by exact ai.cT hu
theorem VB.mono{d e:Int}{t:ai}(h:VB d t)(hd:d<=e):VB e t:=λ n hn=>by have:=h n hn;omega
theorem arL:∀(l:List Int) (m n:Int),n<1099511627776->(n∈l∨n<m)->n<l.foldl (λ m n=>if m<=n/\n<1099511627776 then n+1 else m) m
 | [],m,n,_,h=>by rcases h with h|h;·cases h
                  ·exact h
 |x::l,m,n,hn,h=>by
  rw[List.foldl_cons];refine arL l _ n hn ?_;rcases h with h|h
  ·rcases List.mem_cons.1 h with rfl|h
   ·right
    split
    ·omega
    ·rename_i hc;omega
   ·exact .inl h
  ·right
   split
   ·omega
   ·exact h
theorem aw0{t:ai}(h:t.wN=true):wD t=yo (dr [] (t.ja 9)):=by
 unfold wD;rw[h]
 rfl
theorem awZ(t:ai):wD t<=1099511627776:=by
 unfold wD yo;exact(ajy _ 0 (by omega) (by omega)).2
theorem awY{t:ai}(h:t.wN=true)(hv:VB 1099511627776 t):VB (wD t) t:=by
 intro n hn;rw[aw0 h];exact arL _ 0 n (hv n hn) (.inl ((age _ _ _).2 (.inr hn)))
theorem aDb{e:Int}{name:ByteArray}{t a:ai}(h:oK aN name t=some (some a))(hv:VB e t):VB e a:=by
 unfold oK at h;by_cases h7:t.Kind=7
 ·rw[if_pos h7]at h;cases hi:fh aN t.Name with
  |none=>rw[hi]at h;cases h
  |some d=>
   rw[hi]at h;have hd:=List.mem_of_find?_eq_some hi;simp only at h;cases hc:d.br.find? (λ c=>decide (c.Name=name))with
   |none=>rw[hc]at h;cases h
   |some c=>
    rw[hc]at h;simp only[Option.some.injEq]at h;by_cases hh:c.Has=true
    ·rw[if_pos hh]at h;injection h with h;have hcm:=List.mem_of_find?_eq_some hc
     have hg:VB e (tyG.put 10 t.Kids):=by
      rw[arZ];cases hk:t.Kids with
      |nil=>intro n hn;simp[tyG,ai.ja,ai.jW]at hn
      |cons x l=>exact hv.yX (by rw[hk];simp)
     have hd':d=aN[0]∨d=aN[1]:=by
      rcases List.mem_cons.1 hd with h|h
      ·exact .inl h
      ·exact .inr (List.mem_singleton.1 h)
     rcases hd' with rfl|rfl
     ·rcases List.mem_cons.1 hcm with rfl|hcm
      ·cases hh
      ·have:c=aN[0].br[1]:=List.mem_singleton.1 hcm;rw[this,aeE]at h;rw[←h];refine VB.ac3 (by show(6:Int)≠9;decide) λ u hu=> ?_
       rcases List.mem_cons.1 hu with rfl|hu
       ·exact hg
       ·rw[List.mem_singleton.1 hu];refine VB.ac3 (by show(7:Int)≠9;decide) λ w hw=> ?_
        rw[List.mem_singleton.1 hw];exact hg
     ·rcases List.mem_cons.1 hcm with rfl|hcm
      ·cases hh
      ·have:c=aN[1].br[1]:=List.mem_singleton.1 hcm;rw[this,aeD]at h;rw[←h];intro n hn;simp[ig,wF,ai.ja,ai.jW]at hn
    ·rw[if_neg hh]at h;cases h
 ·rw[if_neg h7]at h;cases h
theorem aGj{d e:Int}{list:List ad}{t:ai}(h:wE list d t=true)(hv:VB e t):wE list e t=true:=by
 unfold wE at h⊢;rw[and_eq_true,and_eq_true]at h⊢;exact⟨h.1,yI t h.2 hv⟩
theorem ak2{list:List ad}{d e:Int}:∀(l:List aa) (ts:List ai),(∀q∈l,∀u∈ts,q.fit list d u=true->q.fit list e u=true)->aa.jD l list d ts=true->aa.jD l list e ts=true
 | [],ts,_,_=>by rw[aa.jD]
 |p::l,[],_,h=>by rw[aa.jD]at h;cases h
 |p::l,t::ts,hl,h=>by
  rw[aa.jD,and_eq_true]at h⊢;exact⟨hl p (by simp) t (by simp) h.1,ak2 l ts (λ q hq u hu=>hl q (by simp[hq]) u (by simp[hu])) h.2⟩
theorem ak1{d e:Int}(p:aa):∀t:ai,VB e t->p.fit aN d t=true->p.fit aN e t=true:=by
 intro t hv h;rw[aa.zr,and_eq_true,and_eq_true]at h⊢;obtain⟨h1,h2,h3⟩:=h;refine⟨?_,h2,?_⟩
 ·unfold aa.c1 at h1⊢
  split at h1
  ·rename_i ht;rw[if_pos ht];rw[and_eq_true]at h1⊢;exact⟨aGj h1.1 (by rw[pj h1.2];exact hv),h1.2⟩
  ·rename_i ht;rw[if_neg ht];exact h1
 ·unfold aa.rest at h3⊢;by_cases k12:p.Kind=1∨p.Kind=2
  ·rw[if_pos k12]
  rw[if_neg k12]at h3⊢;by_cases k3:p.Kind=3
  ·rw[if_pos k3]at h3⊢;exact h3
  rw[if_neg k3]at h3⊢;by_cases k4:p.Kind=4
  ·rw[if_pos k4]at h3⊢;exact h3
  rw[if_neg k4]at h3⊢;by_cases k5:p.Kind=5
  ·rw[if_pos k5]at h3⊢;exact h3
  rw[if_neg k5]at h3⊢;by_cases k7:p.Kind=7
  ·rw[if_pos k7]at h3⊢;cases ha:oK aN p.Name t with
   |none=>rw[ha]at h3;cases h3
   |some o=>
    rw[ha]at h3;simp only[and_eq_true]at h3⊢;refine⟨h3.1,ak2 _ _ (λ q hq u hu=> ?_) h3.2⟩
    have hvu:VB e u:=by
     cases o with
     |none=>cases hu
     |some a=>rw[List.mem_singleton.1 hu];exact aDb ha hv
    exact ak1 q u hvu
  rw[if_neg k7]at h3⊢;by_cases k6:p.Kind=6
  ·rw[if_pos k6]at h3⊢;simp only[and_eq_true]at h3⊢;exact⟨h3.1,ak2 _ _ (λ q hq u hu=>ak1 q u (hv.yX hu)) h3.2⟩
  ·rw[if_neg k6]at h3;cases h3
termination_by SizeOf.sizeOf p
decreasing_by all_goals exact aa.cT hq
theorem oI{t:ai}(hs:t.dZ<=200)(aB:List aa):eo aN t aB=iN aN t aB:=by
 rw[Bool.eq_iff_iff];unfold eo iN;simp only[and_eq_true,all_eq_true];constructor
 ·rintro⟨⟨h1,h2,h3⟩,h4,h5⟩;have hv:=awY h2 (aeZ t h3);refine⟨⟨⟨?_,h1⟩,h5⟩,λ p hp=>ak1 p t hv (h4 p hp)⟩;unfold wE;rw[and_eq_true,and_eq_true];exact⟨⟨h2,decide_eq_true hs⟩,yI t h3 hv⟩
 ·rintro⟨⟨⟨h1,h2⟩,h3⟩,h4⟩;unfold wE at h1;rw[and_eq_true,and_eq_true]at h1;have hv:VB 1099511627776 t:=(aeZ t h1.2).mono (awZ t);exact⟨⟨h2,h1.1.1,yI t h1.2 hv⟩,λ p hp=>ak1 p t hv (h4 p hp),h3⟩
theorem axY(p:aa):p.nw<=p.dZ:=by
 rw[axZ];have h1:=p.jV
 have h2:∀l:List aa,(∀q∈l,q.nw<=q.dZ)->aa.x6 l<=(l.map aa.dZ).sum:=by
  intro l
  induction l with
  |nil=>intro _;simp[aa.x6]
  |cons a l ih=>
   intro h;have:=h a (by simp);have:=ih λ q hq=>h q (by simp[hq])
   simp only[aa.x6,map_cons,sum_cons];omega
 have h3:=h2 p.Kids λ q hq=>axY q
 split
 ·omega
 ·omega
termination_by SizeOf.sizeOf p
decreasing_by exact aa.cT hq
theorem aeV:∀aB:List aa,qA (eU aB)<=(aB.map aa.dZ).sum
 | []=>by simp[eU,qA]
 |p::l=>by
  have h1:=axY p;have h2:=aeV l
  show qA ([p]::eU l)<=_;simp only[qA,aa.x6,map_cons,sum_cons];omega
theorem GC.of{t:ai}(h:t.wt<=150):GC 900 t:= .inl ⟨by omega,by have:=t.xn;omega⟩
theorem MQ.of{t:ai}(ht:t.wt<=150){aB:List aa}(hl:aB.length<=30)(hs:(aB.map aa.dZ).sum<=60){d:Int}(hf:∀p∈aB,p.fit aN d t=true):MQ aN [t] (eU aB):=by
 have hn:=aeV aB;refine⟨by simp[eU];omega,λ r hr=> ?_,λ u hu=> ?_,by simp only[length_cons,List.length_nil];omega⟩
 ·obtain⟨p,hp,rfl⟩:=List.mem_map.1 hr;refine⟨rfl,λ i q u hq hu=> ?_,λ q hq=> ?_⟩
  ·cases i with
   |zero=>simp at hq hu;rw[←hq,←hu];exact aqm aN d p t (hf p hp)
   |succ i=>simp at hq
  ·rw[List.mem_singleton.1 hq];have:=eH aa.dZ hp;omega
 ·rw[List.mem_singleton.1 hu];exact(GC.of ht).tg (by decide) (by decide) _
theorem ra{t:ai}{aB:List aa}(h:eo aN t aB=true):1<=aB.length/\aB.length<=30/\(aB.map aa.dZ).sum<=60/\∀p∈aB,p.fit aN 1099511627776 t=true:=by
 unfold eo at h;simp only[and_eq_true,all_eq_true,decide_eq_true_eq]at h;have h1:(1:Int)<=aB.length/\(aB.length:Int)<=30:=by simpa [my]using h.1.1
 exact⟨by omega,by omega,h.2.2,h.2.1⟩
theorem MQ.cover{t:ai}(ht:t.wt<=150){aB:List aa}(h:eo aN t aB=true):MQ aN [t] (eU aB):=by
 obtain⟨_,h2,h3,h4⟩:=ra h;exact MQ.of ht h2 h3 h4
theorem aNL{t:ai}(h:GC 900 t){rows:List (List aa)}{hd:Hd}(hm:hd∈bE aN t rows):hd.p.Name.size+hd.p.T.wt+hd.ks.length+(hd.ks.map ai.wt).sum<=2100/\∀u∈hd.ks,GC 900 u:=by
 have hw:=h.wt;unfold bE at hm
 split at hm
 ·rcases List.mem_append.1 hm with hm|hm
  ·obtain⟨n,_,rfl⟩:=List.mem_map.1 hm;exact⟨by show 0+noT.wt+0+0<=2100;decide,λ u hu=>by cases hu⟩
  ·rw[List.mem_singleton.1 hm];exact⟨by show 0+t.wt+0+0<=2100;omega,λ u hu=>by cases hu⟩
 ·refine⟨?_,(h.aza (by decide) hd hm).2⟩;unfold mR at hm
  split at hm
  ·rename_i h6;rw[List.mem_singleton.1 hm]
   show 0+noT.wt+t.Kids.length+(t.Kids.map ai.wt).sum<=2100;have h1:=t.dY;have h2:noT.wt=0:=by decide
   omega
  ·split at hm
   ·rw[List.mem_singleton.1 hm];show 0+noT.wt+0+0<=2100;decide
   ·split at hm
    ·simp only[List.mem_cons,List.not_mem_nil,or_false]at hm;rcases hm with rfl|rfl
     ·show 0+noT.wt+0+0<=2100;decide
     ·show 0+noT.wt+0+0<=2100;decide
    ·split at hm
     ·rename_i h7;cases hi:fh aN t.Name with
      |none=>rw[hi]at hm;cases hm
      |some d=>
       rw[hi]at hm;obtain⟨c,hc,rfl⟩:=List.mem_map.1 hm;have hd':=List.mem_of_find?_eq_some hi
       have hn:c.Name.size<=4:=by
        have hd2:d=aN[0]∨d=aN[1]:=by
         rcases List.mem_cons.1 hd' with h|h
         ·exact .inl h
         ·exact .inr (List.mem_singleton.1 h)
        rcases hd2 with rfl|rfl
        ·rcases List.mem_cons.1 hc with rfl|hc
         ·decide
         ·rw[List.mem_singleton.1 hc];decide
        ·rcases List.mem_cons.1 hc with rfl|hc
         ·decide
         ·rw[List.mem_singleton.1 hc];decide
       unfold oO;by_cases hh:c.Has=true
       ·have hp:=(h.put (by decide) h7 hd' hc hh).wt;rw[if_pos hh]
        show c.Name.size+t.wt+1+((c.Arg.put 10 t.Kids).wt+0)<=2100;omega
       ·rw[if_neg hh]
        show c.Name.size+t.wt+0+0<=2100;omega
     ·cases hm
theorem ae3:∀(ts:List ai) (rows:List (List aa)) (m:List aa),(∀t∈ts,GC 900 t)->dn aN ts rows=some m->(m.map aa.wt).sum<=(ts.map ai.wt).sum+2100*qA rows
 | [],rows,m,_,h=>by
   rw[pG]at h
   split at h
   ·injection h with h;rw[←h];simp
   ·cases h
 |t::ts,rows,m,hg,h=>by
  have hgt:=hg t (by simp);by_cases ho:bg rows=true
  ·rw[jh _ _ _ _ ho]at h;cases hq:dn aN ts (cF rows)with
   |none=>rw[hq]at h;cases h
   |some m'=>
    rw[hq]at h;injection h with h;have ih:=ae3 ts (cF rows) m' (λ u hu=>hg u (by simp[hu])) hq;have ht:=lI rows
    have hw:(cw t).wt=t.wt:=by
     rw[aa.dY];show 0+t.wt+(0+0)=t.wt;omega
    rw[←h];simp only[map_cons,sum_cons,hw];have:=Nat.mul_le_mul_left 2100 ht;omega
  ·have ho':bg rows=false:=by simpa using ho
   rw[pv _ _ _ _ ho']at h;obtain⟨hd,hm,afE⟩:=List.exists_of_findSome?_eq_some h;unfold qh at afE;cases hq:dn aN (hd.ks++ts) (aR hd rows)with
   |none=>rw[hq]at afE;cases afE
   |some row=>
    rw[hq]at afE;injection afE with afE;obtain⟨hw,hks⟩:=aNL hgt hm;have aK:=(dc hd rows).2 ho'
    have ih:=ae3 (hd.ks++ts) (aR hd rows) row (λ u hu=>by
     rcases List.mem_append.1 hu with hu|hu
     ·exact hks u hu
     ·exact hg u (by simp[hu])) hq
    have hl:=jM aN _ _ _ hq;rw[←afE]
    have zg:(hd.p.cP (row.take hd.ks.length)).wt=hd.p.Name.size+hd.p.T.wt+((row.take hd.ks.length).length+((row.take hd.ks.length).map aa.wt).sum):=by
     rw[aa.dY];rfl
    have aTt:((row.take hd.ks.length).map aa.wt).sum+((row.drop hd.ks.length).map aa.wt).sum=(row.map aa.wt).sum:=by
     rw[←sum_append,←map_append,List.take_append_drop]
    have htl:(row.take hd.ks.length).length<=hd.ks.length:=by simp;omega
    rw[map_append,sum_append]at ih;simp only[map_cons,sum_cons,zg];omega
 termination_by ts rows=>(qA rows,ts.length)
 decreasing_by all_goals first
  |(have:=lI rows
    simp only[Prod.lex_def,length_cons];omega)
  |(have:=(dc hd rows).2 ho'
    simp only[Prod.lex_def];omega)
theorem aBS{t:ai}(ht:t.wt<=150){aB:List aa}(hs:(aB.map aa.dZ).sum<=60){m:aa}(h:dn aN [t] (eU aB)=some [m]):m.wt<=1000000:=by
 have h1:=ae3 [t] (eU aB) [m] (λ u hu=>by rw[List.mem_singleton.1 hu];exact GC.of ht) h;have h2:=aeV aB;simp only[map_cons,List.map_nil,sum_cons,List.sum_nil]at h1;omega
theorem zw{t:ai}{a:List aa}{x:aa}(ha:1<=a.length)(h:eo aN t (a++ [x])=true):eo aN t a=true:=by
 unfold eo at h⊢;simp only[and_eq_true,all_eq_true,decide_eq_true_eq,map_append,sum_append]at h⊢;have h1:(1:Int)<=(a++ [x]).length/\((a++ [x]).length:Int)<=30:=by simpa [my]using h.1.1
 rw[List.length_append]at h1;refine⟨⟨?_,h.1.2⟩,λ p hp=>h.2.1 p (List.mem_append.2 (.inl hp)),by omega⟩;have:(a.length:Int)<=30:=by have:=h1.2;simp only[length_cons,List.length_nil]at this;omega
 simp[my];omega
theorem aiB{t:ai}{aB:List aa}{x:aa}:xv aN t (aB++ [x]) (aB++ [x]).length=xv aN t (aB++ [x]) aB.length++(if fi aN [t] (eU aB) [x]=true then []else [(aB.length:Int)]):=by
 have e:(aB++ [x]).length=aB.length+1:=by simp
 rw[e,aiA];have e1:(aB++ [x]).take aB.length=aB:=by simp
 have e2:(aB++ [x]).getD aB.length zP=x:=by simp[List.getD]
 rw[e1,e2]
theorem arY(list:List ad)(t:ai)(aB:List aa)(n:Nat):∀k∈xv list t aB n,k<(n:Int):=by
 intro k hk;unfold xv at hk;obtain⟨j,hj,rfl⟩:=List.mem_map.1 hk;have:=List.mem_range.1 (List.mem_filter.1 hj).1
 show(j:Int)<n;omega
end Go.Ab
