/-
  TEXTS OF CODE PARSED BY THE PROGRAM: the whole text.
-/
import Derived.Test.YtkinchcjijhmgaaGreatDoorWPi5
import Derived.Test.YtkinchcjijhmgaaGreatDoorWPc4
import Derived.Test.YtkinchcjijhmgaaGreatDoorCInts
open Nat(le_refl)
open Bool(and_eq_true)
open List(mem_cons not_mem_nil all_cons map_cons map_nil length_map map_append length_nil length_cons all_nil)
open Nat(reduceEqDiff reduceLeDiff reduceAdd reduceLT reduceMul)
set_option linter.unusedVariables false
set_option linter.unusedSimpArgs false
namespace Go.Ab
set_option maxRecDepth 100000
theorem ajX{rs:List ff}{v:Value}{e1 z1 e2 z2:Nat}{x:AX}(hx:x= .ret∨x= .normal){en:Env}{O:List ae}(h:fi en O rs [] λ xs=>b4 xs= .aK [.agg [.aQ,.aQ],.v v]):
  lQ 0 rs (.aK [.agg [.row 0 0,.row 1 0],.v v]) [.nil e1 z1,.nil e2 z2] x en O:=by
 have:fi en O rs [] λ hZ=>∃e',WK 0 (λ t=>if t=0 then b4 hZ else .top) O e' [.nil e1 z1,.nil e2 z2]/\e' 0= .aK [.agg [.row 0 0,.row 1 0],.v v]:=by
  refine sZ rs _ _ _ (λ hZ hp=> ?_) h;refine⟨λ t=>if t=0 then .aK [.agg [.row 0 0,.row 1 0],.v v]else .top,?_,rfl⟩;intro I0 L0 O0 w0 I L w f hl hg hr;obtain rfl:O0= []:=List.eq_nil_of_length_eq_zero hl
  have no:∀{n:Nat} {ob:ae},[ae.nil e1 z1,ae.nil e2 z2][n]? =some ob->∃e z,ob= .nil e z:=by
   intro n ob h
   match n,h with
   |0,h=>cases h;exact⟨_,_,rfl⟩
   |1,h=>cases h;exact⟨_,_,rfl⟩
  refine⟨I,L,⟨⟨hg.inv.iy,λ n e s xs hn=> ?_,λ n m e s xs e' s' ys hn=> ?_,λ n e s xs o hn=> ?_,hg.inv.fix,hg.inv.bc,.no λ n a hn=> ?_,.no λ n a hn=> ?_⟩,⟨hg.ext.iy,by simp,by simp,by simp,by simp,by simp⟩,hg.mE,?_,hg.iM⟩,λ t=> ?_⟩
  any_goals (obtain⟨_,_,h⟩:=no hn;cases h;done)
  ·rintro b (⟨n,e,s,xs,hn,_⟩|⟨n,a,o,v,hn,_⟩|⟨n,a,hn,_⟩)<;>(obtain⟨_,_,h⟩:=no hn;cases h)
  ·by_cases ht:t=0
   ·subst ht;have:=hr 0;simp only[if_true,hp]at this⊢;generalize f 0=y at this⊢;cases this with
    |aK _ vs h1 h2=>
     refine .aK _ vs (by simpa using h1) λ i c q hc hq=> ?_
     match i,hc with
     |0,hc=>
      simp at hc;subst hc;have:=h2 0 _ q rfl hq;cases this with
      |agg _ us k1 k2=>
       refine .agg _ us (by simpa using k1) λ j d r hd lI=> ?_
       match j,hd with
       |0,hd=>
        simp at hd;subst hd;have:=k2 0 _ r rfl lI;cases this;exact .eb 0 _ _ rfl
       |1,hd=>
        simp at hd;subst hd;have:=k2 1 _ r rfl lI;cases this;exact .eb 1 _ _ rfl
     |1,hc=>
      simp at hc;subst hc;have:=h2 1 _ q rfl hq;cases this;exact .v _ (by assumption)
     |i+2,hc=>simp at hc
   ·simp only[if_neg ht];exact .top _
 rcases hx with rfl|rfl<;>exact this
theorem ajW{rs:List ff}{v:Value}{k1 k2 l1 l2:Nat}{o1 o2:ae}{x:AX}(hx:x= .ret∨x= .normal){e:Env}{O:List ae}(h:fi e O rs [] λ xs=>b4 xs= .aK [.agg [.row k1 l1,.row k2 l2],.v v])
  (h1:O[k1]? =some o1) (h2:O[k2]? =some o2) (hk:k1≠k2) (hn1:o1.ad=true) (hn2:o2.ad=true):
  lQ 0 rs (.aK [.agg [.row 0 l1,.row 1 l2],.v v]) [o1,o2] x e O:=by
 have:fi e O rs [] λ hZ=>∃e',WK 0 (λ t=>if t=0 then b4 hZ else .top) O e' [o1,o2]/\e' 0= .aK [.agg [.row 0 l1,.row 1 l2],.v v]:=by
  refine sZ rs _ _ _ (λ hZ hp=> ?_) h;refine⟨λ t=>if t=0 then .aK [.agg [.row 0 l1,.row 1 l2],.v v]else .top,.select (λ n=>if n=0 then k1 else k2) (λ i hi=> ?_) (λ i j hi hj he=> ?_) (λ ob ho=> ?_) (λ t=> ?_),rfl⟩
  ·match i,hi with
   |0,_=>simp[h1,b9 hn1]
   |1,_=>simp[h2,b9 hn2]
  ·match i,j,hi,hj with
   |0,0,_,_=>rfl
   |0,1,_,_=>exact absurd he hk
   |1,0,_,_=>exact absurd he.symm hk
   |1,1,_,_=>rfl
  ·simp only[mem_cons,not_mem_nil,or_false]at ho;rcases ho with rfl|rfl
   ·exact bf hn1
   ·exact bf hn2
  ·by_cases ht:t=0
   ·subst ht;exact .inr ⟨by simp[hp,AV.bO,AV.pv],rfl⟩
   ·exact .inl (by simp[ht])
 rcases hx with rfl|rfl<;>exact this
theorem ady{s:Nat->Nat}{k:Nat}:∀{l:List (Nat×AV)},l.all (λ p=>p.2.inScope k)=true->(∀p∈l,p.2.bO s=p.2)->∀t,ng l t= .top∨(ng l t=(ng l t).bO s/\(ng l t).inScope k=true)
 | [],_,_,t=> .inl rfl
 |(j,a)::l,h,hr,t=>by
  rw[pj];rw[all_cons,and_eq_true]at h
  split
  ·exact .inr ⟨(hr (j,a) (by simp)).symm,h.1⟩
  ·exact ady h.2 (λ p hp=>hr p (by simp[hp])) t
end Go.Ab
namespace Go.Proofs.Ab
open Go.Ab
set_option maxRecDepth 100000
set_option maxHeartbeats 4000000
theorem zj(c:UInt8):∀(n:Nat) (s:ByteArray),s.size<=n->((df c s).map ByteArray.size).sum<=s.size:=by
 intro n
 induction n with
 |zero=>
  intro s hs;rcases hn:aC c s with⟨v,_|r⟩
  ·rw[gJ hn];simp
  ·obtain⟨_,rfl⟩:=cj hn;have e:(⟨#[c]⟩:ByteArray).size=1:=rfl;rw[aL,aL,e]at hs;omega
 |succ n ih=>
  intro s hs;rcases hn:aC c s with⟨v,_|r⟩
  ·rw[gJ hn];simp
  ·have mw:=hn;obtain⟨_,rfl⟩:=cj hn;have e:(⟨#[c]⟩:ByteArray).size=1:=rfl;have lj:(v++(⟨#[c]⟩++r)).size=v.size+(1+r.size):=by rw[aL,aL,e]
   rw[iF mw];have:=ih r (by omega);simp only[map_cons,List.sum_cons];omega
theorem akA(l:List ByteArray):AV.ad (l.map bE)=true:=bu λ _=>rfl
def la(c:ai):List ae:=[bX true 34 6 (c.ar.map aa.av),bX true 3 1 (c.aM.map br)]
theorem yW(s:ByteArray)(hs:s.size<=1048576)(O:List ae):js Tryz.prog F.bg [bE s] O (.aK [.row O.length (kj s).length,.v (.bool (ct s).2)]) (O++ [bX true 3 1 ((kj s).map br)]):=by
 have h:js Tryz.prog F.bg [bE s] [] (.aK [.row 0 ((kj s).map br).length,.v (.bool (ct s).2)]) [bX true 3 1 ((kj s).map br)]:=by
  have h0:=qI s hs;unfold sF at h0;simpa only[G.bg,SV.aY,SV.ev,map_cons,map_nil,aeL,D.ev,aS,List.getD_cons_zero,List.getD_cons_succ]using h0
 rw[length_map]at h;exact js.auD h (.cons (.same _ rfl) .nil) (oA (λ _=>rfl) _) (td _)
theorem aqe{O:List ae}{n len e s:Nat}{xs:List AV}(h:O[n]? =some (bX true e s xs))(hl:xs.length=len)(hn:AV.ad xs=true):Frz O (.row n len) (.sl xs):=by
 by_cases hx:xs= []
 ·subst hx;subst hl;exact .nil n e s h
 ·have:bX true e s xs= .live e s xs:=by unfold bX;rw[if_neg (λ h=>hx h.2)]
  rw[this]at h;exact .row n len e s xs h hl hn
theorem ao8{O:List ae}(c:ai){a b:Nat}(h1:O[a]? =some (bX true 34 6 (c.ar.map aa.av)))(h2:O[b]? =some (bX true 3 1 (c.aM.map br))):Frz O (.agg [.row a c.ar.length,.row b c.aM.length]) c.av:=by
 rw[←ai.eta];refine .agg _ _ rfl λ i x y hx hy=> ?_
 match i,hx,hy with
 |0,hx,hy=>cases hx;cases hy;exact aqe h1 (length_map _) (bu aa.ag)
 |1,hx,hy=>cases hx;cases hy;exact aqe h2 (length_map _) (td _)
theorem tI(s:ByteArray)(hs:s.size<=1048576):js Tryz.prog F.dJ [bE s] [] (.aK [.agg [.row 0 (ef s).1.ar.length,.row 1 (ef s).1.aM.length],br (ef s).2]) (la (ef s).1):=by
 have hsp:=ach s 10 hs;have aAo:=zj 10 s.size s (le_refl _);have hwl:=oW 10 s;have lX:=Lib.countB_le ⟨#[10]⟩ (le_refl _) s.size s (le_refl _);have adm:∀w∈df 10 s,w.size<=s.size:=λ w hw=>oX s.size s (le_refl _) w hw
 generalize hq:ef s=q;unfold ef at hq;generalize df 10 s=l at*
 have adl:∀k:Nat,q=(ic,(k:Int))->∀{rs:List ff} {en:Env} {O:List ae},(fi en O rs [] λ xs=>b4 xs= .aK [.agg [.aQ,.aQ],br k])->lQ 0 rs (.aK [.agg [.row 0 q.1.ar.length,.row 1 q.1.aM.length],br q.2]) (la q.1) .ret en O:=by
  rintro k rfl rs en O h;exact ajX (.inl rfl) h
 refine hH A.sf rfl ?_;simp only[A.dJ,aa.width,aa.isAgg,aa.storable,aa.cells,↓OD,OA,reduceEqDiff,reduceCtorEq,reduceAdd,reduceLT,reduceLeDiff,reduceIte];refine aW _ _ (hsp.any rfl (by simp only[AV.ag];exact bu λ _=>rfl) _) ?_;have hl1:IntKind.i64.wrap ((l.length:Int)- 1)=((l.length- 1:Nat):Int):=by rw[gv (by omega) (by omega)];omega
 have hdt:List.drop (Int.toNat 0) (List.take (l.length- 1) (l.map bE))=(l.take (l.length- 1)).map bE:=by rw[List.map_take];rfl
 have htl:(l.take (l.length- 1)).length=l.length- 1:=by rw[List.length_take];omega
 simp only[length_map,hl1,Int.toNat_natCast,hdt,htl,↓OD,OA,reduceEqDiff,reduceCtorEq,reduceAdd,reduceLT,reduceLeDiff,reduceIte]
 repeat (refine And.intro (by first|omega|(intro y hy;obtain⟨x,_,rfl⟩:=List.mem_map.1 hy;rfl)) ?_)
 refine lE (ι:=Nat×ai) (λ z=>z.1<=l.length- 1/\q=kg z.1 z.2 (l.drop z.1)/\z.2.wt<=((l.take z.1).map ByteArray.size).sum/\(z.1=0->z.2=ic))
  (λ z=>ng [(2,.ptr 0 1 0 0),(4,.sl (l.map bE)),(5,br (l.length- 1:Nat)),(6,.ptr 1 1 0 0),(18,.sl ((l.take (l.length- 1)).map bE)),(19,br (l.length- 1:Nat)),(20,br z.1)])
  (λ z=>[.live 25 2 [.agg [.aQ,.aQ]],.live 25 2 [.agg [.row 2 z.2.ar.length,.row 3 z.2.aM.length]],bX true 34 6 (z.2.ar.map aa.av),bX true 3 1 (z.2.aM.map br)]) (λ z=>l.length- z.1) (0,ic)
  ⟨Nat.zero_le _,hq.symm,(show(0:Nat)<=_ from Nat.zero_le _),λ _=>rfl⟩ (.trans (.trans (.jP (t':=34) (z':=6) (n:=1) (j:=0) rfl rfl) (.jP (t':=3) (z':=1) (n:=1) (j:=1) rfl rfl)) (.of_eq rfl rfl)) ?_
 rintro⟨k,c⟩ ⟨hk,hI,hw,h0⟩;simp only at hk hI hw h0
 have htk:((l.take k).map ByteArray.size).sum<=s.size:=by
  have:=List.take_append_drop k l
  have h2:((l.take k).map ByteArray.size).sum+((l.drop k).map ByteArray.size).sum=(l.map ByteArray.size).sum:=by
   rw[←List.sum_append,←map_append,this]
  omega
 have hwt:=c.jy;simp only[br,↓OD,OA,reduceEqDiff,reduceCtorEq,reduceAdd,reduceLT,reduceLeDiff,reduceIte];refine j4 (λ hc=> ?_) (λ hc=> ?_)
 ·have au:k<l.length- 1:=by have:(k:Int)<((l.length- 1:Nat):Int):=by simpa using hc
                            omega
  have afL:k<l.length:=by omega
  have uO:=List.drop_eq_getElem_cons afL
  have axv:((l.take (k+1)).map ByteArray.size).sum=((l.take k).map ByteArray.size).sum+l[k].size:=by
   rw[List.take_succ_eq_append_getElem afL,map_append,List.sum_append];simp only[map_cons,map_nil,List.sum_cons,List.sum_nil,Nat.add_zero]
  have ayh:l.drop (k+1)≠[]:=by
   intro e;have:=congrArg List.length e;rw[List.length_drop,length_nil]at this;omega
  have gn:((l.take (l.length- 1)).map bE).getD k .top=bE l[k]:=by
   rw[List.getD_eq_getElem?_getD,List.getElem?_map,List.getElem?_take_of_lt au,List.getElem?_eq_getElem afL];rfl
  have hwz:=adm _ (List.getElem_mem afL);generalize l[k]=w at uO axv gn hwz;rw[uO,jL _ _ _ _ ayh]at hI;simp only[Int.toNat_natCast,length_map,htl,gn,br,↓OD,OA,reduceEqDiff,reduceCtorEq,reduceAdd,reduceLT,reduceLeDiff,reduceIte]
  repeat (refine And.intro (by omega) ?_)
  by_cases arL:w.size<=10000;rotate_left
  ·have iu:gK k c w=none:=by unfold gK;rw[if_neg arL]
   have dw:decide ((w.size:Int)<=10000)=false:=decide_eq_false (by omega);rw[iu]at hI;by_cases hk0:k=0
   ·have dk:decide ((k:Int)=0)=true:=decide_eq_true (by omega);simp only[dk,dw,↓OD,OA,reduceEqDiff,reduceCtorEq,reduceAdd,reduceLT,reduceLeDiff,reduceIte];refine adl k hI ?_;simp only[↓OD,OA,reduceEqDiff,reduceCtorEq,reduceAdd,reduceLT,reduceLeDiff,reduceIte]
   ·have dk:decide ((k:Int)=0)=false:=decide_eq_false (by omega);simp only[dk,dw,↓OD,OA,reduceEqDiff,reduceCtorEq,reduceAdd,reduceLT,reduceLeDiff,reduceIte];refine adl k hI ?_;simp only[↓OD,OA,reduceEqDiff,reduceCtorEq,reduceAdd,reduceLT,reduceLeDiff,reduceIte]
  have dw:decide ((w.size:Int)<=10000)=true:=decide_eq_true (by omega);have alF:IntKind.i64.wrap ((k:Int)+1)=((k+1:Nat):Int):=aD (by omega)
  have fin:∀d,gK k c w=some d->d.wt<=((l.take (k+1)).map ByteArray.size).sum:=λ d h=>by
   have:=aaI h h0;omega
  by_cases hk0:k=0
  ·have dk:decide ((k:Int)=0)=true:=decide_eq_true (by omega);have hc0:=h0 hk0;subst hc0
   have iu:gK k ic w=if(ct w).2=true then some (.mk [] (ct w).1)else none:=by
    unfold gK;rw[if_pos arL,if_pos hk0];rfl
   simp only[dk,dw,↓OD,OA,reduceEqDiff,reduceCtorEq,reduceAdd,reduceLT,reduceLeDiff,reduceIte];refine aW _ _ (yW w (by omega) _) ?_;simp only[length_cons,length_nil,reduceAdd,List.cons_append,List.nil_append,↓OD,OA,reduceEqDiff,reduceCtorEq,reduceAdd,reduceLT,reduceLeDiff,reduceIte];cases hb:(ct w).2 with
   |false=>
    rw[hb,if_neg (by simp)]at iu;rw[iu]at hI;simp only[Bool.not_false,↓OD,OA,reduceEqDiff,reduceCtorEq,reduceAdd,reduceLT,reduceLeDiff,reduceIte];refine adl k hI ?_;simp only[↓OD,OA,reduceEqDiff,reduceCtorEq,reduceAdd,reduceLT,reduceLeDiff,reduceIte]
   |true=>
    rw[hb,if_pos rfl]at iu;have fin:=fin _ iu;rw[iu]at hI;have hsi:kj w=(ct w).1:=by unfold kj;rw[hb,if_pos rfl]
    rw[hsi];generalize (ct w).1=S at*;simp only[Bool.not_true,alF,↓OD,OA,reduceEqDiff,reduceCtorEq,reduceAdd,reduceLT,reduceLeDiff,reduceIte];refine dD (k+1,.mk [] S) ⟨by simp only;omega,hI,fin,λ e=>absurd e (Nat.succ_ne_zero k)⟩ (show l.length- (k+1)<l.length- k by omega) (.select (λ n=>if n=3 then 4 else n) (λ i hi=> ?_) (λ i j hi hj he=> ?_) (λ ob ho=> ?_) (ady ?_ ?_))
    ·match i,hi with
     |0,_=>rfl
     |1,_=>rfl
     |2,_=>rfl
     |3,_=>exact congrArg some (zv (td S) _).symm
    ·simp only[length_cons,length_nil]at hi hj
     split at he<;>split at he<;>omega
    ·simp only[mem_cons,not_mem_nil,or_false]at ho;rcases ho with rfl|rfl|rfl|rfl
     ·rfl
     ·rfl
     ·exact bf (bm (bu aa.ag))
     ·exact bf (bm (td _))
    ·simp only[all_cons,all_nil,Bool.and_true,AV.inScope,br,ca _ (akA _),length_cons,length_nil]
     decide
    ·intro p hp;simp only[mem_cons,not_mem_nil,or_false]at hp;rcases hp with rfl|rfl|rfl|rfl|rfl|rfl|rfl<;>first|rfl|exact congrArg AV.sl ((ec _ _).symm▸dG _ (akA _))|exact cO _ (by simp only[AV.ag,akA])
  ·have dk:decide ((k:Int)=0)=false:=decide_eq_false (by omega)
   have iu:gK k c w=(eR w).map λ x=> .mk (c.ar++ [x]) c.aM:=by
    unfold gK;rw[if_pos arL,if_neg hk0]
   have hpl:=tA w (by omega);generalize eR w=P at iu hpl;simp only[dk,dw,↓OD,OA,reduceEqDiff,reduceCtorEq,reduceAdd,reduceLT,reduceLeDiff,reduceIte];refine aW _ _ (hpl.any rfl (nu P) _) ?_;unfold amU;have hIl:c.ar.length<=s.size:=by omega
   generalize hx:P.getD zI=x
   have nV:c.ar= []/\bX true 34 6 (c.ar.map aa.av)= .nil 34 6∨bX true 34 6 (c.ar.map aa.av)= .live 34 6 (c.ar.map aa.av):=by
    by_cases hn:c.ar= []
    ·exact .inl ⟨hn,by rw[hn];rfl⟩
    ·exact .inr (by unfold bX;rw[if_neg (by simpa using hn)])
   rcases nV with⟨hn,nV⟩|nV
   ·have axK:bX true 34 6 ([]:List AV)= .nil 34 6:=rfl;simp only[axK,hn,map_nil,length_nil,length_cons,aa.width,aa.isAgg,aa.storable,↓OD,OA,reduceEqDiff,reduceCtorEq,reduceAdd,reduceLT,reduceLeDiff,reduceIte];refine⟨λ y hy=>by rw[List.mem_singleton]at hy;rw[hy];exact aa.width _,by omega,by rw[maxLen];omega,λ h=>h.elim,λ _=> ?_⟩;cases P with
    |none=>
     rw[iu]at hI;simp only[Option.isSome_none,Bool.not_false,↓OD,OA,reduceEqDiff,reduceCtorEq,reduceAdd,reduceLT,reduceLeDiff,reduceIte];refine adl k hI ?_;simp only[↓OD,OA,reduceEqDiff,reduceCtorEq,reduceAdd,reduceLT,reduceLeDiff,reduceIte]
    |some y=>
     have hxy:y=x:=hx;subst hxy;have fin:=fin _ iu;rw[iu]at hI;simp only[Option.isSome_some,Bool.not_true,alF,↓OD,OA,reduceEqDiff,reduceCtorEq,reduceAdd,reduceLT,reduceLeDiff,reduceIte];refine dD (k+1,.mk (c.ar++ [y]) c.aM) ⟨by simp only;omega,hI,fin,λ e=>absurd e (Nat.succ_ne_zero k)⟩ (show l.length- (k+1)<l.length- k by omega) (.abB 4 ?_ ?_ (by omega) (by simp) ?_ ?_)
     ·rfl
     ·rw[hn];rfl
     ·simp only[all_cons,all_nil,Bool.and_true,and_eq_true];exact⟨rfl,rfl,bf (bm (bu aa.ag)),bf (bm (td _))⟩
     ·simp only[all_cons,all_nil,Bool.and_true,AV.inScope,br,ca _ (akA _),length_cons,length_nil]
      decide
   ·simp only[nV,length_map,aa.width,aa.isAgg,aa.storable,↓OD,OA,reduceEqDiff,reduceCtorEq,reduceAdd,reduceLT,reduceLeDiff,reduceIte];refine⟨λ y hy=>by rw[List.mem_singleton]at hy;rw[hy];exact aa.width _,?_⟩
    repeat (refine And.intro (by first|omega|(simp only[maxLen,length_cons,length_nil];omega)) ?_)
    cases P with
    |none=>
     rw[iu]at hI;simp only[Option.isSome_none,Bool.not_false,↓OD,OA,reduceEqDiff,reduceCtorEq,reduceAdd,reduceLT,reduceLeDiff,reduceIte];refine adl k hI ?_;simp only[↓OD,OA,reduceEqDiff,reduceCtorEq,reduceAdd,reduceLT,reduceLeDiff,reduceIte]
    |some y=>
     have hxy:y=x:=hx;subst hxy;have fin:=fin _ iu;rw[iu]at hI;simp only[Option.isSome_some,Bool.not_true,alF,↓OD,OA,reduceEqDiff,reduceCtorEq,reduceAdd,reduceLT,reduceLeDiff,reduceIte];refine dD (k+1,.mk (c.ar++ [y]) c.aM) ⟨by simp only;omega,hI,fin,λ e=>absurd e (Nat.succ_ne_zero k)⟩ (show l.length- (k+1)<l.length- k by omega) (.abB 4 ?_ ?_ (by omega) (by simp) ?_ ?_)
     ·rfl
     ·have hro:bX true 34 6 ((c.ar++ [y]).map aa.av)= .live 34 6 (c.ar.map aa.av++ [y.av]):=by
        unfold bX;rw[if_neg (by simp),map_append];rfl
      have hle:(c.ar++ [y]).length=c.ar.length+1:=by simp
      simp only[ai.ar,ai.aM];simp only[ai.ar,ai.aM]at hro hle;rw[hro,hle]
      rfl
     ·simp only[all_cons,all_nil,Bool.and_true,and_eq_true];exact⟨rfl,rfl,bf (bm (bu aa.ag)),bf (bm (td _))⟩
     ·simp only[all_cons,all_nil,Bool.and_true,AV.inScope,br,ca _ (akA _),length_cons,length_nil]
      decide
 ·have hkl:k=l.length- 1:=by have:¬(k:Int)<((l.length- 1:Nat):Int):=by simpa using hc
                             omega
  have afL:k<l.length:=by omega
  have uO:=List.drop_eq_getElem_cons afL;rw[List.drop_of_length_le (by omega:l.length<=k+1)]at uO
  have gn:(l.map bE).getD k .top=bE l[k]:=by
   rw[List.getD_eq_getElem?_getD,List.getElem?_map,List.getElem?_eq_getElem afL];rfl
  generalize l[k]=v at uO gn;rw[uO,kM]at hI;rw[←hkl]at*;simp only[Int.toNat_natCast,length_map,gn,↓OD,OA,reduceEqDiff,reduceCtorEq,reduceAdd,reduceLT,reduceLeDiff,reduceIte]
  repeat (refine And.intro (by omega) ?_)
  by_cases hv:v=⟨#[]⟩
  ·by_cases hk0:k=0
   ·have dv:decide (v=⟨#[]⟩)=true:=decide_eq_true hv;have dk:decide ((k:Int)=0)=true:=decide_eq_true (by omega);rw[if_neg (λ h=>h.2.1 hk0)]at hI;simp only[dv,dk,Bool.not_true,↓OD,OA,reduceEqDiff,reduceCtorEq,reduceAdd,reduceLT,reduceLeDiff,reduceIte];refine adl k hI ?_;simp only[↓OD,OA,reduceEqDiff,reduceCtorEq,reduceAdd,reduceLT,reduceLeDiff,reduceIte]
   ·have dv:decide (v=⟨#[]⟩)=true:=decide_eq_true hv;have dk:decide ((k:Int)=0)=false:=decide_eq_false (by omega);simp only[dv,dk,Bool.not_true,↓OD,OA,reduceEqDiff,reduceCtorEq,reduceAdd,reduceLT,reduceLeDiff,reduceIte];have ayk:=y8 c (by omega);refine aW _ _ (ayk.ac2 (.cons (ao8 c (a:=2) (b:=3) rfl rfl) .nil)) ?_;cases hb:c.qW with
    |false=>
     rw[hb,if_neg (λ h=>by simp at h)]at hI;simp only[Bool.not_false,↓OD,OA,reduceEqDiff,reduceCtorEq,reduceAdd,reduceLT,reduceLeDiff,reduceIte];refine adl k hI ?_;simp only[↓OD,OA,reduceEqDiff,reduceCtorEq,reduceAdd,reduceLT,reduceLeDiff,reduceIte]
    |true=>
     rw[hb,if_pos ⟨hv,hk0,rfl⟩]at hI;simp only[Bool.not_true,↓OD,OA,reduceEqDiff,reduceCtorEq,reduceAdd,reduceLT,reduceLeDiff,reduceIte];rw[hI];refine ajW (.inl rfl) (k1:=2) (k2:=3) ?_ rfl rfl (by omega) (bm (bu aa.ag)) (bm (td _));simp only[↓OD,OA,reduceEqDiff,reduceCtorEq,reduceAdd,reduceLT,reduceLeDiff,reduceIte]
  ·have dv:decide (v=⟨#[]⟩)=false:=decide_eq_false hv;rw[if_neg (λ h=>hv h.1)]at hI;simp only[dv,Bool.not_false,↓OD,OA,reduceEqDiff,reduceCtorEq,reduceAdd,reduceLT,reduceLeDiff,reduceIte];refine adl k hI ?_;simp only[↓OD,OA,reduceEqDiff,reduceCtorEq,reduceAdd,reduceLT,reduceLeDiff,reduceIte]
end Go.Proofs.Ab
