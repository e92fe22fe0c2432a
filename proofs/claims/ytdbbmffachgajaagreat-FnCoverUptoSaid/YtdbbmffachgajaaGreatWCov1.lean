/-
  WHAT A MATCH MISSES: of the reference.
-/
import Derived.Test.YtdbbmffachgajaaGreatCovC
import Derived.Test.YtdbbmffachgajaaGreatSA
set_option maxHeartbeats 4000000
set_option maxRecDepth 100000
open Int(toNat_natCast le_refl)
open Nat(zero_le)
open List(map_cons length_map length_cons take_of_length_le length_drop)
open Nat(reduceEqDiff reduceLeDiff reduceAdd reduceLT reduceMul)
set_option linter.unusedVariables false
set_option linter.unusedSimpArgs false
namespace Go.Proofs.Ab
open Go.Ab
theorem aqp{P:Program}{f:FuncId}{args:List AV}{O:List aj}{K:KT}{e s:Nat}{xs:List AV}(h:vv P f args false e s xs)(hn:AV.ae args=true)(hx:AV.ae xs=true)(k:k1 (.row O.length xs.length) (O++ [.live e s xs]) K):azH P f args O K:=by
 refine⟨_,_,hn,h,?_⟩;have e1:fp false e s xs= .live e s xs:=by unfold fp;rw[if_neg (by simp)]
 rw[e1];simp only[AV.bL,aj.bL,Nat.add_zero];rw[←dM,db xs hx];exact k
theorem vG{t1 t2 n len ty z:Nat}{b:Value}{xs:List AV}{x:AX}(hx:x= .ret∨x= .normal){e:Env}{O:List aj}(h1:e t1= .row n len)(hl:xs.length=len)(hO:O[n]? =some (.live ty z xs))(h2:e t2= .v b)(hn:AV.ae xs=true):
  p7 0 [.tmp t1,.tmp t2] (.aZ [.sl xs,.v b]) [] x e O:=by
 refine axF hx 2 ?_ (by simp only[AV.ag,AV.ae,hn,Bool.and_true]);rw[p8,p8,uP];simp only[List.reverse_cons,List.reverse_nil,List.nil_append,List.cons_append,cv,h1,h2,fz,map_cons,List.map_nil,hO,hl,if_true,List.map_id']
theorem aN9(O:List aj)(q:aa):fz O 2 q.av=q.av:=by
 rw[←aa.eta q];simp[fz]
theorem aHM(O:List aj)(l:List aa):(l.map aa.av).map (fz O 2)=l.map aa.av:=by
 rw[List.map_map];exact List.map_congr_left λ q _=>aN9 O q
theorem atn{t1 t2 n m len l2 ty z ty' z':Nat}{b:Value}{p:aa}{kids rest:List aa}{x:AX}(hx:x= .ret∨x= .normal){e:Env}{O:List aj}(h1:e t1= .row n len)(hl:rest.length+1=len)
  (hO:O[n]? =some (.live ty z (.agg [aD p.Kind,aD p.fM,.v (.string p.Name),aD p.T.Kind,aD p.T.N,.v (.string p.T.Name),.sl (p.T.Kids.map ai.av),.row m l2]::rest.map aa.av))) (hk:kids.length=l2) (hO2:O[m]? =some (.live ty' z' (kids.map aa.av))) (h2:e t2= .v b):
  p7 0 [.tmp t1,.tmp t2] (.aZ [.sl ((p.cP kids::rest).map aa.av),.v b]) [] x e O:=by
 refine axF hx 4 ?_ (by have:=iq (p.cP kids::rest);simp only[AV.ag,AV.ae,this,Bool.and_true]);rw[p8,p8,uP];have e8:(p.cP kids).av=AV.agg [aD p.Kind,aD p.fM,AV.v (Value.string p.Name),aD p.T.Kind,aD p.T.N,AV.v (Value.string p.T.Name),AV.sl (List.map ai.av p.T.Kids),AV.sl (List.map aa.av kids)]:=(aa.eta _).symm;have hf:=aHM O rest;have hlen:(AV.agg [aD p.Kind,aD p.fM,.v (.string p.Name),aD p.T.Kind,aD p.T.N,.v (.string p.T.Name),.sl (p.T.Kids.map ai.av),.row m l2]::rest.map aa.av).length=len:=by simp;omega
 have zk:(kids.map aa.av).length=l2:=by simpa using hk
 simp only[List.reverse_cons,List.reverse_nil,List.nil_append,List.cons_append,cv,h1,h2];rw[map_cons,e8]
 have f3:fz O 3 (.row n len)= .sl ((AV.agg [aD p.Kind,aD p.fM,.v (.string p.Name),aD p.T.Kind,aD p.T.N,.v (.string p.T.Name),.sl (p.T.Kids.map ai.av),.row m l2]::rest.map aa.av).map (fz O 2)):=by
  simp only[fz,hO,hlen,if_true]
 have f1:fz O 1 (.row m l2)= .sl (kids.map aa.av):=by
  simp only[fz,hO2,zk,if_true,List.map_id']
 show AV.aZ [fz O 3 (.row n len),fz O 3 (.v b)]=_;rw[f3,map_cons,hf]
 show AV.aZ [.sl (AV.agg [_,_,_,_,_,_,_,fz O 1 (.row m l2)]::_),_]=_;rw[f1]
 rfl
theorem ank(k:Hd)(hb:k.ks.length<=1000):vv Tryz.prog F.fE [k.spa] false 27 4 (k.ks.map ai.av):=by
 have h:=apJ k.sp (by show(k.ks.map cw).length<=100000;simp;omega)
 have e:k.sp.Kids.map (λ q=>q.T.av)=k.ks.map ai.av:=by
  show(k.ks.map cw).map (λ q=>q.T.av)=_;rw[List.map_map];rfl
 rw[e]at h;exact h
theorem ao6{list:List ad}{t:ai}{rows:List (List aa)}{k:Hd}(hm:k∈bE list t rows)(r:List aa):uN k.sp r=eb k r:=by
 have hf:=s8 hm;cases r with
 |nil=>rfl
 |cons p r=>
  rw[uN,eb];by_cases ho:fg p=true
  ·rw[if_pos ho,if_pos ho];rfl
  ·rw[if_neg ho,if_neg ho];by_cases hq:p.Kind=k.sp.Kind/\p.fM=k.sp.fM/\p.Name=k.sp.Name
   ·rw[if_pos hq,if_neg];rintro(h|h|h|h)
    ·rcases hf.2 with⟨_,_,h3⟩|⟨h2,_⟩
     ·have:fg p=fg k.p:=by unfold fg;rw[hq.1];rfl
      rw[this]at ho;exact ho h3
     ·rw[h2]at h;cases h
    ·exact h hq.1
    ·exact h hq.2.1
    ·exact h hq.2.2
   ·rw[if_neg hq,if_pos];apply Decidable.byContradiction;intro hc;apply hq;refine⟨?_,?_,?_⟩
    ·exact Decidable.byContradiction λ e=>hc (.inr (.inl e))
    ·exact Decidable.byContradiction λ e=>hc (.inr (.inr (.inl e)))
    ·exact Decidable.byContradiction λ e=>hc (.inr (.inr (.inr e)))
theorem atN{list:List ad}{t:ai}{rows aFo:List (List aa)}{k:Hd}(hb:RB rows)(hm:k∈bE list t aFo)(hk:k.ks.length<=1000):aW Tryz.prog F.gQ [dq rows,k.spa] (dq (aR k rows)):=by
 have h:=ani rows k.sp hb (by show(k.ks.map cw).length<=1000;simpa using hk);rwa [show uN k.sp=eb k from funext (ao6 hm)]at h
theorem uX(list:List ad)(hD:DU list):∀(ts:List ai) (rows:List (List aa)),MQ list ts rows->aW Tryz.prog F.dR [.sl (list.map ad.av),.sl (ts.map ai.av),dq rows] (nh list ts rows)
 | [],rows,hM=>by
   refine gx A.qL rfl ?_;have z0:decide (((0:Nat):Int)=0)=true:=rfl
   have e:nh list [] rows= .aZ [.sl [],.v (.bool (decide (rows= [])))]:=by
    unfold nh kt;rw[pG,abF]
    split<;>rename_i h<;>simp[h]
   rw[e]
   have z1:decide ((rows.length:Int)=0)=decide (rows= []):=by
    cases rows<;>simp<;>omega
   simp only[A.dR,dq,List.map_nil,List.length_nil,length_map,z0,z1,↓OD,OA,reduceEqDiff,reduceCtorEq];exact vG (.inl rfl) rfl rfl rfl rfl rfl
 |t::ts,rows,hM=>by
  have hb:=RT.rb hM;have hs:=hM.sum;have htw:=(hM.tg t (by simp)).wt;simp only[length_cons]at hs;have hhl:=xO hD.toDB t (rows:=rows) (by have:=hb.len;omega);have hz:decide (((ts.length+1:Nat):Int)=0)=false:=decide_eq_false (by omega);have hw:∀(l:List ai) (y:AV),y∈l.map ai.av->y.cells.length=4:=λ l y hy=>by obtain⟨z,_,rfl⟩:=List.mem_map.1 hy;exact ai.width z
  have hwp:∀(l:List aa) (y:AV),y∈l.map aa.av->y.cells.length=8:=λ l y hy=>by obtain⟨z,_,rfl⟩:=List.mem_map.1 hy;exact aa.width z
  have hw1:∀y∈t.av::ts.map ai.av,y.cells.length=4:=λ y hy=>by
   rcases List.mem_cons.1 hy with rfl|hy
   ·exact ai.width _
   ·exact hw ts y hy
  refine gx A.qL rfl ?_;simp only[A.dR,dq,map_cons,length_cons,length_map,hz,↓OD,OA,reduceEqDiff,reduceCtorEq];refine eV (ι:=Nat) (λ i=>i<=rows.length) (λ i=>fx [(0,.sl (list.map ad.av)),(1,.sl (t.av::ts.map ai.av)),(2,.sl (rows.map jX)),(8,.v (.bool (bg (rows.take i)))),(9,aD i)]) (λ _=>[]) (λ i=>rows.length- i) 0 (zero_le _) (.of_eq rfl rfl) λ i hi=> ?_
  by_cases aK:i<rows.length
  ·have di:decide ((i:Int)<(rows.length:Int))=true:=decide_eq_true (by omega);have hm:rows[i]∈rows:=List.getElem_mem aK;have hr:=hb.row rows[i] hm
   have htk:bg (rows.take (i+1))=(bg (rows.take i)&&oo rows[i]):=by
    unfold bg;rw[List.take_add_one,List.getElem?_eq_getElem aK,List.all_append];simp
   have hgi:(rows.map jX).getD i .top= .sl (rows[i].map aa.av):=by simp[List.getD,List.getElem?_map,List.getElem?_eq_getElem aK,jX]
   generalize mz:rows[i]=row at hr htk hgi;rcases row with _|⟨p,row⟩
   ·exact absurd rfl hr.1
   have e1:IntKind.i64.wrap ((i:Int)+1)=((i+1:Nat):Int):=by rw[cE (by omega) (by have:=hb.len;omega)];rfl
   cases hta:bg (rows.take i)with
   |false=>
    rw[hta,Bool.false_and]at htk;simp only[aD,length_map,di,e1,↓OD,OA,reduceEqDiff,reduceCtorEq];refine dz (i+1) (by show i+1<=_;omega) (by show rows.length- (i+1)<rows.length- i;omega) (.of_eq ?_ rfl);rw[htk]
   |true=>
    rw[hta,Bool.true_and]at htk;have i0:(0:Int).toNat=0:=rfl;simp only[map_cons]at hgi;simp only[aD,length_map,length_cons,di,toNat_natCast,i0,hgi,ia,List.getD_cons_zero,aa.B,↓OD,OA,reduceEqDiff,reduceCtorEq,reduceAdd];refine⟨by omega,by omega,le_refl _,by omega,?_⟩;refine bS _ [] (awW p) ?_;simp only[e1,↓OD,OA,reduceEqDiff,reduceCtorEq];refine dz (i+1) (by show i+1<=_;omega) (by show rows.length- (i+1)<rows.length- i;omega) (.of_eq ?_ rfl);rw[htk]
    rfl
  ·have di:decide ((i:Int)<(rows.length:Int))=false:=decide_eq_false (by omega);have hti:rows.take i=rows:=take_of_length_le (by omega);simp only[aD,length_map,di,hti,↓OD,OA,reduceEqDiff,reduceCtorEq];refine mj (λ ho=> ?_) (λ ho=> ?_)
   ·have htl:List.drop (Int.toNat 1) (List.take (ts.length+1) (t.av::ts.map ai.av))=ts.map ai.av:=sP (by simp);simp only[↓OD];refine kB ?_
    have aHc:List.drop (Int.toNat 1) (t.av::List.take ts.length (ts.map ai.av))=ts.map ai.av:=by
     rw[take_of_length_le (by simp)];rfl
    have hn2:AV.ae [.sl (rows.map jX),zAV]=true:=by
     have:=jg rows;simp only[AV.ae,AV.ag,zAV,this,Bool.and_true]
    simp only[aHc,length_cons,length_map,toNat_natCast,↓OD,OA,reduceEqDiff,reduceCtorEq];refine⟨by omega,by omega,by omega,hw1,?_⟩;refine eE _ (ayr rows hb ho) hn2 ?_;simp only[↓OD,OA,reduceEqDiff,reduceCtorEq];refine bS _ [] (uX list hD ts (cF rows) hM.axb) ?_;simp only[nh,↓OD,OA,reduceEqDiff,reduceCtorEq,reduceAdd];refine⟨by kernel_rfl,?_⟩;simp only[List.getD_cons_zero,ai.B,length_cons,length_map,show(0:Int).toNat=0 from rfl,OA,reduceAdd];refine⟨le_refl _,by omega,?_⟩;refine bS _ [] (qX t (by omega)) ?_;have hwl:=aiO list ts (cF rows);simp only[aa.B,length_map,↓OD,OA,reduceEqDiff,reduceAdd];refine⟨hwp _,by omega,by unfold maxLen;omega,?_⟩;rw[ae1 _ _ _ _ ho,jh _ _ _ _ ho,Option.isSome_map];exact vG (.inl rfl) rfl (by simp;omega) rfl rfl (iq (cw t::kt list ts (cF rows)))
   ·have hht:cA (some 4) t.av 0=t.av:=eg (ai.isAgg t) (ai.width t);simp only[List.getD_cons_zero,ai.B,length_cons,length_map,show(0:Int).toNat=0 from rfl,hht,↓OD,OA,reduceEqDiff,reduceCtorEq,reduceAdd];refine⟨le_refl _,by omega,?_⟩;refine bS _ [] (atP list t rows hD.toDB hb (hM.hq ho)) ?_;simp only[↓OD,OA,reduceEqDiff,reduceCtorEq];refine eV (ι:=Nat) (λ i=>i<=(bE list t rows).length/\(bE list t rows).findSome? (qh list ts rows)=((bE list t rows).drop i).findSome? (qh list ts rows)) (λ i=>fx [(0,.sl (list.map ad.av)),(1,.sl (t.av::ts.map ai.av)),(2,.sl (rows.map jX)),(12,.sl ((bE list t rows).map Hd.spa)),(13,aD i)]) (λ _=>[]) (λ i=>(bE list t rows).length- i) 0 ⟨zero_le _,rfl⟩ (.of_eq rfl rfl) λ i hiG=> ?_
    obtain⟨hi,hg⟩:=hiG;by_cases aK:i<(bE list t rows).length
    ·have di:decide ((i:Int)<((bE list t rows).length:Int))=true:=decide_eq_true (by omega);have hm:(bE list t rows)[i]∈bE list t rows:=List.getElem_mem aK;have hdr:(bE list t rows).drop i=(bE list t rows)[i]::(bE list t rows).drop (i+1):=List.drop_eq_getElem_cons aK;have hgi:((bE list t rows).map Hd.spa).getD i .top=(bE list t rows)[i].spa:=by simp[List.getD,List.getElem?_map,List.getElem?_eq_getElem aK]
     have e1:IntKind.i64.wrap ((i:Int)+1)=((i+1:Nat):Int):=by rw[cE (by omega) (by omega)];rfl
     rw[hdr]at hg;generalize (bE list t rows)[i]=k at hm hgi hg;have hkw:k.spa.cells.length=8:=aa.width _;have hka:k.spa.isAgg=true:=rfl;have hks:k.spa.storable=true:=aa.storable _;have hkl:cA (some 8) k.spa 0=k.spa:=eg hka hkw;have hk7:k.spa.cells.getD 7 .top= .sl ((k.ks.map cw).map aa.av):=by rw[Hd.xl];rfl
     have s7:AV.ae [k.spa]=true:=by
      have:k.spa.ag=true:=aa.ag _;simp only[AV.ae,this,Bool.and_true]
     simp only[aD,length_map,di,toNat_natCast,hgi,hkw,hks,hkl,hk7,↓OD,OA,reduceEqDiff,reduceCtorEq,reduceAdd];refine⟨by omega,by omega,?_⟩;refine oG (al:=[⟨none,(some 80),.bD (.t 0)⟩,⟨none,(some 81),.load (some 8) (.t 14)⟩,⟨none,(some 82),.gq false 27 4 F.fE [(.t 81)]⟩,⟨none,(some 83),.bD (.t 1)⟩,⟨none,(some 84),.cj 4 (.t 83) (some (.c (.v (.int .i64 1)))) none⟩,⟨none,(some 85),.app 27 4 56 (.t 82) (.t 84)⟩,⟨none,(some 86),.bD (.t 2)⟩,⟨none,(some 87),.load (some 8) (.t 14)⟩,⟨none,(some 88),.fA F.gQ [(.t 86),(.t 87)]⟩,⟨none,(some 89),.qd F.dR [(.t 80),(.t 85),(.t 88)]⟩,⟨none,(some 79),.bD (.t 89)⟩,⟨none,(some 90),.ext (.t 79) 0⟩,⟨none,(some 91),.ext (.t 79) 1⟩,⟨none,(some 16),.bD (.t 90)⟩,⟨none,(some 17),.bD (.t 91)⟩]) rfl ?_;have aNl:=(dc k rows).2 ho;obtain⟨n,pH⟩:∃n,qA rows=n+1:=⟨qA rows- 1,by omega⟩;have htg:TG list (n+1) t:=by rw[←pH];exact hM.tg t (by simp)
     have hbH:=HB.of hD hm htg;have aNt:=hbH.ks;simp only[hkw,hkl,↓OD,OA,reduceEqDiff,reduceCtorEq];refine aqp (ank k aNt) s7 (mO _) ?_;have htl:List.drop (Int.toNat 1) (List.take (ts.length+1) (t.av::ts.map ai.av))=ts.map ai.av:=sP (by simp)
     have aHc:List.drop (Int.toNat 1) (t.av::List.take ts.length (ts.map ai.av))=ts.map ai.av:=by
      rw[take_of_length_le (by simp)];rfl
     simp only[aHc,length_map,toNat_natCast,hkw,hkl,↓OD,OA,reduceEqDiff,reduceCtorEq,reduceAdd];refine⟨by omega,by omega,by omega,hw1,hw ts,by omega,by unfold maxLen;omega,?_⟩
     have hn3:AV.ae [.sl (rows.map jX),k.spa]=true:=by
      have h1:=jg rows;have h2:k.spa.ag=true:=aa.ag _;simp only[AV.ae,AV.ag,h1,h2,Bool.and_true]
     refine eE _ (atN hb hm aNt) hn3 ?_;simp only[↓OD,OA,reduceEqDiff,reduceCtorEq,reduceAdd]
     have f1:lh [aj.live 32 8 [k.spa],aj.live 27 4 (List.map ai.av k.ks++List.map ai.av ts)] (AV.row 1 (k.ks.length+ts.length))= .sl ((k.ks++ts).map ai.av):=by
      rw[aCG (t:=27) (s:=4) (xs:=List.map ai.av k.ks++List.map ai.av ts) rfl (by simp),List.map_append]
     have f2:lh [aj.live 32 8 [k.spa],aj.live 27 4 (List.map ai.av k.ks++List.map ai.av ts)] (dq (aR k rows))=dq (aR k rows):=aaU (jF _);rw[f1,f2]
     have hn4:AV.ae [.sl (list.map ad.av),.sl ((k.ks++ts).map ai.av),dq (aR k rows)]=true:=by
      have h1:=fq list;have h2:=mO (k.ks++ts);have h3:=jF (aR k rows);simp only[AV.ae,AV.ag,h1,h2,h3,Bool.and_true]
     refine pn _ (uX list hD (k.ks++ts) (aR k rows) (hM.under hD ho hm)) hn4 ?_
     have f3:aft [aj.live 32 8 [k.spa],aj.live 27 4 (List.map ai.av k.ks++List.map ai.av ts)] [AV.sl (List.map ad.av list),AV.row 1 (k.ks.length+ts.length),dq (aR k rows)] (nh list (k.ks++ts) (aR k rows))= [aj.live 32 8 [k.spa],.dead]:=by
      simp[aft,nh,AV.flat,fZ,dq]
     rw[f3];simp only[nh,↓OD,OA,reduceEqDiff,reduceCtorEq,reduceAdd];refine⟨by kernel_rfl,?_⟩;rw[List.findSome?_cons]at hg;cases hr:dn list (k.ks++ts) (aR k rows)with
     |none=>
      have e0:qh list ts rows k=none:=by unfold qh;rw[hr];rfl
      rw[e0]at hg;simp only[Option.isSome_none,↓OD,OA,reduceEqDiff,reduceCtorEq];have k1:(AV.sl (list.map ad.av)).inScope 0=true:=aM _ (fq list);have k2:(AV.sl (t.av::ts.map ai.av)).inScope 0=true:=aM _ (mO (t::ts));have k3:(AV.sl (rows.map jX)).inScope 0=true:=aM _ (jg rows);have k4:(AV.sl ((bE list t rows).map Hd.spa)).inScope 0=true:=aM _ (bt λ h=>aa.ag _);have k5:(AV.v (.int .i64 ((i+1:Nat):Int))).inScope 0=true:=rfl;simp only[e1];refine dz (i+1) ⟨by omega,hg⟩ (by show(bE list t rows).length- (i+1)<(bE list t rows).length- i;omega) (.adb 0 rfl rfl (Nat.le_refl _) (zero_le _) rfl ?_);simp only[List.all_cons,List.all_nil,k1,k2,k3,k4,k5,Bool.and_true]
     |some row=>
      have e0:qh list ts rows k=some (k.p.cP (row.take k.ks.length)::row.drop k.ks.length):=by unfold qh;rw[hr];rfl
      rw[e0]at hg;have hrl:=jM list _ _ _ hr;rw[List.length_append]at hrl;have hwr:kt list (k.ks++ts) (aR k rows)=row:=by unfold kt;rw[hr];rfl
      simp only[Option.isSome_some,hwr,↓OD,OA,reduceEqDiff,reduceCtorEq];have e6:dn list (t::ts) rows=some (k.p.cP (row.take k.ks.length)::row.drop k.ks.length):=by rw[pv _ _ _ _ ho,hg]
      have e7:kt list (t::ts) rows=k.p.cP (row.take k.ks.length)::row.drop k.ks.length:=by unfold kt;rw[e6];rfl
      have e8:(k.p.cP (row.take k.ks.length)).av=AV.agg [aD k.p.Kind,aD k.p.fM,AV.v (Value.string k.p.Name),aD k.p.T.Kind,aD k.p.T.N,AV.v (Value.string k.p.T.Name),AV.sl (List.map ai.av k.p.T.Kids),AV.sl (List.map aa.av (List.take k.ks.length row))]:=(aa.eta _).symm;rw[e7,e6,map_cons,e8];refine mj (λ hq=> ?_) (λ hq=> ?_)
      ·rw[decide_eq_true_eq]at hq;have e10:List.drop (Int.toNat 0) (List.take k.ks.length (row.map aa.av))=(row.take k.ks.length).map aa.av:=by rw[List.map_take];rfl
       have aMW:(row.take k.ks.length).length=k.ks.length:=by rw[List.length_take];omega
       simp only[Hd.xl,e10,aMW,length_map,toNat_natCast,↓OD,OA,reduceEqDiff,reduceAdd];refine⟨by omega,by omega,by omega,hwp row,hwp _,by omega,by unfold maxLen;omega,?_⟩;refine kB ?_
       have e11:List.drop k.ks.length (List.take row.length (row.map aa.av))=(row.drop k.ks.length).map aa.av:=by
        rw[take_of_length_le (by simp),List.map_drop]
       simp only[e11,length_map,length_drop,toNat_natCast,↓OD,OA,reduceEqDiff,reduceAdd];have tl:(List.take row.length (row.map aa.av)).length=row.length:=by simp
       rw[tl];refine⟨by omega,by omega,by omega,hwp _,hwp _,by omega,by unfold maxLen;omega,by kernel_rfl,?_⟩
       have ay9:=atn (t1:=6) (t2:=7) (n:=3) (m:=2) (len:=1+(row.length- k.ks.length)) (l2:=k.ks.length) (ty:=32) (z:=8) (ty':=32) (z':=8) (b:= .bool true) (p:=k.p) (kids:=row.take k.ks.length) (rest:=row.drop k.ks.length) (x:= .ret) (.inl rfl)
        (e:=fx [(6,AV.row 3 (1+(row.length- k.ks.length))),(7,AV.v (Value.bool true))]) (O:=[aj.live 32 8 [AV.agg [aD k.p.Kind,aD k.p.fM,AV.v (Value.string k.p.Name),aD k.p.T.Kind,aD k.p.T.N,AV.v (Value.string k.p.T.Name),AV.sl (List.map ai.av k.p.T.Kids),AV.row 2 k.ks.length]],
         aj.dead,aj.live 32 8 (List.map aa.av (List.take k.ks.length row)),aj.live 32 8 (AV.agg [aD k.p.Kind,aD k.p.fM,AV.v (Value.string k.p.Name),aD k.p.T.Kind,aD k.p.T.N,AV.v (Value.string k.p.T.Name),AV.sl (List.map ai.av k.p.T.Kids),AV.row 2 k.ks.length]::List.map aa.av (List.drop k.ks.length row))])
        rfl (by rw[length_drop];omega) rfl aMW rfl rfl
       rw[map_cons,e8]at ay9;exact ay9
      ·rw[decide_eq_false_iff_not]at hq;have hk0:k.ks.length=0:=by omega
       have aQO:k.ks= []:=List.eq_nil_of_length_eq_zero hk0
       have e11:List.drop 0 (List.take row.length (row.map aa.av))=(row.drop 0).map aa.av:=by
        rw[take_of_length_le (by simp),List.map_drop]
       simp only[Hd.xl,aQO,↓OD,OA];refine kB ?_;simp only[e11,length_map,length_drop,toNat_natCast,↓OD,OA,reduceEqDiff,reduceAdd];have tl:(List.take row.length (row.map aa.av)).length=row.length:=by simp
       rw[tl];refine⟨by omega,by omega,by omega,hwp _,hwp _,by omega,by unfold maxLen;omega,by kernel_rfl,?_⟩;have e8':(k.p.cP []).av=AV.agg [aD k.p.Kind,aD k.p.fM,AV.v (Value.string k.p.Name),aD k.p.T.Kind,aD k.p.T.N,AV.v (Value.string k.p.T.Name),AV.sl (List.map ai.av k.p.T.Kids),AV.sl []]:=(aa.eta _).symm;rw[←e8'];exact vG (.inl rfl) rfl (by simp;omega) rfl rfl (iq (k.p.cP []::row))
    ·have di:decide ((i:Int)<((bE list t rows).length:Int))=false:=decide_eq_false (by omega);simp only[aD,length_map,di,↓OD,OA,reduceEqDiff,reduceCtorEq];rw[List.drop_of_length_le (by omega),List.findSome?_nil,←pv _ _ _ _ ho]at hg
     have e9:nh list (t::ts) rows= .aZ [.sl [],.v (.bool false)]:=by
      unfold nh;rw[ae2 ho hg,hg]
      rfl
     rw[e9];exact vG (.inl rfl) rfl rfl rfl rfl rfl
 termination_by ts rows=>(qA rows,ts.length)
 decreasing_by all_goals first
  |(have:=lI rows
    simp only[Prod.lex_def,length_cons];omega)
  |(have:=(dc k rows).2 ho
    simp only[Prod.lex_def];omega)
end Go.Proofs.Ab
