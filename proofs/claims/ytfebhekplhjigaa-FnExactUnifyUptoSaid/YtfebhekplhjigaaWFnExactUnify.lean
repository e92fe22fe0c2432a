/-
  FnExactUnify, walked.
-/
import Derived.Test.YtfebhekplhjigaaWSu8
import Derived.Test.YtfebhekplhjigaaCHeld
open Bool(and_eq_true)
open List(length_cons length_nil cons_append nil_append)
open Nat(reduceEqDiff reduceLeDiff reduceAdd reduceLT reduceMul)
set_option linter.unusedVariables false
set_option linter.unusedSimpArgs false
namespace Go.Ab
set_option maxRecDepth 100000
theorem ad.an2{x:ad}(h:x.mO=true):x.Name.size<=12:=by
 rw[ad.qU,and_eq_true]at h;have hn:=h.1;unfold ad.gL at hn;simp only[and_eq_true,Bool.or_eq_true,decide_eq_true_eq]at hn;obtain⟨⟨h1,_⟩,h2⟩:=hn;rcases h1 with h1|h1
 ·have e1:¬(x.Kind=1∨x.Kind=2∨x.Kind=3∨x.Kind=4):=by omega
  have e2:¬x.Kind=5:=by omega
  have e3:¬x.Kind=6:=by omega
  rw[if_neg e1,if_neg e2,if_neg e3,if_pos h1]at h2;unfold alF lV at h2;rw[and_eq_true]at h2;have h3:=h2.1;have hl:(bs x.Name).length=x.Name.size:=by simp[bs]
  generalize bs x.Name=l at h3 hl;cases l with
  |nil=>simp[wm]at h3
  |cons c r=>
   unfold wm at h3;simp only[and_eq_true,decide_eq_true_eq]at h3;have:=h3.1.1;simp at hl;omega
 ·rw[h1];decide
theorem ad.an1(x:ad)(h:x.mO=true):x.wt+1<=13*x.dP:=by
 have h1:=ad.an2 h;have h2:=x.gR;have h3:=x.pz
 have hk:∀y∈x.Kids,y.mO=true:=by
  rw[ad.qU,and_eq_true,List.all_eq_true]at h;exact h.2
 have h4:∀l:List ad,(∀y∈l,y.wt+1<=13*y.dP)->l.length+(l.map ad.wt).sum<=13*(l.map ad.dP).sum:=by
  intro l
  induction l with
  |nil=>intro _;simp
  |cons y l ih=>
   intro h;have q1:=ih λ z hz=>h z (by simp[hz])
   have q2:=h y (by simp);simp only[length_cons,List.map_cons,List.sum_cons];omega
 have h5:=h4 x.Kids λ y hy=>ad.an1 y (hk y hy)
 omega
termination_by SizeOf.sizeOf x
decreasing_by exact ad.fg hy
theorem iC.facts{m:Int}{a b ts:List ad}{code:Int}(h:iC m a b ts code):ts.length<=300/\(∀t∈ts,t.dP<=200)/\inR code:=by
 rcases h with⟨_,rfl,rfl⟩|⟨h0,h⟩
 ·exact⟨by simp,λ t ht=>by simp at ht,⟨by decide,by decide⟩⟩
 ·obtain⟨h1,h2,_⟩:=py h0;rcases h with⟨rfl,rfl,_⟩|⟨τ,hC,⟨rfl,rfl,_⟩|⟨rfl,h3,rfl⟩⟩
  ·exact⟨by simp,λ t ht=>by simp at ht,⟨by decide,by decide⟩⟩
  ·exact⟨by simp,λ t ht=>by simp at ht,⟨by decide,by decide⟩⟩
  ·refine⟨by simp;omega,λ t ht=> ?_,⟨by decide,by decide⟩⟩;obtain⟨k,hk,rfl⟩:=List.mem_map.1 ht;exact h3 k (List.mem_range.1 hk)
theorem iC.small{m:Int}{a b ts:List ad}{code:Int}(h:iC m a b ts code)(ho:∀t∈ts,t.mO=true):ts.length+(ts.map ad.wt).sum<=780000:=by
 obtain⟨h1,h2,_⟩:=h.facts
 have h4:∀l:List ad,(∀y∈l,y.mO=true/\y.dP<=200)->l.length+(l.map ad.wt).sum<=2600*l.length:=by
  intro l
  induction l with
  |nil=>intro _;simp
  |cons y l ih=>
   intro h;have q1:=ih λ z hz=>h z (by simp[hz])
   have q2:=ad.an1 y (h y (by simp)).1;have q3:=(h y (by simp)).2;simp only[length_cons,List.map_cons,List.sum_cons];omega
 have:=h4 ts λ y hy=>⟨ho y hy,h2 y hy⟩
 omega
end Go.Ab
namespace Go.Proofs.Ab
open Go.Ab
set_option maxRecDepth 100000
set_option maxHeartbeats 4000000
theorem xO(m:Int)(a b:List ad)(hb:a.length+(a.map ad.wt).sum+(b.length+(b.map ad.wt).sum)<=1048576)(hm:inR m)(_:∀y∈a,y.ok)(_:∀y∈b,y.ok):a7 Try.prog F.e9 [aO m,.sl (a.map ad.av),.sl (b.map ad.av)] (.v (.bool true)):=by
 obtain⟨ts,code,hU,hO,him⟩:=afo m a b hm (by omega) (by omega);obtain⟨ts',aDy,hU',_,vS⟩:=aeE m a b hm (by omega) (by omega);obtain⟨rfl,rfl⟩:=hU.unique hU';have hsm:=hU.small hO;have aBd:=ajP a 1048576 (by omega) (Nat.le_refl _);have aBc:=ajP b (1048576- (a.length+(a.map ad.wt).sum)) (by omega) (by omega);have auU:=ajM a (by omega);have auT:=ajM b (by omega);have ayt:=adl a (by omega);have ays:=adl b (by omega);have aBZ:=afF a (by omega);have aBY:=afF b (by omega);have avh:=afF ts (by omega);have hna:(AV.sl (a.map ad.av)).ag=true:=by simp only[AV.ag];exact bt ad.ag
 have hnb:(AV.sl (b.map ad.av)).ag=true:=by simp only[AV.ag];exact bt ad.ag
 have arQ:AV.ae [AV.sl (a.map ad.av)]=true:=by simp only[AV.ae,hna,Bool.and_true]
 have arP:AV.ae [AV.sl (b.map ad.av)]=true:=by simp only[AV.ae,hnb,Bool.and_true]
 have aBx:∀v:Value,AV.ae [AV.sl (a.map ad.av),.v v]=true:=λ v=>by simp only[AV.ae,hna,Bool.and_true];rfl
 have aBw:∀v:Value,AV.ae [AV.sl (b.map ad.av),.v v]=true:=λ v=>by simp only[AV.ae,hnb,Bool.and_true];rfl
 have hn3:AV.ae [.v (.int .i64 m),.sl (a.map ad.av),.sl (b.map ad.av)]=true:=by simp only[AV.ae,hna,hnb,Bool.and_true];rfl
 have hca:AV.dS (a.map ad.av)<=16*(a.length+(a.map ad.wt).sum):=xb ad.wt 16 a λ y _=>ad.afH y
 have hcb:AV.dS (b.map ad.av)<=16*(b.length+(b.map ad.wt).sum):=xb ad.wt 16 b λ y _=>ad.afH y
 have hct:AV.dS (ts.map ad.av)<=16*(ts.length+(ts.map ad.wt).sum):=xb ad.wt 16 ts λ y _=>ad.afH y
 have hhe:=adY ts 1 (by omega) (by omega);simp only[aO]at him vS
 have aBg:∀O:List aa,cF Try.prog F.gX [.v (.int .i64 m),.sl (a.map ad.av),.sl (b.map ad.av)] O (.a9 [.own O.length,.v (.int .i64 code)]) (O++ [.own (.sl (ts.map ad.av))]):=λ O=>by
  have:=qi vS hn3 rfl O;simpa [AV.bj,AV.sa]using this
 have aBR:∀O:List aa,cF Try.prog F.fo [.v (.int .i64 m),.sl (a.map ad.av),.sl (b.map ad.av)] O (.a9 [.own O.length,.v (.int .i64 code)]) (O++ [.own (.sl (ts.map ad.av))]):=λ O=>by
  have:=qi him hn3 rfl O;simpa [AV.bj,AV.sa]using this
 have aBS:cF Try.prog F.fo [.v (.int .i64 m),.own 1,.own 2] [.own (.sl (ts.map ad.av)),.own (.sl (a.map ad.av)),.own (.sl (b.map ad.av))] (.a9 [.own 3,.v (.int .i64 code)]) [.own (.sl (ts.map ad.av)),.own (.sl (a.map ad.av)),.own (.sl (b.map ad.av)),.own (.sl (ts.map ad.av))]:=by
  have hz:ajG [.own (.sl (ts.map ad.av)),.own (.sl (a.map ad.av)),.own (.sl (b.map ad.av))] [.v (.int .i64 m),.own 1,.own 2] [.v (.int .i64 m),.sl (a.map ad.av),.sl (b.map ad.av)]:= .cons (.same _ rfl) (.cons (.own 1 _ rfl) (.cons (.own 2 _ rfl) .nil));have:=cF.auD him hz.get.1 hz.get.2 rfl rfl;rw[aeS (aj8 (l:=[.own (.sl (ts.map ad.av))]) rfl)]at this;simpa [AV.bj,AV.sa]using this
 refine cY A.sX rfl ?_;simp only[A.e9,aO,↓OD,OA,reduceEqDiff,reduceCtorEq,reduceAdd,reduceLT,reduceLeDiff,reduceIte];refine aj _ _ (aBd.any (aBx _) rfl _) ?_;simp only[dv,↓OD,OA,reduceEqDiff,reduceCtorEq,reduceAdd,reduceLT,reduceLeDiff,reduceIte];refine aj _ _ (aBc.any (aBw _) rfl _) ?_;simp only[dv,↓OD,OA,reduceEqDiff,reduceCtorEq,reduceAdd,reduceLT,reduceLeDiff,reduceIte];refine aj _ _ (auU.any arQ hna _) ?_;simp only[↓OD,OA,reduceEqDiff,reduceCtorEq,reduceAdd,reduceLT,reduceLeDiff,reduceIte];refine aj _ _ (auT.any arP hnb _) ?_;simp only[↓OD,OA,reduceEqDiff,reduceCtorEq,reduceAdd,reduceLT,reduceLeDiff,reduceIte];refine aj _ _ (aBg []) ?_;simp only[length_cons,length_nil,cons_append,nil_append,jk,decide_true,Bool.not_true,dv,↓OD,OA,reduceEqDiff,reduceCtorEq,reduceAdd,reduceLT,reduceLeDiff,reduceIte];refine aj _ _ (qi ayt arQ rfl _) ?_;simp only[length_cons,length_nil,cons_append,nil_append,jk,decide_true,Bool.not_true,dv,↓OD,OA,reduceEqDiff,reduceCtorEq,reduceAdd,reduceLT,reduceLeDiff,reduceIte];refine aj _ _ (qi ays arP rfl _) ?_;simp only[length_cons,length_nil,cons_append,nil_append,jk,decide_true,Bool.not_true,dv,↓OD,OA,reduceEqDiff,reduceCtorEq,reduceAdd,reduceLT,reduceLeDiff,reduceIte];refine aj _ _ (aBS) ?_;simp only[length_cons,length_nil,cons_append,nil_append,jk,decide_true,Bool.not_true,dv,↓OD,OA,reduceEqDiff,reduceCtorEq,reduceAdd,reduceLT,reduceLeDiff,reduceIte];refine aj _ _ (avh.yC (.cons (.own 3 _ rfl) (.cons (.own 0 _ rfl) .nil))) ?_;simp only[length_cons,length_nil,cons_append,nil_append,jk,decide_true,Bool.not_true,dv,↓OD,OA,reduceEqDiff,reduceCtorEq,reduceAdd,reduceLT,reduceLeDiff,reduceIte];refine aj _ _ (auU.any arQ hna _) ?_;simp only[length_cons,length_nil,cons_append,nil_append,jk,decide_true,Bool.not_true,dv,↓OD,OA,reduceEqDiff,reduceCtorEq,reduceAdd,reduceLT,reduceLeDiff,reduceIte];refine aj _ _ (aBZ.yC (.cons (.own 1 _ rfl) (.cons (.same _ hna) .nil))) ?_;simp only[length_cons,length_nil,cons_append,nil_append,jk,decide_true,Bool.not_true,dv,↓OD,OA,reduceEqDiff,reduceCtorEq,reduceAdd,reduceLT,reduceLeDiff,reduceIte];refine aj _ _ (auT.any arP hnb _) ?_;simp only[length_cons,length_nil,cons_append,nil_append,jk,decide_true,Bool.not_true,dv,↓OD,OA,reduceEqDiff,reduceCtorEq,reduceAdd,reduceLT,reduceLeDiff,reduceIte];refine aj _ _ (aBY.yC (.cons (.own 2 _ rfl) (.cons (.same _ hnb) .nil))) ?_;simp only[length_cons,length_nil,cons_append,nil_append,jk,decide_true,Bool.not_true,dv,↓OD,OA,reduceEqDiff,reduceCtorEq,reduceAdd,reduceLT,reduceLeDiff,reduceIte];refine aj _ _ (cF.kill (sS a 1 (by omega)) 1 rfl) ?_;simp only[length_cons,length_nil,cons_append,nil_append,jk,decide_true,Bool.not_true,dv,↓OD,OA,reduceEqDiff,reduceCtorEq,reduceAdd,reduceLT,reduceLeDiff,reduceIte];refine aj _ _ (cF.kill (sS b _ (by omega)) 2 rfl) ?_;simp only[length_cons,length_nil,cons_append,nil_append,jk,decide_true,Bool.not_true,dv,↓OD,OA,reduceEqDiff,reduceCtorEq,reduceAdd,reduceLT,reduceLeDiff,reduceIte];refine aj _ _ (avh.yC (.cons (.own 3 _ rfl) (.cons (.own 0 _ rfl) .nil))) ?_;simp only[length_cons,length_nil,cons_append,nil_append,jk,decide_true,Bool.not_true,dv,↓OD,OA,reduceEqDiff,reduceCtorEq,reduceAdd,reduceLT,reduceLeDiff,reduceIte];refine aj _ _ (cF.agc (wu ts 1 (by omega)) 3 rfl) ?_;simp only[length_cons,length_nil,cons_append,nil_append,jk,decide_true,Bool.not_true,dv,↓OD,OA,reduceEqDiff,reduceCtorEq,reduceAdd,reduceLT,reduceLeDiff,reduceIte];refine aj _ _ (hhe.yC (.cons (.own 3 _ rfl) (.cons (.same _ rfl) .nil))) ?_;simp only[length_cons,length_nil,cons_append,nil_append,jk,decide_true,Bool.not_true,dv,↓OD,OA,reduceEqDiff,reduceCtorEq,reduceAdd,reduceLT,reduceLeDiff,reduceIte];refine aj _ _ (auU.any arQ hna _) ?_;simp only[length_cons,length_nil,cons_append,nil_append,jk,decide_true,Bool.not_true,dv,↓OD,OA,reduceEqDiff,reduceCtorEq,reduceAdd,reduceLT,reduceLeDiff,reduceIte];refine aj _ _ (auT.any arP hnb _) ?_;simp only[length_cons,length_nil,cons_append,nil_append,jk,decide_true,Bool.not_true,dv,↓OD,OA,reduceEqDiff,reduceCtorEq,reduceAdd,reduceLT,reduceLeDiff,reduceIte];refine aj _ _ (aBR _) ?_;simp only[length_cons,length_nil,cons_append,nil_append,jk,decide_true,Bool.not_true,dv,↓OD,OA,reduceEqDiff,reduceCtorEq,reduceAdd,reduceLT,reduceLeDiff,reduceIte];refine aj _ _ (avh.yC (.cons (.own 4 _ rfl) (.cons (.own 0 _ rfl) .nil))) ?_;simp only[length_cons,length_nil,cons_append,nil_append,jk,decide_true,Bool.not_true,dv,↓OD,OA,reduceEqDiff,reduceCtorEq,reduceAdd,reduceLT,reduceLeDiff,reduceIte];refine aj _ _ (hhe.yC (.cons (.own 3 _ rfl) (.cons (.same _ rfl) .nil))) ?_;simp only[length_cons,length_nil,cons_append,nil_append,jk,decide_true,Bool.not_true,dv,↓OD,OA,reduceEqDiff,reduceCtorEq,reduceAdd,reduceLT,reduceLeDiff,reduceIte];refine agA (.inl rfl) ?_ rfl;simp only[length_cons,length_nil,cons_append,nil_append,jk,decide_true,Bool.not_true,dv,↓OD,OA,reduceEqDiff,reduceCtorEq,reduceAdd,reduceLT,reduceLeDiff,reduceIte]
end Go.Proofs.Ab
