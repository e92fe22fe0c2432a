/-
  FnExactParseCode, walked.
-/
import Derived.Test.YtkinchcjijhmgaaGreatDoorWPi6
import Derived.Test.YtkinchcjijhmgaaGreatDoorWPm
import Derived.Test.YtkinchcjijhmgaaGreatDoorH
open Nat(zero_le)
open List(mem_cons not_mem_nil cons_append nil_append)
open Nat(reduceEqDiff reduceLeDiff reduceAdd reduceLT reduceMul)
set_option linter.unusedVariables false
set_option linter.unusedSimpArgs false
namespace Go.Ab
set_option maxRecDepth 100000
theorem js.two{P:Program}{f:FuncId}{args:List AV}{res:AV}{a b a' b':ae}(h:js P f args [a,b] res [a',b'])(hs:∀x∈args,x.inScope 2=true)(ha:a.ad=true)(hb:b.ad=true)(ha':a'.ad=true)(jr:b'.ad=true)(hr:res.ag=true)
  {O:List ae} (k m:Nat) (hk:O[k]? =some a) (hm:O[m]? =some b) (cr:k≠m):
  js P f (args.map (AV.bO λ n=>if n=0 then k else if n=1 then m else O.length+(n- 2))) O res ((O.set k a').set m b'):=by
 have qY:k<O.length:=(List.getElem?_eq_some_iff.1 hk).1;have hm1:m<O.length:=(List.getElem?_eq_some_iff.1 hm).1
 have:=h.frame (O:=O) (pC:=(O.set k a').set m b') (λ n=>if n=0 then k else if n=1 then m else O.length+(n- 2))
  (by
   intro i hi
   match i,hi with
   |0,_=>simpa using qY
   |1,_=>simpa using hm1)
  (by
   intro i hi
   match i,hi with
   |0,_=>simp[hk,b9 ha]
   |1,_=>simp[hm,b9 hb])
  (by
   intro i j hi hj he
   match i,j,hi,hj with
   |0,0,_,_=>rfl
   |0,1,_,_=>exact absurd he cr
   |1,0,_,_=>exact absurd he.symm cr
   |1,1,_,_=>rfl)
  (by intro i hi;simp at hi;rw[if_neg (by omega),if_neg (by omega)];simp)
  (λ x hx=>hs x hx)
  (by
   intro ob ho;simp only[mem_cons,not_mem_nil,or_false]at ho;rcases ho with rfl|rfl
   ·exact bf ha
   ·exact bf hb)
  (by simp)
  (by
   intro i hi
   match i,hi with
   |0,_=>simp[List.getElem?_set,qY,Ne.symm cr,b9 ha']
   |1,_=>simp[List.getElem?_set,hm1,b9 jr])
  (by
   intro n hn cd;have h0:=cd 0 (by simp);have h1:=cd 1 (by simp);simp at h0 h1;rw[List.getElem?_set_ne h1,List.getElem?_set_ne h0])
 rwa [cO _ hr]at this
end Go.Ab
namespace Go.Proofs.Ab
open Go.Ab
set_option maxRecDepth 100000
set_option maxHeartbeats 4000000
theorem uW:∀(l:List ByteArray) (k:Nat) (c:ai),(kg k c l).1.ar.length<=40000/\(kg k c l).1.aM.length<=400
 | [],k,c=>⟨zero_le _,zero_le _⟩
 | [w],k,c=>by
   rw[kM]
   split
   ·rename_i h;have h:=h.2.2;unfold ai.qW jJ at h;simp only[Bool.and_eq_true,decide_eq_true_eq]at h;exact⟨show c.ar.length<=40000 by omega,show c.aM.length<=400 by omega⟩
   ·exact⟨zero_le _,zero_le _⟩
 |w::v::r,k,c=>by
  rw[jL _ _ _ _ (by simp)];cases gK k c w with
  |none=>exact⟨zero_le _,zero_le _⟩
  |some d=>exact uW (v::r) (k+1) d
theorem adF:∀(l:List ByteArray) (k:Nat) (c:ai),(k=0->c=ic)->(kg k c l).1.wt<=c.wt+(l.map ByteArray.size).sum
 | [],k,c,_=>by
   show 0<=_;omega
 | [w],k,c,_=>by
   rw[kM]
   split
   ·simp only;omega
   ·show 0<=_;omega
 |w::v::r,k,c,h0=>by
  rw[jL _ _ _ _ (by simp)];cases hs:gK k c w with
  |none=>show 0<=_;omega
  |some d=>
   have h1:=aaI hs h0;have h2:=adF (v::r) (k+1) d (λ h=>absurd h (Nat.succ_ne_zero k));simp only[List.map_cons,List.sum_cons]at h2⊢;omega
theorem ahO(s:ByteArray):(ef s).1.wt<=s.size:=by
 have h:=adF (df 10 s) 0 ic (λ _=>rfl);have h2:=zj 10 s.size s (Nat.le_refl _);have h3:ic.wt=0:=rfl;unfold ef;omega
theorem afl(c:ai)(hi:c.ar.length<=40000)(hs:c.aM.length<=400):
  js Tryz.prog F.gE [.agg [.row 0 c.ar.length,.row 1 c.aM.length],br 1] (la c) (br (1+6*c.ar.length+c.aM.length:Nat)) (la (mP 1 c.ar.length c.aM.length)):=by
 have h1:=yY c.ar 1 (by omega) (by omega) (O:=la c++ [.live 25 2 [.agg [.row 0 c.ar.length,.row 1 c.aM.length]]]) 0 rfl;have h2:=acX c.aM (1+6*c.ar.length) (by omega) (by omega) (O:=(la c++ [ae.live 25 2 [.agg [.row 0 c.ar.length,.row 1 c.aM.length]]]).set 0 (bX true 34 6 ((iQ 1 c.ar.length).map aa.av))) 1 rfl;refine hH A.tp rfl ?_;unfold la at h1 h2⊢;simp only[A.gE,↓OD,OA,reduceEqDiff,reduceCtorEq,reduceAdd,reduceLT,reduceLeDiff,reduceIte];refine aW _ _ h1 ?_;simp only[cons_append,nil_append,↓OD,OA,reduceEqDiff,reduceCtorEq,reduceAdd,reduceLT,reduceLeDiff,reduceIte];refine aW _ _ h2 ?_;simp only[cons_append,nil_append,↓OD,OA,reduceEqDiff,reduceCtorEq,reduceAdd,reduceLT,reduceLeDiff,reduceIte];refine agr (.inl rfl) rfl rfl (by simp) ?_ rfl;intro ob ho;simp only[mem_cons,not_mem_nil,or_false]at ho;rcases ho with rfl|rfl
 ·exact bf (bm (bu aa.ag))
 ·exact bf (bm (td _))
theorem abL(c:ai):∀ob∈la c,ob.ad=true:=by
 intro ob ho;unfold la at ho;simp only[mem_cons,not_mem_nil,or_false]at ho;rcases ho with rfl|rfl
 ·exact bm (bu aa.ag)
 ·exact bm (td _)
theorem anV(s:ByteArray)(hs:s.size<=1048576)(O:List ae):js Tryz.prog F.dJ [bE s] O (.aK [.agg [.row O.length (ef s).1.ar.length,.row (O.length+1) (ef s).1.aM.length],br (ef s).2]) (O++la (ef s).1):=by
 have h:=(tI s hs).fresh rfl O
 have e:(la (ef s).1).map (ae.bO λ n=>O.length+n)=la (ef s).1:=by
  have:(la (ef s).1).map (ae.bO λ n=>O.length+n)=(la (ef s).1).map id:=List.map_congr_left λ ob ho=>b9 (abL _ ob ho)
  rw[this,List.map_id]
 rw[e]at h;exact h
theorem oD(s:ByteArray)(hs:s.size<=1048576):aI Tryz.prog F.dm [bE s] (.v (.bool true)):=by
 have hsm:=uW (df 10 s) 0 ic;have hwt:=ahO s;have hsp:=Go.Proofs.Ab.aI.axc (sW s hs) (amp (aar (df 10 s) 0 ic));have him:=anV s hs;have hsm:(ef s).1.ar.length<=40000/\(ef s).1.aM.length<=400:=hsm;have hsp:aI Tryz.prog F.dF [bE s] (.aK [(ef s).1.av,br (ef s).2]):=hsp;generalize ef s=q at*;obtain⟨c,r⟩:=q;simp only at hsm hwt hsp him;have heq:=amf c (by omega);have hmk:=afl c hsm.1 hsm.2;have hhe:=afP c.ar.length c.aM.length hsm.1 hsm.2;have hn0:(AV.aK [c.av,br r]).ag=true:=by simp[AV.ag,AV.ad,ai.ag]
 refine hH A.lU rfl ?_;simp only[A.dm,↓OD,OA,reduceEqDiff,reduceCtorEq,reduceAdd,reduceLT,reduceLeDiff,reduceIte];have dsz:decide ((s.size:Int)>1048576)=false:=decide_eq_false (by omega);simp only[dsz,↓OD,OA,reduceEqDiff,reduceCtorEq,reduceAdd,reduceLT,reduceLeDiff,reduceIte];refine aW _ _ (hsp.any rfl hn0 _) ?_;simp only[ai.width,ai.isAgg,ai.storable,↓OD,OA,reduceEqDiff,reduceCtorEq,reduceAdd,reduceLT,reduceLeDiff,reduceIte];refine aW _ _ (him _) ?_;unfold la at*;simp only[List.length_cons,List.length_nil,reduceAdd,cons_append,nil_append,ai.width,ai.isAgg,ai.storable,↓OD,OA,reduceEqDiff,reduceCtorEq,reduceAdd,reduceLT,reduceLeDiff,reduceIte];have hml:(mP 1 c.ar.length c.aM.length).ar.length=c.ar.length/\(mP 1 c.ar.length c.aM.length).aM.length=c.aM.length:=⟨jH _ _,qB _ _⟩
 have fz2:∀{O:List ae} {a b:Nat},O[a]? =some (bX true 34 6 ((mP 1 c.ar.length c.aM.length).ar.map aa.av))->O[b]? =some (bX true 3 1 ((mP 1 c.ar.length c.aM.length).aM.map br))->Frz O (.agg [.row a c.ar.length,.row b c.aM.length]) (mP 1 c.ar.length c.aM.length).av:=λ {O a b} h1 h2=>by
  have:=ao8 (mP 1 c.ar.length c.aM.length) h1 h2;rw[hml.1,hml.2]at this;exact this
 generalize mP 1 c.ar.length c.aM.length=mc at*;have axT:=λ {O:List ae} (h1:O[1]? =some (bX true 34 6 (c.ar.map aa.av))) (h2:O[2]? =some (bX true 3 1 (c.aM.map br)))=>js.two hmk (by intro x hx;simp only[mem_cons,not_mem_nil,or_false]at hx;rcases hx with rfl|rfl<;>rfl) (bm (bu aa.ag)) (bm (td _)) (bm (bu aa.ag)) (bm (td _)) rfl (O:=O) 1 2 h1 h2 (by decide)
 have hKb:1+6*c.ar.length+c.aM.length<=300000:=by omega
 generalize 1+6*c.ar.length+c.aM.length=K at*;refine aW _ _ (heq.ac2 (.cons (ao8 c (a:=1) (b:=2) rfl rfl) (.cons (.same _ (ai.ag c)) .nil))) ?_;simp only[Bool.not_true,decide_true,ai.width,ai.isAgg,ai.storable,↓OD,OA,reduceEqDiff,reduceCtorEq,reduceAdd,reduceLT,reduceLeDiff,reduceIte];refine aW _ _ (axT rfl rfl) ?_;simp only[ai.width,ai.isAgg,ai.storable,↓OD,OA,reduceEqDiff,reduceCtorEq,reduceAdd,reduceLT,reduceLeDiff,reduceIte];refine aW _ _ (hhe.ac2 (.cons (fz2 (a:=1) (b:=2) rfl rfl) (.cons (.same _ rfl) .nil))) ?_;simp only[lh,decide_true,Bool.not_true,ai.width,ai.isAgg,ai.storable,↓OD,OA,reduceEqDiff,reduceCtorEq,reduceAdd,reduceLT,reduceLeDiff,reduceIte];refine aW _ _ (him _) ?_;simp only[List.length_cons,List.length_nil,reduceAdd,cons_append,nil_append,ai.width,ai.isAgg,ai.storable,↓OD,OA,reduceEqDiff,reduceCtorEq,reduceAdd,reduceLT,reduceLeDiff,reduceIte];refine aW _ _ (heq.ac2 (.cons (ao8 c (a:=4) (b:=5) rfl rfl) (.cons (.same _ (ai.ag c)) .nil))) ?_;simp only[Bool.not_true,decide_true,ai.width,ai.isAgg,ai.storable,↓OD,OA,reduceEqDiff,reduceCtorEq,reduceAdd,reduceLT,reduceLeDiff,reduceIte];refine aW _ _ (hhe.ac2 (.cons (fz2 (a:=1) (b:=2) rfl rfl) (.cons (.same _ rfl) .nil))) ?_;simp only[lh,decide_true,Bool.not_true,ai.width,ai.isAgg,ai.storable,↓OD,OA,reduceEqDiff,reduceCtorEq,reduceAdd,reduceLT,reduceLeDiff,reduceIte];exact akf (.inl rfl) rfl rfl
end Go.Proofs.Ab
