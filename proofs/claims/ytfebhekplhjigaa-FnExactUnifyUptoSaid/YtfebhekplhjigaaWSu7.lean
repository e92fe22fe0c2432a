/-
  Unify of the reference: the metas' nodes.
-/
import Derived.Test.YtfebhekplhjigaaWSu6
open Nat(reduceEqDiff reduceLeDiff reduceAdd reduceLT reduceMul)
set_option linter.unusedVariables false
set_option linter.unusedSimpArgs false
namespace Go.Proofs.Ab
open Go.Ab
set_option maxRecDepth 100000
set_option maxHeartbeats 4000000
theorem kR.congr{S S':Net}{up bh aT ik:Nat->Nat}{nb tr kk ur:Nat}{O:List aa}(h:kR S up nb tr kk ur aT O)(hN:S'.N=S.N)(hx:∀x,x<S.N->S'.ty x=S.ty x/\S'.kids x=S.kids x/\bh x=up x/\ik x=aT x):kR S' bh nb tr kk ur ik O:=by
 have e1:tys S'=tys S:=by
  unfold tys;rw[hN];exact List.map_congr_left λ x iy=>by rw[(hx x (List.mem_range.1 iy)).1]
 have e2:pq S' ik=pq S aT:=by
  unfold pq;rw[hN];exact List.map_congr_left λ x iy=>by
   obtain⟨_,a,_,b⟩:=hx x (List.mem_range.1 iy);unfold agY;rw[a,b]
 have e3:yY bh S'.N=yY up S.N:=by
  unfold yY;rw[hN];exact List.map_congr_left λ x iy=>by rw[(hx x (List.mem_range.1 iy)).2.2.1]
 refine⟨by rw[hN];exact h.box,by rw[e1];exact h.ty,by rw[e2];exact h.kids,λ x iy=> ?_,by rw[e3];exact h.up,?_,λ x iy=> ?_,by rw[hN];exact h.small⟩
 ·rw[hN]at iy;obtain⟨_,a,_,b⟩:=hx x iy;rw[a,b];exact h.za x iy
 ·obtain⟨s1,s2,s3,s4,s5,s6,s7⟩:=h.sep;refine⟨s1,s2,s3,s4,s5,s6,λ x iy=> ?_⟩;rw[hN]at iy;rw[(hx x iy).2.2.2];exact s7 x iy
 ·rw[hN]at iy;rw[(hx x iy).2.1];exact h.few x iy
theorem aai(m:Nat)(hm:m<=300)(O:List aa):
  ∃tr kk ur aT O',cF Try.prog F.fV [aO (m:Nat)] O (.ptr O.length 1 0 0) O'/\ng (Net.jG m) id O.length tr kk ur aT O'/\kO O O'/\O.length<=tr/\O.length<=kk/\O.length<=ur/\∀x,x<m->O.length<=aT x:=by
 have key:∃res O',(∃tr kk ur aT,res= .ptr O.length 1 0 0/\ng (Net.jG m) id O.length tr kk ur aT O'/\kO O O'/\O.length<=tr/\O.length<=kk/\O.length<=ur/\∀x,x<m->O.length<=aT x)/\cF Try.prog F.fV [aO (m:Nat)] O res O':=by
  refine jM A.y5 rfl ?_;simp only[A.fV,aO,↓OD,OA,reduceEqDiff,reduceCtorEq,reduceAdd,reduceLT,reduceLeDiff,reduceIte]
  refine aQ (ι:=Nat×Nat×Nat×Nat×(Nat->Nat)×List aa)
   (λ q=>q.1<=m/\ng (Net.jG q.1) id O.length q.2.1 q.2.2.1 q.2.2.2.1 q.2.2.2.2.1 q.2.2.2.2.2/\iY O.length O.length O.length O.length (O++ [.live 85 3 [.agg [.aA,.aA,.aA]]]) q.2.1 q.2.2.1 q.2.2.2.1 q.2.2.2.2.2/\∀x,x<q.1->O.length<=q.2.2.2.2.1 x)
   (λ q=>iA [(0,.v (.int .i64 (m:Nat))),(3,.ptr O.length 1 0 0),(4,.v (.int .i64 (q.1:Nat)))]) (λ q=>q.2.2.2.2.2) (λ q=>m- q.1) (0,O.length,O.length,O.length,id,_)
   ⟨Nat.zero_le _,.inl ⟨rfl,rfl,rfl,rfl,kh⟩,.refl _ _ _ _ _,λ x hx=>by simp at hx⟩ (.of_eq rfl rfl) ?_
  rintro⟨k,tr,kk,ur,aT,Q⟩ ⟨w1,w2,w3,w4⟩;simp only at w1 w2 w3 w4;by_cases hk:k<m
  ·have dk:decide ((k:Int)<(m:Int))=true:=decide_eq_true (by omega);obtain⟨a1,a2,a3,a4,a5⟩:=w2.lts;obtain⟨tr2,kk2,ur2,O2,c1,c2,c3⟩:=vW (w2.app [.live 3 1 (ints [])]) (t:=eA k) (c:= .aA) rfl (ks:=[]) (kr:=Q.length) kh ⟨by omega,by omega,by omega,by omega⟩ (by simp) (by show k<_;omega);have e0:(eA (k:Nat)).Kind=11:=rfl;have e1:(eA (k:Nat)).N=(k:Nat):=rfl;have e2:(eA (k:Nat)).Name=⟨#[]⟩:=rfl;simp only[aO,cv,e0,e1,e2,ints,List.map_nil,List.length_nil]at c1;simp only[dk,↓OD,OA,reduceEqDiff,reduceCtorEq,reduceAdd,reduceLT,reduceLeDiff,reduceIte];refine aj _ _ c1 ?_;try simp only[↓OD,OA,reduceEqDiff,reduceCtorEq,reduceAdd,reduceLT,reduceLeDiff,reduceIte]
   have hl:=w3.len
   have l4:kR (Net.jG (k+1)) id O.length tr2 kk2 ur2 (λ y=>if y=k then Q.length else aT y) O2:=c2.congr rfl λ x hx=>by
    have iy:x<k+1:=hx;refine⟨?_,?_,?_,rfl⟩
    ·show eA x=if x=k then eA k else eA x
     by_cases e:x=k
     ·rw[if_pos e,e]
     ·rw[if_neg e]
    ·show []=if x=k then []else []
     by_cases e:x=k
     ·rw[if_pos e]
     ·rw[if_neg e]
    ·show x=if x=k then x else x
     by_cases e:x=k
     ·rw[if_pos e]
     ·rw[if_neg e]
   refine aL (k+1,tr2,kk2,ur2,(λ y=>if y=k then Q.length else aT y),O2) ⟨by show k+1<=m;omega,.inr l4,(w3.app _).trans c3,λ x hx=> ?_⟩ (by show m- (k+1)<m- k;omega) (.of_eq (by rw[da (by omega) (by omega)];rfl) rfl);simp only at hx⊢;by_cases e:x=k
   ·rw[if_pos e];simp at hl;omega
   ·rw[if_neg e];exact w4 x (by omega)
  ·have dk:decide ((k:Int)<(m:Int))=false:=decide_eq_false (by omega);obtain rfl:k=m:=by omega
   simp only[dk,↓OD,OA,reduceEqDiff,reduceCtorEq,reduceAdd,reduceLT,reduceLeDiff,reduceIte];refine aU (.inl rfl) ⟨tr,kk,ur,aT,by simp only[↓OD,OA,reduceEqDiff,reduceCtorEq,reduceAdd,reduceLT,reduceLeDiff,reduceIte],w2,⟨by have:=w3.len;simp at this;omega,λ n hn=> ?_⟩,?_,?_,?_,w4⟩
   ·rw[w3.ai n (by simp;omega) (by omega) (by omega) (by omega) (by omega),al hn]
   ·rcases w3.tr with e|e
    ·omega
    ·simp at e;omega
   ·rcases w3.kk with e|e
    ·omega
    ·simp at e;omega
   ·rcases w3.ur with e|e
    ·omega
    ·simp at e;omega
 obtain⟨res,O',⟨tr,kk,ur,aT,rfl,h⟩,hc⟩:=key;exact⟨tr,kk,ur,aT,O',hc,h⟩
end Go.Proofs.Ab
