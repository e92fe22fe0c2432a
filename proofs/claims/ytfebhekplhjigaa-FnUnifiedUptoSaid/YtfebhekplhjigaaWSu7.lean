/-
  Unify of the reference: the metas' nodes.
-/
import Derived.Test.YtfebhekplhjigaaWSu6
open Nat(reduceEqDiff reduceLeDiff reduceAdd reduceLT reduceMul)
set_option linter.unusedSimpArgs false
set_option linter.unusedVariables false
namespace Go.Proofs.Ab
open Go.Ab
set_option maxRecDepth 100000
set_option maxHeartbeats 4000000
theorem kq.congr{S S':Net}{up bw aW ig:Nat->Nat}{nb tr kk ur:Nat}{O:List ad}(h:kq S up nb tr kk ur aW O)(hN:S'.N=S.N)(hx:∀x,x<S.N->S'.ty x=S.ty x/\S'.kids x=S.kids x/\bw x=up x/\ig x=aW x):kq S' bw nb tr kk ur ig O:=by
 have e1:tys S'=tys S:=by
  unfold tys;rw[hN];exact List.map_congr_left λ x oH=>by rw[(hx x (List.mem_range.1 oH)).1]
 have e2:nF S' ig=nF S aW:=by
  unfold nF;rw[hN];exact List.map_congr_left λ x oH=>by
   obtain⟨_,a,_,b⟩:=hx x (List.mem_range.1 oH);unfold afj;rw[a,b]
 have e3:wy bw S'.N=wy up S.N:=by
  unfold wy;rw[hN];exact List.map_congr_left λ x oH=>by rw[(hx x (List.mem_range.1 oH)).2.2.1]
 refine⟨by rw[hN];exact h.box,by rw[e1];exact h.ty,by rw[e2];exact h.kids,λ x oH=> ?_,by rw[e3];exact h.up,?_,λ x oH=> ?_,by rw[hN];exact h.small⟩
 ·rw[hN]at oH;obtain⟨_,a,_,b⟩:=hx x oH;rw[a,b];exact h.wK x oH
 ·obtain⟨s1,s2,s3,s4,s5,s6,s7⟩:=h.sep;refine⟨s1,s2,s3,s4,s5,s6,λ x oH=> ?_⟩;rw[hN]at oH;rw[(hx x oH).2.2.2];exact s7 x oH
 ·rw[hN]at oH;rw[(hx x oH).2.1];exact h.few x oH
theorem yb(m:Nat)(hm:m<=300)(O:List ad):
  ∃tr kk ur aW O',fE Try.prog F.gl [au (m:Nat)] O (.ptr O.length 1 0 0) O'/\mn (Net.jq m) id O.length tr kk ur aW O'/\kh O O'/\O.length<=tr/\O.length<=kk/\O.length<=ur/\∀x,x<m->O.length<=aW x:=by
 have key:∃res O',(∃tr kk ur aW,res= .ptr O.length 1 0 0/\mn (Net.jq m) id O.length tr kk ur aW O'/\kh O O'/\O.length<=tr/\O.length<=kk/\O.length<=ur/\∀x,x<m->O.length<=aW x)/\fE Try.prog F.gl [au (m:Nat)] O res O':=by
  refine jx A.wB rfl ?_;simp only[A.gl,au,↓OD,OA,reduceEqDiff,reduceCtorEq,reduceAdd]
  refine bd (ι:=Nat×Nat×Nat×Nat×(Nat->Nat)×List ad)
   (λ q=>q.1<=m/\mn (Net.jq q.1) id O.length q.2.1 q.2.2.1 q.2.2.2.1 q.2.2.2.2.1 q.2.2.2.2.2/\iK O.length O.length O.length O.length (O++ [.live 85 3 [.agg [.aw,.aw,.aw]]]) q.2.1 q.2.2.1 q.2.2.2.1 q.2.2.2.2.2/\∀x,x<q.1->O.length<=q.2.2.2.2.1 x)
   (λ q=>jw [(0,.v (.int .i64 (m:Nat))),(3,.ptr O.length 1 0 0),(4,.v (.int .i64 (q.1:Nat)))]) (λ q=>q.2.2.2.2.2) (λ q=>m- q.1) (0,O.length,O.length,O.length,id,_)
   ⟨Nat.zero_le _,.inl ⟨rfl,rfl,rfl,rfl,ku⟩,.refl _ _ _ _ _,λ x hx=>by simp at hx⟩ (.of_eq rfl rfl) ?_
  rintro⟨k,tr,kk,ur,aW,Q⟩ ⟨w1,w2,w3,w4⟩;simp only at w1 w2 w3 w4;by_cases hk:k<m
  ·have dk:decide ((k:Int)<(m:Int))=true:=decide_eq_true (by omega);obtain⟨a1,a2,a3,a4,a5⟩:=w2.lts;obtain⟨tr2,kk2,ur2,O2,c1,c2,c3⟩:=tg (w2.app [.live 3 1 (ints [])]) (t:=cN k) (c:= .aw) rfl (ks:=[]) (kr:=Q.length) ku ⟨by omega,by omega,by omega,by omega⟩ (by simp) (by show k<_;omega);have e0:(cN (k:Nat)).Kind=11:=rfl;have e1:(cN (k:Nat)).N=(k:Nat):=rfl;have e2:(cN (k:Nat)).Name=⟨#[]⟩:=rfl;simp only[au,bZ,e0,e1,e2,ints,List.map_nil,List.length_nil]at c1;simp only[dk,↓OD,OA,reduceEqDiff,reduceCtorEq,reduceAdd,reduceLeDiff];refine aD _ _ c1 ?_;try simp only[↓OD,OA,reduceEqDiff,reduceCtorEq]
   have hl:=w3.len
   have l4:kq (Net.jq (k+1)) id O.length tr2 kk2 ur2 (λ y=>if y=k then Q.length else aW y) O2:=c2.congr rfl λ x hx=>by
    have oH:x<k+1:=hx;refine⟨?_,?_,?_,rfl⟩
    ·show cN x=if x=k then cN k else cN x
     by_cases e:x=k
     ·rw[if_pos e,e]
     ·rw[if_neg e]
    ·show []=if x=k then []else []
     by_cases e:x=k
     ·rw[if_pos e]
     ·rw[if_neg e]
    ·show x=if x=k then x else x
     by_cases e:x=k
     ·rw[if_pos e]
     ·rw[if_neg e]
   refine a6 (k+1,tr2,kk2,ur2,(λ y=>if y=k then Q.length else aW y),O2) ⟨by show k+1<=m;omega,.inr l4,(w3.app _).trans c3,λ x hx=> ?_⟩ (by show m- (k+1)<m- k;omega) (.of_eq (by rw[bh (by omega) (by omega)];rfl) rfl);simp only at hx⊢;by_cases e:x=k
   ·rw[if_pos e];simp at hl;omega
   ·rw[if_neg e];exact w4 x (by omega)
  ·have dk:decide ((k:Int)<(m:Int))=false:=decide_eq_false (by omega);obtain rfl:k=m:=by omega
   simp only[dk,↓OD,OA,reduceEqDiff,reduceCtorEq];refine aY (.inl rfl) ⟨tr,kk,ur,aW,by simp only[OA],w2,⟨by have:=w3.len;simp at this;omega,λ n hn=> ?_⟩,?_,?_,?_,w4⟩
   ·rw[w3.ar n (by simp;omega) (by omega) (by omega) (by omega) (by omega),al hn]
   ·rcases w3.tr with e|e
    ·omega
    ·simp at e;omega
   ·rcases w3.kk with e|e
    ·omega
    ·simp at e;omega
   ·rcases w3.ur with e|e
    ·omega
    ·simp at e;omega
 obtain⟨res,O',⟨tr,kk,ur,aW,rfl,h⟩,hc⟩:=key;exact⟨tr,kk,ur,aW,O',hc,h⟩
end Go.Proofs.Ab
