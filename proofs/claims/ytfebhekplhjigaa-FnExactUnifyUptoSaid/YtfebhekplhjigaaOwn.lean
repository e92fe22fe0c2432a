/-
  toX AND markX, by their types, on trees of one's own (printed by wip/tool/own.py).
-/
import Derived.Test.YtfebhekplhjigaaCOwn0
import Derived.Test.YtfebhekplhjigaaSA
open Nat(add_assoc)
open List(length_map length_cons length_nil)
open Nat(reduceEqDiff reduceLeDiff reduceAdd reduceLT reduceMul)
set_option linter.unusedVariables false
set_option linter.unusedSimpArgs false
namespace Go.Ab
set_option maxRecDepth 100000
theorem ad.elem(x:ad):x.av.elem=true:=by simp[AV.elem,ad.isAgg,ad.storable,ad.ag]
theorem ad.uc(x:ad):x.av= .agg [.v (.int .i64 x.Kind),.v (.int .i64 x.N),.v (.string x.Name),.sl (x.Kids.map ad.av)]:=by rw[←ad.eta x]
theorem ad.pW(x:ad)(n:Nat):pW n x.av=(.agg [.v (.int .i64 x.Kind),.v (.int .i64 x.N),.v (.string x.Name),.own (n)],[.own (.sl (x.Kids.map ad.av))]):=by rw[ad.uc x];rfl
theorem ad.acb(x:ad):x.av.cnt=3+AV.dS (x.Kids.map ad.av):=by rw[ad.uc x];simp only[AV.cnt,AV.dS]<;>omega
theorem ad.akD(x:ad):1<=x.av.cnt:=by rw[ad.acb];omega
theorem ad.afH(x:ad):x.av.cnt<=16*(x.wt+1):=by
 have h0:=ad.acb x;have hw:=ad.gR x;have h1:=xb ad.wt 16 x.Kids λ y hy=>ad.afH y
 omega
termination_by SizeOf.sizeOf x
decreasing_by all_goals first|exact ad.fg (by assumption)
end Go.Ab
namespace Go.Proofs.Ab
open Go.Ab
set_option maxRecDepth 100000
set_option maxHeartbeats 4000000
theorem agd(x:ad)(hb:x.wt<=1048576):cF Try.prog F.ey [x.av] [] (pW 0 x.av).1 (pW 0 x.av).2:=by
 have hw:=ad.gR x
 have abW:cF Try.prog F.bK [.sl (x.Kids.map ad.av)] [] (.own 0) [.own (.sl (x.Kids.map ad.av))]:=
  ajN A.uN _ (by rw[length_map];omega) (by rw[length_map];omega) (λ y hy=>by obtain⟨z,hz,rfl⟩:=List.mem_map.1 hy;exact⟨ad.elem z,ad.width z⟩) rfl
   (λ y hy=>by obtain⟨z,hz,rfl⟩:=List.mem_map.1 hy;exact agd z (by have:=de ad.wt hz;omega))
 rw[ad.uc x];refine cY A.ae1 rfl ?_;simp only[A.ey,↓OD,OA,reduceEqDiff,reduceCtorEq,reduceAdd,reduceLT,reduceLeDiff,reduceIte];refine aj _ _ (qi abW (by simp only[AV.ae,AV.ag,Bool.and_true];exact bt (f:=ad.av) (l:=x.Kids) ad.ag) rfl _) ?_;simp only[↓OD,OA,reduceEqDiff,reduceCtorEq,reduceAdd,reduceLT,reduceLeDiff,reduceIte];refine anu (rv:=(pW 3 x.av).1) (.inl rfl) 3 ?_ ?_ ?_ (aev 0 _) ?_
 ·simp only[ad.pW,↓OD,OA,reduceEqDiff,reduceCtorEq,reduceAdd,reduceLT,reduceLeDiff,reduceIte]
 ·rw[ajS,←ad.uc]
 ·rw[←ad.uc,ad.pW];rfl
 ·rw[←ad.uc,ad.pW];rfl
termination_by SizeOf.sizeOf x
decreasing_by all_goals first|exact ad.fg (by assumption)
theorem adl(l:List ad)(h:l.length+(l.map ad.wt).sum<=1048576):cF Try.prog F.bK [.sl (l.map ad.av)] [] (.own 0) [.own (.sl (l.map ad.av))]:=
 ajN A.uN _ (by rw[length_map];omega) (by rw[length_map];omega) (λ y hy=>by obtain⟨z,hz,rfl⟩:=List.mem_map.1 hy;exact⟨ad.elem z,ad.width z⟩) rfl
  (λ y hy=>by obtain⟨z,hz,rfl⟩:=List.mem_map.1 hy;exact agd z (by have:=de ad.wt hz;omega))
theorem adM(k:Nat):a7 Try.prog F.cp [.sl [],.v (.int .i64 (k:Int))] (.v (.int .i64 (k:Int))):=by
 refine cY A.mE rfl ?_;simp only[A.cp,↓OD,OA,reduceEqDiff,reduceCtorEq,reduceAdd,reduceLT,reduceLeDiff,reduceIte];refine aQ (ι:=Unit) (λ _=>True) (λ _=>iA [(0,.sl []),(1,.v (.int .i64 (k:Int))),(5,.v (.int .i64 0))]) (λ _=>[]) (λ _=>0) () trivial (.of_eq rfl rfl) ?_;rintro⟨⟩ _;simp only[↓OD,OA,reduceEqDiff,reduceCtorEq,reduceAdd,reduceLT,reduceLeDiff,reduceIte];refine my (λ h=>by simp at h) (λ h=> ?_);simp only[↓OD,OA,reduceEqDiff,reduceCtorEq,reduceAdd,reduceLT,reduceLeDiff,reduceIte];refine agA (.inl rfl) ?_ rfl;simp only[↓OD,OA,reduceEqDiff,reduceCtorEq,reduceAdd,reduceLT,reduceLeDiff,reduceIte]
theorem sS(l:List ad)(k:Nat)(h:k+AV.dS (l.map ad.av)<=4611686018427387904):cF Try.prog F.cp [.own 0,.v (.int .i64 (k:Int))] [.own (.sl (l.map ad.av))] (.v (.int .i64 ((k+AV.dS (l.map ad.av):Nat):Int))) [.dead]:=by
 by_cases hl:l= []
 ·subst hl;exact cF.axn (adM k) rfl
 have he:∀x∈l.map ad.av,x.elem=true:=λ y hy=>by obtain⟨z,_,rfl⟩:=List.mem_map.1 hy;exact ad.elem z
 refine cF.opens 4 (by simpa using hl) (λ y hy=>by obtain⟨z,_,rfl⟩:=List.mem_map.1 hy;exact ad.width z) (ado (λ y hy=>by obtain⟨z,_,rfl⟩:=List.mem_map.1 hy;exact ad.isAgg z)) (λ e=>tE he _) rfl rfl (λ e=> ?_);have hlen:=ti ad.akD l;generalize hK:k+AV.dS (l.map ad.av)=K at*;refine cY A.mE rfl ?_;simp only[A.cp,↓OD,OA,reduceEqDiff,reduceCtorEq,reduceAdd,reduceLT,reduceLeDiff,reduceIte]
 refine aQ (ι:=List AV×Nat×Nat×List ad) (λ p=>p.1.length+p.2.2.2.length=l.length/\p.2.2.1+AV.dS (p.2.2.2.map ad.av)=K/\∀y∈p.2.2.2,y∈l)
  (λ p=>iA [(0,.row 0 (l.map ad.av).length),(1,.v (.int .i64 (p.2.2.1:Int))),(5,.v (.int .i64 (p.1.length:Int)))])
  (λ p=> .live e 4 (p.1++(gJ (1+p.2.1) (p.2.2.2.map ad.av)).1)::(List.replicate p.2.1 .dead++(gJ (1+p.2.1) (p.2.2.2.map ad.av)).2)) (λ p=>p.2.2.2.length) ([],0,k,l) ⟨by simp,hK,λ _ h=>h⟩ (.of_eq rfl (by simp)) ?_
 rintro⟨B,m,j,rest⟩ ⟨h1,h2,h3⟩;simp only at h1 h2 h3;simp only[length_map,fU,↓OD,OA,reduceEqDiff,reduceCtorEq,reduceAdd,reduceLT,reduceLeDiff,reduceIte];refine⟨by omega,?_⟩;refine my (λ hc=> ?_) (λ hc=> ?_)
 ·cases rest with
  |nil=>simp at hc h1;omega
  |cons x r=>
  have hx:=ad.acb x;have hxl:=h3 x (by simp);have hlp:=List.length_pos_of_mem hxl;have rh:=de ad.wt hxl;have hxw:=ad.gR x;simp only[List.map_cons,AV.dS,hx]at h2;have h0s:=sS x.Kids;have uC:(gJ (1+m+1) (r.map ad.av)).1.length=r.length:=by rw[fU,length_map]
  simp only[length_cons]at h1;simp only[List.map_cons,gJ,ad.pW];simp only[←add_assoc,↓OD,OA,reduceEqDiff,reduceCtorEq,reduceAdd,reduceLT,reduceLeDiff,reduceIte];try simp only[←add_assoc]at uC
  try simp only[Int.toNat_natCast,aa2,aa1,uC,h1,←add_assoc,↓OD,OA,reduceEqDiff,reduceCtorEq,reduceAdd,reduceLT,reduceLeDiff,reduceIte]
  repeat (refine And.intro (by omega) ?_)
  try simp(disch:=omega) only[aG]
  refine aj _ _ ((vA _ (by omega)).any rfl rfl _) ?_;simp only[↓OD,OA,reduceEqDiff,reduceCtorEq,reduceAdd,reduceLT,reduceLeDiff,reduceIte];try simp only[Int.toNat_natCast,aa2,aa1,uC,h1,←add_assoc,↓OD,OA,reduceEqDiff,reduceCtorEq,reduceAdd,reduceLT,reduceLeDiff,reduceIte]
  repeat (refine And.intro (by omega) ?_)
  try simp(disch:=omega) only[aG]
  refine aj _ _ (cF.kill (h0s _ (by omega)) _ (agO (by simp only[List.length_append,length_cons,length_nil,List.length_replicate];omega))) ?_;rw[agN (by simp only[List.length_append,length_cons,length_nil,List.length_replicate];omega)];simp only[↓OD,OA,reduceEqDiff,reduceCtorEq,reduceAdd,reduceLT,reduceLeDiff,reduceIte];try simp only[Int.toNat_natCast,aa2,aa1,uC,h1,←add_assoc,↓OD,OA,reduceEqDiff,reduceCtorEq,reduceAdd,reduceLT,reduceLeDiff,reduceIte]
  repeat (refine And.intro (by omega) ?_)
  try simp(disch:=omega) only[aG]
  refine aL (B++ [.agg [.v (.int .i64 ((j:Nat):Int)),.v (.int .i64 ((j+1:Nat):Int)),.v (.string (aa4 (j+1+1))),.own (1+m)]],m+1,j+1+1+1+AV.dS (x.Kids.map ad.av),r) ⟨by simp;omega,by simp only;omega,λ z hz=>h3 z (by simp[hz])⟩ (by simp) (.of_eq ?_ ?_)
  ·simp(disch:=omega) only[aG,List.length_append,length_cons,length_nil,Nat.zero_add]
  ·simp only[List.append_assoc,List.cons_append,List.nil_append,List.replicate_succ',←add_assoc]
 ·cases rest with
  |cons x r=>simp at hc h1;omega
  |nil=>
  simp only[List.map_nil,AV.dS,Nat.add_zero]at h2;subst h2;simp only[↓OD,OA,reduceEqDiff,reduceCtorEq,reduceAdd,reduceLT,reduceLeDiff,reduceIte];refine anv (.inl rfl) ?_;simp only[↓OD,OA,reduceEqDiff,reduceCtorEq,reduceAdd,reduceLT,reduceLeDiff,reduceIte]
termination_by l.length+(l.map ad.wt).sum
decreasing_by all_goals omega
end Go.Proofs.Ab
