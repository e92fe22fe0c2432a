/-
  FnCover.
-/
import Derived.Test.YtdbbmffachgajaaGreatPreM
import Derived.Test.YtdbbmffachgajaaGreatDrM
set_option maxHeartbeats 4000000
set_option maxRecDepth 100000
open List(length_map map_append length_append length_cons length_nil)
set_option linter.unusedVariables false
set_option linter.unusedSimpArgs false
namespace Go.Proofs.Ab
open Go.Ab
theorem RB5.snoc{aB:List aa}(h:RB5 aB){p:aa}(hl:aB.length+1<=1000)(hp:p.wt<=1000000):RB5 (aB++ [p]):=
 ⟨by simp;omega,λ q hq=>by
  rcases List.mem_append.1 hq with hq|hq
  ·exact h.wt q hq
  ·rw[List.mem_singleton.1 hq];exact hp⟩
theorem apD{list:List ad}{t:ai}{aB:List aa}(h:qg true list t aB=none):dn list [t] (eU aB)=none:=by
 unfold qg at h;rw[if_pos rfl]at h;cases hm:dn list [t] (eU aB)with
 |none=>rfl
 |some m=>
  have hl:=jM list _ _ _ hm;rw[hm]at h;cases m with
  |nil=>cases hl
  |cons x l=>cases h
theorem apC{ok:Bool}{list:List ad}{t:ai}{aB:List aa}{q:aa}(h:qg ok list t aB=some q):ok=true/\dn list [t] (eU aB)=some [q]:=by
 unfold qg at h;cases ok with
 |false=>cases h
 |true=>
  rw[if_pos rfl]at h;refine⟨rfl,?_⟩;cases hm:dn list [t] (eU aB)with
  |none=>rw[hm]at h;cases h
  |some m=>
   have hl:=jM list _ _ _ hm;rw[hm]at h;cases m with
   |nil=>cases hl
   |cons x l=>
    cases l with
    |nil=>injection h with h;rw[h]
    |cons _ _=>simp at hl
theorem anh(x0:List Int)(hb:x0.length<=1048576)(ho0:∀y∈x0,0<=y/\y<256):aW Tryz.prog F.px [.sl (x0.map λ y=> .v (.int .u8 y))] (.v (.bool true)):=by
 have auh:aW Tryz.prog F.uW [.sl (rk x0)] (.v (.bool false)):=by
  refine T.akt rfl (by simp[AV.ae,AV.ag,cH]) ?_;have d0:decide ((1048576:Int)<(x0.length:Int))=false:=decide_eq_false (by omega);simp only[T.uW,length_map,d0,WA,seval]
 obtain⟨t,aB,ht,hrb,hd⟩:=ahF x0 hb ho0;have hs:t.dZ<=200:=by have:=t.xn;omega
 have hcr:=oI hs aB;have aSt:=hrb.len;have hm1:=u1 aN pw qW t aB (by omega) hrb (λ h=>MQ.cover ht h);have hm2:=uG aN pw qW t aB (by omega) hrb (λ h=>MQ.cover ht (by rw[hcr];exact h));have hx1:=ze aN pw qW t aB (by omega) hrb (λ h=>MQ.cover ht h);have hx2:=mJ aN pw qW t aB (by omega) hrb (λ h=>MQ.cover ht (by rw[hcr];exact h));rw[←hcr]at hm2 hx2
 have hdn:(AV.aZ [.sl (aN.map ad.av),t.av,.sl (aB.map aa.av)]).ag=true:=by
  simp only[AV.ag,AV.ae,fq,ai.ag,iq,Bool.and_true]
 have hpa:lH (aB.map aa.av) (aB.map aa.av):=lH.map λ p _=>ac5 p
 have hal:LeA (.agg [.v (.int .i64 1),.v (.int .i64 0),.v (.string ⟨#[]⟩),.v (.int .i64 t.Kind),.v (.int .i64 t.N),.v (.string t.Name),.sl (t.Kids.map ai.av),.an]) (cw t).av:=aeN (kd:=1) (nm:=0) (s:=⟨#[]⟩) (pt:=t) (ks:=[]) (.refl _) .nil;have han:AV.ae [(.agg [.v (.int .i64 1),.v (.int .i64 0),.v (.string ⟨#[]⟩),.v (.int .i64 t.Kind),.v (.int .i64 t.N),.v (.string t.Name),.sl (t.Kids.map ai.av),.an])]=true:=by simp only[AV.ae,AV.ag,mO,Bool.and_true]
 have haw:(cw t).wt<=1000000:=Nat.le_trans (uV 3 1 (by omega)) (by decide);have hw8:∀y∈aB.map aa.av,y.cells.length=8:=λ y hy=>by obtain⟨z,_,rfl⟩:=List.mem_map.1 hy;exact aa.width z
 refine T.aaB rfl (by simp[AV.ae,AV.ag,bt (f:=λ y=>AV.v (.int .u8 y)) (l:=x0) λ _=>rfl]) ?_;simp only[T.px,WA,seval];refine aJ auh ?_;simp only[WA,seval];refine bH hd hdn ?_;simp only[ai.E,WA,seval];refine bH hm1 (si _) ?_;cases ho:qg (eo aN t aB) aN t aB with
 |none=>
  rw[ho]at hm2 hx1 hx2;simp only[tK,zAV,ai.E,WA,seval];refine bH hm2 (si _) ?_;simp only[tK,zAV,ai.E,WA,seval];refine aJ hx1 ?_;cases hc:eo aN t aB with
  |false=>
   rw[hc]at hx2;simp only[Option.isSome_none,Bool.not_false,Bool.true_and,Bool.and_true]at hx2⊢;simp only[WA,seval];refine bN (λ ws=>ws= []) ?_ ?_
   ·simp only[WA,seval];refine aG [.v (.bool false)] rfl ?_ ?_
    ·simp only[ai.E,WA,seval];refine aJ hx2 ?_;simp only[WA,seval]
    ·simp only[WA,seval]
   ·rintro ws rfl _;simp only[WA,seval];refine aw ?_;simp only[WA,seval];refine aG [.v (.bool true)] rfl ?_ ?_
    ·simp only[Bool.not_false,WA,seval]
    ·simp only[WA,seval]
  |true=>
   rw[hc]at hx2 ho;have hmm:=apD ho;simp only[Option.isSome_none,Bool.not_false,Bool.and_true]at hx2⊢;simp only[WA,seval];refine bN (λ ws=>ws= []) ?_ ?_
   ·simp only[WA,seval];refine aG [.v (.bool false)] rfl ?_ ?_
    ·simp only[ai.E,WA,seval];refine aJ hx2 ?_;simp only[WA,seval]
    ·simp only[WA,seval]
   rintro ws rfl _;simp only[WA,seval];refine bN (λ ws=>ws= []) ?_ ?_
   ·simp only[WA,seval];refine aG [.v (.bool false)] rfl ?_ ?_
    ·simp only[Bool.not_true,WA,seval]
    ·simp only[WA,seval]
   rintro ws rfl _;simp only[WA,seval];refine aG [.v (.int .i64 1),.v (.int .i64 0),.v (.string ⟨#[]⟩),.v (.int .i64 t.Kind),.v (.int .i64 t.N),.v (.string t.Name),.sl (t.Kids.map ai.av),.an] rfl ?_ ?_
   ·simp only[ai.E,WA,seval]
   have zj:=hal;have tQ:=han;have hmw:=haw;have aQt:=(ra hc).2.1;have hnr:AV.ae (aB.map aa.av++ [(.agg [.v (.int .i64 1),.v (.int .i64 0),.v (.string ⟨#[]⟩),.v (.int .i64 t.Kind),.v (.int .i64 t.N),.v (.string t.Name),.sl (t.Kids.map ai.av),.an])])=true:=by rw[b9,iq aB,Bool.true_and];exact tQ
   have ay2:lH (aB.map aa.av++ [(.agg [.v (.int .i64 1),.v (.int .i64 0),.v (.string ⟨#[]⟩),.v (.int .i64 t.Kind),.v (.int .i64 t.N),.v (.string t.Name),.sl (t.Kids.map ai.av),.an])]) ((aB++ [cw t]).map aa.av):=by rw[map_append];exact hpa.app (.cons zj .nil)
   have aHr:lH ((aB.map aa.av++ [(.agg [.v (.int .i64 1),.v (.int .i64 0),.v (.string ⟨#[]⟩),.v (.int .i64 t.Kind),.v (.int .i64 t.N),.v (.string t.Name),.sl (t.Kids.map ai.av),.an])])++ [(.agg [.v (.int .i64 1),.v (.int .i64 0),.v (.string ⟨#[]⟩),.v (.int .i64 t.Kind),.v (.int .i64 t.N),.v (.string t.Name),.sl (t.Kids.map ai.av),.an])]) (((aB++ [cw t])++ [cw t]).map aa.av):=by rw[map_append];exact ay2.app (.cons hal .nil)
   have ayT:RB5 (aB++ [cw t]):=hrb.snoc (by omega) hmw;have aHg:RB5 ((aB++ [cw t])++ [cw t]):=ayT.snoc (by simp;omega) haw;have hex:=mJ aN pw qW t ((aB++ [cw t])++ [cw t]) (by omega) aHg (λ h=>MQ.cover ht (by rw[oI hs];exact h))
   have aHA:=hex.abY (tq:=[.sl (aN.map ad.av),t.av,.sl ((aB.map aa.av++ [(.agg [.v (.int .i64 1),.v (.int .i64 0),.v (.string ⟨#[]⟩),.v (.int .i64 t.Kind),.v (.int .i64 t.N),.v (.string t.Name),.sl (t.Kids.map ai.av),.an])])++ [(.agg [.v (.int .i64 1),.v (.int .i64 0),.v (.string ⟨#[]⟩),.v (.int .i64 t.Kind),.v (.int .i64 t.N),.v (.string t.Name),.sl (t.Kids.map ai.av),.an])])]) rfl (λ i x y hx hy=>by
    match i,hx,hy with
    |0,hx,hy|1,hx,hy=>cases hx;cases hy;exact .refl _
    |2,hx,hy=>cases hx;cases hy;exact aHr.sl)
   have hrd:=so aN pw qW t (aB++ [cw t]) (by omega) ayT (λ h=>MQ.cover ht h)
   have ayS:=hrd.abY (tq:=[.sl (aN.map ad.av),t.av,.sl (aB.map aa.av++ [(.agg [.v (.int .i64 1),.v (.int .i64 0),.v (.string ⟨#[]⟩),.v (.int .i64 t.Kind),.v (.int .i64 t.N),.v (.string t.Name),.sl (t.Kids.map ai.av),.an])])]) rfl (λ i x y hx hy=>by
    match i,hx,hy with
    |0,hx,hy|1,hx,hy=>cases hx;cases hy;exact .refl _
    |2,hx,hy=>cases hx;cases hy;exact ay2.sl)
   have hlp:=hrb.len;have ay3:=aiB (t:=t) (aB:=aB) (x:=cw t);simp only[length_map,WA,seval];refine⟨hw8,by omega,by omega,λ y hy=>by rw[hy];exact rfl,by omega,by omega,?_⟩;refine bN (λ ws=>iN aN t ((aB++ [cw t])++ [cw t])=true/\ws= []) ?_ ?_
   ·simp only[WA,seval];refine aw ?_;simp only[length_append,length_cons,length_nil,length_map,WA,seval];refine aC (λ hgt=> ?_) (λ hgt=> ?_)
    ·simp only[WA,seval]
    ·simp only[length_append,length_cons,length_nil,ai.E,length_map,WA,seval];refine⟨λ y hy=> ?_,by omega,by omega,λ y hy=>by rw[hy];rfl,by omega,by omega,?_⟩
     ·rcases List.mem_append.1 hy with hy|hy
      ·exact hw8 y hy
      ·rw[List.mem_singleton.1 hy];exact rfl
     refine aJ aHA ?_;cases hE:(iN aN t ((aB++ [cw t])++ [cw t])&& !(qg (iN aN t ((aB++ [cw t])++ [cw t])) aN t ((aB++ [cw t])++ [cw t])).isSome)with
     |false=>simp only[Bool.not_false,WA,seval]
     |true=>
      rw[Bool.and_eq_true]at hE;simp only[Bool.not_true,WA,seval]
      first|exact hE.1|exact⟨hE.1,trivial⟩|exact⟨hE.1,rfl⟩
   rintro ws ⟨hR,rfl⟩ _;have hcn:eo aN t (aB++ [cw t])=true:=zw (by simp) (by rw[oI hs];exact hR);rw[hcn]at ayS;simp only[ai.E,WA,seval];refine bH ayS (amO ..) ?_;rw[ay3];have aK:=arY aN t (aB++ [cw t]) aB.length;have hll:=aeA aN t (aB++ [cw t]) aB.length;generalize xv aN t (aB++ [cw t]) aB.length=L at aK hll;unfold ate;rw[if_pos rfl];have hu:=aaw aN [t] (eU aB) [cw t] hmm;rw[hu,if_neg (by simp)];simp only[WA,seval];refine aG [.v (.bool true)] rfl ?_ ?_
   ·have d1:decide (((L.length+1:Nat):Int)>0)=true:=decide_eq_true (by omega);have e1:IntKind.i64.wrap (((L.length+1:Nat):Int)- 1)=(L.length:Int):=by rw[cE (by omega) (by omega)];omega
    have ez:((L++ [(aB.length:Int)]).map aD)[L.length]? =some (aD aB.length):=by simp
    have d2:decide (0<((L.length+1:Nat):Int))=true:=decide_eq_true (by omega);have deq:decide ((aB.length:Int)=(aB.length:Int))=true:=decide_eq_true rfl;simp only[length_append,length_cons,length_nil,Nat.zero_add,d1,e1,length_map,WA,seval];refine xT _ ez rfl ?_;simp only[aD,length_map,WA,seval]
   ·simp only[WA,seval]
 |some m=>
  obtain⟨hc,hmm⟩:=apC ho;rw[ho]at hm2 hx1 hx2;rw[hc]at hx1 hx2;simp only[tK,ai.E,aa.E,WA,seval];refine bH hm2 (si _) ?_;simp only[tK,ai.E,aa.E,WA,seval];refine aJ hx1 ?_;simp only[Option.isSome_some,Bool.not_true,Bool.false_and,Bool.and_false]at hx2⊢;simp only[WA,seval];refine bN (λ ws=>ws= []) ?_ ?_
  ·simp only[WA,seval];refine aG [.v (.bool false)] rfl ?_ ?_
   ·simp only[ai.E,WA,seval];refine aJ hx2 ?_;simp only[WA,seval]
   ·simp only[WA,seval]
  rintro ws rfl _;simp only[WA,seval];refine bN (λ ws=>ws= []) ?_ ?_
  ·simp only[WA,seval];refine aG [.v (.bool false)] rfl ?_ ?_
   ·simp only[Bool.not_true,Bool.not_false,WA,seval]
   ·simp only[WA,seval]
  rintro ws rfl _;simp only[aa.E,WA,seval];refine aG m.av.cells (aa.width m) ?_ ?_
  ·simp only[aa.E,WA,seval]
  have zj:=ac5 m;have tQ:AV.ae [m.av]=true:=by simp only[AV.ae,aa.ag,Bool.and_true]
  have hmw:=aBS ht (ra hc).2.2.1 hmm;have aQt:=(ra hc).2.1;have hnr:AV.ae (aB.map aa.av++ [m.av])=true:=by rw[b9,iq aB,Bool.true_and];exact tQ
  have ay2:lH (aB.map aa.av++ [m.av]) ((aB++ [m]).map aa.av):=by rw[map_append];exact hpa.app (.cons zj .nil)
  have aHr:lH ((aB.map aa.av++ [m.av])++ [(.agg [.v (.int .i64 1),.v (.int .i64 0),.v (.string ⟨#[]⟩),.v (.int .i64 t.Kind),.v (.int .i64 t.N),.v (.string t.Name),.sl (t.Kids.map ai.av),.an])]) (((aB++ [m])++ [cw t]).map aa.av):=by rw[map_append];exact ay2.app (.cons hal .nil)
  have ayT:RB5 (aB++ [m]):=hrb.snoc (by omega) hmw;have aHg:RB5 ((aB++ [m])++ [cw t]):=ayT.snoc (by simp;omega) haw;have hex:=mJ aN pw qW t ((aB++ [m])++ [cw t]) (by omega) aHg (λ h=>MQ.cover ht (by rw[oI hs];exact h))
  have aHA:=hex.abY (tq:=[.sl (aN.map ad.av),t.av,.sl ((aB.map aa.av++ [m.av])++ [(.agg [.v (.int .i64 1),.v (.int .i64 0),.v (.string ⟨#[]⟩),.v (.int .i64 t.Kind),.v (.int .i64 t.N),.v (.string t.Name),.sl (t.Kids.map ai.av),.an])])]) rfl (λ i x y hx hy=>by
   match i,hx,hy with
   |0,hx,hy|1,hx,hy=>cases hx;cases hy;exact .refl _
   |2,hx,hy=>cases hx;cases hy;exact aHr.sl)
  have hrd:=so aN pw qW t (aB++ [m]) (by omega) ayT (λ h=>MQ.cover ht h)
  have ayS:=hrd.abY (tq:=[.sl (aN.map ad.av),t.av,.sl (aB.map aa.av++ [m.av])]) rfl (λ i x y hx hy=>by
   match i,hx,hy with
   |0,hx,hy|1,hx,hy=>cases hx;cases hy;exact .refl _
   |2,hx,hy=>cases hx;cases hy;exact ay2.sl)
  have hlp:=hrb.len;have ay3:=aiB (t:=t) (aB:=aB) (x:=m);simp only[aa.E,length_map,WA,seval];refine⟨hw8,by omega,by omega,λ y hy=>by rw[hy];exact aa.width m,by omega,by omega,?_⟩;refine bN (λ ws=>iN aN t ((aB++ [m])++ [cw t])=true/\ws= []) ?_ ?_
  ·simp only[WA,seval];refine aw ?_;simp only[length_append,length_cons,length_nil,length_map,WA,seval];refine aC (λ hgt=> ?_) (λ hgt=> ?_)
   ·simp only[WA,seval]
   ·simp only[length_append,length_cons,length_nil,ai.E,length_map,WA,seval];refine⟨λ y hy=> ?_,by omega,by omega,λ y hy=>by rw[hy];rfl,by omega,by omega,?_⟩
    ·rcases List.mem_append.1 hy with hy|hy
     ·exact hw8 y hy
     ·rw[List.mem_singleton.1 hy];exact aa.width m
    refine aJ aHA ?_;cases hE:(iN aN t ((aB++ [m])++ [cw t])&& !(qg (iN aN t ((aB++ [m])++ [cw t])) aN t ((aB++ [m])++ [cw t])).isSome)with
    |false=>simp only[Bool.not_false,WA,seval]
    |true=>
     rw[Bool.and_eq_true]at hE;simp only[Bool.not_true,WA,seval]
     first|exact hE.1|exact⟨hE.1,trivial⟩|exact⟨hE.1,rfl⟩
  rintro ws ⟨hR,rfl⟩ _;have hcn:eo aN t (aB++ [m])=true:=zw (by simp) (by rw[oI hs];exact hR);rw[hcn]at ayS;simp only[ai.E,WA,seval];refine bH ayS (amO ..) ?_;rw[ay3];have aK:=arY aN t (aB++ [m]) aB.length;have hll:=aeA aN t (aB++ [m]) aB.length;generalize xv aN t (aB++ [m]) aB.length=L at aK hll;unfold ate;rw[if_pos rfl];have hu:=uT aN [t] (eU aB) [m] hmm;rw[hu,if_pos rfl,List.append_nil];simp only[WA,seval];refine aG [.v (.bool false)] rfl ?_ ?_
  ·simp only[length_map,length_map,WA,seval];refine aC (λ hgt=> ?_) (λ hgt=> ?_)
   ·have e1:IntKind.i64.wrap ((L.length:Int)- 1)=((L.length- 1:Nat):Int):=by rw[cE (by omega) (by omega)];omega
    have hi:L.length- 1<L.length:=by omega
    have hv:=aK _ (List.getElem_mem hi);simp only[e1,length_map,WA,seval];refine fS aD hi rfl ?_;have dne:decide (L[L.length- 1]=(aB.length:Int))=false:=decide_eq_false (by omega);simp only[aD,dne,length_map,WA,seval]
   ·simp only[WA,seval]
  ·simp only[WA,seval]
end Go.Proofs.Ab
