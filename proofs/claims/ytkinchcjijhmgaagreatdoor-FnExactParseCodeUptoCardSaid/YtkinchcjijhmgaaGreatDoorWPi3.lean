/-
  TEXTS OF CODE PARSED BY THE PROGRAM: the first line, the forms that are tried.
-/
import Derived.Test.YtkinchcjijhmgaaGreatDoorWPi2
open Nat(le_refl)
open List(map_cons map_nil length_map map_append)
open Nat(reduceEqDiff reduceLeDiff reduceAdd reduceLT reduceMul)
set_option linter.unusedVariables false
set_option linter.unusedSimpArgs false
namespace Go.Proofs.Ab
open Go.Ab
set_option maxRecDepth 100000
def kj(line:ByteArray):List Int:=if(ct line).2=true then(ct line).1 else []
theorem ahu(o:Option ByteArray):(mi o).length<=vm o:=by
 cases o with
 |none=>exact le_refl _
 |some r=>
  show(df 32 r).length<=r.size+1;rw[oW];have:=Lib.countB_le ⟨#[32]⟩ (le_refl _) r.size r (le_refl _);omega
theorem aez(c:UInt8)(s:ByteArray):df c s=(aC c s).1::(match(aC c s).2 with|none=>[]|some r=>df c r):=by
 rcases hn:aC c s with⟨w,_|r⟩
 ·obtain⟨_,rfl⟩:=fj hn;rw[gJ hn]
 ·rw[iF hn]
theorem wh(s:ByteArray):df 32 s=(aC 32 s).1::mi (aC 32 s).2:=by
 rw[aez];cases(aC 32 s).2<;>rfl
theorem oX{c:UInt8}:∀(n:Nat) (s:ByteArray),s.size<=n->∀w∈df c s,w.size<=s.size:=by
 intro n
 induction n with
 |zero=>
  intro s hs w hw;rcases hn:aC c s with⟨v,_|r⟩
  ·obtain⟨_,rfl⟩:=fj hn;rw[gJ hn,List.mem_singleton]at hw;rw[hw];exact le_refl _
  ·obtain⟨_,rfl⟩:=cj hn;have e:(⟨#[c]⟩:ByteArray).size=1:=rfl;rw[aL,aL,e]at hs;omega
 |succ n ih=>
  intro s hs w hw;rcases hn:aC c s with⟨v,_|r⟩
  ·obtain⟨_,rfl⟩:=fj hn;rw[gJ hn,List.mem_singleton]at hw;rw[hw];exact le_refl _
  ·have mw:=hn;obtain⟨_,rfl⟩:=cj hn;have e:(⟨#[c]⟩:ByteArray).size=1:=rfl;have lj:(v++(⟨#[c]⟩++r)).size=v.size+(1+r.size):=by rw[aL,aL,e]
   rw[iF mw]at hw;rcases List.mem_cons.1 hw with rfl|hw
   ·omega
   ·have:=ih r (by omega) w hw;omega
theorem qI(s:ByteArray)(hs:s.size<=1048576):sF Tryz.prog F.bg G.bg [bE s] [.sl ((kj s).map br),.v (.bool (ct s).2)]:=by
 have hsp:=ach s 32 hs;rw[wh]at hsp;have adm:∀w∈mi (aC 32 s).2,w.size<=s.size:=λ w hw=>oX s.size s (le_refl _) w (by rw[wh];exact List.mem_cons_of_mem _ hw)
 have hlen:(mi (aC 32 s).2).length<=s.size+1:=by
  have h1:=ahu (aC 32 s).2;rcases hn:aC 32 s with⟨w,_|r⟩
  ·rw[hn]at h1;simp only[vm]at h1⊢;omega
  ·rw[hn]at h1;obtain⟨_,rfl⟩:=cj hn;simp only[vm]at h1⊢;rw[aL,aL];omega
 have iu:ct s=if(aC 32 s).1=⟨#[115,116,97,114,116,115]⟩then nC (mi (aC 32 s).2) []else([],false):=rfl
 generalize hR1:kj s=R1;generalize hR2:(ct s).2=R2;unfold kj at hR1;rw[hR2]at hR1;rw[iu]at hR1 hR2;generalize mi (aC 32 s).2=l at hsp adm hlen hR1 hR2;generalize (aC 32 s).1=w0 at hsp hR1 hR2;refine T.nT rfl rfl rfl ?_;simp only[T.bg,WA,reduceEqDiff,reduceAdd,reduceLT,reduceLeDiff,reduceMul,reduceIte,reduceCtorEq,Int.reduceEq,Int.reduceLT,Int.reduceLE,Int.reduceNe];refine eo hsp (by simp only[AV.ag];exact bu λ _=>rfl) ?_;simp only[dU,map_cons,WA,reduceEqDiff,reduceAdd,reduceLT,reduceLeDiff,reduceMul,reduceIte,reduceCtorEq,Int.reduceEq,Int.reduceLT,Int.reduceLE,Int.reduceNe];refine qQ (n:=0) (bE w0) rfl rfl ?_;simp only[dU,WA,reduceEqDiff,reduceAdd,reduceLT,reduceLeDiff,reduceMul,reduceIte,reduceCtorEq,Int.reduceEq,Int.reduceLT,Int.reduceLE,Int.reduceNe];refine bH (λ h=> ?_) (λ h=> ?_)
 ·have h1:¬w0=⟨#[115,116,97,114,116,115]⟩:=by simpa using h
  rw[if_neg h1]at hR1 hR2;subst hR2;simp only[Bool.false_eq_true,if_false]at hR1;subst hR1;simp only[map_nil,WA,reduceEqDiff,reduceAdd,reduceLT,reduceLeDiff,reduceMul,reduceIte,reduceCtorEq,Int.reduceEq,Int.reduceLT,Int.reduceLE,Int.reduceNe]
 ·have h1:w0=⟨#[115,116,97,114,116,115]⟩:=by simpa using h
  rw[if_pos h1]at hR1 hR2;simp only[WA,reduceEqDiff,reduceAdd,reduceLT,reduceLeDiff,reduceMul,reduceIte,reduceCtorEq,Int.reduceEq,Int.reduceLT,Int.reduceLE,Int.reduceNe];refine aB ?_;simp only[WA,reduceEqDiff,reduceAdd,reduceLT,reduceLeDiff,reduceMul,reduceIte,reduceCtorEq,Int.reduceEq,Int.reduceLT,Int.reduceLE,Int.reduceNe]
  refine⟨by omega,by omega,by
   rintro y (rfl|hy)
   ·rfl
   ·obtain⟨x,_,rfl⟩:=List.mem_map.1 hy;rfl,?_⟩
  have e:List.drop (Int.toNat 1) (List.take (l.length+1) (bE w0::l.map bE))=l.map bE:=by
   rw[List.take_of_length_le (by simp)];rfl
  simp only[e,length_map]
  refine cM (ι:=Nat×List Int) (λ q=>q.1<=l.length/\q.2.length=q.1/\(if R2=true then(nC (l.drop q.1) q.2).1 else [])=R1/\(nC (l.drop q.1) q.2).2=R2) (λ q=>[.sl (q.2.map br),br q.1]) (λ q=>l.length- q.1) (0,[])
   ⟨Nat.zero_le _,rfl,by simpa using hR1,by simpa using hR2⟩ rfl ?_
  rintro⟨i,acc⟩ ⟨hi,hal,hI1,hI2⟩;simp only at hi hal hI1 hI2;simp only[WA,reduceEqDiff,reduceAdd,reduceLT,reduceLeDiff,reduceMul,reduceIte,reduceCtorEq,Int.reduceEq,Int.reduceLT,Int.reduceLE,Int.reduceNe];refine aq (λ h2=> ?_) (λ h2=> ?_)
  ·have au:i<l.length:=by omega
   have uO:=List.drop_eq_getElem_cons au;have hx:(l.map bE)[i]? =some (bE l[i]):=by simp[au]
   have lj:=adm _ (List.getElem_mem au);rw[uO,nC]at hI1 hI2;simp only[WA,reduceEqDiff,reduceAdd,reduceLT,reduceLeDiff,reduceMul,reduceIte,reduceCtorEq,Int.reduceEq,Int.reduceLT,Int.reduceLE,Int.reduceNe];refine qQ (bE l[i]) hx rfl ?_;simp only[dU,WA,reduceEqDiff,reduceAdd,reduceLT,reduceLeDiff,reduceMul,reduceIte,reduceCtorEq,Int.reduceEq,Int.reduceLT,Int.reduceLE,Int.reduceNe];refine eo (k7 l[i] (by omega)) rfl ?_;cases hn:fS l[i]with
   |none=>
    rw[hn]at hI1 hI2;simp only at hI1 hI2;subst hI2;simp only[Bool.false_eq_true,if_false]at hI1;subst hI1;simp only[Option.isSome_none,map_nil,WA,reduceEqDiff,reduceAdd,reduceLT,reduceLeDiff,reduceMul,reduceIte,reduceCtorEq,Int.reduceEq,Int.reduceLT,Int.reduceLE,Int.reduceNe]
   |some v=>
    rw[hn]at hI1 hI2;simp only at hI1 hI2;have hv:=o6 hn;simp(disch:=omega) only[hv,aD,Option.isSome_some,length_map,WA,reduceEqDiff,reduceAdd,reduceLT,reduceLeDiff,reduceMul,reduceIte,reduceCtorEq,Int.reduceEq,Int.reduceLT,Int.reduceLE,Int.reduceNe];refine⟨λ y hy=>by rw[hy];rfl,by omega,by omega,(i+1,acc++ [v]),⟨by simp only;omega,by simp;omega,hI1,hI2⟩,by simp only;omega,?_⟩;simp only[map_append,map_cons,map_nil]
  ·have he:i=l.length:=by omega
   subst he;rw[List.drop_length,nC]at hI1 hI2;simp only at hI1 hI2;subst hI2;simp only[if_true]at hI1;subst hI1;simp only[WA,reduceEqDiff,reduceAdd,reduceLT,reduceLeDiff,reduceMul,reduceIte,reduceCtorEq,Int.reduceEq,Int.reduceLT,Int.reduceLE,Int.reduceNe]
def cJ(op:Int)(t:ByteArray):aa:=⟨op,0,0,0,0,t⟩
def jh:Nat->List aa
 |0=>[]
 |m+1=>if m+1=7 then jh m else jh m++ [cJ (m+1:Nat) ⟨#[]⟩]
def vU:List ByteArray:=[⟨#[43]⟩,⟨#[45]⟩,⟨#[42]⟩,⟨#[61]⟩,⟨#[60]⟩,⟨#[94]⟩,⟨#[115,105,122,101]⟩,⟨#[114,101,97,100]⟩,⟨#[112,114,105,110,116]⟩]
def oE:Nat->List aa
 |0=>jh 15
 |m+1=>oE m++ [cJ 7 (vU.getD m ⟨#[]⟩)]
def fG:List aa:=oE 9
theorem xG:∀m:Nat,(jh m).length<=m
 |0=>le_refl _
 |m+1=>by
  have:=xG m;rw[jh]
  split
  ·omega
  ·simp;omega
theorem xF:∀m:Nat,(oE m).length=14+m
 |0=>rfl
 |m+1=>by
  rw[oE,List.length_append,xF m];rfl
theorem abq:aI Tryz.prog F.gS [] (.sl (fG.map aa.av)):=by
 refine T.xQ rfl rfl ?_;simp only[T.gS,aa.width,aa.isAgg,aa.storable,WA,reduceEqDiff,reduceAdd,reduceLT,reduceLeDiff,reduceMul,reduceIte,reduceCtorEq,Int.reduceEq,Int.reduceLT,Int.reduceLE,Int.reduceNe];refine bw [.sl ((jh 15).map aa.av)] rfl ?_ ?_
 ·simp only[List.nil_append,WA,reduceEqDiff,reduceAdd,reduceLT,reduceLeDiff,reduceMul,reduceIte,reduceCtorEq,Int.reduceEq,Int.reduceLT,Int.reduceLE,Int.reduceNe];refine cM (ι:=Nat) (λ m=>m<=15) (λ m=>[.sl ((jh m).map aa.av),br (m+1:Nat)]) (λ m=>15- m) 0 (by omega) rfl ?_;intro m hm;have hml:=xG m;simp only[WA,reduceEqDiff,reduceAdd,reduceLT,reduceLeDiff,reduceMul,reduceIte,reduceCtorEq,Int.reduceEq,Int.reduceLT,Int.reduceLE,Int.reduceNe];refine aq (λ h=> ?_) (λ h=> ?_)
  ·simp only[WA,reduceEqDiff,reduceAdd,reduceLT,reduceLeDiff,reduceMul,reduceIte,reduceCtorEq,Int.reduceEq,Int.reduceLT,Int.reduceLE,Int.reduceNe];refine bw [.sl ((jh (m+1)).map aa.av)] rfl ?_ ?_
   ·simp only[WA,reduceEqDiff,reduceAdd,reduceLT,reduceLeDiff,reduceMul,reduceIte,reduceCtorEq,Int.reduceEq,Int.reduceLT,Int.reduceLE,Int.reduceNe];refine cn (λ h2=> ?_) (λ h2=> ?_)
    ·have hk:jh (m+1)=jh m++ [cJ (m+1:Nat) ⟨#[]⟩]:=by rw[jh,if_neg (by omega)]
     have he:AV.agg [.v (.int .i64 ((m+1:Nat):Int)),.v (.int .i64 0),.v (.int .i64 0),.v (.int .i64 0),.v (.int .i64 0),.v (.string ⟨#[]⟩)]=(cJ (m+1:Nat) ⟨#[]⟩).av:=rfl;simp only[hk,he,aa.width,aa.isAgg,aa.storable,aa.cells,length_map,WA,reduceEqDiff,reduceAdd,reduceLT,reduceLeDiff,reduceMul,reduceIte,reduceCtorEq,Int.reduceEq,Int.reduceLT,Int.reduceLE,Int.reduceNe]
     repeat (refine And.intro (by first|omega|rfl|(intro y hy;subst hy;rfl)) ?_)
     simp only[map_append,map_cons,map_nil]
    ·have hk:jh (m+1)=jh m:=by rw[jh,if_pos (by omega)]
     simp only[hk,WA,reduceEqDiff,reduceAdd,reduceLT,reduceLeDiff,reduceMul,reduceIte,reduceCtorEq,Int.reduceEq,Int.reduceLT,Int.reduceLE,Int.reduceNe]
   ·simp(disch:=omega) only[aD,WA,reduceEqDiff,reduceAdd,reduceLT,reduceLeDiff,reduceMul,reduceIte,reduceCtorEq,Int.reduceEq,Int.reduceLT,Int.reduceLE,Int.reduceNe];exact⟨m+1,by omega,by omega,rfl⟩
  ·have he:m=15:=by omega
   subst he;simp only[WA,reduceEqDiff,reduceAdd,reduceLT,reduceLeDiff,reduceMul,reduceIte,reduceCtorEq,Int.reduceEq,Int.reduceLT,Int.reduceLE,Int.reduceNe]
 ·simp only[List.nil_append,WA,reduceEqDiff,reduceAdd,reduceLT,reduceLeDiff,reduceMul,reduceIte,reduceCtorEq,Int.reduceEq,Int.reduceLT,Int.reduceLE,Int.reduceNe];refine bw [.sl ((oE 9).map aa.av),.sl (vU.map bE)] rfl ?_ ?_
  ·simp only[List.replicate,map_cons,map_nil,eQ,List.set,WA,reduceEqDiff,reduceAdd,reduceLT,reduceLeDiff,reduceMul,reduceIte,reduceCtorEq,Int.reduceEq,Int.reduceLT,Int.reduceLE,Int.reduceNe];refine cM (ι:=Nat) (λ m=>m<=9) (λ m=>[.sl ((oE m).map aa.av),br m]) (λ m=>9- m) 0 (by omega) rfl ?_;intro m hm;have hml:=xF m;simp only[WA,reduceEqDiff,reduceAdd,reduceLT,reduceLeDiff,reduceMul,reduceIte,reduceCtorEq,Int.reduceEq,Int.reduceLT,Int.reduceLE,Int.reduceNe];refine aq (λ h=> ?_) (λ h=> ?_)
   ·have hk:oE (m+1)=oE m++ [cJ 7 (vU.getD m ⟨#[]⟩)]:=rfl
    have dc: [AV.v (.string ⟨#[43]⟩),.v (.string ⟨#[45]⟩),.v (.string ⟨#[42]⟩),.v (.string ⟨#[61]⟩),.v (.string ⟨#[60]⟩),.v (.string ⟨#[94]⟩),.v (.string ⟨#[115,105,122,101]⟩),.v (.string ⟨#[114,101,97,100]⟩),.v (.string ⟨#[112,114,105,110,116]⟩)].getD m .top=bE (vU.getD m ⟨#[]⟩):=by
     rcases(by omega:m=0∨m=1∨m=2∨m=3∨m=4∨m=5∨m=6∨m=7∨m=8)with rfl|rfl|rfl|rfl|rfl|rfl|rfl|rfl|rfl<;>rfl
    simp(disch:=omega) only[Int.toNat_natCast,length_map,aD,WA,reduceEqDiff,reduceAdd,reduceLT,reduceLeDiff,reduceMul,reduceIte,reduceCtorEq,Int.reduceEq,Int.reduceLT,Int.reduceLE,Int.reduceNe];rw[dc];refine⟨by omega,by omega,le_refl _,rfl,rfl,rfl,λ y hy=>by rw[hy];rfl,by omega,by omega,m+1,by omega,by omega,?_⟩;rw[hk,map_append]
    rfl
   ·have he:m=9:=by omega
    subst he;simp only[WA,reduceEqDiff,reduceAdd,reduceLT,reduceLeDiff,reduceMul,reduceIte,reduceCtorEq,Int.reduceEq,Int.reduceLT,Int.reduceLE,Int.reduceNe]
    rfl
  ·simp only[WA,reduceEqDiff,reduceAdd,reduceLT,reduceLeDiff,reduceMul,reduceIte,reduceCtorEq,Int.reduceEq,Int.reduceLT,Int.reduceLE,Int.reduceNe]
   rfl
end Go.Proofs.Ab
