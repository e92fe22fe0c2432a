/-
  TEXTS OF CODE PARSED BY THE PROGRAM: an instruction's line.
-/
import Derived.Test.YtkinchcjijhmgaaGreatDoorWPi4
open Option(map_some)
open List(length_map getElem_mem)
open Nat(reduceEqDiff reduceLeDiff reduceAdd reduceLT reduceMul)
set_option linter.unusedVariables false
set_option linter.unusedSimpArgs false
namespace Go.Proofs.Ab
open Go.Ab
set_option maxRecDepth 100000
set_option maxHeartbeats 4000000
theorem o9:fG= [cJ 1 ⟨#[]⟩,cJ 2 ⟨#[]⟩,cJ 3 ⟨#[]⟩,cJ 4 ⟨#[]⟩,cJ 5 ⟨#[]⟩,cJ 6 ⟨#[]⟩,cJ 8 ⟨#[]⟩,cJ 9 ⟨#[]⟩,cJ 10 ⟨#[]⟩,cJ 11 ⟨#[]⟩,cJ 12 ⟨#[]⟩,cJ 13 ⟨#[]⟩,cJ 14 ⟨#[]⟩,cJ 15 ⟨#[]⟩,
 cJ 7 ⟨#[43]⟩,cJ 7 ⟨#[45]⟩,cJ 7 ⟨#[42]⟩,cJ 7 ⟨#[61]⟩,cJ 7 ⟨#[60]⟩,cJ 7 ⟨#[94]⟩,cJ 7 ⟨#[115,105,122,101]⟩,cJ 7 ⟨#[114,101,97,100]⟩,cJ 7 ⟨#[112,114,105,110,116]⟩]:=rfl
def apV(x:aa):Prop:=mU (fu x.bl)=x/\(bs x.aZ≠[]/\(∀c∈bs x.aZ,c≠32)/\∀c∈(bs x.aZ).dropLast,c≠116)/\x.ye/\x.inM/\∀c∈bs x.aZ,c=116->x.Op≠7
theorem agJ:∀x∈fG,apV x:=by
 rw[o9];intro x hx;simp only[List.mem_cons,List.not_mem_nil,or_false]at hx;rcases hx with rfl|rfl|rfl|rfl|rfl|rfl|rfl|rfl|rfl|rfl|rfl|rfl|rfl|rfl|rfl|rfl|rfl|rfl|rfl|rfl|rfl|rfl|rfl
 all_goals
  refine⟨rfl,⟨by decide,by decide,by decide⟩,⟨⟨by decide,by decide⟩,λ h=> ?_⟩,by
   refine⟨⟨by decide,by decide⟩,⟨by decide,by decide⟩,⟨by decide,by decide⟩,by decide,by decide⟩,by decide⟩
 all_goals first
  |exact absurd h (by decide)
  |exact .inl rfl
  |exact .inr (.inl rfl)
  |exact .inr (.inr (.inl rfl))
  |exact .inr (.inr (.inr (.inl rfl)))
  |exact .inr (.inr (.inr (.inr (.inl rfl))))
  |exact .inr (.inr (.inr (.inr (.inr (.inl rfl)))))
  |exact .inr (.inr (.inr (.inr (.inr (.inr (.inl rfl))))))
  |exact .inr (.inr (.inr (.inr (.inr (.inr (.inr (.inl rfl)))))))
  |exact .inr (.inr (.inr (.inr (.inr (.inr (.inr (.inr rfl)))))))
def ado(f:Int×ByteArray×ByteArray):Prop:=f.2.2=⟨#[32]⟩∨mU f∈fG
theorem auJ{p:Prop}[Decidable p]{a b:Int×ByteArray×ByteArray}(ha:p->ado a)(hb:¬p->ado b):ado (if p then a else b):=by
 split
 ·rename_i h;exact ha h
 ·rename_i h;exact hb h
theorem apc(w:ByteArray):ado (nI w):=by
 unfold nI;cases h:jm w gN with
 |some s=>
  obtain⟨t,ht⟩:=yh _ h;refine .inr ?_;simp only[gN,List.mem_cons,List.not_mem_nil,or_false,Prod.mk.injEq]at ht;rcases ht with⟨rfl,_⟩|⟨rfl,_⟩|⟨rfl,_⟩|⟨rfl,_⟩|⟨rfl,_⟩|⟨rfl,_⟩<;>(rw[o9];simp[mU,cJ])
 |none=>
  simp only
  repeat (refine auJ (λ h=> .inr (by subst h;rw[o9];simp[mU,cJ])) λ _=> ?_)
  exact .inl rfl
theorem ao9(w:ByteArray):ado (fu w):=by
 unfold fu
 repeat (refine auJ (λ h=> .inr (by rw[o9];simp[mU,cJ])) λ _=> ?_)
 exact apc w
theorem adu(c:Int)(x:aa):jn c ⟨#[]⟩ x=none:=by
 have h1:j7 ⟨#[]⟩=none:=rfl;have h2:nQ ⟨#[]⟩=none:=rfl;unfold jn numOf
 split
 ·rw[h1];rfl
 ·split
  ·rw[xm];rfl
  ·rw[h2];rfl
theorem aci(k:Nat):Lib.splitB ⟨#[32]⟩ 0 k ⟨#[]⟩= [⟨#[]⟩]:=by
 cases k with
 |zero=>rfl
 |succ k=>
  rw[jA,acN 32 ⟨#[]⟩ (by simp)]
theorem wA:∀(k:Nat) (s:ByteArray),∀v∈Lib.splitB ⟨#[32]⟩ 0 k s,v.size<=s.size
 |0,s,v,hv=>by
  rw[Lib.splitB_zero,List.mem_singleton]at hv;rw[hv];exact Nat.le_refl _
 |k+1,s,v,hv=>by
  rw[jA]at hv;rcases hn:aC 32 s with⟨w,_|r⟩
  ·rw[hn]at hv;simp only[List.mem_singleton]at hv;rw[hv];exact Nat.le_refl _
  ·rw[hn]at hv;obtain⟨_,rfl⟩:=cj hn;have e:(⟨#[32]⟩:ByteArray).size=1:=rfl;rw[aL,aL,e];rcases List.mem_cons.1 hv with rfl|hv
   ·omega
   ·have:=wA k r v hv;omega
theorem aol{line:ByteArray}(h:∀y∈fG,y.bl≠(aC 32 line).1):eR line=none:=by
 unfold eR
 have key:(fu (aC 32 line).1).2.2=⟨#[32]⟩:=by
  rcases ao9 (aC 32 line).1 with h1|h1
  ·exact h1
  ·rcases agV (aC 32 line).1 with h2|⟨h2,_⟩
   ·exact h2
   ·exact absurd (h2 _ rfl λ _=>rfl) (h _ h1)
 rw[key];have e:bs (⟨#[32]⟩:ByteArray)= [32]:=rfl;rw[e];cases(aC 32 line).2 with
 |none=>rw[uP]
 |some r=>rw[uP,if_pos rfl]
theorem acA{line:ByteArray}{y:aa}(hy:y∈fG)(hw:y.bl=(aC 32 line).1):eR line=j9 (bs y.aZ) (Lib.splitB ⟨#[32]⟩ 0 ((bs y.aZ).length- 1) ((aC 32 line).2.getD ⟨#[]⟩)) y:=by
 obtain⟨h1,⟨h2,h3,h4⟩,_⟩:=agJ y hy;have hp:y.aZ=(fu (aC 32 line).1).2.2:=by unfold aa.aZ;rw[hw]
 rw[hw]at h1;unfold eR;rw[h1,←hp];cases(aC 32 line).2 with
 |some r=>exact(adt _ r y h2 h3 h4).symm
 |none=>
  rw[Option.getD_none,aci];cases hc:bs y.aZ with
  |nil=>exact absurd hc h2
  |cons c cs=>
   rw[uP,j9,adu]
theorem yl:∀(cs:List Int) (ws:List ByteArray) (x:aa),cs.length≠ws.length->j9 cs ws x=none
 | [],[],_,h=>absurd rfl h
 | [],_::_,_,_=>rfl
 |_::_,[],_,_=>rfl
 |c::cs,w::ws,x,h=>by
  rw[j9];cases jn c w x with
  |none=>rfl
  |some y=>exact yl cs ws y (by simpa using h)
theorem aiG{c:Int}{w:ByteArray}{x z:aa}(h:jn c w x=some z)(hi:x.inM):z.inM/\z.Op=x.Op/\(c≠116->z.Text=x.Text):=by
 unfold jn at h
 split at h
 ·rename_i hc;cases hs:j7 w with
  |none=>rw[hs]at h;cases h
  |some t=>
   rw[hs]at h;simp only[map_some,Option.some.injEq]at h;subst h;exact⟨hi,rfl,λ h=>absurd hc h⟩
 ·cases hs:numOf c w with
  |none=>rw[hs]at h;cases h
  |some n=>
   rw[hs]at h;simp only[map_some,Option.some.injEq]at h;subst h
   have hn: -9223372036854775808<=n/\n<=9223372036854775807:=by
    unfold numOf at hs
    split at hs
    ·exact(jF hs).1
    ·obtain⟨h1,h2,_⟩:=mj hs;omega
   obtain⟨e1,e2⟩:=vR x c n;refine⟨?_,e1,λ _=>e2⟩;obtain⟨ha,hb,hc,hd⟩:=hi;unfold aa.jt
   split
   ·exact⟨hn,hb,hc,hd⟩
   split
   ·exact⟨ha,hn,hc,hd⟩
   split
   ·exact⟨ha,hb,hn,hd⟩
   ·exact⟨ha,hb,hc,hn⟩
def zI:aa:=cJ 0 ⟨#[]⟩
def amU(p:Option aa):AV:= .aK [(p.getD zI).av,.v (.bool p.isSome)]
theorem nu(p:Option aa):(amU p).ag=true:=by simp[amU,AV.ag,AV.ad,aa.ag]
theorem WK.less{n0:Nat}{e e':Env}(O:List ae)(h:∀t,e' t= .top∨e' t=e t):WK n0 e O e' O:=by
 intro I0 L0 O0 w0 I L w f _ hg hr;refine⟨I,L,hg,λ t=> ?_⟩;rcases h t with h|h
 ·rw[h];exact .top _
 ·rw[h];exact hr t
theorem aib(O:List ae):js Tryz.prog F.gS [] O (.sl (fG.map aa.av)) O:=abq.any rfl (by simp only[AV.ag];exact bu aa.ag) O
theorem tA(line:ByteArray)(hl:line.size<=1048576):aI Tryz.prog F.fI [bE line] (amU (eR line)):=by
 have hmk:∀y∈fG,apV y:=agJ;have hkl:fG.length=23:=rfl;have cd:=aol (line:=line);have hpf:=λ y hy hw=>acA (line:=line) (y:=y) hy hw
 have au5:=mr line
 have lj:(aC 32 line).1.size<=line.size/\((aC 32 line).2.getD ⟨#[]⟩).size<=line.size:=by
  have h:=congrArg ByteArray.size au5;rw[aL]at h;refine⟨by omega,?_⟩;cases ho:(aC 32 line).2 with
  |none=>exact Nat.zero_le _
  |some r=>
   rw[ho]at h;simp only[zw,aL]at h
   show r.size<=_;omega
 have aoS:=asw line 32 hl;generalize hP:eR line=P at*;generalize hW:(aC 32 line).1=W at*;generalize (aC 32 line).2=o at*;refine hH A.sd rfl ?_;simp only[A.fI,aa.width,aa.isAgg,aa.storable,aa.cells,↓OD,OA,reduceEqDiff,reduceCtorEq,reduceAdd,reduceLT,reduceLeDiff,reduceIte];refine aW _ _ (aoS.any rfl rfl _) ?_;simp only[↓OD,OA,reduceEqDiff,reduceCtorEq,reduceAdd,reduceLT,reduceLeDiff,reduceIte];refine aW _ _ (aib _) ?_;have hz:AV.agg [.v (.int .i64 0),.v (.int .i64 0),.v (.int .i64 0),.v (.int .i64 0),.v (.int .i64 0),.v (.string ⟨#[]⟩)]=zI.av:=rfl;simp only[hz,length_map,hkl,aa.width,aa.isAgg,aa.storable,↓OD,OA,reduceEqDiff,reduceCtorEq,reduceAdd,reduceLT,reduceLeDiff,reduceIte];generalize o.getD ⟨#[]⟩=rest at*;have hav:AV.v (.bool false)= .v (.bool (none:Option aa).isSome):=rfl
 refine lE (ι:=Nat) (λ i=>i<=23/\∀(j:Nat) y,j<i->fG[j]? =some y->y.bl≠W)
  (λ i=>ng [(0,bE line),(2,.ptr 0 1 0 0),(4,bE W),(5,bE rest),(19,.sl (fG.map aa.av)),(20,br 23),(21,br i)])
  (λ _=>[.live 34 6 [zI.av]]) (λ i=>23- i) 0 ⟨by omega,λ j y h=>by omega⟩ (.of_eq rfl rfl) ?_
 rintro i ⟨hi,hI⟩;simp only[br,↓OD,OA,reduceEqDiff,reduceCtorEq,reduceAdd,reduceLT,reduceLeDiff,reduceIte];refine j4 (λ hc=> ?_) (λ hc=> ?_)
 ·have au:i<23:=by have:(i:Int)<23:=by simpa using hc
                   omega
  have arW:i<fG.length:=by omega
  have hy:fG[i]∈fG:=getElem_mem arW;have hyi:fG[i]? =some fG[i]:=List.getElem?_eq_getElem arW;have gn:(fG.map aa.av).getD i .top=(fG[i]).av:=by simp[List.getD,arW]
  generalize fG[i]=y at hy hyi gn;obtain⟨hy1,⟨hy2,hy3,hy4⟩,hy5,hy6,hy7⟩:=hmk y hy;simp only[Int.toNat_natCast,length_map,hkl,gn,hz,aa.width,aa.isAgg,aa.storable,↓OD,OA,reduceEqDiff,reduceCtorEq,reduceAdd,reduceLT,reduceLeDiff,reduceIte]
  repeat (refine And.intro (by first|omega|exact aa.storable _) ?_)
  try simp only[Int.toNat_natCast,length_map,gn,hz,aa.width,aa.isAgg,aa.storable,br,↓OD,OA,reduceEqDiff,reduceCtorEq,reduceAdd,reduceLT,reduceLeDiff,reduceIte]
  refine aW _ _ ((pM y hy5).any (by simp[AV.ad,aa.ag]) rfl _) ?_;simp only[aa.width,aa.isAgg,aa.storable,↓OD,OA,reduceEqDiff,reduceCtorEq,reduceAdd,reduceLT,reduceLeDiff,reduceIte]
  repeat (refine And.intro (by decide) ?_)
  try simp only[aa.width,aa.isAgg,aa.storable,↓OD,OA,reduceEqDiff,reduceCtorEq,reduceAdd,reduceLT,reduceLeDiff,reduceIte]
  refine j4 (λ hc2=> ?_) (λ hc2=> ?_)
  ·have cr:y.bl≠W:=by simpa using hc2
   have alF:IntKind.i64.wrap ((i:Int)+1)=((i+1:Nat):Int):=aD (by omega);simp only[alF,↓OD,OA,reduceEqDiff,reduceCtorEq,reduceAdd,reduceLT,reduceLeDiff,reduceIte];refine dD (i+1) ⟨by omega,λ j z hj hz'=> ?_⟩ (show 23- (i+1)<23- i by omega) (.abB 1 ?_ ?_ (by omega) (by simp) ?_ ?_)
   ·by_cases za:j<i
    ·exact hI j z za hz'
    ·have:j=i:=by omega
     subst this;rw[hyi]at hz';injection hz' with hz';rw[←hz'];exact cr
   ·rfl
   ·rfl
   ·simp only[List.all_cons,List.all_nil,Bool.and_true,ae.inScope,AV.cA,bF _ (aa.ag zI)]
   ·simp only[List.all_cons,List.all_nil,Bool.and_true,AV.inScope,br,ca _ (bu (f:=aa.av) (l:=fG) aa.ag)]
    decide
  ·have axq:y.bl=W:=by simpa using hc2
   have hpf:=hpf y hy axq;have hps:y.aZ.size<=3:=tS y.bl;have axU:=pF hy5;have hbl:=ep y.aZ;generalize y.aZ=p at*
   have hp1:1<=p.size:=by
    rw[←hbl];cases hq:bs p with
    |nil=>exact absurd hq hy2
    |cons _ _=>simp
   have hsn:=ahk rest 32 (by omega) p.size hp1 (by omega);rw[hbl]at hpf;have hwz:∀v∈Lib.splitB ⟨#[32]⟩ 0 (p.size- 1) rest,v.size<=rest.size:=wA _ _;generalize hws:Lib.splitB ⟨#[32]⟩ 0 (p.size- 1) rest=ws at*;simp only[aa.width,aa.isAgg,aa.storable,↓OD,OA,reduceEqDiff,reduceCtorEq,reduceAdd,reduceLT,reduceLeDiff,reduceIte];refine aW _ _ (hsn.any rfl (by simp only[AV.ag];exact bu λ _=>rfl) _) ?_;simp only[length_map,aa.width,aa.isAgg,aa.storable,↓OD,OA,reduceEqDiff,reduceCtorEq,reduceAdd,reduceLT,reduceLeDiff,reduceIte];refine j4 (λ hc3=> ?_) (λ hc3=> ?_)
   ·have hlen:ws.length≠p.size:=by
      intro e;rw[e]at hc3;simp at hc3
    have hn:P=none:=by rw[hpf];exact yl _ _ _ (by omega)
    rw[hn];simp only[hz,aa.width,aa.isAgg,aa.storable,↓OD,OA,reduceEqDiff,reduceCtorEq,reduceAdd,reduceLT,reduceLeDiff,reduceIte];refine mh (.inl rfl) (nu none) ?_;simp only[aa.width,aa.isAgg,aa.storable,aa.cells,↓OD,OA,reduceEqDiff,reduceCtorEq,reduceAdd,reduceLT,reduceLeDiff,reduceIte]
    rfl
   ·have hlen:ws.length=p.size:=by
      have:(ws.length:Int)=(p.size:Int):=by simpa using hc3
      omega
    simp only[aa.width,aa.isAgg,aa.storable,↓OD,OA,reduceEqDiff,reduceCtorEq,reduceAdd,reduceLT,reduceLeDiff,reduceIte]
    refine lE (ι:=Nat×aa) (λ q=>q.1<=p.size/\P=j9 ((bs p).drop q.1) (ws.drop q.1) q.2/\q.2.inM/\q.2.Op=y.Op/\(y.Op=7->q.2.Text=y.Text))
     (λ q=>ng [(0,bE line),(2,.ptr 0 1 0 0),(8,.ptr 1 1 0 0),(10,.sl (ws.map bE)),(45,.own 3)])
     (λ q=>[.live 34 6 [zI.av],.live 34 6 [q.2.av],.live 60 2 [.agg [bE y.bl,bE p]],.cN (.it p q.1)]) (λ q=>p.size- q.1) (0,y)
     ⟨Nat.zero_le _,hpf,hy6,rfl,λ _=>rfl⟩ (.of_eq rfl rfl) ?_
    rintro⟨k,x⟩ ⟨hk,hg,hxi,hxo,hxt⟩;simp only at hk hg hxi hxo hxt;simp only[↓OD,OA,reduceEqDiff,reduceCtorEq,reduceAdd,reduceLT,reduceLeDiff,reduceIte];rcases Nat.lt_or_ge k p.size with mX|hge
    ·have hx:(bs p)[k]? =some (bs p)[k]:=List.getElem?_eq_getElem (by omega);have hd:(bs p).drop k=(bs p)[k]::(bs p).drop (k+1):=nJ (by omega);have hcm:(bs p)[k]∈bs p:=getElem_mem (by omega);generalize (bs p)[k]=c at hx hd hcm;have hk5:=axU c hcm;have hkc:((c.toNat:Nat):Int)=c:=by omega
     have tL:k<ws.length:=by omega
     have hwd:=List.drop_eq_getElem_cons tL;have hwn:(ws.map bE).getD k .top=bE ws[k]:=by simp[List.getD,tL]
     have auT:ws[k].size<=1048576:=by
      have hm:ws[k]∈ws:=getElem_mem tL;have:=hwz _ hm;omega
     generalize ws[k]=w at hwd hwn auT;rw[hd,hwd,j9]at hg;have hfc:=(adb c w x auT (by omega)).an4 rfl (by simp only[ae.ad,AV.ad,aa.ag,Bool.and_true]) (by simp only[ae.ad,AV.ad,aa.ag,Bool.and_true]) rfl (O:=[.live 34 6 [zI.av],.live 34 6 [x.av],.live 60 2 [.agg [bE y.bl,bE p]],.cN (.it p (k+1))]) 1 rfl;have hfy:=λ z h=>al5 (c:=c) (w:=w) (x:=x) (y:=z) h
     have hfi:=λ z h=>aiG (c:=c) (w:=w) (x:=x) (z:=z) h hxi
     refine wL rfl mX (yt hx (by omega)) ?_;rw[hkc];simp only[Int.toNat_natCast,length_map,hwn,hlen,↓OD,OA,reduceEqDiff,reduceCtorEq,reduceAdd,reduceLT,reduceLeDiff,reduceIte];refine⟨by omega,by omega,?_⟩;refine aW _ _ hfc ?_;cases hf:jn c w x with
     |none=>
      rw[hf]at hg;simp only at hg;rw[hg];simp only[hz,Option.isSome_none,Bool.not_false,aa.width,aa.isAgg,aa.storable,↓OD,OA,reduceEqDiff,reduceCtorEq,reduceAdd,reduceLT,reduceLeDiff,reduceIte];refine mh (.inl rfl) (nu none) ?_;simp only[aa.width,aa.isAgg,aa.storable,aa.cells,↓OD,OA,reduceEqDiff,reduceCtorEq,reduceAdd,reduceLT,reduceLeDiff,reduceIte]
      rfl
     |some z=>
      rw[hf]at hg;simp only at hg;obtain⟨hz1,hz2,hz3⟩:=hfi z hf;rw[←hfy z hf];simp only[Option.isSome_some,Bool.not_true,aa.width,aa.isAgg,aa.storable,↓OD,OA,reduceEqDiff,reduceCtorEq,reduceAdd,reduceLT,reduceLeDiff,reduceIte]
      refine dD (k+1,z) ⟨mX,hg,hz1,hz2.trans hxo,λ h7=> ?_⟩ (show p.size- (k+1)<p.size- k by omega) (WK.less _ λ t=>by
       by_cases ht:t=56
       ·subst ht;exact .inl rfl
       ·refine .inr ?_;simp only[ng,List.find?_cons,List.find?_nil];(repeat' split)<;>simp_all)
      exact(hz3 λ h6=>hy7 c hcm h6 h7).trans (hxt h7)
    ·refine zp rfl (by omega) ?_;rw[List.drop_of_length_le (by omega),List.drop_of_length_le (by omega),j9]at hg;rw[hg]at hP⊢;have hln:=ae3 hP;have hsx:=xf hP
     have hfo:x.ye:=by
      obtain⟨q1,q2⟩:=hy5;refine⟨by rw[hxo];exact q1,λ h7=> ?_⟩;rw[hxo]at h7;rw[hxt h7];exact q2 h7
     have hxw:=x.jy;have ap5:=tH x hfo hxi (by omega);rw[hln]at ap5;simp only[aa.width,aa.isAgg,aa.storable,↓OD,OA,reduceEqDiff,reduceCtorEq,reduceAdd,reduceLT,reduceLeDiff,reduceIte];refine adC ?_;simp only[aa.width,aa.isAgg,aa.storable,↓OD,OA,reduceEqDiff,reduceCtorEq,reduceAdd,reduceLT,reduceLeDiff,reduceIte];refine kr _ ap5 rfl ?_;simp only[aa.width,aa.isAgg,aa.storable,↓OD,OA,reduceEqDiff,reduceCtorEq,reduceAdd,reduceLT,reduceLeDiff,reduceIte];refine⟨by kernel_rfl,?_⟩;refine mh (.inl rfl) (nu (some x)) ?_;simp only[aa.width,aa.isAgg,aa.storable,aa.cells,↓OD,OA,reduceEqDiff,reduceCtorEq,reduceAdd,reduceLT,reduceLeDiff,reduceIte]
     rfl
 ·have hie:i=23:=by have:¬(i:Int)<23:=by simpa using hc
                    omega
  have hn:P=none:=cd λ y hy=>by
   obtain⟨j,hj,rfl⟩:=List.getElem_of_mem hy;exact hI j _ (by omega) (List.getElem?_eq_getElem hj)
  rw[hn];simp only[hz,aa.width,aa.isAgg,aa.storable,↓OD,OA,reduceEqDiff,reduceCtorEq,reduceAdd,reduceLT,reduceLeDiff,reduceIte];refine mh (.inl rfl) (by simp[amU,AV.ag,AV.ad,aa.ag]) ?_;simp only[aa.width,aa.isAgg,aa.storable,aa.cells,↓OD,OA,reduceEqDiff,reduceCtorEq,reduceAdd,reduceLT,reduceLeDiff,reduceIte]
  rfl
end Go.Proofs.Ab
