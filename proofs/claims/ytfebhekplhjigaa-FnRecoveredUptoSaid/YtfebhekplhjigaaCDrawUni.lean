/-
  PAIRS OF TYPES THAT ARE DRAWN (DrawUnify).
-/
import Derived.Test.YtfebhekplhjigaaCDrawTy
import Derived.Test.YtfebhekplhjigaaCPut
import Derived.Test.YtfebhekplhjigaaPUni5
open Nat(le_trans)
open Bool(not_eq_true' not_eq_false')
open List(length_nil map_nil sum_nil length_map length_cons map_cons sum_cons map_append sum_append length_append)
open Nat(reduceEqDiff reduceLeDiff reduceAdd reduceLT reduceMul)
set_option linter.unusedVariables false
set_option linter.unusedSimpArgs false
namespace Go.Ab
set_option maxRecDepth 100000
set_option maxHeartbeats 4000000
structure YK(B:Nat)(x:aa):Prop where
 wt:x.wt<=B
 ok:x.iU=true
theorem YK.mono{B C:Nat}{x:aa}(h:YK B x)(hb:B<=C):YK C x:=⟨le_trans h.wt hb,h.ok⟩
theorem aof:∀s∈tyN,afX s=true:=by
 intro s hs;simp only[tyN,List.mem_cons,List.not_mem_nil,or_false]at hs;rcases hs with rfl|rfl|rfl<;>decide+kernel
theorem yk0{B:Nat}{K N:Int}(h:(1<=K/\K<=4/\N=0)∨(9<=K/\K<=11/\0<=N)):YK B (.mk K N ⟨#[]⟩ []):=by
 refine⟨?_,?_⟩
 ·rw[aa.bg];simp only[aa.iL,aa.eR,length_nil,map_nil,sum_nil];exact Nat.zero_le _
 ·rw[aa.iw];simp only[aa.eR,List.all_nil,Bool.and_true];unfold aa.eT;simp only[aa.wz,aa.aqq,aa.iL,aa.eR,length_nil];have he:decide ((⟨#[]⟩:ByteArray)=emp)=true:=by decide
  rw[he];rcases h with⟨h1,h2,h3⟩|⟨h1,h2,h3⟩
  ·rw[if_pos (by omega),decide_eq_true h3];simp
  ·rw[if_neg (by omega),if_neg (by omega),if_neg (by omega),if_neg (by omega),if_neg (by omega),if_pos (by omega),decide_eq_true h1,decide_eq_true h3];simp
theorem yk1{B b:Nat}{K n:Int}{S:ByteArray}{kids:List aa}(hk:∀x∈kids,YK b x)(hn:(kids.length:Int)=n)(h:(K=5/\n=2/\S=⟨#[]⟩)∨(K=6/\2<=n/\n<=3/\S=⟨#[]⟩)∨(K=7/\n<=3/\S∈tyN)∨(K=8/\n=1/\S=⟨#[]⟩))(hB:7+3*b<=B):YK B (.mk K 0 S kids):=by
 have hS:S.size<=4:=by
  rcases h with⟨_,_,rfl⟩|⟨_,_,_,rfl⟩|⟨_,_,h⟩|⟨_,_,rfl⟩
  ·decide
  ·decide
  ·exact afe _ h
  ·decide
 refine⟨?_,?_⟩
 ·rw[aa.bg];simp only[aa.iL,aa.eR];have h1:=sh aa.wt b kids λ x hx=>(hk x hx).wt
  have h2:kids.length*b<=3*b:=Nat.mul_le_mul_right _ (by omega);omega
 ·rw[aa.iw,Bool.and_eq_true];refine⟨?_,List.all_eq_true.2 λ x hx=>(hk x hx).ok⟩;unfold aa.eT;simp only[aa.wz,aa.aqq,aa.iL,aa.eR];have he:decide ((⟨#[]⟩:ByteArray)=emp)=true:=by decide
  rcases h with⟨h1,h2,rfl⟩|⟨h1,h2,h3,rfl⟩|⟨h1,h2,h3⟩|⟨h1,h2,rfl⟩
  ·rw[if_neg (by omega),if_pos h1,he,decide_eq_true (show kids.length=2 by omega)];simp
  ·rw[if_neg (by omega),if_neg (by omega),if_pos h1,he,decide_eq_true (show 2<=kids.length by omega)];simp
  ·rw[if_neg (by omega),if_neg (by omega),if_neg (by omega),if_pos h1,decide_eq_true h1,aof _ h3];simp
  ·rw[if_neg (by omega),if_neg (by omega),if_neg (by omega),if_neg (by omega),if_pos h1,he,decide_eq_true (show kids.length=1 by omega)];simp
theorem a7.ay3{P:Program}{f:FuncId}{us' us bs:List AV}(h:a7 P f us' (.ba us))(hl:us.length=bs.length)(hle:∀(i:Nat) (a b:AV),us[i]? =some a->bs[i]? =some b->AV.uO a b):a7 P f us' (.ba bs):=by
 refine⟨h.1,λ I L w vs hi hr=>(h.2 I L w vs hi hr).mono ?_⟩;rintro e w' ⟨y,I',L',rfl,hy,hg⟩;refine⟨y,I',L',rfl,?_,hg⟩;cases hy with
 |ba _ vs h1 h2=>
  exact .ba _ vs (by omega) λ i b x hb hx=>by
   obtain⟨a,ha⟩:=lI hl hb;exact(hle i a b ha hb).sound (h2 i a x ha hx)
structure LD(us:List AV)(xs:List aa):Prop where
 len:us.length=xs.length
 cel:∀(i:Nat) (a:AV) (x:aa),us[i]? =some a->xs[i]? =some x->AV.uO a x.av/\a.cells.length=4
theorem LD.sl{us:List AV}{xs:List aa}(h:LD us xs):AV.uO (.sl us) (.sl (xs.map aa.av)):=by
 have hg:∀(i:Nat) (y:AV),(xs.map aa.av)[i]? =some y->∃x,xs[i]? =some x/\y=x.av:=λ i y hy=>by
  rw[List.getElem?_map]at hy;cases hx:xs[i]? with
  |none=>rw[hx]at hy;cases hy
  |some x=>rw[hx]at hy;cases hy;exact⟨x,rfl,rfl⟩
 refine .sl _ _ (by rw[length_map];exact h.len) (λ i a y ha hy=> ?_) λ i a y j c d ha hy hc hd=> ?_
 ·obtain⟨x,hx,rfl⟩:=hg i y hy;rw[(h.cel i a x ha hx).2,aa.width]
 ·obtain⟨x,hx,rfl⟩:=hg i y hy;have hle:=(h.cel i a x ha hx).1;cases hle with
  |refl=>rw[hc]at hd;cases hd;exact .refl _
  |agg cs ds hl hh=>exact hh j c d hc hd
theorem LD.of(xs:List aa):LD (xs.map aa.av) xs:=⟨by simp,λ i a x ha hx=>by
 rw[List.getElem?_map,hx]at ha;cases ha;exact⟨.refl _,aa.width x⟩⟩
theorem LD.app{us:List AV}{xs:List aa}(h:LD us xs){a:AV}{x:aa}(ha:AV.uO a x.av)(hc:a.cells.length=4):LD (us++ [a]) (xs++ [x]):=by
 refine⟨by simp[h.len],λ i b y hb hy=> ?_⟩;by_cases hi:i<us.length
 ·rw[List.getElem?_append_left hi]at hb;rw[List.getElem?_append_left (by rw[←h.len];exact hi)]at hy;exact h.cel i b y hb hy
 ·rw[List.getElem?_append_right (by omega)]at hb;rw[List.getElem?_append_right (by rw[←h.len];omega),←h.len]at hy;rcases hn:i- us.length with _|n
  ·rw[hn]at hb hy;simp at hb hy;subst hb;subst hy;exact⟨ha,hc⟩
  ·rw[hn]at hb;simp at hb
theorem LD.set{us:List AV}{xs:List aa}(h:LD us xs){a:AV}{x:aa}(ha:AV.uO a x.av)(hc:a.cells.length=4)(k:Nat):LD (us.set k a) (xs.set k x):=by
 refine⟨by simp[h.len],λ i b y hb hy=> ?_⟩;by_cases e:k=i
 ·subst e;have aF:=(List.getElem?_eq_some_iff.1 hb).1;rw[List.length_set]at aF;rw[List.getElem?_set_self aF]at hb;rw[List.getElem?_set_self (by rw[←h.len];exact aF)]at hy;cases hb;cases hy;exact⟨ha,hc⟩
 ·rw[List.getElem?_set_ne e]at hb hy;exact h.cel i b y hb hy
theorem ahn(k:Int):(er k).wt=0:=by rw[aa.bg];rfl
theorem arO(k:Int):(aa.mk 6 0 ⟨#[]⟩ [er k,er k]).wt=2:=by
 rw[aa.bg];simp only[aa.iL,aa.eR,length_cons,length_nil,map_cons,map_nil,sum_cons,sum_nil,ahn]
 rfl
theorem awh(k:Int):AV.uO (.agg [aA 6,aA 0,ch ⟨#[]⟩,.sl [.agg [aA 11,aA k,ch ⟨#[]⟩,.aw],.agg [aA 11,aA k,ch ⟨#[]⟩,.aw]]]) (aa.mk 6 0 ⟨#[]⟩ [er k,er k]).av:=by
 have h:=(((LD.of []).app (a:= .agg [aA 11,aA k,ch ⟨#[]⟩,.aw]) (x:=er k) leY rfl).app (a:= .agg [aA 11,aA k,ch ⟨#[]⟩,.aw]) (x:=er k) leY rfl).sl;rw[←vS];refine .agg _ _ rfl λ i c d hc hd=> ?_
 rcases i with _|_|_|_|i
 ·simp at hc hd;subst hc;subst hd;exact .refl _
 ·simp at hc hd;subst hc;subst hd;exact .refl _
 ·simp at hc hd;subst hc;subst hd;exact .refl _
 ·simp only[List.getElem?_cons_succ,List.getElem?_cons_zero,Option.some.injEq]at hc hd;subst hc;subst hd;exact h
 ·simp at hc
def mN(k:Nat):List AV:=(List.range k).map λ (j:Nat)=> .agg [aA 11,aA j,ch ⟨#[]⟩,.aw]
def mT(k:Nat):List aa:=(List.range k).map λ (j:Nat)=>er j
theorem aho(k:Nat):mN (k+1)=mN k++ [.agg [aA 11,aA (k:Nat),ch ⟨#[]⟩,.aw]]:=by simp[mN,List.range_succ]
theorem aly(k:Nat):(mN k).length=k:=by simp[mN]
theorem asC(k:Nat):(mT k).length=k:=by simp[mT]
theorem aqK:∀k,LD (mN k) (mT k)
 |0=>⟨rfl,λ i a x h=>by simp[mN]at h⟩
 |k+1=>by
  rw[aho];have:mT (k+1)=mT k++ [er (k:Nat)]:=by simp[mT,List.range_succ]
  rw[this];exact(aqK k).app leY rfl
theorem aiH(k:Nat):AV.ad (mN k)=true:=by
 unfold mN;exact bH (f:=λ (j:Nat)=>AV.agg [aA 11,aA j,ch ⟨#[]⟩,.aw]) (l:=List.range k) λ _=>rfl
theorem asE{k i:Nat}(h:i<k){y:AV}(hy:y.cells.length=4):qC ((mN k).getD i .top) 0 y=y/\((mN k).getD i .top).cells.length=4:=by
 have hg:(mN k).getD i .top= .agg [aA 11,aA i,ch ⟨#[]⟩,.aw]:=by simp[mN,List.getD,List.getElem?_range h]
 rw[hg];exact⟨if_pos ⟨rfl,hy⟩,rfl⟩
theorem afM{l:List AV}{y:AV}(hl:AV.ad l=true)(hy:y.ag=true){i:Nat}:AV.ad (l.set i y)=true:=by
 induction l generalizing i with
 |nil=>rfl
 |cons x l ih=>
  simp only[AV.ad,Bool.and_eq_true]at hl;cases i with
  |zero=>simp only[List.set_cons_zero,AV.ad,hy,hl.2,Bool.and_self]
  |succ i=>simp only[List.set_cons_succ,AV.ad,hl.1,ih hl.2,Bool.and_self]
end Go.Ab
namespace Go.Proofs.Ab
open Go.Ab
set_option maxRecDepth 100000
set_option maxHeartbeats 4000000
set_option maxHeartbeats 4000000
abbrev DKs(d m:Int)(B:Nat)(c:cF):Prop:=oZ Try.prog F.aO G.bu [.sl (jx c.l),aA c.i,aA c.h,aA d,aA m] aa.av (YK B)
theorem arf{d m:Int}{B:Nat}(h:∀c:cF,c.ok->DKs d m B c){c:cF}(hc:c.ok){K:AV->Prop}(k:∀(x:aa) (c':cF),YK B x->c'.ok->e7 K (.ba [x.av,.sl (jx c'.l),aA c'.i,aA c'.h])):kP Try.prog F.aO G.bu [.sl (jx c.l),aA c.i,aA c.h,aA d,aA m] K:=
 (h c hc).use rfl aa.ag k
theorem am8(n:Nat):∀(d m:Int),d<=n->n<=100-> -100<=d->m<=1000000->∀{c:cF},c.ok->DKs d m (YB n) c:=by
 induction n with
 |zero=>
  intro d m hd _ hd0 hm c hc;refine oZ.intro rfl rfl (λ outs ho hw=>T.fy rfl ho (by simp[AV.ad,AV.ag,bl]) hw) (.mk 1 0 ⟨#[]⟩ []) (yk0 (.inl ⟨by omega,by omega,rfl⟩)) c hc ?_;simp only[T.bu,WA,reduceEqDiff,reduceAdd,reduceLT,reduceLeDiff,reduceMul,reduceIte,reduceCtorEq,Int.reduceEq,Int.reduceLT,Int.reduceLE,Int.reduceNe]
  repeat' (first|(simp(disch:=(first|omega|rfl|exact rfl|(simp only[aq,length_cons,length_nil];done)|exact aa.width _)) only[hd,aa.cells,aa.isAgg,aa.storable,aa.eta,bm,aK,aS,au,dJ,WA,reduceEqDiff,reduceAdd,reduceLT,reduceLeDiff,reduceMul,reduceIte,reduceCtorEq,Int.reduceEq,Int.reduceLT,Int.reduceLE,Int.reduceNe])|(simp(disch:=(first|omega|rfl|exact rfl|(simp only[aq,length_cons,length_nil];done)|exact aa.width _)) only[aa.cells,aa.isAgg,aa.storable,aa.eta,bm,aK,aS,au,dJ,WA,reduceEqDiff,reduceAdd,reduceLT,reduceLeDiff,reduceMul,reduceIte,reduceCtorEq,Int.reduceEq,Int.reduceLT,Int.reduceLE,Int.reduceNe])|(refine aE (λ hq=> ?_) (λ hq=> ?_)<;>(try simp only[hq,decide_true,decide_false,Bool.not_true,Bool.not_false,not_eq_true',not_eq_false'])<;>(try (exfalso;omega)))|(refine a8 (λ hq=> ?_) (λ hq=> ?_)<;>(try simp only[hq,decide_true,decide_false,Bool.not_true,Bool.not_false,not_eq_true',not_eq_false'])<;>(try (exfalso;omega)))|(refine aD (λ hq=> ?_) (λ hq=> ?_)<;>(try simp only[hq,decide_true,decide_false,Bool.not_true,Bool.not_false,not_eq_true',not_eq_false'])<;>(try (exfalso;omega)))|(refine aB ?_)|(refine gx (by assumption) _ (by omega) λ m c' h0 h1 fT=> ?_)|(refine oG (by assumption) _ λ b c' fT=> ?_)|(refine wq (by assumption) ?_))
  all_goals first
   |exact yk0 (.inl ⟨by omega,by omega,rfl⟩)
   |exact yk0 (.inr ⟨by omega,by omega,by omega⟩)
   |trace_state
 |succ n ih=>
  intro d m hd hn hd0 hm c hc;have ihe:0<d->∀c:cF,c.ok->DKs (d- 1) m (YB n) c:=λ h0 c hc=>ih (d- 1) m (by omega) (by omega) (by omega) hm hc
  refine oZ.intro rfl rfl (λ outs ho hw=>T.fy rfl ho (by simp[AV.ad,AV.ag,bl]) hw) (.mk 1 0 ⟨#[]⟩ []) (yk0 (.inl ⟨by omega,by omega,rfl⟩)) c hc ?_;simp only[T.bu,WA,reduceEqDiff,reduceAdd,reduceLT,reduceLeDiff,reduceMul,reduceIte,reduceCtorEq,Int.reduceEq,Int.reduceLT,Int.reduceLE,Int.reduceNe]
  repeat' (first|(simp(disch:=(first|omega|rfl|exact rfl|(simp only[aq,length_cons,length_nil];done)|exact aa.width _)) only[fw,tZ,hd,ub,aa.cells,aa.isAgg,aa.storable,aa.eta,bm,aK,aS,au,dJ,WA,reduceEqDiff,reduceAdd,reduceLT,reduceLeDiff,reduceMul,reduceIte,reduceCtorEq,Int.reduceEq,Int.reduceLT,Int.reduceLE,Int.reduceNe])|(simp(disch:=(first|omega|rfl|exact rfl|(simp only[aq,length_cons,length_nil];done)|exact aa.width _)) only[fw,hd,aa.cells,aa.isAgg,aa.storable,aa.eta,bm,aK,aS,au,dJ,WA,reduceEqDiff,reduceAdd,reduceLT,reduceLeDiff,reduceMul,reduceIte,reduceCtorEq,Int.reduceEq,Int.reduceLT,Int.reduceLE,Int.reduceNe])|(simp(disch:=(first|omega|rfl|exact rfl|(simp only[aq,length_cons,length_nil];done)|exact aa.width _)) only[hd,ub,aa.cells,aa.isAgg,aa.storable,aa.eta,bm,aK,aS,au,dJ,WA,reduceEqDiff,reduceAdd,reduceLT,reduceLeDiff,reduceMul,reduceIte,reduceCtorEq,Int.reduceEq,Int.reduceLT,Int.reduceLE,Int.reduceNe])|(simp(disch:=(first|omega|rfl|exact rfl|(simp only[aq,length_cons,length_nil];done)|exact aa.width _)) only[hix,hd,aa.cells,aa.isAgg,aa.storable,aa.eta,bm,aK,aS,au,dJ,WA,reduceEqDiff,reduceAdd,reduceLT,reduceLeDiff,reduceMul,reduceIte,reduceCtorEq,Int.reduceEq,Int.reduceLT,Int.reduceLE,Int.reduceNe])|(simp(disch:=(first|omega|rfl|exact rfl|(simp only[aq,length_cons,length_nil];done)|exact aa.width _)) only[hd,aa.cells,aa.isAgg,aa.storable,aa.eta,bm,aK,aS,au,dJ,WA,reduceEqDiff,reduceAdd,reduceLT,reduceLeDiff,reduceMul,reduceIte,reduceCtorEq,Int.reduceEq,Int.reduceLT,Int.reduceLE,Int.reduceNe])|(simp(disch:=(first|omega|rfl|exact rfl|(simp only[aq,length_cons,length_nil];done)|exact aa.width _)) only[aa.cells,aa.isAgg,aa.storable,aa.eta,bm,aK,aS,au,dJ,WA,reduceEqDiff,reduceAdd,reduceLT,reduceLeDiff,reduceMul,reduceIte,reduceCtorEq,Int.reduceEq,Int.reduceLT,Int.reduceLE,Int.reduceNe])|(refine aE (λ hq=> ?_) (λ hq=> ?_)<;>(try simp only[hq,decide_true,decide_false,Bool.not_true,Bool.not_false,not_eq_true',not_eq_false'])<;>(try (exfalso;omega)))|(refine a8 (λ hq=> ?_) (λ hq=> ?_)<;>(try simp only[hq,decide_true,decide_false,Bool.not_true,Bool.not_false,not_eq_true',not_eq_false'])<;>(try (exfalso;omega)))|(refine aD (λ hq=> ?_) (λ hq=> ?_)<;>(try simp only[hq,decide_true,decide_false,Bool.not_true,Bool.not_false,not_eq_true',not_eq_false'])<;>(try (exfalso;omega)))|(refine aB ?_)|(refine gx (by assumption) _ (by omega) λ m c' h0 h1 fT=> ?_)|(refine oG (by assumption) _ λ b c' fT=> ?_)|(refine yJ (by assumption) tyN (by simp[tyN]) (by decide) λ s c' hs fT=> ?_)|(refine arf (ihe (by omega)) (by assumption) λ x c' hx fT=> ?_)|(refine wq (by assumption) ?_)|(refine agy (by assumption) _ ?_)|(refine sE aa.av (YK (YB n)) (by assumption) 14 rfl (by omega) λ c xs hc nU hle=> ?_))
  all_goals first
   |exact yk0 (.inl ⟨by omega,by omega,rfl⟩)
   |exact yk0 (.inr ⟨by omega,by omega,by omega⟩)
   |exact⟨λ y hy=>by rw[hy];exact aa.width _,by omega,by omega,_,_,by assumption,by assumption,rfl⟩
   |exact⟨λ y hy=>by rw[hy];exact aa.width _,by omega,by omega,by omega,_,_,by assumption,by assumption,rfl⟩
   |exact yk1 (b:=YB n) (by assumption) rfl (.inl ⟨by omega,by omega,rfl⟩) (by simp only[YB];omega)
   |exact yk1 (b:=YB n) (by assumption) rfl (.inr (.inl ⟨by omega,by omega,by omega,rfl⟩)) (by simp only[YB];omega)
   |exact yk1 (b:=YB n) (by assumption) rfl (.inr (.inr (.inl ⟨by omega,by omega,by assumption⟩))) (by simp only[YB];omega)
   |exact yk1 (b:=YB n) (by assumption) rfl (.inr (.inr (.inr ⟨by omega,by omega,rfl⟩))) (by simp only[YB];omega)
   |trace_state
def DKr(d m:Int)(B:Nat)(c:cF):Prop:=∃K N S kids c',YK B (.mk K N S kids)/\cF.ok c'/\gA Try.prog F.aO G.aO [.sl (jx c.l),aA c.i,aA c.h,aA d,aA m] [aA K,.sl (jx c'.l),aA c'.i,aA c'.h,aA N,ch S,.sl (kids.map aa.av)]
theorem yI(n:Nat)(d m:Int)(hd:d<=n+1)(hn:n<=100)(hd0: -99<=d)(hm:m<=1000000){c:cF}(hc:c.ok):DKr d m (YB (n+1)) c:=by
 have ihe:0<d->∀c:cF,c.ok->DKs (d- 1) m (YB n) c:=λ h0 c hc=>am8 n (d- 1) m (by omega) (by omega) (by omega) hm hc
 have bB:∃outs:List AV,outs.length=7/\∃K N S kids c,outs= [aA K,.sl (jx c.l),aA c.i,aA c.h,aA N,ch S,.sl (kids.map aa.av)]/\YK (YB (n+1)) (.mk K N S kids)/\cF.ok c:=
  ⟨_,rfl,1,0,⟨#[]⟩,[],c,rfl,yk0 (.inl ⟨by omega,by omega,rfl⟩),hc⟩
 have hw:bF Try.prog LF (dxR (YK (YB (n+1)))) T.aO [.sl (jx c.l),aA c.i,aA c.h,aA d,aA m] []:=by
  simp only[T.aO,WA,reduceEqDiff,reduceAdd,reduceLT,reduceLeDiff,reduceMul,reduceIte,reduceCtorEq,Int.reduceEq,Int.reduceLT,Int.reduceLE,Int.reduceNe]
  repeat' (first|(simp(disch:=(first|omega|rfl|exact rfl|(simp only[aq,length_cons,length_nil];done)|exact aa.width _)) only[fw,tZ,hd,ub,aa.cells,aa.isAgg,aa.storable,aa.eta,bm,aK,aS,au,dJ,WA,reduceEqDiff,reduceAdd,reduceLT,reduceLeDiff,reduceMul,reduceIte,reduceCtorEq,Int.reduceEq,Int.reduceLT,Int.reduceLE,Int.reduceNe])|(simp(disch:=(first|omega|rfl|exact rfl|(simp only[aq,length_cons,length_nil];done)|exact aa.width _)) only[fw,hd,aa.cells,aa.isAgg,aa.storable,aa.eta,bm,aK,aS,au,dJ,WA,reduceEqDiff,reduceAdd,reduceLT,reduceLeDiff,reduceMul,reduceIte,reduceCtorEq,Int.reduceEq,Int.reduceLT,Int.reduceLE,Int.reduceNe])|(simp(disch:=(first|omega|rfl|exact rfl|(simp only[aq,length_cons,length_nil];done)|exact aa.width _)) only[hd,ub,aa.cells,aa.isAgg,aa.storable,aa.eta,bm,aK,aS,au,dJ,WA,reduceEqDiff,reduceAdd,reduceLT,reduceLeDiff,reduceMul,reduceIte,reduceCtorEq,Int.reduceEq,Int.reduceLT,Int.reduceLE,Int.reduceNe])|(simp(disch:=(first|omega|rfl|exact rfl|(simp only[aq,length_cons,length_nil];done)|exact aa.width _)) only[hix,hd,aa.cells,aa.isAgg,aa.storable,aa.eta,bm,aK,aS,au,dJ,WA,reduceEqDiff,reduceAdd,reduceLT,reduceLeDiff,reduceMul,reduceIte,reduceCtorEq,Int.reduceEq,Int.reduceLT,Int.reduceLE,Int.reduceNe])|(simp(disch:=(first|omega|rfl|exact rfl|(simp only[aq,length_cons,length_nil];done)|exact aa.width _)) only[hd,aa.cells,aa.isAgg,aa.storable,aa.eta,bm,aK,aS,au,dJ,WA,reduceEqDiff,reduceAdd,reduceLT,reduceLeDiff,reduceMul,reduceIte,reduceCtorEq,Int.reduceEq,Int.reduceLT,Int.reduceLE,Int.reduceNe])|(simp(disch:=(first|omega|rfl|exact rfl|(simp only[aq,length_cons,length_nil];done)|exact aa.width _)) only[aa.cells,aa.isAgg,aa.storable,aa.eta,bm,aK,aS,au,dJ,WA,reduceEqDiff,reduceAdd,reduceLT,reduceLeDiff,reduceMul,reduceIte,reduceCtorEq,Int.reduceEq,Int.reduceLT,Int.reduceLE,Int.reduceNe])|(refine aE (λ hq=> ?_) (λ hq=> ?_)<;>(try simp only[hq,decide_true,decide_false,Bool.not_true,Bool.not_false,not_eq_true',not_eq_false'])<;>(try (exfalso;omega)))|(refine a8 (λ hq=> ?_) (λ hq=> ?_)<;>(try simp only[hq,decide_true,decide_false,Bool.not_true,Bool.not_false,not_eq_true',not_eq_false'])<;>(try (exfalso;omega)))|(refine aD (λ hq=> ?_) (λ hq=> ?_)<;>(try simp only[hq,decide_true,decide_false,Bool.not_true,Bool.not_false,not_eq_true',not_eq_false'])<;>(try (exfalso;omega)))|(refine aB ?_)|(refine gx (by assumption) _ (by omega) λ m c' h0 h1 fT=> ?_)|(refine oG (by assumption) _ λ b c' fT=> ?_)|(refine yJ (by assumption) tyN (by simp[tyN]) (by decide) λ s c' hs fT=> ?_)|(refine arf (ihe (by omega)) (by assumption) λ x c' hx fT=> ?_)|(refine ahM (by assumption) ?_)|(refine agz (by assumption) _ ?_)|(refine sE aa.av (YK (YB n)) (by assumption) 14 rfl (by omega) λ c xs hc nU hle=> ?_))
  all_goals first
   |exact yk0 (.inl ⟨by omega,by omega,rfl⟩)
   |exact yk0 (.inr ⟨by omega,by omega,by omega⟩)
   |exact⟨λ y hy=>by rw[hy];exact aa.width _,by omega,by omega,_,_,by assumption,by assumption,rfl⟩
   |exact⟨λ y hy=>by rw[hy];exact aa.width _,by omega,by omega,by omega,_,_,by assumption,by assumption,rfl⟩
   |exact yk1 (b:=YB n) (by assumption) rfl (.inl ⟨by omega,by omega,rfl⟩) (by simp only[YB];omega)
   |exact yk1 (b:=YB n) (by assumption) rfl (.inr (.inl ⟨by omega,by omega,by omega,rfl⟩)) (by simp only[YB];omega)
   |exact yk1 (b:=YB n) (by assumption) rfl (.inr (.inr (.inl ⟨by omega,by omega,by assumption⟩))) (by simp only[YB];omega)
   |exact yk1 (b:=YB n) (by assumption) rfl (.inr (.inr (.inr ⟨by omega,by omega,rfl⟩))) (by simp only[YB];omega)
   |trace_state
 obtain⟨outs,hl,⟨K,N,S,kids,c',rfl,hg,fT⟩,h⟩:=pN bB hw;exact⟨K,N,S,kids,c',hg,fT,T.ny rfl rfl (by simp[AV.ad,AV.ag,bl]) h⟩
theorem ana{d m:Int}{B:Nat}{c:cF}(h:DKr d m B c){Z:AV->Prop}(k:∀(K N:Int) (S:ByteArray) (kids:List aa) (c':cF),YK B (.mk K N S kids)->c'.ok->e7 Z (.ba [aA K,.sl (jx c'.l),aA c'.i,aA c'.h,aA N,ch S,.sl (kids.map aa.av)])):kP Try.prog F.aO G.aO [.sl (jx c.l),aA c.i,aA c.h,aA d,aA m] Z:=by
 obtain⟨K,N,S,kids,c',hg,fT,h⟩:=h;exact dT h rfl (by simp[AV.ad,AV.ag,bl,bH (f:=aa.av) (l:=kids) aa.ag]) (k K N S kids c' hg fT)
theorem aa9{x:aa}(hx:YK 91 x){us:List AV}{l:List aa}(hl:LD us l)(hw:∀y∈l,y.wt<=91)(hn:l.length<=100):a7 Try.prog F.fW [x.av,aA 11,.sl us] (x.put 11 l).av/\(x.put 11 l).wt<=10000:=by
 have h1:=sh aa.wt 91 l hw;have h2:l.length*91<=100*91:=Nat.mul_le_mul_right _ hn;have hxw:=hx.wt;refine⟨a7.anA (sj x 11 l hx.ok (.inr (.inr rfl)) (by omega) (by omega)) rfl λ i a b ha hb=> ?_,?_⟩
 ·rcases i with _|_|_|i<;>simp at ha hb<;>subst ha<;>subst hb
  ·exact .refl _
  ·exact .refl _
  ·exact hl.sl
 ·have h3:=aa.afv 11 l 91 hw x;have h4:(x.wt+1)*(91+1)<=92*92:=Nat.mul_le_mul_right _ (by omega);omega
theorem rl{c:cF}(hc:c.ok)(n:Int)(hn0:1<=n)(hn:n<=8):∃(m:Int) (c':cF) (a b:List aa),1<=m/\m<=6/\c'.ok/\(a.map aa.wt).sum<=10000*a.length/\(b.map aa.wt).sum<=10000*b.length/\a.length=b.length/\a.length<=8/\
  gA Try.prog F.bq G.bq [.sl (jx c.l),aA c.i,aA c.h,aA n] [aA m,.sl (jx c'.l),aA c'.i,aA c'.h,.sl (a.map aa.av),.sl (b.map aa.av)]:=by
 have bB:∃outs:List AV,outs.length=6/\∃(m:Int) (c':cF) (a b:List aa),1<=m/\m<=6/\c'.ok/\(a.map aa.wt).sum<=10000*a.length/\(b.map aa.wt).sum<=10000*b.length/\a.length=b.length/\a.length<=8/\outs= [aA m,.sl (jx c'.l),aA c'.i,aA c'.h,.sl (a.map aa.av),.sl (b.map aa.av)]:=
  ⟨_,rfl,1,c,[],[],by omega,by omega,hc,by simp,by simp,rfl,by simp,rfl⟩
 have hw:bF Try.prog LF (ex 6 λ outs=>∃(m:Int) (c':cF) (a b:List aa),1<=m/\m<=6/\c'.ok/\(a.map aa.wt).sum<=10000*a.length/\(b.map aa.wt).sum<=10000*b.length/\a.length=b.length/\a.length<=8/\outs= [aA m,.sl (jx c'.l),aA c'.i,aA c'.h,.sl (a.map aa.av),.sl (b.map aa.av)]) T.bq [.sl (jx c.l),aA c.i,aA c.h,aA n] []:=by
  simp only[T.bq,WA,reduceEqDiff,reduceAdd,reduceLT,reduceLeDiff,reduceMul,reduceIte,reduceCtorEq,Int.reduceEq,Int.reduceLT,Int.reduceLE,Int.reduceNe];refine gx hc _ (by omega) λ m c1 h0 h1 hc1=> ?_
  have em:IntKind.i64.wrap (1+m)=1+m:=bm (by omega) (by omega);simp only[em,WA,reduceEqDiff,reduceAdd,reduceLT,reduceLeDiff,reduceMul,reduceIte,reduceCtorEq,Int.reduceEq,Int.reduceLT,Int.reduceLE,Int.reduceNe];refine jq (λ vs=>∃(c':cF) (a b:List aa),c'.ok/\(a.map aa.wt).sum<=10000*a.length/\(b.map aa.wt).sum<=10000*b.length/\a.length=b.length/\a.length<=8/\vs= [.sl (jx c'.l),aA c'.i,aA c'.h,.sl (a.map aa.av),.sl (b.map aa.av)]) ?_ ?_
  ·simp only[WA,reduceEqDiff,reduceAdd,reduceLT,reduceLeDiff,reduceMul,reduceIte,reduceCtorEq,Int.reduceEq,Int.reduceLT,Int.reduceLE,Int.reduceNe];refine gx hc1 _ (by omega) λ k c2 k0 k1 hc2=> ?_
   simp only[WA,reduceEqDiff,reduceAdd,reduceLT,reduceLeDiff,reduceMul,reduceIte,reduceCtorEq,Int.reduceEq,Int.reduceLT,Int.reduceLE,Int.reduceNe];refine dk (ι:=cF×List aa×List aa×Int) (λ q=>q.1.ok/\(q.2.1.map aa.wt).sum<=10000*q.2.1.length/\(q.2.2.1.map aa.wt).sum<=10000*q.2.2.1.length/\q.2.1.length=q.2.2.1.length/\0<=q.2.2.2/\(q.2.1.length:Int)+q.2.2.2=k) (λ q=>[.sl (jx q.1.l),aA q.1.i,aA q.1.h,.sl (q.2.1.map aa.av),.sl (q.2.2.1.map aa.av),aA q.2.2.2]) (λ q=>q.2.2.2.toNat) (c2,[],[],k) ⟨hc2,by simp,by simp,rfl,k0,by simp⟩ rfl ?_;rintro⟨c3,a,b,i⟩ ⟨q1,q2,q3,q4,q5,q6⟩;simp only at q1 q2 q3 q4 q5 q6;simp only[WA,reduceEqDiff,reduceAdd,reduceLT,reduceLeDiff,reduceMul,reduceIte,reduceCtorEq,Int.reduceEq,Int.reduceLT,Int.reduceLE,Int.reduceNe];refine aE (λ hq=> ?_) (λ hq=> ?_)
   ·simp only[WA,reduceEqDiff,reduceAdd,reduceLT,reduceLeDiff,reduceMul,reduceIte,reduceCtorEq,Int.reduceEq,Int.reduceLT,Int.reduceLE,Int.reduceNe];refine jq (λ vs=>∃(c':cF) (x y:aa) (z1 z2 z3 z4 z5 z6 z7 z8 z9:AV),c'.ok/\x.wt<=10000/\y.wt<=10000/\vs= [.sl (jx c'.l),aA c'.i,aA c'.h,.sl (a.map aa.av++ [x.av]),.sl (b.map aa.av++ [y.av]),z1,z2,z3,z4,z5,z6,z7,z8,z9]) ?_ ?_
    ·simp only[WA,reduceEqDiff,reduceAdd,reduceLT,reduceLeDiff,reduceMul,reduceIte,reduceCtorEq,Int.reduceEq,Int.reduceLT,Int.reduceLE,Int.reduceNe];refine ana (yI 1 2 0 (by omega) (by omega) (by omega) (by omega) q1) λ K1 N1 S1 pE c4 g1 hc4=> ?_
     simp only[WA,reduceEqDiff,reduceAdd,reduceLT,reduceLeDiff,reduceMul,reduceIte,reduceCtorEq,Int.reduceEq,Int.reduceLT,Int.reduceLE,Int.reduceNe];refine jq (λ vs=>vs= [.sl (mN (1+m).toNat)]) ?_ ?_
     ·simp only[WA,reduceEqDiff,reduceAdd,reduceLT,reduceLeDiff,reduceMul,reduceIte,reduceCtorEq,Int.reduceEq,Int.reduceLT,Int.reduceLE,Int.reduceNe];refine dk (ι:=Nat) (λ k=>(k:Int)<=1+m) (λ k=>[.sl (mN k),aA (k:Nat)]) (λ k=>(1+m).toNat- k) 0 (by show((0:Nat):Int)<=_;omega) (by simp[mN]) ?_;intro k hk;simp only[em,WA,reduceEqDiff,reduceAdd,reduceLT,reduceLeDiff,reduceMul,reduceIte,reduceCtorEq,Int.reduceEq,Int.reduceLT,Int.reduceLE,Int.reduceNe];refine aE (λ hq=> ?_) (λ hq=> ?_)
      ·simp(disch:=omega) only[aly,au,WA,reduceEqDiff,reduceAdd,reduceLT,reduceLeDiff,reduceMul,reduceIte,reduceCtorEq,Int.reduceEq,Int.reduceLT,Int.reduceLE,Int.reduceNe];exact⟨λ y hy=>by rw[hy];rfl,by omega,by omega,k+1,by omega,by omega,by rw[aho]⟩
      ·simp only[WA,reduceEqDiff,reduceAdd,reduceLT,reduceLeDiff,reduceMul,reduceIte,reduceCtorEq,Int.reduceEq,Int.reduceLT,Int.reduceLE,Int.reduceNe];have:k=(1+m).toNat:=by omega
       rw[this]
     ·rintro vs rfl _;simp only[WA,reduceEqDiff,reduceAdd,reduceLT,reduceLeDiff,reduceMul,reduceIte,reduceCtorEq,Int.reduceEq,Int.reduceLT,Int.reduceLE,Int.reduceNe];have g1:YK 91 (.mk K1 N1 S1 pE):=g1.mono (show YB 2<=91 by decide);refine gx hc4 _ (by omega) λ ix c5 i0 i1 hc5=> ?_
      obtain⟨ixn,rfl⟩:∃ixn:Nat,ix=(ixn:Int):=⟨ix.toNat,by omega⟩;have aF:ixn<(1+m).toNat:=by omega
      have hup:=asE aF (y:= .agg [aA K1,aA N1,ch S1,.sl (pE.map aa.av)]) rfl;simp only[aly,Int.toNat_natCast,hup.1,hup.2,WA,reduceEqDiff,reduceAdd,reduceLT,reduceLeDiff,reduceMul,reduceIte,reduceCtorEq,Int.reduceEq,Int.reduceLT,Int.reduceLE,Int.reduceNe];refine⟨by omega,aF,?_⟩;have hLD:=(aqK (1+m).toNat).set (x:= .mk K1 N1 S1 pE) (a:= .agg [aA K1,aA N1,ch S1,.sl (pE.map aa.av)]) (by rw[vS];exact .refl _) rfl ixn
      have hLw:∀y∈(mT (1+m).toNat).set ixn (.mk K1 N1 S1 pE),y.wt<=91:=λ y hy=>by
       rcases List.mem_or_eq_of_mem_set hy with h|h
       ·obtain⟨j,_,rfl⟩:=List.mem_map.1 h;rw[aa.bg];exact Nat.zero_le _
       ·rw[h];exact g1.wt
      have hLn:((mT (1+m).toNat).set ixn (.mk K1 N1 S1 pE)).length<=100:=by rw[List.length_set,asC];omega
      have hLr:AV.ad ((mN (1+m).toNat).set ixn (.agg [aA K1,aA N1,ch S1,.sl (pE.map aa.av)]))=true:=afM (aiH _) (by rw[vS];exact aa.ag _);generalize (mT (1+m).toNat).set ixn (.mk K1 N1 S1 pE)=L at hLD hLw hLn;generalize (mN (1+m).toNat).set ixn (.agg [aA K1,aA N1,ch S1,.sl (pE.map aa.av)])=us at hLD hLr⊢;refine ana (yI 1 2 (1+m) (by omega) (by omega) (by omega) (by omega) hc5) λ K2 N2 S2 sI c6 g2 hc6=> ?_
      have g2:YK 91 (.mk K2 N2 S2 sI):=g2.mono (show YB 2<=91 by decide);simp(disch:=omega) only[length_map,length_cons,length_nil,aK,WA,reduceEqDiff,reduceAdd,reduceLT,reduceLeDiff,reduceMul,reduceIte,reduceCtorEq,Int.reduceEq,Int.reduceLT,Int.reduceLE,Int.reduceNe];refine⟨λ y hy=>by rw[hy];rfl,by omega,by omega,?_⟩;refine oG hc6 _ λ bt c7 hc7=> ?_
      simp only[WA,reduceEqDiff,reduceAdd,reduceLT,reduceLeDiff,reduceMul,reduceIte,reduceCtorEq,Int.reduceEq,Int.reduceLT,Int.reduceLE,Int.reduceNe];have exv:AV.agg [aA K2,aA N2,ch S2,.sl (sI.map aa.av)]=(aa.mk K2 N2 S2 sI).av:=vS;refine aD (λ hb=> ?_) (λ hb=> ?_)
      ·simp only[WA,reduceEqDiff,reduceAdd,reduceLT,reduceLeDiff,reduceMul,reduceIte,reduceCtorEq,Int.reduceEq,Int.reduceLT,Int.reduceLE,Int.reduceNe];refine ana (yI 1 2 (1+m) (by omega) (by omega) (by omega) (by omega) hc7) λ K3 N3 S3 aqN c8 g3 hc8=> ?_
       have g3:YK 91 (.mk K3 N3 S3 aqN):=g3.mono (show YB 2<=91 by decide);simp(disch:=omega) only[length_map,length_cons,length_nil,aK,WA,reduceEqDiff,reduceAdd,reduceLT,reduceLeDiff,reduceMul,reduceIte,reduceCtorEq,Int.reduceEq,Int.reduceLT,Int.reduceLE,Int.reduceNe];refine⟨λ y hy=>by rw[hy];rfl,by omega,by omega,c8,.mk K2 N2 S2 sI,.mk K3 N3 S3 aqN,aA K1,aA N1,ch S1,.sl (pE.map aa.av),aA K2,aA N2,ch S2,.sl (sI.map aa.av),.sl [.agg [aA K2,aA N2,ch S2,.sl (sI.map aa.av)]],hc8,?_,?_,?_⟩
       ·have:=g2.wt;omega
       ·have:=g3.wt;omega
       ·rw[←vS,←vS]
      ·obtain⟨axj,hwt⟩:=aa9 g2 hLD hLw hLn;simp only[exv,WA,reduceEqDiff,reduceAdd,reduceLT,reduceLeDiff,reduceMul,reduceIte,reduceCtorEq,Int.reduceEq,Int.reduceLT,Int.reduceLE,Int.reduceNe];refine mi axj (aa.ag _) ?_;simp(disch:=omega) only[aa.isAgg,aa.width,aa.storable,aa.cells,length_map,length_cons,length_nil,aK,WA,reduceEqDiff,reduceAdd,reduceLT,reduceLeDiff,reduceMul,reduceIte,reduceCtorEq,Int.reduceEq,Int.reduceLT,Int.reduceLE,Int.reduceNe];refine⟨λ y hy=>by rw[hy];exact aa.width _,by omega,by omega,c7,.mk K2 N2 S2 sI,_,aA K1,aA N1,ch S1,.sl (pE.map aa.av),aA K2,aA N2,ch S2,.sl (sI.map aa.av),.sl [(aa.mk K2 N2 S2 sI).av],hc7,?_,hwt,rfl⟩;have:=g2.wt;omega
    ·rintro vs ⟨c',x,y,z1,z2,z3,z4,z5,z6,z7,z8,z9,fT,hx,hy,rfl⟩ _;have e1:IntKind.i64.wrap (i- 1)=i- 1:=bm (by omega) (by omega);simp only[e1,WA,reduceEqDiff,reduceAdd,reduceLT,reduceLeDiff,reduceMul,reduceIte,reduceCtorEq,Int.reduceEq,Int.reduceLT,Int.reduceLE,Int.reduceNe];refine⟨(c',a++ [x],b++ [y],i- 1),⟨fT,?_,?_,?_,?_,?_⟩,?_,?_⟩
     ·simp only[map_append,sum_append,length_append,map_cons,map_nil,sum_cons,sum_nil,length_cons,length_nil];omega
     ·simp only[map_append,sum_append,length_append,map_cons,map_nil,sum_cons,sum_nil,length_cons,length_nil];omega
     ·simp only[length_append,length_cons,length_nil];omega
     ·show 0<=i- 1;omega
     ·simp only[length_append,length_cons,length_nil];omega
     ·show(i- 1).toNat<i.toNat;omega
     ·simp
   ·simp only[WA,reduceEqDiff,reduceAdd,reduceLT,reduceLeDiff,reduceMul,reduceIte,reduceCtorEq,Int.reduceEq,Int.reduceLT,Int.reduceLE,Int.reduceNe];exact⟨c3,a,b,q1,q2,q3,q4,by omega,rfl⟩
  ·rintro vs ⟨c',a,b,r1,r2,r3,r4,r5,rfl⟩ _;simp only[em,WA,reduceEqDiff,reduceAdd,reduceLT,reduceLeDiff,reduceMul,reduceIte,reduceCtorEq,Int.reduceEq,Int.reduceLT,Int.reduceLE,Int.reduceNe];unfold tC ex;exact⟨_,rfl,⟨1+m,c',a,b,by omega,by omega,r1,r2,r3,r4,r5,rfl⟩,rfl⟩
 obtain⟨outs,h1,⟨m,c',a,b,r0,r1,r2,r3,r4,r5,r6,rfl⟩,h⟩:=pN bB hw;exact⟨m,c',a,b,r0,r1,r2,r3,r4,r5,r6,T.o3 rfl rfl (by simp[AV.ad,AV.ag,bl]) h⟩
theorem apm(l:List Int)(hl:l.length<=1048576):∃n:Int,1<=n/\n<=8/\a7 Try.prog F.fM [.sl (jx l),aA 8] (aA n):=by
 have h0:(0:Int)<=(l.length:Int)/12:=Int.ediv_nonneg (by omega) (by omega);have h1:(l.length:Int)/12<=l.length:=Int.ediv_le_self _ (by omega)
 have w:IntKind.i64.wrap (Int.tdiv (l.length:Int) 12)=(l.length:Int)/12:=by
  rw[Int.tdiv_eq_ediv_of_nonneg (by omega)];exact bm (by omega) (by omega)
 have w2:IntKind.i64.wrap (3+(l.length:Int)/12)=3+(l.length:Int)/12:=bm (by omega) (by omega);by_cases h:8<3+(l.length:Int)/12
 ·refine⟨8,by omega,by omega,T.oO rfl (by simp[AV.ad,AV.ag,bl]) ?_⟩;simp only[T.fM,length_map,w,w2,decide_eq_true h,WA,reduceEqDiff,reduceAdd,reduceLT,reduceLeDiff,reduceMul,reduceIte,reduceCtorEq,Int.reduceEq,Int.reduceLT,Int.reduceLE,Int.reduceNe]
 ·refine⟨3+(l.length:Int)/12,by omega,by omega,T.oO rfl (by simp[AV.ad,AV.ag,bl]) ?_⟩;simp only[T.fM,length_map,w,w2,decide_eq_false h,WA,reduceEqDiff,reduceAdd,reduceLT,reduceLeDiff,reduceMul,reduceIte,reduceCtorEq,Int.reduceEq,Int.reduceLT,Int.reduceLE,Int.reduceNe]
theorem tA(l:List Int)(hl:l.length<=1048576)(hb:∀x∈l,0<=x/\x<256):∃(m:Int) (a b:List aa),l9 m/\(a.map aa.wt).sum<=100000/\(b.map aa.wt).sum<=100000/\a.length<=300/\b.length<=300/\
  a7 Try.prog F.dP [.sl (jx l)] (.ba [aA m,.sl (a.map aa.av),.sl (b.map aa.av)]):=by
 obtain⟨c,hc,rfl,dL⟩:=abh l hl hb;have hnr:AV.ad c.eM=true:=c.ag
 have key:∃outs:List AV,outs.length=3/\(∃(m:Int) (us vs:List AV) (a b:List aa),l9 m/\LD us a/\LD vs b/\(a.map aa.wt).sum<=100000/\(b.map aa.wt).sum<=100000/\a.length<=300/\b.length<=300/\outs= [aA m,.sl us,.sl vs])/\bF Try.prog LF (λ a=>a=bz outs) T.dP [.sl (jx c.l)] []:=by
  refine pN ⟨[aA 0,.sl [],.sl []],rfl,0,[],[],[],[],by unfold l9;omega,.of [],.of [],by simp,by simp,by simp,by simp,rfl⟩ ?_;simp only[T.dP,WA,reduceEqDiff,reduceAdd,reduceLT,reduceLeDiff,reduceMul,reduceIte,reduceCtorEq,Int.reduceEq,Int.reduceLT,Int.reduceLE,Int.reduceNe];refine dT dL rfl hnr ?_;simp only[cF.eM,WA,reduceEqDiff,reduceAdd,reduceLT,reduceLeDiff,reduceMul,reduceIte,reduceCtorEq,Int.reduceEq,Int.reduceLT,Int.reduceLE,Int.reduceNe];obtain⟨n,n1,n2,adQ⟩:=apm c.l hc.len;refine bn adQ ?_;obtain⟨m,c1,a,b,m1,m2,hc1,wa,wb,uZ,ha8,hdp⟩:=rl hc n n1 n2;simp only[WA,reduceEqDiff,reduceAdd,reduceLT,reduceLeDiff,reduceMul,reduceIte,reduceCtorEq,Int.reduceEq,Int.reduceLT,Int.reduceLE,Int.reduceNe];refine dT hdp rfl (by simp[AV.ad,AV.ag,bl,bH (f:=aa.av) (l:=a) aa.ag,bH (f:=aa.av) (l:=b) aa.ag]) ?_;simp only[WA,reduceEqDiff,reduceAdd,reduceLT,reduceLeDiff,reduceMul,reduceIte,reduceCtorEq,Int.reduceEq,Int.reduceLT,Int.reduceLE,Int.reduceNe];have hz:(aa.mk 1 0 ⟨#[]⟩ []).wt=0:=by rw[aa.bg];rfl
  refine jq (λ ws=>∃(c':cF) (m:Int) (us vs:List AV) (a b:List aa),c'.ok/\l9 m/\LD us a/\LD vs b/\(a.map aa.wt).sum<=100000/\(b.map aa.wt).sum<=100000/\a.length<=300/\b.length<=300/\ws= [.sl (jx c'.l),aA c'.i,aA c'.h,.sl us,.sl vs,aA m]) ?_ ?_
  ·simp only[WA,reduceEqDiff,reduceAdd,reduceLT,reduceLeDiff,reduceMul,reduceIte,reduceCtorEq,Int.reduceEq,Int.reduceLT,Int.reduceLE,Int.reduceNe];refine gx hc1 _ (by omega) λ k c2 k0 k1 hc2=> ?_
   simp only[WA,reduceEqDiff,reduceAdd,reduceLT,reduceLeDiff,reduceMul,reduceIte,reduceCtorEq,Int.reduceEq,Int.reduceLT,Int.reduceLE,Int.reduceNe];refine aE (λ hq=> ?_) (λ hq=> ?_)
   ·simp only[WA,reduceEqDiff,reduceAdd,reduceLT,reduceLeDiff,reduceMul,reduceIte,reduceCtorEq,Int.reduceEq,Int.reduceLT,Int.reduceLE,Int.reduceNe];refine agB hc2 [_,_,_,_] (by simp) (by decide) λ m' c3 uX hc3=> ?_
    simp only[List.mem_cons,List.not_mem_nil,or_false]at uX;simp only[WA,reduceEqDiff,reduceAdd,reduceLT,reduceLeDiff,reduceMul,reduceIte,reduceCtorEq,Int.reduceEq,Int.reduceLT,Int.reduceLE,Int.reduceNe];exact⟨c3,m',_,_,a,b,hc3,by unfold l9;omega,.of a,.of b,by omega,by omega,by omega,by omega,rfl⟩
   simp only[WA,reduceEqDiff,reduceAdd,reduceLT,reduceLeDiff,reduceMul,reduceIte,reduceCtorEq,Int.reduceEq,Int.reduceLT,Int.reduceLE,Int.reduceNe];refine aE (λ hq=> ?_) (λ hq=> ?_)
   ·simp(disch:=omega) only[length_map,length_cons,length_nil,aK,WA,reduceEqDiff,reduceAdd,reduceLT,reduceLeDiff,reduceMul,reduceIte,reduceCtorEq,Int.reduceEq,Int.reduceLT,Int.reduceLE,Int.reduceNe];refine⟨λ y hy=>by rw[hy];rfl,by omega,by omega,c2,m,_,_,a++ [.mk 1 0 ⟨#[]⟩ []],b,hc2,by unfold l9;omega,(LD.of a).app leY rfl,.of b,?_,by omega,?_,by omega,rfl⟩
    ·simp only[map_append,sum_append,map_cons,map_nil,sum_cons,sum_nil,hz];omega
    ·simp only[length_append,length_cons,length_nil];omega
   simp only[WA,reduceEqDiff,reduceAdd,reduceLT,reduceLeDiff,reduceMul,reduceIte,reduceCtorEq,Int.reduceEq,Int.reduceLT,Int.reduceLE,Int.reduceNe];refine aE (λ hq=> ?_) (λ hq=> ?_)
   ·simp only[WA,reduceEqDiff,reduceAdd,reduceLT,reduceLeDiff,reduceMul,reduceIte,reduceCtorEq,Int.reduceEq,Int.reduceLT,Int.reduceLE,Int.reduceNe];refine(aaO hc2).use rfl aa.ag λ x c3 hx hc3=> ?_
    simp(disch:=omega) only[aa.isAgg,aa.width,aa.storable,length_map,length_cons,length_nil,aK,WA,reduceEqDiff,reduceAdd,reduceLT,reduceLeDiff,reduceMul,reduceIte,reduceCtorEq,Int.reduceEq,Int.reduceLT,Int.reduceLE,Int.reduceNe];refine⟨λ y hy=>by rw[hy];exact aa.width _,by omega,by omega,?_⟩;refine(aaO hc3).use rfl aa.ag λ y c4 hy hc4=> ?_
    simp(disch:=omega) only[aa.isAgg,aa.width,aa.storable,length_map,length_cons,length_nil,aK,WA,reduceEqDiff,reduceAdd,reduceLT,reduceLeDiff,reduceMul,reduceIte,reduceCtorEq,Int.reduceEq,Int.reduceLT,Int.reduceLE,Int.reduceNe];have hxw:x.wt<=1000:=le_trans hx.wt (by decide);have hyw:y.wt<=1000:=le_trans hy.wt (by decide);refine⟨λ y hy=>by rw[hy];exact aa.width _,by omega,by omega,c4,m,_,_,a++ [x],b++ [y],hc4,by unfold l9;omega,(LD.of a).app (.refl _) (aa.width _),(LD.of b).app (.refl _) (aa.width _),?_,?_,?_,?_,rfl⟩
    ·simp only[map_append,sum_append,map_cons,map_nil,sum_cons,sum_nil];omega
    ·simp only[map_append,sum_append,map_cons,map_nil,sum_cons,sum_nil];omega
    ·simp only[length_append,length_cons,length_nil];omega
    ·simp only[length_append,length_cons,length_nil];omega
   simp only[WA,reduceEqDiff,reduceAdd,reduceLT,reduceLeDiff,reduceMul,reduceIte,reduceCtorEq,Int.reduceEq,Int.reduceLT,Int.reduceLE,Int.reduceNe];refine aE (λ hq=> ?_) (λ hq=> ?_)
   ·simp only[WA,reduceEqDiff,reduceAdd,reduceLT,reduceLeDiff,reduceMul,reduceIte,reduceCtorEq,Int.reduceEq,Int.reduceLT,Int.reduceLE,Int.reduceNe];refine dk (ι:=Nat×List AV×List AV×List aa×List aa) (λ q=>q.1<=9/\LD q.2.1 q.2.2.2.1/\LD q.2.2.1 q.2.2.2.2/\(q.2.2.2.1.map aa.wt).sum<=80000+10*q.1/\(q.2.2.2.2.map aa.wt).sum<=80000+10*q.1/\q.2.2.2.1.length<=8+q.1/\q.2.2.2.2.length<=8+q.1) (λ q=>[.sl q.2.1,.sl q.2.2.1,aA (q.1:Nat)]) (λ q=>9- q.1) (0,a.map aa.av,b.map aa.av,a,b) ⟨by simp,.of a,.of b,by simp only;omega,by simp only;omega,by simp only;omega,by simp only;omega⟩ rfl ?_;rintro⟨i,us,vs,a',b'⟩ ⟨q1,q2,q3,q4,q5,q6,q7⟩;simp only at q1 q2 q3 q4 q5 q6 q7;have ul:=q2.len;have vl:=q3.len;simp only[WA,reduceEqDiff,reduceAdd,reduceLT,reduceLeDiff,reduceMul,reduceIte,reduceCtorEq,Int.reduceEq,Int.reduceLT,Int.reduceLE,Int.reduceNe];refine aE (λ hq=> ?_) (λ hq=> ?_)
    ·simp(disch:=omega) only[aK,au,length_cons,length_nil,WA,reduceEqDiff,reduceAdd,reduceLT,reduceLeDiff,reduceMul,reduceIte,reduceCtorEq,Int.reduceEq,Int.reduceLT,Int.reduceLE,Int.reduceNe];refine⟨λ y hy=>by rw[hy];rfl,by omega,by omega,λ y hy=>by rw[hy];rfl,by omega,by omega,(i+1,_,_,a'++ [er (i:Nat)],b'++ [.mk 6 0 ⟨#[]⟩ [er ((i+1:Nat):Int),er ((i+1:Nat):Int)]]),⟨by show i+1<=9;omega,q2.app leY rfl,q3.app (awh _) rfl,?_,?_,?_,?_⟩,by show 9- (i+1)<9- i;omega,rfl⟩
     ·simp only[map_append,sum_append,map_cons,map_nil,sum_cons,sum_nil,ahn];omega
     ·simp only[map_append,sum_append,map_cons,map_nil,sum_cons,sum_nil,arO];omega
     ·simp only[length_append,length_cons,length_nil];omega
     ·simp only[length_append,length_cons,length_nil];omega
    ·simp only[WA,reduceEqDiff,reduceAdd,reduceLT,reduceLeDiff,reduceMul,reduceIte,reduceCtorEq,Int.reduceEq,Int.reduceLT,Int.reduceLE,Int.reduceNe];exact⟨c2,10,us,vs,a',b',hc2,by unfold l9;omega,q2,q3,by omega,by omega,by omega,by omega,rfl⟩
   simp only[WA,reduceEqDiff,reduceAdd,reduceLT,reduceLeDiff,reduceMul,reduceIte,reduceCtorEq,Int.reduceEq,Int.reduceLT,Int.reduceLE,Int.reduceNe];refine aE (λ hq=> ?_) (λ hq=> ?_)
   ·simp only[WA,reduceEqDiff,reduceAdd,reduceLT,reduceLeDiff,reduceMul,reduceIte,reduceCtorEq,Int.reduceEq,Int.reduceLT,Int.reduceLE,Int.reduceNe];refine dk (ι:=cF×List AV×List AV×List aa×List aa) (λ q=>q.1.ok/\LD q.2.1 q.2.2.2.1/\LD q.2.2.1 q.2.2.2.2/\(q.2.2.2.1.map aa.wt).sum<=80000/\(q.2.2.2.2.map aa.wt).sum<=80000/\q.2.2.2.1.length<=201/\q.2.2.2.2.length=q.2.2.2.1.length) (λ q=>[.sl (jx q.1.l),aA q.1.i,aA q.1.h,.sl q.2.1,.sl q.2.2.1]) (λ q=>201- q.2.2.2.1.length) (c2,a.map aa.av,b.map aa.av,a,b) ⟨hc2,.of a,.of b,by simp only;omega,by simp only;omega,by simp only;omega,by simp only;omega⟩ rfl ?_;rintro⟨c3,us,vs,a',b'⟩ ⟨q1,q2,q3,q4,q5,q6,q7⟩;simp only at q1 q2 q3 q4 q5 q6 q7;have ul:=q2.len;have vl:=q3.len;simp only[WA,reduceEqDiff,reduceAdd,reduceLT,reduceLeDiff,reduceMul,reduceIte,reduceCtorEq,Int.reduceEq,Int.reduceLT,Int.reduceLE,Int.reduceNe];refine gx q1 _ (by omega) λ k c4 k0 k1 hc4=> ?_
    have e1:IntKind.i64.wrap (200+k)=200+k:=bm (by omega) (by omega);simp only[e1,WA,reduceEqDiff,reduceAdd,reduceLT,reduceLeDiff,reduceMul,reduceIte,reduceCtorEq,Int.reduceEq,Int.reduceLT,Int.reduceLE,Int.reduceNe];refine aE (λ hq=> ?_) (λ hq=> ?_)
    ·simp(disch:=omega) only[aK,length_cons,length_nil,WA,reduceEqDiff,reduceAdd,reduceLT,reduceLeDiff,reduceMul,reduceIte,reduceCtorEq,Int.reduceEq,Int.reduceLT,Int.reduceLE,Int.reduceNe];refine⟨λ y hy=>by rw[hy];rfl,by omega,by omega,λ y hy=>by rw[hy];rfl,by omega,by omega,(c4,_,_,a'++ [.mk 1 0 ⟨#[]⟩ []],b'++ [.mk 1 0 ⟨#[]⟩ []]),⟨hc4,q2.app leY rfl,q3.app leY rfl,?_,?_,?_,?_⟩,?_,rfl⟩
     ·simp only[map_append,sum_append,map_cons,map_nil,sum_cons,sum_nil,hz];omega
     ·simp only[map_append,sum_append,map_cons,map_nil,sum_cons,sum_nil,hz];omega
     ·simp only[length_append,length_cons,length_nil];omega
     ·simp only[length_append,length_cons,length_nil];omega
     ·simp only[length_append,length_cons,length_nil];omega
    ·simp only[WA,reduceEqDiff,reduceAdd,reduceLT,reduceLeDiff,reduceMul,reduceIte,reduceCtorEq,Int.reduceEq,Int.reduceLT,Int.reduceLE,Int.reduceNe];exact⟨c4,m,us,vs,a',b',hc4,by unfold l9;omega,q2,q3,by omega,by omega,by omega,by omega,rfl⟩
   ·simp only[WA,reduceEqDiff,reduceAdd,reduceLT,reduceLeDiff,reduceMul,reduceIte,reduceCtorEq,Int.reduceEq,Int.reduceLT,Int.reduceLE,Int.reduceNe];exact⟨c2,m,_,_,a,b,hc2,by unfold l9;omega,.of a,.of b,by omega,by omega,by omega,by omega,rfl⟩
  ·rintro ws ⟨c',m,us,vs,a,b,r1,r2,r3,r4,r5,r6,r7,r8,rfl⟩ _;simp only[WA,reduceEqDiff,reduceAdd,reduceLT,reduceLeDiff,reduceMul,reduceIte,reduceCtorEq,Int.reduceEq,Int.reduceLT,Int.reduceLE,Int.reduceNe];unfold tC ex;exact⟨_,rfl,⟨m,us,vs,a,b,r2,r3,r4,r5,r6,r7,r8,rfl⟩,rfl⟩
 obtain⟨outs,_,⟨m,us,vs,a,b,h1,h2,h3,h4,h5,h6,h7,rfl⟩,h⟩:=key;refine⟨m,a,b,h1,h4,h5,h6,h7,?_⟩;refine a7.ay3 (T.rn rfl (by simp[AV.ad,AV.ag,bl]) h) rfl λ i x y hx hy=> ?_
 rcases i with _|_|_|i<;>simp at hx hy<;>subst hx<;>subst hy
 ·exact .refl _
 ·exact h2.sl
 ·exact h3.sl
end Go.Proofs.Ab
