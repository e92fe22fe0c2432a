/-
  PAIRS OF TYPES THAT ARE DRAWN (DrawUnify).
-/
import Derived.Test.YtfebhekplhjigaaCDrawTy
import Derived.Test.YtfebhekplhjigaaCPut
import Derived.Test.YtfebhekplhjigaaPUni5
open Nat(le_trans)
open Bool(not_eq_true' not_eq_false')
open List(length_nil map_nil sum_nil length_map length_cons map_cons sum_cons map_append sum_append length_append)
open Nat(reduceEqDiff reduceLeDiff reduceAdd reduceLT reduceMul)
set_option linter.unusedSimpArgs false
set_option linter.unusedVariables false
namespace Go.Ab
set_option maxRecDepth 100000
set_option maxHeartbeats 4000000
structure YK(B:Nat)(x:aa):Prop where
 wt:x.wt<=B
 ok:x.jn=true
theorem YK.mono{B C:Nat}{x:aa}(h:YK B x)(hb:B<=C):YK C x:=⟨le_trans h.wt hb,h.ok⟩
theorem aqb:∀s∈tyN,ahJ s=true:=by
 intro s hs;simp only[tyN,List.mem_cons,List.not_mem_nil,or_false]at hs;rcases hs with rfl|rfl|rfl<;>decide+kernel
theorem yk0{B:Nat}{K N:Int}(h:(1<=K/\K<=4/\N=0)∨(9<=K/\K<=11/\0<=N)):YK B (.mk K N ⟨#[]⟩ []):=by
 refine⟨?_,?_⟩
 ·rw[aa.dH];simp only[aa.kg,aa.gI,length_nil,map_nil,sum_nil];exact Nat.zero_le _
 ·rw[aa.jW];simp only[aa.gI,List.all_nil,Bool.and_true];unfold aa.eU;simp only[aa.xK,aa.ass,aa.kg,aa.gI,length_nil];have he:decide ((⟨#[]⟩:ByteArray)=emp)=true:=by decide
  rw[he];rcases h with⟨h1,h2,h3⟩|⟨h1,h2,h3⟩
  ·rw[if_pos (by omega),decide_eq_true h3];simp
  ·rw[if_neg (by omega),if_neg (by omega),if_neg (by omega),if_neg (by omega),if_neg (by omega),if_pos (by omega),decide_eq_true h1,decide_eq_true h3];simp
theorem yk1{B b:Nat}{K n:Int}{S:ByteArray}{kids:List aa}(hk:∀x∈kids,YK b x)(hn:(kids.length:Int)=n)(h:(K=5/\n=2/\S=⟨#[]⟩)∨(K=6/\2<=n/\n<=3/\S=⟨#[]⟩)∨(K=7/\n<=3/\S∈tyN)∨(K=8/\n=1/\S=⟨#[]⟩))(hB:7+3*b<=B):YK B (.mk K 0 S kids):=by
 have hS:S.size<=4:=by
  rcases h with⟨_,_,rfl⟩|⟨_,_,_,rfl⟩|⟨_,_,h⟩|⟨_,_,rfl⟩
  ·decide
  ·decide
  ·exact ag4 _ h
  ·decide
 refine⟨?_,?_⟩
 ·rw[aa.dH];simp only[aa.kg,aa.gI];have h1:=xr aa.wt b kids λ x hx=>(hk x hx).wt
  have h2:kids.length*b<=3*b:=Nat.mul_le_mul_right _ (by omega);omega
 ·rw[aa.jW,Bool.and_eq_true];refine⟨?_,List.all_eq_true.2 λ x hx=>(hk x hx).ok⟩;unfold aa.eU;simp only[aa.xK,aa.ass,aa.kg,aa.gI];have he:decide ((⟨#[]⟩:ByteArray)=emp)=true:=by decide
  rcases h with⟨h1,h2,rfl⟩|⟨h1,h2,h3,rfl⟩|⟨h1,h2,h3⟩|⟨h1,h2,rfl⟩
  ·rw[if_neg (by omega),if_pos h1,he,decide_eq_true (show kids.length=2 by omega)];simp
  ·rw[if_neg (by omega),if_neg (by omega),if_pos h1,he,decide_eq_true (show 2<=kids.length by omega)];simp
  ·rw[if_neg (by omega),if_neg (by omega),if_neg (by omega),if_pos h1,decide_eq_true h1,aqb _ h3];simp
  ·rw[if_neg (by omega),if_neg (by omega),if_neg (by omega),if_neg (by omega),if_pos h1,he,decide_eq_true (show kids.length=1 by omega)];simp
theorem a7.aA6{P:Program}{f:FuncId}{us' us bs:List AV}(h:a7 P f us' (.a9 us))(hl:us.length=bs.length)(hle:∀(i:Nat) (a b:AV),us[i]? =some a->bs[i]? =some b->AV.leD a b):a7 P f us' (.a9 bs):=by
 refine⟨h.1,λ I L w vs hi hr=>(h.2 I L w vs hi hr).mono ?_⟩;rintro e w' ⟨y,I',L',rfl,hy,hg⟩;refine⟨y,I',L',rfl,?_,hg⟩;cases hy with
 |a9 _ vs h1 h2=>
  exact .a9 _ vs (by omega) λ i b x hb hx=>by
   obtain⟨a,ha⟩:=mv hl hb;exact(hle i a b ha hb).sound (h2 i a x ha hx)
structure LD(us:List AV)(xs:List aa):Prop where
 len:us.length=xs.length
 cel:∀(i:Nat) (a:AV) (x:aa),us[i]? =some a->xs[i]? =some x->AV.leD a x.av/\a.cells.length=4
theorem LD.sl{us:List AV}{xs:List aa}(h:LD us xs):AV.leD (.sl us) (.sl (xs.map aa.av)):=by
 have hg:∀(i:Nat) (y:AV),(xs.map aa.av)[i]? =some y->∃x,xs[i]? =some x/\y=x.av:=λ i y hy=>by
  rw[List.getElem?_map]at hy;cases hx:xs[i]? with
  |none=>rw[hx]at hy;cases hy
  |some x=>rw[hx]at hy;cases hy;exact⟨x,rfl,rfl⟩
 refine .sl _ _ (by rw[length_map];exact h.len) (λ i a y ha hy=> ?_) λ i a y j c d ha hy hc hd=> ?_
 ·obtain⟨x,hx,rfl⟩:=hg i y hy;rw[(h.cel i a x ha hx).2,aa.width]
 ·obtain⟨x,hx,rfl⟩:=hg i y hy;have hle:=(h.cel i a x ha hx).1;cases hle with
  |refl=>rw[hc]at hd;cases hd;exact .refl _
  |agg cs ds hl hh=>exact hh j c d hc hd
theorem LD.of(xs:List aa):LD (xs.map aa.av) xs:=⟨by simp,λ i a x ha hx=>by
 rw[List.getElem?_map,hx]at ha;cases ha;exact⟨.refl _,aa.width x⟩⟩
theorem LD.app{us:List AV}{xs:List aa}(h:LD us xs){a:AV}{x:aa}(ha:AV.leD a x.av)(hc:a.cells.length=4):LD (us++ [a]) (xs++ [x]):=by
 refine⟨by simp[h.len],λ i b y hb hy=> ?_⟩;by_cases hi:i<us.length
 ·rw[List.getElem?_append_left hi]at hb;rw[List.getElem?_append_left (by rw[←h.len];exact hi)]at hy;exact h.cel i b y hb hy
 ·rw[List.getElem?_append_right (by omega)]at hb;rw[List.getElem?_append_right (by rw[←h.len];omega),←h.len]at hy;rcases hn:i- us.length with _|n
  ·rw[hn]at hb hy;simp at hb hy;subst hb;subst hy;exact⟨ha,hc⟩
  ·rw[hn]at hb;simp at hb
theorem LD.set{us:List AV}{xs:List aa}(h:LD us xs){a:AV}{x:aa}(ha:AV.leD a x.av)(hc:a.cells.length=4)(k:Nat):LD (us.set k a) (xs.set k x):=by
 refine⟨by simp[h.len],λ i b y hb hy=> ?_⟩;by_cases e:k=i
 ·subst e;have aF:=(List.getElem?_eq_some_iff.1 hb).1;rw[List.length_set]at aF;rw[List.getElem?_set_self aF]at hb;rw[List.getElem?_set_self (by rw[←h.len];exact aF)]at hy;cases hb;cases hy;exact⟨ha,hc⟩
 ·rw[List.getElem?_set_ne e]at hb hy;exact h.cel i b y hb hy
theorem ajf(k:Int):(cN k).wt=0:=by rw[aa.dH];rfl
theorem atP(k:Int):(aa.mk 6 0 ⟨#[]⟩ [cN k,cN k]).wt=2:=by
 rw[aa.dH];simp only[aa.kg,aa.gI,length_cons,length_nil,map_cons,map_nil,sum_cons,sum_nil,ajf]
 rfl
theorem ax6(k:Int):AV.leD (.agg [au 6,au 0,bZ ⟨#[]⟩,.sl [.agg [au 11,au k,bZ ⟨#[]⟩,.aw],.agg [au 11,au k,bZ ⟨#[]⟩,.aw]]]) (aa.mk 6 0 ⟨#[]⟩ [cN k,cN k]).av:=by
 have h:=(((LD.of []).app (a:= .agg [au 11,au k,bZ ⟨#[]⟩,.aw]) (x:=cN k) leY rfl).app (a:= .agg [au 11,au k,bZ ⟨#[]⟩,.aw]) (x:=cN k) leY rfl).sl;rw[←ad0];refine .agg _ _ rfl λ i c d hc hd=> ?_
 rcases i with _|_|_|_|i
 ·simp at hc hd;subst hc;subst hd;exact .refl _
 ·simp at hc hd;subst hc;subst hd;exact .refl _
 ·simp at hc hd;subst hc;subst hd;exact .refl _
 ·simp only[List.getElem?_cons_succ,List.getElem?_cons_zero,Option.some.injEq]at hc hd;subst hc;subst hd;exact h
 ·simp at hc
def mN(k:Nat):List AV:=(List.range k).map λ (j:Nat)=> .agg [au 11,au j,bZ ⟨#[]⟩,.aw]
def mT(k:Nat):List aa:=(List.range k).map λ (j:Nat)=>cN j
theorem ajg(k:Nat):mN (k+1)=mN k++ [.agg [au 11,au (k:Nat),bZ ⟨#[]⟩,.aw]]:=by simp[mN,List.range_succ]
theorem anq(k:Nat):(mN k).length=k:=by simp[mN]
theorem auD(k:Nat):(mT k).length=k:=by simp[mT]
theorem asN:∀k,LD (mN k) (mT k)
 |0=>⟨rfl,λ i a x h=>by simp[mN]at h⟩
 |k+1=>by
  rw[ajg];have:mT (k+1)=mT k++ [cN (k:Nat)]:=by simp[mT,List.range_succ]
  rw[this];exact(asN k).app leY rfl
theorem aky(k:Nat):AV.ae (mN k)=true:=by
 unfold mN;exact bA (f:=λ (j:Nat)=>AV.agg [au 11,au j,bZ ⟨#[]⟩,.aw]) (l:=List.range k) λ _=>rfl
theorem auE{k i:Nat}(h:i<k){y:AV}(hy:y.cells.length=4):rH ((mN k).getD i .top) 0 y=y/\((mN k).getD i .top).cells.length=4:=by
 have hg:(mN k).getD i .top= .agg [au 11,au i,bZ ⟨#[]⟩,.aw]:=by simp[mN,List.getD,List.getElem?_range h]
 rw[hg];exact⟨if_pos ⟨rfl,hy⟩,rfl⟩
theorem ahy{l:List AV}{y:AV}(hl:AV.ae l=true)(hy:y.ag=true){i:Nat}:AV.ae (l.set i y)=true:=by
 induction l generalizing i with
 |nil=>rfl
 |cons x l ih=>
  simp only[AV.ae,Bool.and_eq_true]at hl;cases i with
  |zero=>simp only[List.set_cons_zero,AV.ae,hy,hl.2,Bool.and_self]
  |succ i=>simp only[List.set_cons_succ,AV.ae,hl.1,ih hl.2,Bool.and_self]
end Go.Ab
namespace Go.Proofs.Ab
open Go.Ab
set_option maxRecDepth 100000
set_option maxHeartbeats 4000000
set_option maxHeartbeats 4000000
abbrev DKs(d m:Int)(B:Nat)(c:cB):Prop:=pF Try.prog F.aN G.bq [.sl (j8 c.l),au c.i,au c.h,au d,au m] aa.av (YK B)
theorem atg{d m:Int}{B:Nat}(h:∀c:cB,c.ok->DKs d m B c){c:cB}(hc:c.ok){K:AV->Prop}(k:∀(x:aa) (c':cB),YK B x->c'.ok->fq K (.a9 [x.av,.sl (j8 c'.l),au c'.i,au c'.h])):lB Try.prog F.aN G.bq [.sl (j8 c.l),au c.i,au c.h,au d,au m] K:=
 (h c hc).use rfl aa.ag k
theorem ao2(n:Nat):∀(d m:Int),d<=n->n<=100-> -100<=d->m<=1000000->∀{c:cB},c.ok->DKs d m (YB n) c:=by
 induction n with
 |zero=>
  intro d m hd _ hd0 hm c hc;refine pF.intro rfl rfl (λ outs ho hw=>T.fF rfl ho (by simp[AV.ae,AV.ag,bj]) hw) (.mk 1 0 ⟨#[]⟩ []) (yk0 (.inl ⟨by omega,by omega,rfl⟩)) c hc ?_;simp only[T.bq,WA]
  repeat' (first|(simp(disch:=(first|omega|rfl|exact rfl|(simp only[an,length_cons,length_nil];done)|exact aa.width _)) only[bh,WA,reduceAdd])|(simp(disch:=(first|omega|rfl|exact rfl|(simp only[an,length_cons,length_nil];done)|exact aa.width _)) only[aa.cells,aa.isAgg,aa.storable,aa.eta,bh,bW,bR,aH,fZ,WA,reduceEqDiff,reduceAdd,reduceLT,reduceLeDiff,reduceMul,reduceIte,reduceCtorEq,Int.reduceEq,Int.reduceLT,Int.reduceLE,Int.reduceNe])|(refine aG (λ hq=> ?_) (λ hq=> ?_)<;>(try simp only[hq,decide_true,decide_false])<;>(try (exfalso;omega)))|(refine aZ (λ hq=> ?_) (λ hq=> ?_)<;>(try simp only[hq,decide_true,decide_false,Bool.not_true,Bool.not_false,not_eq_true',not_eq_false'])<;>(try (exfalso;omega)))|(refine aE (λ hq=> ?_) (λ hq=> ?_)<;>(try simp only[hq,decide_true,decide_false,Bool.not_true,Bool.not_false,not_eq_true',not_eq_false'])<;>(try (exfalso;omega)))|(refine aB ?_)|(refine gN (by assumption) _ (by omega) λ m c' h0 h1 gf=> ?_)|(refine pe (by assumption) _ λ b c' gf=> ?_)|(refine xF (by assumption) ?_))
  all_goals first
   |exact yk0 (.inl ⟨by omega,by omega,rfl⟩)
   |exact yk0 (.inr ⟨by omega,by omega,by omega⟩)
   |trace_state
 |succ n ih=>
  intro d m hd hn hd0 hm c hc;have ihe:0<d->∀c:cB,c.ok->DKs (d- 1) m (YB n) c:=λ h0 c hc=>ih (d- 1) m (by omega) (by omega) (by omega) hm hc
  refine pF.intro rfl rfl (λ outs ho hw=>T.fF rfl ho (by simp[AV.ae,AV.ag,bj]) hw) (.mk 1 0 ⟨#[]⟩ []) (yk0 (.inl ⟨by omega,by omega,rfl⟩)) c hc ?_;simp only[T.bq,WA]
  repeat' (first|(simp(disch:=(first|omega|rfl|exact rfl|(simp only[an,length_cons,length_nil];done)|exact aa.width _)) only[fu,tW,hd,vn,aa.cells,aa.isAgg,aa.storable,aa.eta,bh,bW,bR,aH,fZ,WA,reduceEqDiff,reduceAdd,reduceLT,reduceLeDiff,reduceMul,reduceIte,reduceCtorEq,Int.reduceEq,Int.reduceLT,Int.reduceLE,Int.reduceNe])|(simp(disch:=(first|omega|rfl|exact rfl|(simp only[an,length_cons,length_nil];done)|exact aa.width _)) only[fu,hd,aa.cells,aa.isAgg,aa.storable,aa.eta,bh,bW,bR,aH,fZ,WA,reduceEqDiff,reduceAdd,reduceLT,reduceLeDiff,reduceMul,reduceIte,reduceCtorEq,Int.reduceEq,Int.reduceLT,Int.reduceLE,Int.reduceNe])|(simp(disch:=(first|omega|rfl|exact rfl|(simp only[an,length_cons,length_nil];done)|exact aa.width _)) only[hd,vn,aa.cells,aa.isAgg,aa.storable,aa.eta,bh,bW,bR,aH,fZ,WA,reduceEqDiff,reduceAdd,reduceLT,reduceLeDiff,reduceMul,reduceIte,reduceCtorEq,Int.reduceEq,Int.reduceLT,Int.reduceLE,Int.reduceNe])|(simp(disch:=(first|omega|rfl|exact rfl|(simp only[an,length_cons,length_nil];done)|exact aa.width _)) only[hix,hd,aa.cells,aa.isAgg,aa.storable,aa.eta,bh,bW,bR,aH,fZ,WA,reduceEqDiff,reduceAdd,reduceLT,reduceLeDiff,reduceMul,reduceIte,reduceCtorEq,Int.reduceEq,Int.reduceLT,Int.reduceLE,Int.reduceNe])|(simp(disch:=(first|omega|rfl|exact rfl|(simp only[an,length_cons,length_nil];done)|exact aa.width _)) only[aa.cells,aa.isAgg,aa.storable,bh,WA,reduceAdd,reduceLeDiff])|(simp(disch:=(first|omega|rfl|exact rfl|(simp only[an,length_cons,length_nil];done)|exact aa.width _)) only[aa.cells,aa.isAgg,aa.storable,aa.eta,bh,bW,bR,aH,fZ,WA,reduceEqDiff,reduceAdd,reduceLT,reduceLeDiff,reduceMul,reduceIte,reduceCtorEq,Int.reduceEq,Int.reduceLT,Int.reduceLE,Int.reduceNe])|(refine aG (λ hq=> ?_) (λ hq=> ?_)<;>(try simp only[hq,decide_true,decide_false])<;>(try (exfalso;omega)))|(refine aZ (λ hq=> ?_) (λ hq=> ?_)<;>(try simp only[hq,decide_true,decide_false,Bool.not_true,Bool.not_false,not_eq_true',not_eq_false'])<;>(try (exfalso;omega)))|(refine aE (λ hq=> ?_) (λ hq=> ?_)<;>(try simp only[hq])<;>(try (exfalso;omega)))|(refine aB ?_)|(refine gN (by assumption) _ (by omega) λ m c' h0 h1 gf=> ?_)|(refine pe (by assumption) _ λ b c' gf=> ?_)|(refine aag (by assumption) tyN (by simp[tyN]) (by decide) λ s c' hs gf=> ?_)|(refine atg (ihe (by omega)) (by assumption) λ x c' hx gf=> ?_)|(refine xF (by assumption) ?_)|(refine aiq (by assumption) _ ?_)|(refine tE aa.av (YK (YB n)) (by assumption) 14 rfl (by omega) λ c xs hc oG hle=> ?_))
  all_goals first
   |exact yk0 (.inl ⟨by omega,by omega,rfl⟩)
   |exact yk0 (.inr ⟨by omega,by omega,by omega⟩)
   |exact⟨λ y hy=>by rw[hy];exact aa.width _,by omega,by omega,_,_,by assumption,by assumption,rfl⟩
   |exact⟨λ y hy=>by rw[hy];exact aa.width _,by omega,by omega,by omega,_,_,by assumption,by assumption,rfl⟩
   |exact yk1 (b:=YB n) (by assumption) rfl (.inl ⟨by omega,by omega,rfl⟩) (by simp only[YB];omega)
   |exact yk1 (b:=YB n) (by assumption) rfl (.inr (.inl ⟨by omega,by omega,by omega,rfl⟩)) (by simp only[YB];omega)
   |exact yk1 (b:=YB n) (by assumption) rfl (.inr (.inr (.inl ⟨by omega,by omega,by assumption⟩))) (by simp only[YB];omega)
   |exact yk1 (b:=YB n) (by assumption) rfl (.inr (.inr (.inr ⟨by omega,by omega,rfl⟩))) (by simp only[YB];omega)
   |trace_state
def DKr(d m:Int)(B:Nat)(c:cB):Prop:=∃K N S kids c',YK B (.mk K N S kids)/\cB.ok c'/\gQ Try.prog F.aN G.aN [.sl (j8 c.l),au c.i,au c.h,au d,au m] [au K,.sl (j8 c'.l),au c'.i,au c'.h,au N,bZ S,.sl (kids.map aa.av)]
theorem aae(n:Nat)(d m:Int)(hd:d<=n+1)(hn:n<=100)(hd0: -99<=d)(hm:m<=1000000){c:cB}(hc:c.ok):DKr d m (YB (n+1)) c:=by
 have ihe:0<d->∀c:cB,c.ok->DKs (d- 1) m (YB n) c:=λ h0 c hc=>ao2 n (d- 1) m (by omega) (by omega) (by omega) hm hc
 have bn:∃outs:List AV,outs.length=7/\∃K N S kids c,outs= [au K,.sl (j8 c.l),au c.i,au c.h,au N,bZ S,.sl (kids.map aa.av)]/\YK (YB (n+1)) (.mk K N S kids)/\cB.ok c:=
  ⟨_,rfl,1,0,⟨#[]⟩,[],c,rfl,yk0 (.inl ⟨by omega,by omega,rfl⟩),hc⟩
 have hw:bD Try.prog LF (dxR (YK (YB (n+1)))) T.aN [.sl (j8 c.l),au c.i,au c.h,au d,au m] []:=by
  simp only[T.aN,WA]
  repeat' (first|(simp(disch:=(first|omega|rfl|exact rfl|(simp only[an,length_cons,length_nil];done)|exact aa.width _)) only[fu,tW,hd,vn,aa.cells,aa.isAgg,aa.storable,aa.eta,bh,bW,bR,aH,fZ,WA,reduceEqDiff,reduceAdd,reduceLT,reduceLeDiff,reduceMul,reduceIte,reduceCtorEq,Int.reduceEq,Int.reduceLT,Int.reduceLE,Int.reduceNe])|(simp(disch:=(first|omega|rfl|exact rfl|(simp only[an,length_cons,length_nil];done)|exact aa.width _)) only[fu,hd,aa.cells,aa.isAgg,aa.storable,aa.eta,bh,bW,bR,aH,fZ,WA,reduceEqDiff,reduceAdd,reduceLT,reduceLeDiff,reduceMul,reduceIte,reduceCtorEq,Int.reduceEq,Int.reduceLT,Int.reduceLE,Int.reduceNe])|(simp(disch:=(first|omega|rfl|exact rfl|(simp only[an,length_cons,length_nil];done)|exact aa.width _)) only[hd,vn,aa.cells,aa.isAgg,aa.storable,aa.eta,bh,bW,bR,aH,fZ,WA,reduceEqDiff,reduceAdd,reduceLT,reduceLeDiff,reduceMul,reduceIte,reduceCtorEq,Int.reduceEq,Int.reduceLT,Int.reduceLE,Int.reduceNe])|(simp(disch:=(first|omega|rfl|exact rfl|(simp only[an,length_cons,length_nil];done)|exact aa.width _)) only[hix,hd,aa.cells,aa.isAgg,aa.storable,aa.eta,bh,bW,bR,aH,fZ,WA,reduceEqDiff,reduceAdd,reduceLT,reduceLeDiff,reduceMul,reduceIte,reduceCtorEq,Int.reduceEq,Int.reduceLT,Int.reduceLE,Int.reduceNe])|(simp(disch:=(first|omega|rfl|exact rfl|(simp only[an,length_cons,length_nil];done)|exact aa.width _)) only[aa.cells,aa.isAgg,aa.storable,bh,WA,reduceAdd,reduceLeDiff])|(simp(disch:=(first|omega|rfl|exact rfl|(simp only[an,length_cons,length_nil];done)|exact aa.width _)) only[aa.cells,aa.isAgg,aa.storable,aa.eta,bh,bW,bR,aH,fZ,WA,reduceEqDiff,reduceAdd,reduceLT,reduceLeDiff,reduceMul,reduceIte,reduceCtorEq,Int.reduceEq,Int.reduceLT,Int.reduceLE,Int.reduceNe])|(refine aG (λ hq=> ?_) (λ hq=> ?_)<;>(try simp only[hq,decide_true,decide_false])<;>(try (exfalso;omega)))|(refine aZ (λ hq=> ?_) (λ hq=> ?_)<;>(try simp only[hq,decide_true,decide_false,Bool.not_true,Bool.not_false,not_eq_true',not_eq_false'])<;>(try (exfalso;omega)))|(refine aE (λ hq=> ?_) (λ hq=> ?_)<;>(try simp only[hq])<;>(try (exfalso;omega)))|(refine aB ?_)|(refine gN (by assumption) _ (by omega) λ m c' h0 h1 gf=> ?_)|(refine pe (by assumption) _ λ b c' gf=> ?_)|(refine aag (by assumption) tyN (by simp[tyN]) (by decide) λ s c' hs gf=> ?_)|(refine atg (ihe (by omega)) (by assumption) λ x c' hx gf=> ?_)|(refine ajF (by assumption) ?_)|(refine air (by assumption) _ ?_)|(refine tE aa.av (YK (YB n)) (by assumption) 14 rfl (by omega) λ c xs hc oG hle=> ?_))
  all_goals first
   |exact yk0 (.inl ⟨by omega,by omega,rfl⟩)
   |exact yk0 (.inr ⟨by omega,by omega,by omega⟩)
   |exact⟨λ y hy=>by rw[hy];exact aa.width _,by omega,by omega,_,_,by assumption,by assumption,rfl⟩
   |exact⟨λ y hy=>by rw[hy];exact aa.width _,by omega,by omega,by omega,_,_,by assumption,by assumption,rfl⟩
   |exact yk1 (b:=YB n) (by assumption) rfl (.inl ⟨by omega,by omega,rfl⟩) (by simp only[YB];omega)
   |exact yk1 (b:=YB n) (by assumption) rfl (.inr (.inl ⟨by omega,by omega,by omega,rfl⟩)) (by simp only[YB];omega)
   |exact yk1 (b:=YB n) (by assumption) rfl (.inr (.inr (.inl ⟨by omega,by omega,by assumption⟩))) (by simp only[YB];omega)
   |exact yk1 (b:=YB n) (by assumption) rfl (.inr (.inr (.inr ⟨by omega,by omega,rfl⟩))) (by simp only[YB];omega)
   |trace_state
 obtain⟨outs,hl,⟨K,N,S,kids,c',rfl,hg,gf⟩,h⟩:=qB bn hw;exact⟨K,N,S,kids,c',hg,gf,T.oa rfl rfl (by simp[AV.ae,AV.ag,bj]) h⟩
theorem ao4{d m:Int}{B:Nat}{c:cB}(h:DKr d m B c){Z:AV->Prop}(k:∀(K N:Int) (S:ByteArray) (kids:List aa) (c':cB),YK B (.mk K N S kids)->c'.ok->fq Z (.a9 [au K,.sl (j8 c'.l),au c'.i,au c'.h,au N,bZ S,.sl (kids.map aa.av)])):lB Try.prog F.aN G.aN [.sl (j8 c.l),au c.i,au c.h,au d,au m] Z:=by
 obtain⟨K,N,S,kids,c',hg,gf,h⟩:=h;exact dU h rfl (by simp[AV.ae,AV.ag,bj,bA (f:=aa.av) (l:=kids) aa.ag]) (k K N S kids c' hg gf)
theorem acI{x:aa}(hx:YK 91 x){us:List AV}{l:List aa}(hl:LD us l)(hw:∀y∈l,y.wt<=91)(hn:l.length<=100):a7 Try.prog F.gj [x.av,au 11,.sl us] (x.put 11 l).av/\(x.put 11 l).wt<=10000:=by
 have h1:=xr aa.wt 91 l hw;have h2:l.length*91<=100*91:=Nat.mul_le_mul_right _ hn;have hxw:=hx.wt;refine⟨a7.az4 (tf x 11 l hx.ok (.inr (.inr rfl)) (by omega) (by omega)) rfl λ i a b ha hb=> ?_,?_⟩
 ·rcases i with _|_|_|i<;>simp at ha hb<;>subst ha<;>subst hb
  ·exact .refl _
  ·exact .refl _
  ·exact hl.sl
 ·have h3:=aa.amO 11 l 91 hw x;have h4:(x.wt+1)*(91+1)<=92*92:=Nat.mul_le_mul_right _ (by omega);omega
theorem sq{c:cB}(hc:c.ok)(n:Int)(hn0:1<=n)(hn:n<=8):∃(m:Int) (c':cB) (a b:List aa),1<=m/\m<=6/\c'.ok/\(a.map aa.wt).sum<=10000*a.length/\(b.map aa.wt).sum<=10000*b.length/\a.length=b.length/\a.length<=8/\
  gQ Try.prog F.bl G.bl [.sl (j8 c.l),au c.i,au c.h,au n] [au m,.sl (j8 c'.l),au c'.i,au c'.h,.sl (a.map aa.av),.sl (b.map aa.av)]:=by
 have bn:∃outs:List AV,outs.length=6/\∃(m:Int) (c':cB) (a b:List aa),1<=m/\m<=6/\c'.ok/\(a.map aa.wt).sum<=10000*a.length/\(b.map aa.wt).sum<=10000*b.length/\a.length=b.length/\a.length<=8/\outs= [au m,.sl (j8 c'.l),au c'.i,au c'.h,.sl (a.map aa.av),.sl (b.map aa.av)]:=
  ⟨_,rfl,1,c,[],[],by omega,by omega,hc,by simp,by simp,rfl,by simp,rfl⟩
 have hw:bD Try.prog LF (ex 6 λ outs=>∃(m:Int) (c':cB) (a b:List aa),1<=m/\m<=6/\c'.ok/\(a.map aa.wt).sum<=10000*a.length/\(b.map aa.wt).sum<=10000*b.length/\a.length=b.length/\a.length<=8/\outs= [au m,.sl (j8 c'.l),au c'.i,au c'.h,.sl (a.map aa.av),.sl (b.map aa.av)]) T.bl [.sl (j8 c.l),au c.i,au c.h,au n] []:=by
  simp only[T.bl,WA];refine gN hc _ (by omega) λ m c1 h0 h1 hc1=> ?_
  have em:IntKind.i64.wrap (1+m)=1+m:=bh (by omega) (by omega);simp only[em,WA];refine mA (λ vs=>∃(c':cB) (a b:List aa),c'.ok/\(a.map aa.wt).sum<=10000*a.length/\(b.map aa.wt).sum<=10000*b.length/\a.length=b.length/\a.length<=8/\vs= [.sl (j8 c'.l),au c'.i,au c'.h,.sl (a.map aa.av),.sl (b.map aa.av)]) ?_ ?_
  ·simp only[WA];refine gN hc1 _ (by omega) λ k c2 k0 k1 hc2=> ?_
   simp only[WA];refine eh (ι:=cB×List aa×List aa×Int) (λ q=>q.1.ok/\(q.2.1.map aa.wt).sum<=10000*q.2.1.length/\(q.2.2.1.map aa.wt).sum<=10000*q.2.2.1.length/\q.2.1.length=q.2.2.1.length/\0<=q.2.2.2/\(q.2.1.length:Int)+q.2.2.2=k) (λ q=>[.sl (j8 q.1.l),au q.1.i,au q.1.h,.sl (q.2.1.map aa.av),.sl (q.2.2.1.map aa.av),au q.2.2.2]) (λ q=>q.2.2.2.toNat) (c2,[],[],k) ⟨hc2,by simp,by simp,rfl,k0,by simp⟩ rfl ?_;rintro⟨c3,a,b,i⟩ ⟨q1,q2,q3,q4,q5,q6⟩;simp only at q1 q2 q3 q4 q5 q6;simp only[WA];refine aG (λ hq=> ?_) (λ hq=> ?_)
   ·simp only[WA];refine mA (λ vs=>∃(c':cB) (x y:aa) (z1 z2 z3 z4 z5 z6 z7 z8 z9:AV),c'.ok/\x.wt<=10000/\y.wt<=10000/\vs= [.sl (j8 c'.l),au c'.i,au c'.h,.sl (a.map aa.av++ [x.av]),.sl (b.map aa.av++ [y.av]),z1,z2,z3,z4,z5,z6,z7,z8,z9]) ?_ ?_
    ·simp only[WA];refine ao4 (aae 1 2 0 (by omega) (by omega) (by omega) (by omega) q1) λ K1 N1 S1 qn c4 g1 hc4=> ?_
     simp only[WA];refine mA (λ vs=>vs= [.sl (mN (1+m).toNat)]) ?_ ?_
     ·simp only[WA];refine eh (ι:=Nat) (λ k=>(k:Int)<=1+m) (λ k=>[.sl (mN k),au (k:Nat)]) (λ k=>(1+m).toNat- k) 0 (by show((0:Nat):Int)<=_;omega) (by simp[mN]) ?_;intro k hk;simp only[WA];refine aG (λ hq=> ?_) (λ hq=> ?_)
      ·simp(disch:=omega) only[anq,aH,WA,reduceAdd,reduceLeDiff];exact⟨λ y hy=>by rw[hy];rfl,by omega,by omega,k+1,by omega,by omega,by rw[ajg]⟩
      ·simp only[WA];have:k=(1+m).toNat:=by omega
       rw[this]
     ·rintro vs rfl _;simp only[WA];have g1:YK 91 (.mk K1 N1 S1 qn):=g1.mono (show YB 2<=91 by decide);refine gN hc4 _ (by omega) λ ix c5 i0 i1 hc5=> ?_
      obtain⟨ixn,rfl⟩:∃ixn:Nat,ix=(ixn:Int):=⟨ix.toNat,by omega⟩;have aF:ixn<(1+m).toNat:=by omega
      have hup:=auE aF (y:= .agg [au K1,au N1,bZ S1,.sl (qn.map aa.av)]) rfl;simp only[anq,Int.toNat_natCast,hup.1,hup.2,WA,reduceAdd];refine⟨by omega,aF,?_⟩;have hLD:=(asN (1+m).toNat).set (x:= .mk K1 N1 S1 qn) (a:= .agg [au K1,au N1,bZ S1,.sl (qn.map aa.av)]) (by rw[ad0];exact .refl _) rfl ixn
      have hLw:∀y∈(mT (1+m).toNat).set ixn (.mk K1 N1 S1 qn),y.wt<=91:=λ y hy=>by
       rcases List.mem_or_eq_of_mem_set hy with h|h
       ·obtain⟨j,_,rfl⟩:=List.mem_map.1 h;rw[aa.dH];exact Nat.zero_le _
       ·rw[h];exact g1.wt
      have hLn:((mT (1+m).toNat).set ixn (.mk K1 N1 S1 qn)).length<=100:=by rw[List.length_set,auD];omega
      have hLr:AV.ae ((mN (1+m).toNat).set ixn (.agg [au K1,au N1,bZ S1,.sl (qn.map aa.av)]))=true:=ahy (aky _) (by rw[ad0];exact aa.ag _);generalize (mT (1+m).toNat).set ixn (.mk K1 N1 S1 qn)=L at hLD hLw hLn;generalize (mN (1+m).toNat).set ixn (.agg [au K1,au N1,bZ S1,.sl (qn.map aa.av)])=us at hLD hLr⊢;refine ao4 (aae 1 2 (1+m) (by omega) (by omega) (by omega) (by omega) hc5) λ K2 N2 S2 tI c6 g2 hc6=> ?_
      have g2:YK 91 (.mk K2 N2 S2 tI):=g2.mono (show YB 2<=91 by decide);simp(disch:=omega) only[length_map,length_cons,length_nil,WA,reduceAdd,reduceLeDiff];refine⟨λ y hy=>by rw[hy];rfl,by omega,by omega,?_⟩;refine pe hc6 _ λ bt c7 hc7=> ?_
      simp only[WA];have exv:AV.agg [au K2,au N2,bZ S2,.sl (tI.map aa.av)]=(aa.mk K2 N2 S2 tI).av:=ad0;refine aE (λ hb=> ?_) (λ hb=> ?_)
      ·simp only[WA];refine ao4 (aae 1 2 (1+m) (by omega) (by omega) (by omega) (by omega) hc7) λ K3 N3 S3 asR c8 g3 hc8=> ?_
       have g3:YK 91 (.mk K3 N3 S3 asR):=g3.mono (show YB 2<=91 by decide);simp(disch:=omega) only[length_map,length_cons,length_nil,WA,reduceAdd,reduceLeDiff];refine⟨λ y hy=>by rw[hy];rfl,by omega,by omega,c8,.mk K2 N2 S2 tI,.mk K3 N3 S3 asR,au K1,au N1,bZ S1,.sl (qn.map aa.av),au K2,au N2,bZ S2,.sl (tI.map aa.av),.sl [.agg [au K2,au N2,bZ S2,.sl (tI.map aa.av)]],hc8,?_,?_,?_⟩
       ·have:=g2.wt;omega
       ·have:=g3.wt;omega
       ·rw[←ad0,←ad0]
      ·obtain⟨aze,hwt⟩:=acI g2 hLD hLw hLn;simp only[exv,WA];refine j7 aze (aa.ag _) ?_;simp(disch:=omega) only[aa.isAgg,aa.storable,aa.cells,length_map,length_cons,length_nil,WA,reduceAdd,reduceLeDiff];refine⟨λ y hy=>by rw[hy];exact aa.width _,by omega,by omega,c7,.mk K2 N2 S2 tI,_,au K1,au N1,bZ S1,.sl (qn.map aa.av),au K2,au N2,bZ S2,.sl (tI.map aa.av),.sl [(aa.mk K2 N2 S2 tI).av],hc7,?_,hwt,rfl⟩;have:=g2.wt;omega
    ·rintro vs ⟨c',x,y,z1,z2,z3,z4,z5,z6,z7,z8,z9,gf,hx,hy,rfl⟩ _;have e1:IntKind.i64.wrap (i- 1)=i- 1:=bh (by omega) (by omega);simp only[e1,WA];refine⟨(c',a++ [x],b++ [y],i- 1),⟨gf,?_,?_,?_,?_,?_⟩,?_,?_⟩
     ·simp only[map_append,sum_append,length_append,map_cons,map_nil,sum_cons,sum_nil,length_cons,length_nil];omega
     ·simp only[map_append,sum_append,length_append,map_cons,map_nil,sum_cons,sum_nil,length_cons,length_nil];omega
     ·simp only[length_append,length_cons,length_nil];omega
     ·show 0<=i- 1;omega
     ·simp only[length_append,length_cons,length_nil];omega
     ·show(i- 1).toNat<i.toNat;omega
     ·simp
   ·simp only[WA];exact⟨c3,a,b,q1,q2,q3,q4,by omega,rfl⟩
  ·rintro vs ⟨c',a,b,r1,r2,r3,r4,r5,rfl⟩ _;simp only[WA];unfold uM ex;exact⟨_,rfl,⟨1+m,c',a,b,by omega,by omega,r1,r2,r3,r4,r5,rfl⟩,rfl⟩
 obtain⟨outs,h1,⟨m,c',a,b,r0,r1,r2,r3,r4,r5,r6,rfl⟩,h⟩:=qB bn hw;exact⟨m,c',a,b,r0,r1,r2,r3,r4,r5,r6,T.pI rfl rfl (by simp[AV.ae,AV.ag,bj]) h⟩
theorem arh(l:List Int)(hl:l.length<=1048576):∃n:Int,1<=n/\n<=8/\a7 Try.prog F.fV [.sl (j8 l),au 8] (au n):=by
 have h0:(0:Int)<=(l.length:Int)/12:=Int.ediv_nonneg (by omega) (by omega);have h1:(l.length:Int)/12<=l.length:=Int.ediv_le_self _ (by omega)
 have w:IntKind.i64.wrap (Int.tdiv (l.length:Int) 12)=(l.length:Int)/12:=by
  rw[Int.tdiv_eq_ediv_of_nonneg (by omega)];exact bh (by omega) (by omega)
 have w2:IntKind.i64.wrap (3+(l.length:Int)/12)=3+(l.length:Int)/12:=bh (by omega) (by omega);by_cases h:8<3+(l.length:Int)/12
 ·refine⟨8,by omega,by omega,T.pt rfl (by simp[AV.ae,AV.ag,bj]) ?_⟩;simp only[T.fV,length_map,w,w2,decide_eq_true h,WA,Int.reduceEq]
 ·refine⟨3+(l.length:Int)/12,by omega,by omega,T.pt rfl (by simp[AV.ae,AV.ag,bj]) ?_⟩;simp only[T.fV,length_map,w,w2,decide_eq_false h,WA,Int.reduceEq]
theorem uJ(l:List Int)(hl:l.length<=1048576)(hb:∀x∈l,0<=x/\x<256):∃(m:Int) (a b:List aa),l8 m/\(a.map aa.wt).sum<=100000/\(b.map aa.wt).sum<=100000/\a.length<=300/\b.length<=300/\
  a7 Try.prog F.dP [.sl (j8 l)] (.a9 [au m,.sl (a.map aa.av),.sl (b.map aa.av)]):=by
 obtain⟨c,hc,rfl,dM⟩:=acQ l hl hb;have hnr:AV.ae c.eS=true:=c.ag
 have key:∃outs:List AV,outs.length=3/\(∃(m:Int) (us vs:List AV) (a b:List aa),l8 m/\LD us a/\LD vs b/\(a.map aa.wt).sum<=100000/\(b.map aa.wt).sum<=100000/\a.length<=300/\b.length<=300/\outs= [au m,.sl us,.sl vs])/\bD Try.prog LF (λ a=>a=br outs) T.dP [.sl (j8 c.l)] []:=by
  refine qB ⟨[au 0,.sl [],.sl []],rfl,0,[],[],[],[],by unfold l8;omega,.of [],.of [],by simp,by simp,by simp,by simp,rfl⟩ ?_;simp only[T.dP,WA];refine dU dM rfl hnr ?_;simp only[cB.eS,WA];obtain⟨n,n1,n2,afy⟩:=arh c.l hc.len;refine bu afy ?_;obtain⟨m,c1,a,b,m1,m2,hc1,wa,wb,qw,ha8,hdp⟩:=sq hc n n1 n2;simp only[WA];refine dU hdp rfl (by simp[AV.ae,AV.ag,bj,bA (f:=aa.av) (l:=a) aa.ag,bA (f:=aa.av) (l:=b) aa.ag]) ?_;simp only[WA];have hz:(aa.mk 1 0 ⟨#[]⟩ []).wt=0:=by rw[aa.dH];rfl
  refine mA (λ ws=>∃(c':cB) (m:Int) (us vs:List AV) (a b:List aa),c'.ok/\l8 m/\LD us a/\LD vs b/\(a.map aa.wt).sum<=100000/\(b.map aa.wt).sum<=100000/\a.length<=300/\b.length<=300/\ws= [.sl (j8 c'.l),au c'.i,au c'.h,.sl us,.sl vs,au m]) ?_ ?_
  ·simp only[WA];refine gN hc1 _ (by omega) λ k c2 k0 k1 hc2=> ?_
   simp only[WA];refine aG (λ hq=> ?_) (λ hq=> ?_)
   ·simp only[WA];refine ait hc2 [_,_,_,_] (by simp) (by decide) λ m' c3 xB hc3=> ?_
    simp only[List.mem_cons,List.not_mem_nil,or_false]at xB;simp only[WA];exact⟨c3,m',_,_,a,b,hc3,by unfold l8;omega,.of a,.of b,by omega,by omega,by omega,by omega,rfl⟩
   simp only[WA];refine aG (λ hq=> ?_) (λ hq=> ?_)
   ·simp(disch:=omega) only[length_map,length_cons,length_nil,WA,reduceAdd,reduceLeDiff];refine⟨λ y hy=>by rw[hy];rfl,by omega,by omega,c2,m,_,_,a++ [.mk 1 0 ⟨#[]⟩ []],b,hc2,by unfold l8;omega,(LD.of a).app leY rfl,.of b,?_,by omega,?_,by omega,rfl⟩
    ·simp only[map_append,sum_append,map_cons,map_nil,sum_cons,sum_nil,hz];omega
    ·simp only[length_append,length_cons,length_nil];omega
   simp only[WA];refine aG (λ hq=> ?_) (λ hq=> ?_)
   ·simp only[WA];refine(ack hc2).use rfl aa.ag λ x c3 hx hc3=> ?_
    simp(disch:=omega) only[aa.isAgg,aa.width,aa.storable,length_map,length_cons,length_nil,WA,reduceLeDiff];refine⟨λ y hy=>by rw[hy];exact aa.width _,by omega,by omega,?_⟩;refine(ack hc3).use rfl aa.ag λ y c4 hy hc4=> ?_
    simp(disch:=omega) only[aa.isAgg,aa.width,aa.storable,length_map,length_cons,length_nil,WA,reduceLeDiff];have hxw:x.wt<=1000:=le_trans hx.wt (by decide);have hyw:y.wt<=1000:=le_trans hy.wt (by decide);refine⟨λ y hy=>by rw[hy];exact aa.width _,by omega,by omega,c4,m,_,_,a++ [x],b++ [y],hc4,by unfold l8;omega,(LD.of a).app (.refl _) (aa.width _),(LD.of b).app (.refl _) (aa.width _),?_,?_,?_,?_,rfl⟩
    ·simp only[map_append,sum_append,map_cons,map_nil,sum_cons,sum_nil];omega
    ·simp only[map_append,sum_append,map_cons,map_nil,sum_cons,sum_nil];omega
    ·simp only[length_append,length_cons,length_nil];omega
    ·simp only[length_append,length_cons,length_nil];omega
   simp only[WA];refine aG (λ hq=> ?_) (λ hq=> ?_)
   ·simp only[WA];refine eh (ι:=Nat×List AV×List AV×List aa×List aa) (λ q=>q.1<=9/\LD q.2.1 q.2.2.2.1/\LD q.2.2.1 q.2.2.2.2/\(q.2.2.2.1.map aa.wt).sum<=80000+10*q.1/\(q.2.2.2.2.map aa.wt).sum<=80000+10*q.1/\q.2.2.2.1.length<=8+q.1/\q.2.2.2.2.length<=8+q.1) (λ q=>[.sl q.2.1,.sl q.2.2.1,au (q.1:Nat)]) (λ q=>9- q.1) (0,a.map aa.av,b.map aa.av,a,b) ⟨by simp,.of a,.of b,by simp only;omega,by simp only;omega,by simp only;omega,by simp only;omega⟩ rfl ?_;rintro⟨i,us,vs,a',b'⟩ ⟨q1,q2,q3,q4,q5,q6,q7⟩;simp only at q1 q2 q3 q4 q5 q6 q7;have ul:=q2.len;have vl:=q3.len;simp only[WA];refine aG (λ hq=> ?_) (λ hq=> ?_)
    ·simp(disch:=omega) only[aH,length_cons,length_nil,WA,reduceAdd,reduceLeDiff];refine⟨λ y hy=>by rw[hy];rfl,by omega,by omega,λ y hy=>by rw[hy];rfl,by omega,by omega,(i+1,_,_,a'++ [cN (i:Nat)],b'++ [.mk 6 0 ⟨#[]⟩ [cN ((i+1:Nat):Int),cN ((i+1:Nat):Int)]]),⟨by show i+1<=9;omega,q2.app leY rfl,q3.app (ax6 _) rfl,?_,?_,?_,?_⟩,by show 9- (i+1)<9- i;omega,rfl⟩
     ·simp only[map_append,sum_append,map_cons,map_nil,sum_cons,sum_nil,ajf];omega
     ·simp only[map_append,sum_append,map_cons,map_nil,sum_cons,sum_nil,atP];omega
     ·simp only[length_append,length_cons,length_nil];omega
     ·simp only[length_append,length_cons,length_nil];omega
    ·simp only[WA];exact⟨c2,10,us,vs,a',b',hc2,by unfold l8;omega,q2,q3,by omega,by omega,by omega,by omega,rfl⟩
   simp only[WA];refine aG (λ hq=> ?_) (λ hq=> ?_)
   ·simp only[WA];refine eh (ι:=cB×List AV×List AV×List aa×List aa) (λ q=>q.1.ok/\LD q.2.1 q.2.2.2.1/\LD q.2.2.1 q.2.2.2.2/\(q.2.2.2.1.map aa.wt).sum<=80000/\(q.2.2.2.2.map aa.wt).sum<=80000/\q.2.2.2.1.length<=201/\q.2.2.2.2.length=q.2.2.2.1.length) (λ q=>[.sl (j8 q.1.l),au q.1.i,au q.1.h,.sl q.2.1,.sl q.2.2.1]) (λ q=>201- q.2.2.2.1.length) (c2,a.map aa.av,b.map aa.av,a,b) ⟨hc2,.of a,.of b,by simp only;omega,by simp only;omega,by simp only;omega,by simp only;omega⟩ rfl ?_;rintro⟨c3,us,vs,a',b'⟩ ⟨q1,q2,q3,q4,q5,q6,q7⟩;simp only at q1 q2 q3 q4 q5 q6 q7;have ul:=q2.len;have vl:=q3.len;simp only[WA];refine gN q1 _ (by omega) λ k c4 k0 k1 hc4=> ?_
    have e1:IntKind.i64.wrap (200+k)=200+k:=bh (by omega) (by omega);simp only[e1,WA];refine aG (λ hq=> ?_) (λ hq=> ?_)
    ·simp(disch:=omega) only[length_cons,length_nil,WA,reduceAdd,reduceLeDiff];refine⟨λ y hy=>by rw[hy];rfl,by omega,by omega,λ y hy=>by rw[hy];rfl,by omega,by omega,(c4,_,_,a'++ [.mk 1 0 ⟨#[]⟩ []],b'++ [.mk 1 0 ⟨#[]⟩ []]),⟨hc4,q2.app leY rfl,q3.app leY rfl,?_,?_,?_,?_⟩,?_,rfl⟩
     ·simp only[map_append,sum_append,map_cons,map_nil,sum_cons,sum_nil,hz];omega
     ·simp only[map_append,sum_append,map_cons,map_nil,sum_cons,sum_nil,hz];omega
     ·simp only[length_append,length_cons,length_nil];omega
     ·simp only[length_append,length_cons,length_nil];omega
     ·simp only[length_append,length_cons,length_nil];omega
    ·simp only[WA];exact⟨c4,m,us,vs,a',b',hc4,by unfold l8;omega,q2,q3,by omega,by omega,by omega,by omega,rfl⟩
   ·simp only[WA];exact⟨c2,m,_,_,a,b,hc2,by unfold l8;omega,.of a,.of b,by omega,by omega,by omega,by omega,rfl⟩
  ·rintro ws ⟨c',m,us,vs,a,b,r1,r2,r3,r4,r5,r6,r7,r8,rfl⟩ _;simp only[WA];unfold uM ex;exact⟨_,rfl,⟨m,us,vs,a,b,r2,r3,r4,r5,r6,r7,r8,rfl⟩,rfl⟩
 obtain⟨outs,_,⟨m,us,vs,a,b,h1,h2,h3,h4,h5,h6,h7,rfl⟩,h⟩:=key;refine⟨m,a,b,h1,h4,h5,h6,h7,?_⟩;refine a7.aA6 (T.su rfl (by simp[AV.ae,AV.ag,bj]) h) rfl λ i x y hx hy=> ?_
 rcases i with _|_|_|i<;>simp at hx hy<;>subst hx<;>subst hy
 ·exact .refl _
 ·exact h2.sl
 ·exact h3.sl
end Go.Proofs.Ab
