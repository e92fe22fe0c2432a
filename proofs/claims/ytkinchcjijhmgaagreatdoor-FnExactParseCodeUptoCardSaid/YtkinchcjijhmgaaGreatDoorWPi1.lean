/-
  TEXTS OF CODE PARSED BY THE PROGRAM: the library's cuts at one byte.
-/
import Derived.Test.YtkinchcjijhmgaaGreatDoorPShelf
import Derived.Test.YtkinchcjijhmgaaGreatDoorPShelfC
import Derived.Test.YtkinchcjijhmgaaGreatDoorGM
import Derived.Test.YtkinchcjijhmgaaGreatDoorPCode
open Int(toNat_natCast toNat_zero)
open Nat(le_refl)
open List(length_append length_cons length_nil)
open Nat(reduceEqDiff reduceLeDiff reduceAdd reduceLT reduceMul)
set_option linter.unusedVariables false
set_option linter.unusedSimpArgs false
namespace Go.Proofs.Ab
open Go.Ab
set_option maxRecDepth 100000
theorem alc(s:ByteArray)(c:UInt8):aI Tryz.prog F.strings_Index [bE s,bE ⟨#[c]⟩] (br (Lib.indexByte s.data.toList c)):=
 aI.of_same (P:=Tryz.prog) (f:=F.strings_Index) (xs:=[.string s,.string ⟨#[c]⟩]) (Go.Ab.enters_of (by kernel_rfl)) rfl (λ w=>Tryz.strings_Index_one s c w)
theorem aii(s:ByteArray)(c:UInt8):aI Tryz.prog F.eS [bE s,bE ⟨#[c]⟩] (br (Lib.indexByte s.data.toList c)):=
 aI.of_same (P:=Tryz.prog) (f:=F.eS) (xs:=[.string s,.string ⟨#[c]⟩]) (Go.Ab.enters_of (by kernel_rfl)) rfl (λ w=>Tryz.stringslite_Index_one s c w)
theorem amk(s:ByteArray)(c:UInt8):aI Tryz.prog F.strings_Count [bE s,bE ⟨#[c]⟩] (br (Lib.countByte s.data.toList c)):=
 aI.of_same (P:=Tryz.prog) (f:=F.strings_Count) (xs:=[.string s,.string ⟨#[c]⟩]) (Go.Ab.enters_of (by kernel_rfl)) rfl (λ w=>Tryz.strings_Count_one s c w)
theorem acO(c:UInt8)(s:ByteArray):Lib.indexByte s.data.toList c=match(aC c s).2 with|none=> -1|some _=>((aC c s).1.size:Int):=by
 refine Eq.trans ?_ (oz c s)
 show _=Lib.index s.data.toList [c];rw[Lib.index_one]
theorem aml(c:UInt8)(s:ByteArray):Lib.countByte s.data.toList c=Lib.countB s ⟨#[c]⟩:=(Lib.count_one c _).symm
theorem ago(ps:List ByteArray)(k:Nat)(w:ByteArray):(ps.map bE++List.replicate (k+1) (bE ⟨#[]⟩)).set ps.length (bE w)=(ps++ [w]).map bE++List.replicate k (bE ⟨#[]⟩):=by
 rw[List.set_append_right _ _ (by rw[List.length_map];exact le_refl _),List.length_map,Nat.sub_self,List.replicate_succ,List.set_cons_zero];rw[List.map_append,List.append_assoc];rfl
theorem uQ(s:ByteArray)(c:UInt8)(hs:s.size<=1048576)(n:Int)(hn0:n≠0)(N:Nat)(hN:N=if n<0 then Lib.countB s ⟨#[c]⟩+1 else n.toNat)(hn1:n<=9223372036854775807):
  aI Tryz.prog F.strings_genSplit [bE s,bE ⟨#[c]⟩,br 0,br n] (.sl ((Lib.splitB ⟨#[c]⟩ 0 (min N (s.size+1)- 1) s).map bE)):=by
 have lX:=Lib.countB_le ⟨#[c]⟩ (le_refl _) s.size s (le_refl _);have sn:(⟨#[c]⟩:ByteArray).size=1:=rfl;have cr:decide ((⟨#[c]⟩:ByteArray)=⟨#[]⟩)=false:=decide_eq_false (by intro h;exact absurd (congrArg ByteArray.size h) (by rw[sn];decide));have axQ:decide (n=0)=false:=decide_eq_false hn0;refine T.oa rfl rfl ?_;simp only[T.strings_genSplit,cr,axQ,WA,reduceEqDiff,reduceAdd,reduceLT,reduceLeDiff,reduceMul,reduceIte,reduceCtorEq,Int.reduceEq,Int.reduceLT,Int.reduceLE,Int.reduceNe];refine bw [br N] rfl ?_ ?_
 ·simp only[WA,reduceEqDiff,reduceAdd,reduceLT,reduceLeDiff,reduceMul,reduceIte,reduceCtorEq,Int.reduceEq,Int.reduceLT,Int.reduceLE,Int.reduceNe];refine aq (λ h=> ?_) (λ h=> ?_)
  ·rw[if_pos h]at hN;refine bj (x:= .int .i64 (N- 1:Nat)) ?_ ?_
   ·have:=amk s c;rw[aml]at this;rw[hN];exact this
   ·have e:((N- 1+1:Nat):Int)=N:=by omega
    simp(disch:=omega) only[dU,aD,e,WA,reduceEqDiff,reduceAdd,reduceLT,reduceLeDiff,reduceMul,reduceIte,reduceCtorEq,Int.reduceEq,Int.reduceLT,Int.reduceLE,Int.reduceNe]
  ·rw[if_neg h]at hN;simp only[WA,reduceEqDiff,reduceAdd,reduceLT,reduceLeDiff,reduceMul,reduceIte,reduceCtorEq,Int.reduceEq,Int.reduceLT,Int.reduceLE,Int.reduceNe];rw[hN,Int.toNat_of_nonneg (by omega)]
 ·have hN1:1<=N:=by
    rw[hN];split<;>omega
  have hNb:(N:Int)<=9223372036854775807:=by
   rw[hN];split<;>omega
  obtain⟨M,hM⟩:∃M:Nat,M=min N (s.size+1):=⟨_,rfl⟩;have arU:(if((s.size+1:Nat):Int)<(N:Int)then((s.size+1:Nat):Int)else(N:Int))=(M:Int):=by rw[hM];split<;>omega
  have hM1:1<=M:=by rw[hM];omega
  have hMs:M<=s.size+1:=by rw[hM];omega
  have hMw:IntKind.i64.wrap ((M:Int)- 1)=((M- 1:Nat):Int):=by rw[gv (by omega) (by omega)];omega
  have ayp:((16:Nat):Int)=16:=rfl;rw[←hM];generalize hR:(Lib.splitB ⟨#[c]⟩ 0 (M- 1) s)=R;simp(disch:=omega) only[aD,arU,hMw,ayp,toNat_natCast,WA,reduceEqDiff,reduceAdd,reduceLT,reduceLeDiff,reduceMul,reduceIte,reduceCtorEq,Int.reduceEq,Int.reduceLT,Int.reduceLE,Int.reduceNe]
  repeat (refine And.intro (by omega) ?_)
  have auU:∀(a b:ByteArray),lN (bE a) 0 (bE b)=bE b:=λ _ _=>rfl
  refine dx (λ vs=>∃(ps:List ByteArray) (r:ByteArray),ps.length<=M- 1/\R=ps++ [r]/\vs= [.sl (ps.map bE++List.replicate (M- ps.length) (bE ⟨#[]⟩)),bE r,br ps.length]) ?_ ?_
  ·simp only[WA,reduceEqDiff,reduceAdd,reduceLT,reduceLeDiff,reduceMul,reduceIte,reduceCtorEq,Int.reduceEq,Int.reduceLT,Int.reduceLE,Int.reduceNe]
   refine cM (ι:=List ByteArray×ByteArray) (λ q=>q.1.length<=M- 1/\q.2.size<=s.size/\R=q.1++Lib.splitB ⟨#[c]⟩ 0 (M- 1- q.1.length) q.2)
    (λ q=>[.sl (q.1.map bE++List.replicate (M- q.1.length) (bE ⟨#[]⟩)),bE q.2,br q.1.length]) (λ q=>M- q.1.length) ([],s) ⟨Nat.zero_le _,le_refl _,hR.symm⟩ rfl ?_
   rintro⟨ps,r⟩ ⟨hp,hr,hI⟩;simp only at hp hr hI;simp only[WA,reduceEqDiff,reduceAdd,reduceLT,reduceLeDiff,reduceMul,reduceIte,reduceCtorEq,Int.reduceEq,Int.reduceLT,Int.reduceLE,Int.reduceNe];refine aq (λ h=> ?_) (λ h=> ?_)
   ·have alr:M- ps.length=(M- ps.length- 1)+1:=by omega
    have hlen:(ps.map bE++List.replicate (M- ps.length) (bE ⟨#[]⟩)).length=M:=by simp;omega
    have mV:∀w:ByteArray,(ps.map bE++List.replicate (M- ps.length) (bE ⟨#[]⟩)).set ps.length (bE w)=(ps++ [w]).map bE++List.replicate (M- ps.length- 1) (bE ⟨#[]⟩):=λ w=>by
     rw[alr,ago];rfl
    have dc:(ps.map bE++List.replicate (M- ps.length) (bE ⟨#[]⟩)).getD ps.length .top=bE ⟨#[]⟩:=by
     rw[alr,List.replicate_succ];simp[List.getD]
    have hM2:M- 1- ps.length=(M- 1- ps.length- 1)+1:=by omega
    rw[hM2,jA]at hI;have mD:=acO c r;have cQ:=alc r c;simp only[WA,reduceEqDiff,reduceAdd,reduceLT,reduceLeDiff,reduceMul,reduceIte,reduceCtorEq,Int.reduceEq,Int.reduceLT,Int.reduceLE,Int.reduceNe];rcases hn:aC c r with⟨w,_|r'⟩
    ·rw[hn]at hI mD;simp only at hI mD;rw[mD]at cQ;refine bj cQ ?_;simp only[WA,reduceEqDiff,reduceAdd,reduceLT,reduceLeDiff,reduceMul,reduceIte,reduceCtorEq,Int.reduceEq,Int.reduceLT,Int.reduceLE,Int.reduceNe];exact⟨ps,r,by omega,hI,rfl⟩
    ·rw[hn]at hI mD;simp only at hI mD;rw[mD]at cQ;obtain⟨_,rfl⟩:=cj hn;refine bj cQ ?_;have lj:(w++(⟨#[c]⟩++r')).size=w.size+1+r'.size:=by rw[aL,aL,sn];omega
     have hw0:IntKind.i64.wrap ((w.size:Int)+0)=(w.size:Int):=by rw[gv (by omega) (by omega)];omega
     have hw1:IntKind.i64.wrap ((w.size:Int)+((⟨#[c]⟩:ByteArray).size:Int))=((w.size+1:Nat):Int):=by rw[sn];exact aD (by omega)
     have hw2:IntKind.i64.wrap ((ps.length:Int)+1)=((ps.length+1:Nat):Int):=aD (by omega);have e1:=yn w (⟨#[c]⟩++r');have e2:=pg w r' c;simp only[lh,dc,auU,mV,hlen,hw0,hw1,hw2,toNat_natCast,toNat_zero,e1,e2,WA,reduceEqDiff,reduceAdd,reduceLT,reduceLeDiff,reduceMul,reduceIte,reduceCtorEq,Int.reduceEq,Int.reduceLT,Int.reduceLE,Int.reduceNe]
     repeat (refine And.intro (by omega) ?_)
     refine⟨(ps++ [w],r'),⟨?_,?_,?_⟩,?_,?_⟩
     ·simp only[length_append,length_cons,length_nil];omega
     ·simp only;omega
     ·rw[hI];simp only[length_append,length_cons,length_nil,List.append_assoc,List.cons_append,List.nil_append];congr 3
     ·simp only[length_append,length_cons,length_nil];omega
     ·simp only[length_append,length_cons,length_nil,Nat.zero_add,Nat.sub_sub]
   ·simp only[WA,reduceEqDiff,reduceAdd,reduceLT,reduceLeDiff,reduceMul,reduceIte,reduceCtorEq,Int.reduceEq,Int.reduceLT,Int.reduceLE,Int.reduceNe];have he:ps.length=M- 1:=by omega
    exact⟨ps,r,by omega,by rw[hI,he,Nat.sub_self];rfl,rfl⟩
  ·rintro vs ⟨ps,r,hp,hR2,rfl⟩ _;have alr:M- ps.length=(M- ps.length- 1)+1:=by omega
   have hlen:(ps.map bE++List.replicate (M- ps.length) (bE ⟨#[]⟩)).length=M:=by simp;omega
   have mV:∀w:ByteArray,(ps.map bE++List.replicate (M- ps.length) (bE ⟨#[]⟩)).set ps.length (bE w)=(ps++ [w]).map bE++List.replicate (M- ps.length- 1) (bE ⟨#[]⟩):=λ w=>by
    rw[alr,ago];rfl
   have dc:(ps.map bE++List.replicate (M- ps.length) (bE ⟨#[]⟩)).getD ps.length .top=bE ⟨#[]⟩:=by
    rw[alr,List.replicate_succ];simp[List.getD]
   have fin:∀x:ByteArray,((ps++ [x]).map bE++List.replicate (M- ps.length- 1) (bE ⟨#[]⟩)).take (ps.length+1)=(ps++ [x]).map bE:=λ x=>by
    rw[List.take_append_of_le_length (by simp),List.take_of_length_le (by simp)]
   have hw2:IntKind.i64.wrap ((ps.length:Int)+1)=((ps.length+1:Nat):Int):=aD (by omega);have ayK:((ps++ [r]).map bE++List.replicate (M- ps.length- 1) (bE ⟨#[]⟩)).length=M:=by simp;omega
   simp only[dc,auU,mV,hlen,hw2,fin,ayK,toNat_natCast,toNat_zero,List.drop_zero,WA,reduceEqDiff,reduceAdd,reduceLT,reduceLeDiff,reduceMul,reduceIte,reduceCtorEq,Int.reduceEq,Int.reduceLT,Int.reduceLE,Int.reduceNe]
   repeat (refine And.intro (by omega) ?_)
   refine⟨?_,by rw[hR2]⟩;intro y hy;rcases List.mem_append.1 hy with hy|hy
   ·obtain⟨x,_,rfl⟩:=List.mem_map.1 hy;rfl
   ·obtain⟨_,rfl⟩:=List.mem_replicate.1 hy;rfl
theorem ach(s:ByteArray)(c:UInt8)(hs:s.size<=1048576):aI Tryz.prog F.strings_Split [bE s,bE ⟨#[c]⟩] (.sl ((df c s).map bE)):=by
 have lX:=Lib.countB_le ⟨#[c]⟩ (le_refl _) s.size s (le_refl _);have h:=uQ s c hs (-1) (by omega) _ rfl (by omega);have e:min (Lib.countB s ⟨#[c]⟩+1) (s.size+1)- 1=Lib.countB s ⟨#[c]⟩:=by omega
 simp only[if_pos (show(-1:Int)<0 by omega),e]at h;refine T.re rfl rfl ?_;simp only[T.strings_Split,WA,reduceEqDiff,reduceAdd,reduceLT,reduceLeDiff,reduceMul,reduceIte,reduceCtorEq,Int.reduceEq,Int.reduceLT,Int.reduceLE,Int.reduceNe];refine eo h (by simp only[AV.ag];exact bu λ _=>rfl) ?_;simp only[WA,reduceEqDiff,reduceAdd,reduceLT,reduceLeDiff,reduceMul,reduceIte,reduceCtorEq,Int.reduceEq,Int.reduceLT,Int.reduceLE,Int.reduceNe]
 rfl
theorem ahk(s:ByteArray)(c:UInt8)(hs:s.size<=1048576)(n:Nat)(h1:1<=n)(hn:n<=1048576):aI Tryz.prog F.strings_SplitN [bE s,bE ⟨#[c]⟩,br n] (.sl ((Lib.splitB ⟨#[c]⟩ 0 (n- 1) s).map bE)):=by
 have h:=uQ s c hs n (by omega) _ rfl (by omega);rw[if_neg (by omega),toNat_natCast,ahi c n s h1]at h;refine T.pZ rfl rfl ?_;simp only[T.strings_SplitN,WA,reduceEqDiff,reduceAdd,reduceLT,reduceLeDiff,reduceMul,reduceIte,reduceCtorEq,Int.reduceEq,Int.reduceLT,Int.reduceLE,Int.reduceNe];refine eo h (by simp only[AV.ag];exact bu λ _=>rfl) ?_;simp only[WA,reduceEqDiff,reduceAdd,reduceLT,reduceLeDiff,reduceMul,reduceIte,reduceCtorEq,Int.reduceEq,Int.reduceLT,Int.reduceLE,Int.reduceNe]
theorem asw(s:ByteArray)(c:UInt8)(hs:s.size<=1048576):aI Tryz.prog F.strings_Cut [bE s,bE ⟨#[c]⟩] (.aK [bE (aC c s).1,bE ((aC c s).2.getD ⟨#[]⟩),.v (.bool (aC c s).2.isSome)]):=by
 have sn:(⟨#[c]⟩:ByteArray).size=1:=rfl
 have h:aI Tryz.prog F.bY [bE s,bE ⟨#[c]⟩] (.aK [bE (aC c s).1,bE ((aC c s).2.getD ⟨#[]⟩),.v (.bool (aC c s).2.isSome)]):=by
  refine T.kA rfl rfl ?_;have mD:=acO c s;have cQ:=aii s c;simp only[T.bY,WA,reduceEqDiff,reduceAdd,reduceLT,reduceLeDiff,reduceMul,reduceIte,reduceCtorEq,Int.reduceEq,Int.reduceLT,Int.reduceLE,Int.reduceNe];rcases hn:aC c s with⟨w,_|r'⟩
  ·rw[hn]at mD;simp only at mD;rw[mD]at cQ;obtain⟨_,rfl⟩:=fj hn;refine bj cQ ?_;simp only[show decide ((-1:Int)≥0)=false from rfl,WA,reduceEqDiff,reduceAdd,reduceLT,reduceLeDiff,reduceMul,reduceIte,reduceCtorEq,Int.reduceEq,Int.reduceLT,Int.reduceLE,Int.reduceNe]
   rfl
  ·rw[hn]at mD;simp only at mD;rw[mD]at cQ;obtain⟨_,rfl⟩:=cj hn;refine bj cQ ?_;have lj:(w++(⟨#[c]⟩++r')).size=w.size+1+r'.size:=by rw[aL,aL,sn];omega
   have hw1:IntKind.i64.wrap ((w.size:Int)+((⟨#[c]⟩:ByteArray).size:Int))=((w.size+1:Nat):Int):=by rw[sn];exact aD (by omega)
   have e1:=yn w (⟨#[c]⟩++r');have e2:=pg w r' c;have ge:decide ((w.size:Int)≥0)=true:=decide_eq_true (by omega);simp only[ge,hw1,toNat_natCast,toNat_zero,e1,e2,WA,reduceEqDiff,reduceAdd,reduceLT,reduceLeDiff,reduceMul,reduceIte,reduceCtorEq,Int.reduceEq,Int.reduceLT,Int.reduceLE,Int.reduceNe]
   repeat (refine And.intro (by omega) ?_)
   rfl
 refine T.vb rfl rfl ?_;simp only[T.strings_Cut,WA,reduceEqDiff,reduceAdd,reduceLT,reduceLeDiff,reduceMul,reduceIte,reduceCtorEq,Int.reduceEq,Int.reduceLT,Int.reduceLE,Int.reduceNe];refine eo h rfl ?_;simp only[WA,reduceEqDiff,reduceAdd,reduceLT,reduceLeDiff,reduceMul,reduceIte,reduceCtorEq,Int.reduceEq,Int.reduceLT,Int.reduceLE,Int.reduceNe]
def gA(c:UInt8)(s:ByteArray):Bool:=decide (s.data.toList.head?=some c)
theorem ait(c:UInt8)(s:ByteArray)(h:0<s.size):decide (s.extract 0 1=⟨#[c]⟩)=gA c s:=by
 have e:s.extract 0 1=⟨(s.data.toList.take 1).toArray⟩:=by rw[Lib.extract_eq];simp
 rw[e];unfold gA;rw[Lib.size_eq]at h;cases hl:s.data.toList with
 |nil=>rw[hl]at h;simp at h
 |cons x r=>simp
theorem zC(s:ByteArray)(c:UInt8)(hs:s.size<=1048576):aI Tryz.prog F.aR [bE s,bE ⟨#[c]⟩] (.v (.bool (gA c s))):=by
 have sn:(⟨#[c]⟩:ByteArray).size=1:=rfl;refine T.eP rfl rfl ?_;simp only[T.aR,WA,reduceEqDiff,reduceAdd,reduceLT,reduceLeDiff,reduceMul,reduceIte,reduceCtorEq,Int.reduceEq,Int.reduceLT,Int.reduceLE,Int.reduceNe];refine bw [.v (.bool (gA c s))] rfl ?_ ?_
 ·simp only[sn,WA,reduceEqDiff,reduceAdd,reduceLT,reduceLeDiff,reduceMul,reduceIte,reduceCtorEq,Int.reduceEq,Int.reduceLT,Int.reduceLE,Int.reduceNe];refine aq (λ h=> ?_) (λ h=> ?_)
  ·simp only[sn,toNat_zero,show(((1:Nat):Int)).toNat=1 from rfl,ait c s (by omega),WA,reduceEqDiff,reduceAdd,reduceLT,reduceLeDiff,reduceMul,reduceIte,reduceCtorEq,Int.reduceEq,Int.reduceLT,Int.reduceLE,Int.reduceNe]
   repeat (first|refine⟨by omega,?_⟩|omega|rfl)
  ·have:gA c s=false:=by
     have h0:s.data.toList.length=0:=by rw[←Lib.size_eq];omega
     unfold gA;rw[List.eq_nil_of_length_eq_zero h0];rfl
   simp only[this,WA,reduceEqDiff,reduceAdd,reduceLT,reduceLeDiff,reduceMul,reduceIte,reduceCtorEq,Int.reduceEq,Int.reduceLT,Int.reduceLE,Int.reduceNe]
 ·simp only[WA,reduceEqDiff,reduceAdd,reduceLT,reduceLeDiff,reduceMul,reduceIte,reduceCtorEq,Int.reduceEq,Int.reduceLT,Int.reduceLE,Int.reduceNe]
theorem aby(s:ByteArray)(c:UInt8)(hs:s.size<=1048576):aI Tryz.prog F.cS [bE s,bE ⟨#[c]⟩] (.v (.bool (gA c s))):=by
 refine T.nO rfl rfl ?_;simp only[T.cS,WA,reduceEqDiff,reduceAdd,reduceLT,reduceLeDiff,reduceMul,reduceIte,reduceCtorEq,Int.reduceEq,Int.reduceLT,Int.reduceLE,Int.reduceNe];refine bj (zC s c hs) ?_;simp only[dU,WA,reduceEqDiff,reduceAdd,reduceLT,reduceLeDiff,reduceMul,reduceIte,reduceCtorEq,Int.reduceEq,Int.reduceLT,Int.reduceLE,Int.reduceNe]
def qS(c:UInt8)(s:ByteArray):ByteArray:=if gA c s=true then s.extract 1 s.size else s
theorem abK(s:ByteArray)(c:UInt8)(hs:s.size<=1048576):aI Tryz.prog F.cT [bE s,bE ⟨#[c]⟩] (.aK [bE (qS c s),.v (.bool (gA c s))]):=by
 have sn:(⟨#[c]⟩:ByteArray).size=1:=rfl
 have h:aI Tryz.prog F.bk [bE s,bE ⟨#[c]⟩] (.aK [bE (qS c s),.v (.bool (gA c s))]):=by
  refine T.iZ rfl rfl ?_;simp only[T.bk,WA,reduceEqDiff,reduceAdd,reduceLT,reduceLeDiff,reduceMul,reduceIte,reduceCtorEq,Int.reduceEq,Int.reduceLT,Int.reduceLE,Int.reduceNe];refine bj (zC s c hs) ?_;cases hb:gA c s with
  |false=>
   have hc:qS c s=s:=by unfold qS;rw[hb];rfl
   simp only[dU,hc,Bool.not_false,WA,reduceEqDiff,reduceAdd,reduceLT,reduceLeDiff,reduceMul,reduceIte,reduceCtorEq,Int.reduceEq,Int.reduceLT,Int.reduceLE,Int.reduceNe]
  |true=>
   have h1:1<=s.size:=by
    unfold gA at hb;rw[Lib.size_eq];cases hl:s.data.toList with
    |nil=>rw[hl]at hb;simp at hb
    |cons x r=>simp
   have hc:qS c s=s.extract 1 s.size:=by unfold qS;rw[hb];rfl
   simp only[dU,hc,sn,Bool.not_true,show(((1:Nat):Int)).toNat=1 from rfl,toNat_natCast,WA,reduceEqDiff,reduceAdd,reduceLT,reduceLeDiff,reduceMul,reduceIte,reduceCtorEq,Int.reduceEq,Int.reduceLT,Int.reduceLE,Int.reduceNe]
   repeat (first|refine⟨by omega,?_⟩|omega|rfl)
 refine T.nP rfl rfl ?_;simp only[T.cT,WA,reduceEqDiff,reduceAdd,reduceLT,reduceLeDiff,reduceMul,reduceIte,reduceCtorEq,Int.reduceEq,Int.reduceLT,Int.reduceLE,Int.reduceNe];refine eo h rfl ?_;simp only[WA,reduceEqDiff,reduceAdd,reduceLT,reduceLeDiff,reduceMul,reduceIte,reduceCtorEq,Int.reduceEq,Int.reduceLT,Int.reduceLE,Int.reduceNe]
end Go.Proofs.Ab
