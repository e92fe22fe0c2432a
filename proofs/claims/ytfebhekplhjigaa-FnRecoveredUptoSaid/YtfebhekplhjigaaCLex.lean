/-
  BYTES, NAMES, WORDS: what the lexer's small tests compute.
-/
import Derived.Test.YtfebhekplhjigaaH
import Derived.Test.YtfebhekplhjigaaSL
open List(all_cons getElem_mem)
open Nat(reduceEqDiff reduceLeDiff reduceAdd reduceLT reduceMul)
set_option linter.unusedVariables false
set_option linter.unusedSimpArgs false
namespace Go.Ab
set_option maxRecDepth 100000
set_option maxHeartbeats 4000000
def ld(n lo hi:Int):Bool:=decide (lo<=n)&&decide (n<=hi)
def kA(c:Int):Bool:=ld c 97 122||ld c 65 90||ld c 48 57||decide (c=95)
def sB(f:Int->Bool):List Int->Bool
 | []=>false
 |c::r=>decide (r.length+1<=12)&&f c&&(c::r).all kA
def kg(f:Int->Bool)(s:ByteArray):Bool:=sB f (bs s)
def oR:List ByteArray:=[⟨#[116,121,112,101]⟩,⟨#[111,102]⟩,⟨#[108,101,116]⟩,⟨#[114,101,99]⟩,⟨#[105,110]⟩,⟨#[102,117,110]⟩,⟨#[105,102]⟩,⟨#[116,104,101,110]⟩,⟨#[101,108,115,101]⟩,⟨#[109,97,116,99,104]⟩,⟨#[119,105,116,104]⟩,⟨#[101,110,100]⟩,⟨#[116,114,117,101]⟩,⟨#[102,97,108,115,101]⟩,⟨#[114,101,102]⟩,⟨#[114,101,97,100]⟩,⟨#[112,114,105,110,116]⟩,⟨#[101,120,105,116]⟩,⟨#[115,105,122,101]⟩]
def abP(s:ByteArray):Bool:=oR.any λ y=>decide (s=y)
def afX(s:ByteArray):Bool:=kg (λ c=>ld c 97 122) s&& !abP s
theorem adt(f:Int->Bool){l:List Int}(h:0<l.length)(h12:l.length<=12):sB f l=(f l[0]&&l.all kA):=by
 cases l with
 |nil=>simp at h
 |cons c r=>simp only[List.length_cons]at h12;simp only[sB,List.getElem_cons_zero,decide_eq_true h12,Bool.true_and]
theorem akt{α:Type}(p:α->Bool):∀l:List α,decide ((l.takeWhile p).length=l.length)=l.all p
 | []=>rfl
 |x::l=>by
  simp only[List.takeWhile_cons,all_cons]
  split
  ·rename_i h;simp[h,←akt p l]
  ·rename_i h;simp[h]
end Go.Ab
namespace Go.Proofs.Ab
open Go.Ab
set_option maxRecDepth 100000
set_option maxHeartbeats 4000000
theorem ky(n lo hi:Int):a7 Try.prog F.fB [aA n,aA lo,aA hi] (.v (.bool (ld n lo hi))):=by
 refine T.zl rfl rfl ?_;simp only[T.fB,WA,reduceEqDiff,reduceAdd,reduceLT,reduceLeDiff,reduceMul,reduceIte,reduceCtorEq,Int.reduceEq,Int.reduceLT,Int.reduceLE,Int.reduceNe]
 repeat' (first|(simp(disch:=omega) only[WA,reduceEqDiff,reduceAdd,reduceLT,reduceLeDiff,reduceMul,reduceIte,reduceCtorEq,Int.reduceEq,Int.reduceLT,Int.reduceLE,Int.reduceNe])|(refine aE (λ _=> ?_) (λ _=> ?_))|(refine a8 (λ _=> ?_) (λ _=> ?_))|(refine aD (λ _=> ?_) (λ _=> ?_))|(refine aB ?_))
 all_goals simp[ld, *]
theorem kh(n lo hi:Int):a7 Try.prog F.fh [aA n,aA lo,aA hi] (.v (.bool (ld n lo hi))):=by
 refine T.vv rfl rfl ?_;simp only[T.fh,WA,reduceEqDiff,reduceAdd,reduceLT,reduceLeDiff,reduceMul,reduceIte,reduceCtorEq,Int.reduceEq,Int.reduceLT,Int.reduceLE,Int.reduceNe]
 repeat' (first|(simp(disch:=omega) only[WA,reduceEqDiff,reduceAdd,reduceLT,reduceLeDiff,reduceMul,reduceIte,reduceCtorEq,Int.reduceEq,Int.reduceLT,Int.reduceLE,Int.reduceNe])|(refine aE (λ _=> ?_) (λ _=> ?_))|(refine a8 (λ _=> ?_) (λ _=> ?_))|(refine aD (λ _=> ?_) (λ _=> ?_))|(refine aB ?_))
 all_goals simp[ld, *]
theorem sP(c:Int):a7 Try.prog F.gT [.v (.int .u8 c)] (.v (.bool (ld c 97 122))):=by
 refine T.xZ rfl rfl ?_;simp only[T.gT,WA,reduceEqDiff,reduceAdd,reduceLT,reduceLeDiff,reduceMul,reduceIte,reduceCtorEq,Int.reduceEq,Int.reduceLT,Int.reduceLE,Int.reduceNe]
 repeat' (first|(simp(disch:=omega) only[WA,reduceEqDiff,reduceAdd,reduceLT,reduceLeDiff,reduceMul,reduceIte,reduceCtorEq,Int.reduceEq,Int.reduceLT,Int.reduceLE,Int.reduceNe])|(refine aE (λ _=> ?_) (λ _=> ?_))|(refine a8 (λ _=> ?_) (λ _=> ?_))|(refine aD (λ _=> ?_) (λ _=> ?_))|(refine aB ?_))
 all_goals simp[ld, *]
theorem ab2(c:Int):a7 Try.prog F.iY [.v (.int .u8 c)] (.v (.bool (ld c 65 90))):=by
 refine T.x8 rfl rfl ?_;simp only[T.iY,WA,reduceEqDiff,reduceAdd,reduceLT,reduceLeDiff,reduceMul,reduceIte,reduceCtorEq,Int.reduceEq,Int.reduceLT,Int.reduceLE,Int.reduceNe]
 repeat' (first|(simp(disch:=omega) only[WA,reduceEqDiff,reduceAdd,reduceLT,reduceLeDiff,reduceMul,reduceIte,reduceCtorEq,Int.reduceEq,Int.reduceLT,Int.reduceLE,Int.reduceNe])|(refine aE (λ _=> ?_) (λ _=> ?_))|(refine a8 (λ _=> ?_) (λ _=> ?_))|(refine aD (λ _=> ?_) (λ _=> ?_))|(refine aB ?_))
 all_goals simp[ld, *]
theorem ab6(c:Int):a7 Try.prog F.iZ [.v (.int .u8 c)] (.v (.bool (ld c 48 57))):=by
 refine T.yb rfl rfl ?_;simp only[T.iZ,WA,reduceEqDiff,reduceAdd,reduceLT,reduceLeDiff,reduceMul,reduceIte,reduceCtorEq,Int.reduceEq,Int.reduceLT,Int.reduceLE,Int.reduceNe]
 repeat' (first|(simp(disch:=omega) only[WA,reduceEqDiff,reduceAdd,reduceLT,reduceLeDiff,reduceMul,reduceIte,reduceCtorEq,Int.reduceEq,Int.reduceLT,Int.reduceLE,Int.reduceNe])|(refine aE (λ _=> ?_) (λ _=> ?_))|(refine a8 (λ _=> ?_) (λ _=> ?_))|(refine aD (λ _=> ?_) (λ _=> ?_))|(refine aB ?_))
 all_goals simp[ld, *]
theorem vD(c:Int):a7 Try.prog F.eG [.v (.int .u8 c)] (.v (.bool (kA c))):=by
 refine T.sQ rfl rfl ?_;simp only[T.eG,WA,reduceEqDiff,reduceAdd,reduceLT,reduceLeDiff,reduceMul,reduceIte,reduceCtorEq,Int.reduceEq,Int.reduceLT,Int.reduceLE,Int.reduceNe]
 repeat' (first|(simp(disch:=omega) only[WA,reduceEqDiff,reduceAdd,reduceLT,reduceLeDiff,reduceMul,reduceIte,reduceCtorEq,Int.reduceEq,Int.reduceLT,Int.reduceLE,Int.reduceNe])|(refine aE (λ _=> ?_) (λ _=> ?_))|(refine a8 (λ _=> ?_) (λ _=> ?_))|(refine aD (λ _=> ?_) (λ _=> ?_))|(refine aB ?_)|(refine bn (sP _) ?_)|(refine bn (ab2 _) ?_)|(refine bn (ab6 _) ?_))
 all_goals simp_all [kA]
theorem pt(c:Int):a7 Try.prog F.fa [aA c] (.v (.bool (ld c 65 90))):=by
 refine T.tt rfl rfl ?_;simp only[T.fa,WA,reduceEqDiff,reduceAdd,reduceLT,reduceLeDiff,reduceMul,reduceIte,reduceCtorEq,Int.reduceEq,Int.reduceLT,Int.reduceLE,Int.reduceNe]
 repeat' (first|(simp(disch:=omega) only[WA,reduceEqDiff,reduceAdd,reduceLT,reduceLeDiff,reduceMul,reduceIte,reduceCtorEq,Int.reduceEq,Int.reduceLT,Int.reduceLE,Int.reduceNe])|(refine aE (λ _=> ?_) (λ _=> ?_))|(refine a8 (λ _=> ?_) (λ _=> ?_))|(refine aD (λ _=> ?_) (λ _=> ?_))|(refine aB ?_)|(refine bn (ky _ _ _) ?_))
theorem pv(c:Int):a7 Try.prog F.fb [aA c] (.v (.bool (ld c 97 122))):=by
 refine T.tv rfl rfl ?_;simp only[T.fb,WA,reduceEqDiff,reduceAdd,reduceLT,reduceLeDiff,reduceMul,reduceIte,reduceCtorEq,Int.reduceEq,Int.reduceLT,Int.reduceLE,Int.reduceNe]
 repeat' (first|(simp(disch:=omega) only[WA,reduceEqDiff,reduceAdd,reduceLT,reduceLeDiff,reduceMul,reduceIte,reduceCtorEq,Int.reduceEq,Int.reduceLT,Int.reduceLE,Int.reduceNe])|(refine aE (λ _=> ?_) (λ _=> ?_))|(refine a8 (λ _=> ?_) (λ _=> ?_))|(refine aD (λ _=> ?_) (λ _=> ?_))|(refine aB ?_)|(refine bn (ky _ _ _) ?_))
theorem abf(c:Int):a7 Try.prog F.iN [aA c] (.v (.bool (ld c 48 57))):=by
 refine T.wP rfl rfl ?_;simp only[T.iN,WA,reduceEqDiff,reduceAdd,reduceLT,reduceLeDiff,reduceMul,reduceIte,reduceCtorEq,Int.reduceEq,Int.reduceLT,Int.reduceLE,Int.reduceNe]
 repeat' (first|(simp(disch:=omega) only[WA,reduceEqDiff,reduceAdd,reduceLT,reduceLeDiff,reduceMul,reduceIte,reduceCtorEq,Int.reduceEq,Int.reduceLT,Int.reduceLE,Int.reduceNe])|(refine aE (λ _=> ?_) (λ _=> ?_))|(refine a8 (λ _=> ?_) (λ _=> ?_))|(refine aD (λ _=> ?_) (λ _=> ?_))|(refine aB ?_)|(refine bn (ky _ _ _) ?_))
theorem mE(c:Int):a7 Try.prog F.eb [aA c] (.v (.bool (kA c))):=by
 refine T.qx rfl rfl ?_;simp only[T.eb,WA,reduceEqDiff,reduceAdd,reduceLT,reduceLeDiff,reduceMul,reduceIte,reduceCtorEq,Int.reduceEq,Int.reduceLT,Int.reduceLE,Int.reduceNe]
 repeat' (first|(simp(disch:=omega) only[WA,reduceEqDiff,reduceAdd,reduceLT,reduceLeDiff,reduceMul,reduceIte,reduceCtorEq,Int.reduceEq,Int.reduceLT,Int.reduceLE,Int.reduceNe])|(refine aE (λ _=> ?_) (λ _=> ?_))|(refine a8 (λ _=> ?_) (λ _=> ?_))|(refine aD (λ _=> ?_) (λ _=> ?_))|(refine aB ?_)|(refine bn (pt _) ?_)|(refine bn (pv _) ?_)|(refine bn (abf _) ?_))
 all_goals simp_all [kA]
theorem agc(s:ByteArray)(g:FuncId)(p:Int->Bool)(hg:∀c,0<=c->c<256->a7 Try.prog g [.v (.int .u8 c)] (.v (.bool (p c))))(k:Nat)(hk:k<=s.size)(hs:s.size<=1073741824):
  a7 Try.prog F.ma [ch s,aA k,.fn g []] (aA (k+(((bs s).drop k).takeWhile p).length:Nat)):=by
 have hl:=acv s;refine T.abU rfl rfl ?_;simp only[T.ma,WA,reduceEqDiff,reduceAdd,reduceLT,reduceLeDiff,reduceMul,reduceIte,reduceCtorEq,Int.reduceEq,Int.reduceLT,Int.reduceLE,Int.reduceNe];refine cC [aA (k+(((bs s).drop k).takeWhile p).length:Nat)] rfl ?_ (by simp only[WA,reduceEqDiff,reduceAdd,reduceLT,reduceLeDiff,reduceMul,reduceIte,reduceCtorEq,Int.reduceEq,Int.reduceLT,Int.reduceLE,Int.reduceNe]);simp only[WA,reduceEqDiff,reduceAdd,reduceLT,reduceLeDiff,reduceMul,reduceIte,reduceCtorEq,Int.reduceEq,Int.reduceLT,Int.reduceLE,Int.reduceNe];refine dk (ι:=Nat) (λ i=>i<=s.size/\k+(((bs s).drop k).takeWhile p).length=i+(((bs s).drop i).takeWhile p).length) (λ i=>[aA i]) (λ i=>s.size- i) k ⟨hk,rfl⟩ rfl λ i hi=> ?_
 obtain⟨hi,hI⟩:=hi;simp only[WA,reduceEqDiff,reduceAdd,reduceLT,reduceLeDiff,reduceMul,reduceIte,reduceCtorEq,Int.reduceEq,Int.reduceLT,Int.reduceLE,Int.reduceNe];refine aB ?_;simp only[WA,reduceEqDiff,reduceAdd,reduceLT,reduceLeDiff,reduceMul,reduceIte,reduceCtorEq,Int.reduceEq,Int.reduceLT,Int.reduceLE,Int.reduceNe];refine aB ?_;simp only[WA,reduceEqDiff,reduceAdd,reduceLT,reduceLeDiff,reduceMul,reduceIte,reduceCtorEq,Int.reduceEq,Int.reduceLT,Int.reduceLE,Int.reduceNe];refine aE (λ h=> ?_) (λ h=> ?_)
 ·have aF:i<(bs s).length:=by omega
  obtain⟨c0,c1⟩:=pV (getElem_mem aF);rw[pO aF,List.takeWhile_cons]at hI;simp only[WA,reduceEqDiff,reduceAdd,reduceLT,reduceLeDiff,reduceMul,reduceIte,reduceCtorEq,Int.reduceEq,Int.reduceLT,Int.reduceLE,Int.reduceNe];refine ajb aF ?_;simp only[WA,reduceEqDiff,reduceAdd,reduceLT,reduceLeDiff,reduceMul,reduceIte,reduceCtorEq,Int.reduceEq,Int.reduceLT,Int.reduceLE,Int.reduceNe];refine bn (hg _ c0 c1) ?_;simp only[WA,reduceEqDiff,reduceAdd,reduceLT,reduceLeDiff,reduceMul,reduceIte,reduceCtorEq,Int.reduceEq,Int.reduceLT,Int.reduceLE,Int.reduceNe];refine aD (λ h=> ?_) (λ h=> ?_)
  ·rw[if_pos h]at hI;simp(disch:=omega) only[au,WA,reduceEqDiff,reduceAdd,reduceLT,reduceLeDiff,reduceMul,reduceIte,reduceCtorEq,Int.reduceEq,Int.reduceLT,Int.reduceLE,Int.reduceNe];exact⟨i+1,⟨by omega,by rw[hI,List.length_cons];omega⟩,by omega,rfl⟩
  ·rw[h]at hI;simp only[WA,reduceEqDiff,reduceAdd,reduceLT,reduceLeDiff,reduceMul,reduceIte,reduceCtorEq,Int.reduceEq,Int.reduceLT,Int.reduceLE,Int.reduceNe];rw[hI];rfl
 ·have he:i=(bs s).length:=by omega
  subst he;rw[qV]at hI;simp only[WA,reduceEqDiff,reduceAdd,reduceLT,reduceLeDiff,reduceMul,reduceIte,reduceCtorEq,Int.reduceEq,Int.reduceLT,Int.reduceLE,Int.reduceNe];rw[hI];rfl
theorem zA(s:ByteArray)(g:FuncId)(p:Int->Bool)(hg:∀c,0<=c->c<256->a7 Try.prog g [.v (.int .u8 c)] (.v (.bool (p c))))(hs:s.size<=1048576):
  a7 Try.prog F.gU [ch s,.fn g []] (.v (.bool (kg p s))):=by
 have hl:=acv s;refine T.vE rfl rfl ?_;simp only[T.gU,WA,reduceEqDiff,reduceAdd,reduceLT,reduceLeDiff,reduceMul,reduceIte,reduceCtorEq,Int.reduceEq,Int.reduceLT,Int.reduceLE,Int.reduceNe];refine aB ?_;simp only[WA,reduceEqDiff,reduceAdd,reduceLT,reduceLeDiff,reduceMul,reduceIte,reduceCtorEq,Int.reduceEq,Int.reduceLT,Int.reduceLE,Int.reduceNe];refine bn (kh _ _ _) ?_;simp only[WA,reduceEqDiff,reduceAdd,reduceLT,reduceLeDiff,reduceMul,reduceIte,reduceCtorEq,Int.reduceEq,Int.reduceLT,Int.reduceLE,Int.reduceNe];refine aD (λ h=> ?_) (λ h=> ?_)
 ·simp[ld]at h;have aF:0<(bs s).length:=by omega
  obtain⟨c0,c1⟩:=pV (getElem_mem aF);simp only[WA,reduceEqDiff,reduceAdd,reduceLT,reduceLeDiff,reduceMul,reduceIte,reduceCtorEq,Int.reduceEq,Int.reduceLT,Int.reduceLE,Int.reduceNe];refine ajb (i:=0) aF ?_;simp only[WA,reduceEqDiff,reduceAdd,reduceLT,reduceLeDiff,reduceMul,reduceIte,reduceCtorEq,Int.reduceEq,Int.reduceLT,Int.reduceLE,Int.reduceNe];refine bn (hg _ c0 c1) ?_;have jP:=akt kA (bs s);have bK:=agc s F.eG kA (λ c _ _=>vD c) 0 (by omega) (by omega);simp only[WA,reduceEqDiff,reduceAdd,reduceLT,reduceLeDiff,reduceMul,reduceIte,reduceCtorEq,Int.reduceEq,Int.reduceLT,Int.reduceLE,Int.reduceNe];refine aD (λ h'=> ?_) (λ h'=> ?_)
  ·simp only[WA,reduceEqDiff,reduceAdd,reduceLT,reduceLeDiff,reduceMul,reduceIte,reduceCtorEq,Int.reduceEq,Int.reduceLT,Int.reduceLE,Int.reduceNe];refine bn bK ?_;simp only[WA,reduceEqDiff,reduceAdd,reduceLT,reduceLeDiff,reduceMul,reduceIte,reduceCtorEq,Int.reduceEq,Int.reduceLT,Int.reduceLE,Int.reduceNe];rw[List.drop_zero];unfold kg sB;cases hb:bs s with
   |nil=>rw[hb]at aF;simp at aF
   |cons c r=>
    simp only[hb,List.getElem_cons_zero]at h';rw[hb]at jP hl;simp only;rw[←jP,h',←hl,decide_eq_true (by simp at hl;omega:r.length+1<=12)];simp;omega
  ·simp only[WA,reduceEqDiff,reduceAdd,reduceLT,reduceLeDiff,reduceMul,reduceIte,reduceCtorEq,Int.reduceEq,Int.reduceLT,Int.reduceLE,Int.reduceNe];unfold kg sB;cases hb:bs s with
   |nil=>rfl
   |cons c r=>
    simp only[hb,List.getElem_cons_zero]at h';simp[h']
 ·simp only[WA,reduceEqDiff,reduceAdd,reduceLT,reduceLeDiff,reduceMul,reduceIte,reduceCtorEq,Int.reduceEq,Int.reduceLT,Int.reduceLE,Int.reduceNe];unfold kg sB;cases hb:bs s with
  |nil=>rfl
  |cons c r=>
   rw[hb]at hl;simp[ld]at h hl;have:¬(r.length+1<=12):=by omega
   simp[this]
theorem zk(s:ByteArray)(b:Bool)(hs:s.size<=1048576):
  a7 Try.prog F.fN [ch s,.v (.bool b)] (.v (.bool (kg (λ c=>if b=true then ld c 65 90 else ld c 97 122) s))):=by
 have hl:=acv s;refine T.vo rfl rfl ?_;simp only[T.fN,WA,reduceEqDiff,reduceAdd,reduceLT,reduceLeDiff,reduceMul,reduceIte,reduceCtorEq,Int.reduceEq,Int.reduceLT,Int.reduceLE,Int.reduceNe];refine aB ?_;simp only[WA,reduceEqDiff,reduceAdd,reduceLT,reduceLeDiff,reduceMul,reduceIte,reduceCtorEq,Int.reduceEq,Int.reduceLT,Int.reduceLE,Int.reduceNe];refine aB ?_;simp only[WA,reduceEqDiff,reduceAdd,reduceLT,reduceLeDiff,reduceMul,reduceIte,reduceCtorEq,Int.reduceEq,Int.reduceLT,Int.reduceLE,Int.reduceNe];refine bn (ky _ _ _) ?_;simp only[WA,reduceEqDiff,reduceAdd,reduceLT,reduceLeDiff,reduceMul,reduceIte,reduceCtorEq,Int.reduceEq,Int.reduceLT,Int.reduceLE,Int.reduceNe];refine aD (λ h=> ?_) (λ h=> ?_)
 ·simp only[WA,reduceEqDiff,reduceAdd,reduceLT,reduceLeDiff,reduceMul,reduceIte,reduceCtorEq,Int.reduceEq,Int.reduceLT,Int.reduceLE,Int.reduceNe];unfold kg sB;cases hb:bs s with
  |nil=>rfl
  |cons c r=>
   rw[hb]at hl;simp[ld]at h hl;have:¬(r.length+1<=12):=by omega
   simp[this]
 ·simp[ld]at h;have aF:0<(bs s).length:=by omega
  obtain⟨c0,c1⟩:=pV (getElem_mem aF);simp only[WA,reduceEqDiff,reduceAdd,reduceLT,reduceLeDiff,reduceMul,reduceIte,reduceCtorEq,Int.reduceEq,Int.reduceLT,Int.reduceLE,Int.reduceNe];refine ajb (i:=0) aF ?_;simp only[agU c0 c1,WA,reduceEqDiff,reduceAdd,reduceLT,reduceLeDiff,reduceMul,reduceIte,reduceCtorEq,Int.reduceEq,Int.reduceLT,Int.reduceLE,Int.reduceNe];refine bn (pt _) ?_;simp only[WA,reduceEqDiff,reduceAdd,reduceLT,reduceLeDiff,reduceMul,reduceIte,reduceCtorEq,Int.reduceEq,Int.reduceLT,Int.reduceLE,Int.reduceNe];have key:kg (λ c=>if b=true then ld c 65 90 else ld c 97 122) s=((if b=true then ld (bs s)[0] 65 90 else ld (bs s)[0] 97 122)&&(bs s).all kA):=adt _ aF (by omega);rw[key];refine aD (λ h=> ?_) (λ h=> ?_)
  ·have hx:(if b=true then ld (bs s)[0] 65 90 else ld (bs s)[0] 97 122)=false:=by
     cases b with
     |false=>
      have h:ld (bs s)[0] 65 90=true:=by simpa using h
      simp only[ld,Bool.and_eq_true,decide_eq_true_eq]at h;simp[ld];omega
     |true=>simpa using h
   simp only[hx,Bool.false_and,WA,reduceEqDiff,reduceAdd,reduceLT,reduceLeDiff,reduceMul,reduceIte,reduceCtorEq,Int.reduceEq,Int.reduceLT,Int.reduceLE,Int.reduceNe]
  ·simp only[WA,reduceEqDiff,reduceAdd,reduceLT,reduceLeDiff,reduceMul,reduceIte,reduceCtorEq,Int.reduceEq,Int.reduceLT,Int.reduceLE,Int.reduceNe];refine aD (λ h2=> ?_) (λ h2=> ?_)
   ·have hb:b=false:=by simpa using h2
    subst hb;simp only[WA,reduceEqDiff,reduceAdd,reduceLT,reduceLeDiff,reduceMul,reduceIte,reduceCtorEq,Int.reduceEq,Int.reduceLT,Int.reduceLE,Int.reduceNe];refine ajb (i:=0) aF ?_;simp only[agU c0 c1,WA,reduceEqDiff,reduceAdd,reduceLT,reduceLeDiff,reduceMul,reduceIte,reduceCtorEq,Int.reduceEq,Int.reduceLT,Int.reduceLE,Int.reduceNe];refine bn (pv _) ?_;simp only[WA,reduceEqDiff,reduceAdd,reduceLT,reduceLeDiff,reduceMul,reduceIte,reduceCtorEq,Int.reduceEq,Int.reduceLT,Int.reduceLE,Int.reduceNe];refine aD (λ h3=> ?_) (λ h3=> ?_)
    ·have h3:ld (bs s)[0] 97 122=false:=by simpa using h3
     simp[h3,WA,reduceEqDiff,reduceAdd,reduceLT,reduceLeDiff,reduceMul,reduceIte,reduceCtorEq,Int.reduceEq,Int.reduceLT,Int.reduceLE,Int.reduceNe]
    ·have h3:ld (bs s)[0] 97 122=true:=by simpa using h3
     simp only[h3,WA,reduceEqDiff,reduceAdd,reduceLT,reduceLeDiff,reduceMul,reduceIte,reduceCtorEq,Int.reduceEq,Int.reduceLT,Int.reduceLE,Int.reduceNe];refine aB ?_;simp only[WA,reduceEqDiff,reduceAdd,reduceLT,reduceLeDiff,reduceMul,reduceIte,reduceCtorEq,Int.reduceEq,Int.reduceLT,Int.reduceLE,Int.reduceNe];refine nH (bs s).length (λ i=>(bs s).all kA=((bs s).drop i).all kA) (λ i=>[aA i]) rfl rfl λ i hi hI=> ?_
     simp only[WA,reduceEqDiff,reduceAdd,reduceLT,reduceLeDiff,reduceMul,reduceIte,reduceCtorEq,Int.reduceEq,Int.reduceLT,Int.reduceLE,Int.reduceNe];refine aE (λ h=> ?_) (λ h=> ?_)
     ·have aF:i<(bs s).length:=by omega
      obtain⟨c0,c1⟩:=pV (getElem_mem aF);rw[pO aF,all_cons]at hI;simp only[WA,reduceEqDiff,reduceAdd,reduceLT,reduceLeDiff,reduceMul,reduceIte,reduceCtorEq,Int.reduceEq,Int.reduceLT,Int.reduceLE,Int.reduceNe];refine ajb aF ?_;simp only[agU c0 c1,WA,reduceEqDiff,reduceAdd,reduceLT,reduceLeDiff,reduceMul,reduceIte,reduceCtorEq,Int.reduceEq,Int.reduceLT,Int.reduceLE,Int.reduceNe];refine bn (mE _) ?_;simp only[WA,reduceEqDiff,reduceAdd,reduceLT,reduceLeDiff,reduceMul,reduceIte,reduceCtorEq,Int.reduceEq,Int.reduceLT,Int.reduceLE,Int.reduceNe];refine aD (λ h=> ?_) (λ h=> ?_)
      ·have h:kA (bs s)[i]=false:=by simpa using h
       rw[h]at hI;simp[hI,WA,reduceEqDiff,reduceAdd,reduceLT,reduceLeDiff,reduceMul,reduceIte,reduceCtorEq,Int.reduceEq,Int.reduceLT,Int.reduceLE,Int.reduceNe]
      ·have h:kA (bs s)[i]=true:=by simpa using h
       rw[h]at hI;simp(disch:=omega) only[au,WA,reduceEqDiff,reduceAdd,reduceLT,reduceLeDiff,reduceMul,reduceIte,reduceCtorEq,Int.reduceEq,Int.reduceLT,Int.reduceLE,Int.reduceNe];exact⟨aF,by simpa using hI⟩
     ·have he:i=(bs s).length:=by omega
      subst he;rw[qV]at hI;simp[hI,WA,reduceEqDiff,reduceAdd,reduceLT,reduceLeDiff,reduceMul,reduceIte,reduceCtorEq,Int.reduceEq,Int.reduceLT,Int.reduceLE,Int.reduceNe]
   ·have hb:b=true:=by simpa using h2
    subst hb;have h4:ld (bs s)[0] 65 90=true:=by simpa using h
    simp only[h4,WA,reduceEqDiff,reduceAdd,reduceLT,reduceLeDiff,reduceMul,reduceIte,reduceCtorEq,Int.reduceEq,Int.reduceLT,Int.reduceLE,Int.reduceNe];refine aB ?_;simp only[WA,reduceEqDiff,reduceAdd,reduceLT,reduceLeDiff,reduceMul,reduceIte,reduceCtorEq,Int.reduceEq,Int.reduceLT,Int.reduceLE,Int.reduceNe];refine nH (bs s).length (λ i=>(bs s).all kA=((bs s).drop i).all kA) (λ i=>[aA i]) rfl rfl λ i hi hI=> ?_
    simp only[WA,reduceEqDiff,reduceAdd,reduceLT,reduceLeDiff,reduceMul,reduceIte,reduceCtorEq,Int.reduceEq,Int.reduceLT,Int.reduceLE,Int.reduceNe];refine aE (λ h=> ?_) (λ h=> ?_)
    ·have aF:i<(bs s).length:=by omega
     obtain⟨c0,c1⟩:=pV (getElem_mem aF);rw[pO aF,all_cons]at hI;simp only[WA,reduceEqDiff,reduceAdd,reduceLT,reduceLeDiff,reduceMul,reduceIte,reduceCtorEq,Int.reduceEq,Int.reduceLT,Int.reduceLE,Int.reduceNe];refine ajb aF ?_;simp only[agU c0 c1,WA,reduceEqDiff,reduceAdd,reduceLT,reduceLeDiff,reduceMul,reduceIte,reduceCtorEq,Int.reduceEq,Int.reduceLT,Int.reduceLE,Int.reduceNe];refine bn (mE _) ?_;simp only[WA,reduceEqDiff,reduceAdd,reduceLT,reduceLeDiff,reduceMul,reduceIte,reduceCtorEq,Int.reduceEq,Int.reduceLT,Int.reduceLE,Int.reduceNe];refine aD (λ h=> ?_) (λ h=> ?_)
     ·have h:kA (bs s)[i]=false:=by simpa using h
      rw[h]at hI;simp[hI,WA,reduceEqDiff,reduceAdd,reduceLT,reduceLeDiff,reduceMul,reduceIte,reduceCtorEq,Int.reduceEq,Int.reduceLT,Int.reduceLE,Int.reduceNe]
     ·have h:kA (bs s)[i]=true:=by simpa using h
      rw[h]at hI;simp(disch:=omega) only[au,WA,reduceEqDiff,reduceAdd,reduceLT,reduceLeDiff,reduceMul,reduceIte,reduceCtorEq,Int.reduceEq,Int.reduceLT,Int.reduceLE,Int.reduceNe];exact⟨aF,by simpa using hI⟩
    ·have he:i=(bs s).length:=by omega
     subst he;rw[qV]at hI;simp[hI,WA,reduceEqDiff,reduceAdd,reduceLT,reduceLeDiff,reduceMul,reduceIte,reduceCtorEq,Int.reduceEq,Int.reduceLT,Int.reduceLE,Int.reduceNe]
theorem ab0(s:ByteArray):a7 Try.prog F.iX [ch s] (.v (.bool (abP s))):=by
 refine T.x7 rfl rfl ?_;simp only[T.iX,AV.cells,AV.cg,WA,reduceEqDiff,reduceAdd,reduceLT,reduceLeDiff,reduceMul,reduceIte,reduceCtorEq,Int.reduceEq,Int.reduceLT,Int.reduceLE,Int.reduceNe];refine bn (acq oR s (by decide)) ?_;simp only[WA,reduceEqDiff,reduceAdd,reduceLT,reduceLeDiff,reduceMul,reduceIte,reduceCtorEq,Int.reduceEq,Int.reduceLT,Int.reduceLE,Int.reduceNe]
 rfl
end Go.Proofs.Ab
