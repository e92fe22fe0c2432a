/-
  BYTES, NAMES, WORDS: what the lexer's small tests compute.
-/
import Derived.Test.YtfebhekplhjigaaH
import Derived.Test.YtfebhekplhjigaaSL
open List(all_cons getElem_mem)
open Nat(reduceEqDiff reduceLeDiff reduceAdd reduceLT reduceMul)
set_option linter.unusedVariables false
set_option linter.unusedSimpArgs false
namespace Go.Ab
set_option maxRecDepth 100000
set_option maxHeartbeats 4000000
def oa(n lo hi:Int):Bool:=decide (lo<=n)&&decide (n<=hi)
def mj(c:Int):Bool:=oa c 97 122||oa c 65 90||oa c 48 57||decide (c=95)
def wm(f:Int->Bool):List Int->Bool
 | []=>false
 |c::r=>decide (r.length+1<=12)&&f c&&(c::r).all mj
def lV(f:Int->Bool)(s:ByteArray):Bool:=wm f (bs s)
def rS:List ByteArray:=[⟨#[116,121,112,101]⟩,⟨#[111,102]⟩,⟨#[108,101,116]⟩,⟨#[114,101,99]⟩,⟨#[105,110]⟩,⟨#[102,117,110]⟩,⟨#[105,102]⟩,⟨#[116,104,101,110]⟩,⟨#[101,108,115,101]⟩,⟨#[109,97,116,99,104]⟩,⟨#[119,105,116,104]⟩,⟨#[101,110,100]⟩,⟨#[116,114,117,101]⟩,⟨#[102,97,108,115,101]⟩,⟨#[114,101,102]⟩,⟨#[114,101,97,100]⟩,⟨#[112,114,105,110,116]⟩,⟨#[101,120,105,116]⟩,⟨#[115,105,122,101]⟩]
def ae7(s:ByteArray):Bool:=rS.any λ y=>decide (s=y)
def alF(s:ByteArray):Bool:=lV (λ c=>oa c 97 122) s&& !ae7 s
theorem agK(f:Int->Bool){l:List Int}(h:0<l.length)(h12:l.length<=12):wm f l=(f l[0]&&l.all mj):=by
 cases l with
 |nil=>simp at h
 |cons c r=>simp only[List.length_cons]at h12;simp only[wm,List.getElem_cons_zero,decide_eq_true h12,Bool.true_and]
theorem am7{α:Type}(p:α->Bool):∀l:List α,decide ((l.takeWhile p).length=l.length)=l.all p
 | []=>rfl
 |x::l=>by
  simp only[List.takeWhile_cons,all_cons]
  split
  ·rename_i h;simp[h,←am7 p l]
  ·rename_i h;simp[h]
end Go.Ab
namespace Go.Proofs.Ab
open Go.Ab
set_option maxRecDepth 100000
set_option maxHeartbeats 4000000
theorem jS(n lo hi:Int):a7 Try.prog F.eN [aO n,aO lo,aO hi] (.v (.bool (oa n lo hi))):=by
 refine T.acI rfl rfl ?_;simp only[T.eN,WA,reduceEqDiff,reduceAdd,reduceLT,reduceLeDiff,reduceMul,reduceIte,reduceCtorEq,Int.reduceEq,Int.reduceLT,Int.reduceLE,Int.reduceNe]
 repeat' (first|(simp(disch:=omega) only[WA,reduceEqDiff,reduceAdd,reduceLT,reduceLeDiff,reduceMul,reduceIte,reduceCtorEq,Int.reduceEq,Int.reduceLT,Int.reduceLE,Int.reduceNe])|(refine ba (λ _=> ?_) (λ _=> ?_))|(refine bC (λ _=> ?_) (λ _=> ?_))|(refine aS (λ _=> ?_) (λ _=> ?_))|(refine aN ?_))
 all_goals simp[oa, *]
theorem pD(n lo hi:Int):a7 Try.prog F.fa [aO n,aO lo,aO hi] (.v (.bool (oa n lo hi))):=by
 refine T.zb rfl rfl ?_;simp only[T.fa,WA,reduceEqDiff,reduceAdd,reduceLT,reduceLeDiff,reduceMul,reduceIte,reduceCtorEq,Int.reduceEq,Int.reduceLT,Int.reduceLE,Int.reduceNe]
 repeat' (first|(simp(disch:=omega) only[WA,reduceEqDiff,reduceAdd,reduceLT,reduceLeDiff,reduceMul,reduceIte,reduceCtorEq,Int.reduceEq,Int.reduceLT,Int.reduceLE,Int.reduceNe])|(refine ba (λ _=> ?_) (λ _=> ?_))|(refine bC (λ _=> ?_) (λ _=> ?_))|(refine aS (λ _=> ?_) (λ _=> ?_))|(refine aN ?_))
 all_goals simp[oa, *]
theorem wL(c:Int):a7 Try.prog F.iq [.v (.int .u8 c)] (.v (.bool (oa c 97 122))):=by
 refine T.abq rfl rfl ?_;simp only[T.iq,WA,reduceEqDiff,reduceAdd,reduceLT,reduceLeDiff,reduceMul,reduceIte,reduceCtorEq,Int.reduceEq,Int.reduceLT,Int.reduceLE,Int.reduceNe]
 repeat' (first|(simp(disch:=omega) only[WA,reduceEqDiff,reduceAdd,reduceLT,reduceLeDiff,reduceMul,reduceIte,reduceCtorEq,Int.reduceEq,Int.reduceLT,Int.reduceLE,Int.reduceNe])|(refine ba (λ _=> ?_) (λ _=> ?_))|(refine bC (λ _=> ?_) (λ _=> ?_))|(refine aS (λ _=> ?_) (λ _=> ?_))|(refine aN ?_))
 all_goals simp[oa, *]
theorem afj(c:Int):a7 Try.prog F.jJ [.v (.int .u8 c)] (.v (.bool (oa c 65 90))):=by
 refine T.abv rfl rfl ?_;simp only[T.jJ,WA,reduceEqDiff,reduceAdd,reduceLT,reduceLeDiff,reduceMul,reduceIte,reduceCtorEq,Int.reduceEq,Int.reduceLT,Int.reduceLE,Int.reduceNe]
 repeat' (first|(simp(disch:=omega) only[WA,reduceEqDiff,reduceAdd,reduceLT,reduceLeDiff,reduceMul,reduceIte,reduceCtorEq,Int.reduceEq,Int.reduceLT,Int.reduceLE,Int.reduceNe])|(refine ba (λ _=> ?_) (λ _=> ?_))|(refine bC (λ _=> ?_) (λ _=> ?_))|(refine aS (λ _=> ?_) (λ _=> ?_))|(refine aN ?_))
 all_goals simp[oa, *]
theorem afn(c:Int):a7 Try.prog F.jK [.v (.int .u8 c)] (.v (.bool (oa c 48 57))):=by
 refine T.abx rfl rfl ?_;simp only[T.jK,WA,reduceEqDiff,reduceAdd,reduceLT,reduceLeDiff,reduceMul,reduceIte,reduceCtorEq,Int.reduceEq,Int.reduceLT,Int.reduceLE,Int.reduceNe]
 repeat' (first|(simp(disch:=omega) only[WA,reduceEqDiff,reduceAdd,reduceLT,reduceLeDiff,reduceMul,reduceIte,reduceCtorEq,Int.reduceEq,Int.reduceLT,Int.reduceLE,Int.reduceNe])|(refine ba (λ _=> ?_) (λ _=> ?_))|(refine bC (λ _=> ?_) (λ _=> ?_))|(refine aS (λ _=> ?_) (λ _=> ?_))|(refine aN ?_))
 all_goals simp[oa, *]
theorem zh(c:Int):a7 Try.prog F.er [.v (.int .u8 c)] (.v (.bool (mj c))):=by
 refine T.wM rfl rfl ?_;simp only[T.er,WA,reduceEqDiff,reduceAdd,reduceLT,reduceLeDiff,reduceMul,reduceIte,reduceCtorEq,Int.reduceEq,Int.reduceLT,Int.reduceLE,Int.reduceNe]
 repeat' (first|(simp(disch:=omega) only[WA,reduceEqDiff,reduceAdd,reduceLT,reduceLeDiff,reduceMul,reduceIte,reduceCtorEq,Int.reduceEq,Int.reduceLT,Int.reduceLE,Int.reduceNe])|(refine ba (λ _=> ?_) (λ _=> ?_))|(refine bC (λ _=> ?_) (λ _=> ?_))|(refine aS (λ _=> ?_) (λ _=> ?_))|(refine aN ?_)|(refine bo (wL _) ?_)|(refine bo (afj _) ?_)|(refine bo (afn _) ?_))
 all_goals simp_all [mj]
theorem sF(c:Int):a7 Try.prog F.eW [aO c] (.v (.bool (oa c 65 90))):=by
 refine T.xt rfl rfl ?_;simp only[T.eW,WA,reduceEqDiff,reduceAdd,reduceLT,reduceLeDiff,reduceMul,reduceIte,reduceCtorEq,Int.reduceEq,Int.reduceLT,Int.reduceLE,Int.reduceNe]
 repeat' (first|(simp(disch:=omega) only[WA,reduceEqDiff,reduceAdd,reduceLT,reduceLeDiff,reduceMul,reduceIte,reduceCtorEq,Int.reduceEq,Int.reduceLT,Int.reduceLE,Int.reduceNe])|(refine ba (λ _=> ?_) (λ _=> ?_))|(refine bC (λ _=> ?_) (λ _=> ?_))|(refine aS (λ _=> ?_) (λ _=> ?_))|(refine aN ?_)|(refine bo (jS _ _ _) ?_))
theorem sH(c:Int):a7 Try.prog F.eX [aO c] (.v (.bool (oa c 97 122))):=by
 refine T.xu rfl rfl ?_;simp only[T.eX,WA,reduceEqDiff,reduceAdd,reduceLT,reduceLeDiff,reduceMul,reduceIte,reduceCtorEq,Int.reduceEq,Int.reduceLT,Int.reduceLE,Int.reduceNe]
 repeat' (first|(simp(disch:=omega) only[WA,reduceEqDiff,reduceAdd,reduceLT,reduceLeDiff,reduceMul,reduceIte,reduceCtorEq,Int.reduceEq,Int.reduceLT,Int.reduceLE,Int.reduceNe])|(refine ba (λ _=> ?_) (λ _=> ?_))|(refine bC (λ _=> ?_) (λ _=> ?_))|(refine aS (λ _=> ?_) (λ _=> ?_))|(refine aN ?_)|(refine bo (jS _ _ _) ?_))
theorem aez(c:Int):a7 Try.prog F.ju [aO c] (.v (.bool (oa c 48 57))):=by
 refine T.aan rfl rfl ?_;simp only[T.ju,WA,reduceEqDiff,reduceAdd,reduceLT,reduceLeDiff,reduceMul,reduceIte,reduceCtorEq,Int.reduceEq,Int.reduceLT,Int.reduceLE,Int.reduceNe]
 repeat' (first|(simp(disch:=omega) only[WA,reduceEqDiff,reduceAdd,reduceLT,reduceLeDiff,reduceMul,reduceIte,reduceCtorEq,Int.reduceEq,Int.reduceLT,Int.reduceLE,Int.reduceNe])|(refine ba (λ _=> ?_) (λ _=> ?_))|(refine bC (λ _=> ?_) (λ _=> ?_))|(refine aS (λ _=> ?_) (λ _=> ?_))|(refine aN ?_)|(refine bo (jS _ _ _) ?_))
theorem o8(c:Int):a7 Try.prog F.dO [aO c] (.v (.bool (mj c))):=by
 refine T.uw rfl rfl ?_;simp only[T.dO,WA,reduceEqDiff,reduceAdd,reduceLT,reduceLeDiff,reduceMul,reduceIte,reduceCtorEq,Int.reduceEq,Int.reduceLT,Int.reduceLE,Int.reduceNe]
 repeat' (first|(simp(disch:=omega) only[WA,reduceEqDiff,reduceAdd,reduceLT,reduceLeDiff,reduceMul,reduceIte,reduceCtorEq,Int.reduceEq,Int.reduceLT,Int.reduceLE,Int.reduceNe])|(refine ba (λ _=> ?_) (λ _=> ?_))|(refine bC (λ _=> ?_) (λ _=> ?_))|(refine aS (λ _=> ?_) (λ _=> ?_))|(refine aN ?_)|(refine bo (sF _) ?_)|(refine bo (sH _) ?_)|(refine bo (aez _) ?_))
 all_goals simp_all [mj]
theorem ai6(s:ByteArray)(g:FuncId)(p:Int->Bool)(hg:∀c,0<=c->c<256->a7 Try.prog g [.v (.int .u8 c)] (.v (.bool (p c))))(k:Nat)(hk:k<=s.size)(hs:s.size<=1073741824):
  a7 Try.prog F.oc [cv s,aO k,.fn g []] (aO (k+(((bs s).drop k).takeWhile p).length:Nat)):=by
 have hl:=afL s;refine T.afc rfl rfl ?_;simp only[T.oc,WA,reduceEqDiff,reduceAdd,reduceLT,reduceLeDiff,reduceMul,reduceIte,reduceCtorEq,Int.reduceEq,Int.reduceLT,Int.reduceLE,Int.reduceNe];refine fe [aO (k+(((bs s).drop k).takeWhile p).length:Nat)] rfl ?_ (by simp only[WA,reduceEqDiff,reduceAdd,reduceLT,reduceLeDiff,reduceMul,reduceIte,reduceCtorEq,Int.reduceEq,Int.reduceLT,Int.reduceLE,Int.reduceNe]);simp only[WA,reduceEqDiff,reduceAdd,reduceLT,reduceLeDiff,reduceMul,reduceIte,reduceCtorEq,Int.reduceEq,Int.reduceLT,Int.reduceLE,Int.reduceNe];refine nV (ι:=Nat) (λ i=>i<=s.size/\k+(((bs s).drop k).takeWhile p).length=i+(((bs s).drop i).takeWhile p).length) (λ i=>[aO i]) (λ i=>s.size- i) k ⟨hk,rfl⟩ rfl λ i hi=> ?_
 obtain⟨hi,hI⟩:=hi;simp only[WA,reduceEqDiff,reduceAdd,reduceLT,reduceLeDiff,reduceMul,reduceIte,reduceCtorEq,Int.reduceEq,Int.reduceLT,Int.reduceLE,Int.reduceNe];refine aN ?_;simp only[WA,reduceEqDiff,reduceAdd,reduceLT,reduceLeDiff,reduceMul,reduceIte,reduceCtorEq,Int.reduceEq,Int.reduceLT,Int.reduceLE,Int.reduceNe];refine aN ?_;simp only[WA,reduceEqDiff,reduceAdd,reduceLT,reduceLeDiff,reduceMul,reduceIte,reduceCtorEq,Int.reduceEq,Int.reduceLT,Int.reduceLE,Int.reduceNe];refine ba (λ h=> ?_) (λ h=> ?_)
 ·have aw:i<(bs s).length:=by omega
  obtain⟨c0,c1⟩:=tm (getElem_mem aw);rw[ab6 aw,List.takeWhile_cons]at hI;simp only[WA,reduceEqDiff,reduceAdd,reduceLT,reduceLeDiff,reduceMul,reduceIte,reduceCtorEq,Int.reduceEq,Int.reduceLT,Int.reduceLE,Int.reduceNe];refine alX aw ?_;simp only[WA,reduceEqDiff,reduceAdd,reduceLT,reduceLeDiff,reduceMul,reduceIte,reduceCtorEq,Int.reduceEq,Int.reduceLT,Int.reduceLE,Int.reduceNe];refine bo (hg _ c0 c1) ?_;simp only[WA,reduceEqDiff,reduceAdd,reduceLT,reduceLeDiff,reduceMul,reduceIte,reduceCtorEq,Int.reduceEq,Int.reduceLT,Int.reduceLE,Int.reduceNe];refine aS (λ h=> ?_) (λ h=> ?_)
  ·rw[if_pos h]at hI;simp(disch:=omega) only[aG,WA,reduceEqDiff,reduceAdd,reduceLT,reduceLeDiff,reduceMul,reduceIte,reduceCtorEq,Int.reduceEq,Int.reduceLT,Int.reduceLE,Int.reduceNe];exact⟨i+1,⟨by omega,by rw[hI,List.length_cons];omega⟩,by omega,rfl⟩
  ·rw[h]at hI;simp only[WA,reduceEqDiff,reduceAdd,reduceLT,reduceLeDiff,reduceMul,reduceIte,reduceCtorEq,Int.reduceEq,Int.reduceLT,Int.reduceLE,Int.reduceNe];rw[hI];rfl
 ·have he:i=(bs s).length:=by omega
  subst he;rw[aea]at hI;simp only[WA,reduceEqDiff,reduceAdd,reduceLT,reduceLeDiff,reduceMul,reduceIte,reduceCtorEq,Int.reduceEq,Int.reduceLT,Int.reduceLE,Int.reduceNe];rw[hI];rfl
theorem acY(s:ByteArray)(g:FuncId)(p:Int->Bool)(hg:∀c,0<=c->c<256->a7 Try.prog g [.v (.int .u8 c)] (.v (.bool (p c))))(hs:s.size<=1048576):
  a7 Try.prog F.ir [cv s,.fn g []] (.v (.bool (lV p s))):=by
 have hl:=afL s;refine T.zi rfl rfl ?_;simp only[T.ir,WA,reduceEqDiff,reduceAdd,reduceLT,reduceLeDiff,reduceMul,reduceIte,reduceCtorEq,Int.reduceEq,Int.reduceLT,Int.reduceLE,Int.reduceNe];refine aN ?_;simp only[WA,reduceEqDiff,reduceAdd,reduceLT,reduceLeDiff,reduceMul,reduceIte,reduceCtorEq,Int.reduceEq,Int.reduceLT,Int.reduceLE,Int.reduceNe];refine bo (pD _ _ _) ?_;simp only[WA,reduceEqDiff,reduceAdd,reduceLT,reduceLeDiff,reduceMul,reduceIte,reduceCtorEq,Int.reduceEq,Int.reduceLT,Int.reduceLE,Int.reduceNe];refine aS (λ h=> ?_) (λ h=> ?_)
 ·simp[oa]at h;have aw:0<(bs s).length:=by omega
  obtain⟨c0,c1⟩:=tm (getElem_mem aw);simp only[WA,reduceEqDiff,reduceAdd,reduceLT,reduceLeDiff,reduceMul,reduceIte,reduceCtorEq,Int.reduceEq,Int.reduceLT,Int.reduceLE,Int.reduceNe];refine alX (i:=0) aw ?_;simp only[WA,reduceEqDiff,reduceAdd,reduceLT,reduceLeDiff,reduceMul,reduceIte,reduceCtorEq,Int.reduceEq,Int.reduceLT,Int.reduceLE,Int.reduceNe];refine bo (hg _ c0 c1) ?_;have m9:=am7 mj (bs s);have bc:=ai6 s F.er mj (λ c _ _=>zh c) 0 (by omega) (by omega);simp only[WA,reduceEqDiff,reduceAdd,reduceLT,reduceLeDiff,reduceMul,reduceIte,reduceCtorEq,Int.reduceEq,Int.reduceLT,Int.reduceLE,Int.reduceNe];refine aS (λ h'=> ?_) (λ h'=> ?_)
  ·simp only[WA,reduceEqDiff,reduceAdd,reduceLT,reduceLeDiff,reduceMul,reduceIte,reduceCtorEq,Int.reduceEq,Int.reduceLT,Int.reduceLE,Int.reduceNe];refine bo bc ?_;simp only[WA,reduceEqDiff,reduceAdd,reduceLT,reduceLeDiff,reduceMul,reduceIte,reduceCtorEq,Int.reduceEq,Int.reduceLT,Int.reduceLE,Int.reduceNe];rw[List.drop_zero];unfold lV wm;cases hb:bs s with
   |nil=>rw[hb]at aw;simp at aw
   |cons c r=>
    simp only[hb,List.getElem_cons_zero]at h';rw[hb]at m9 hl;simp only;rw[←m9,h',←hl,decide_eq_true (by simp at hl;omega:r.length+1<=12)];simp;omega
  ·simp only[WA,reduceEqDiff,reduceAdd,reduceLT,reduceLeDiff,reduceMul,reduceIte,reduceCtorEq,Int.reduceEq,Int.reduceLT,Int.reduceLE,Int.reduceNe];unfold lV wm;cases hb:bs s with
   |nil=>rfl
   |cons c r=>
    simp only[hb,List.getElem_cons_zero]at h';simp[h']
 ·simp only[WA,reduceEqDiff,reduceAdd,reduceLT,reduceLeDiff,reduceMul,reduceIte,reduceCtorEq,Int.reduceEq,Int.reduceLT,Int.reduceLE,Int.reduceNe];unfold lV wm;cases hb:bs s with
  |nil=>rfl
  |cons c r=>
   rw[hb]at hl;simp[oa]at h hl;have:¬(r.length+1<=12):=by omega
   simp[this]
theorem acH(s:ByteArray)(b:Bool)(hs:s.size<=1048576):
  a7 Try.prog F.fK [cv s,.v (.bool b)] (.v (.bool (lV (λ c=>if b=true then oa c 65 90 else oa c 97 122) s))):=by
 have hl:=afL s;refine T.y6 rfl rfl ?_;simp only[T.fK,WA,reduceEqDiff,reduceAdd,reduceLT,reduceLeDiff,reduceMul,reduceIte,reduceCtorEq,Int.reduceEq,Int.reduceLT,Int.reduceLE,Int.reduceNe];refine aN ?_;simp only[WA,reduceEqDiff,reduceAdd,reduceLT,reduceLeDiff,reduceMul,reduceIte,reduceCtorEq,Int.reduceEq,Int.reduceLT,Int.reduceLE,Int.reduceNe];refine aN ?_;simp only[WA,reduceEqDiff,reduceAdd,reduceLT,reduceLeDiff,reduceMul,reduceIte,reduceCtorEq,Int.reduceEq,Int.reduceLT,Int.reduceLE,Int.reduceNe];refine bo (jS _ _ _) ?_;simp only[WA,reduceEqDiff,reduceAdd,reduceLT,reduceLeDiff,reduceMul,reduceIte,reduceCtorEq,Int.reduceEq,Int.reduceLT,Int.reduceLE,Int.reduceNe];refine aS (λ h=> ?_) (λ h=> ?_)
 ·simp only[WA,reduceEqDiff,reduceAdd,reduceLT,reduceLeDiff,reduceMul,reduceIte,reduceCtorEq,Int.reduceEq,Int.reduceLT,Int.reduceLE,Int.reduceNe];unfold lV wm;cases hb:bs s with
  |nil=>rfl
  |cons c r=>
   rw[hb]at hl;simp[oa]at h hl;have:¬(r.length+1<=12):=by omega
   simp[this]
 ·simp[oa]at h;have aw:0<(bs s).length:=by omega
  obtain⟨c0,c1⟩:=tm (getElem_mem aw);simp only[WA,reduceEqDiff,reduceAdd,reduceLT,reduceLeDiff,reduceMul,reduceIte,reduceCtorEq,Int.reduceEq,Int.reduceLT,Int.reduceLE,Int.reduceNe];refine alX (i:=0) aw ?_;simp only[ajJ c0 c1,WA,reduceEqDiff,reduceAdd,reduceLT,reduceLeDiff,reduceMul,reduceIte,reduceCtorEq,Int.reduceEq,Int.reduceLT,Int.reduceLE,Int.reduceNe];refine bo (sF _) ?_;simp only[WA,reduceEqDiff,reduceAdd,reduceLT,reduceLeDiff,reduceMul,reduceIte,reduceCtorEq,Int.reduceEq,Int.reduceLT,Int.reduceLE,Int.reduceNe];have key:lV (λ c=>if b=true then oa c 65 90 else oa c 97 122) s=((if b=true then oa (bs s)[0] 65 90 else oa (bs s)[0] 97 122)&&(bs s).all mj):=agK _ aw (by omega);rw[key];refine aS (λ h=> ?_) (λ h=> ?_)
  ·have hx:(if b=true then oa (bs s)[0] 65 90 else oa (bs s)[0] 97 122)=false:=by
     cases b with
     |false=>
      have h:oa (bs s)[0] 65 90=true:=by simpa using h
      simp only[oa,Bool.and_eq_true,decide_eq_true_eq]at h;simp[oa];omega
     |true=>simpa using h
   simp only[hx,Bool.false_and,WA,reduceEqDiff,reduceAdd,reduceLT,reduceLeDiff,reduceMul,reduceIte,reduceCtorEq,Int.reduceEq,Int.reduceLT,Int.reduceLE,Int.reduceNe]
  ·simp only[WA,reduceEqDiff,reduceAdd,reduceLT,reduceLeDiff,reduceMul,reduceIte,reduceCtorEq,Int.reduceEq,Int.reduceLT,Int.reduceLE,Int.reduceNe];refine aS (λ h2=> ?_) (λ h2=> ?_)
   ·have hb:b=false:=by simpa using h2
    subst hb;simp only[WA,reduceEqDiff,reduceAdd,reduceLT,reduceLeDiff,reduceMul,reduceIte,reduceCtorEq,Int.reduceEq,Int.reduceLT,Int.reduceLE,Int.reduceNe];refine alX (i:=0) aw ?_;simp only[ajJ c0 c1,WA,reduceEqDiff,reduceAdd,reduceLT,reduceLeDiff,reduceMul,reduceIte,reduceCtorEq,Int.reduceEq,Int.reduceLT,Int.reduceLE,Int.reduceNe];refine bo (sH _) ?_;simp only[WA,reduceEqDiff,reduceAdd,reduceLT,reduceLeDiff,reduceMul,reduceIte,reduceCtorEq,Int.reduceEq,Int.reduceLT,Int.reduceLE,Int.reduceNe];refine aS (λ h3=> ?_) (λ h3=> ?_)
    ·have h3:oa (bs s)[0] 97 122=false:=by simpa using h3
     simp[h3,WA,reduceEqDiff,reduceAdd,reduceLT,reduceLeDiff,reduceMul,reduceIte,reduceCtorEq,Int.reduceEq,Int.reduceLT,Int.reduceLE,Int.reduceNe]
    ·have h3:oa (bs s)[0] 97 122=true:=by simpa using h3
     simp only[h3,WA,reduceEqDiff,reduceAdd,reduceLT,reduceLeDiff,reduceMul,reduceIte,reduceCtorEq,Int.reduceEq,Int.reduceLT,Int.reduceLE,Int.reduceNe];refine aN ?_;simp only[WA,reduceEqDiff,reduceAdd,reduceLT,reduceLeDiff,reduceMul,reduceIte,reduceCtorEq,Int.reduceEq,Int.reduceLT,Int.reduceLE,Int.reduceNe];refine sT (bs s).length (λ i=>(bs s).all mj=((bs s).drop i).all mj) (λ i=>[aO i]) rfl rfl λ i hi hI=> ?_
     simp only[WA,reduceEqDiff,reduceAdd,reduceLT,reduceLeDiff,reduceMul,reduceIte,reduceCtorEq,Int.reduceEq,Int.reduceLT,Int.reduceLE,Int.reduceNe];refine ba (λ h=> ?_) (λ h=> ?_)
     ·have aw:i<(bs s).length:=by omega
      obtain⟨c0,c1⟩:=tm (getElem_mem aw);rw[ab6 aw,all_cons]at hI;simp only[WA,reduceEqDiff,reduceAdd,reduceLT,reduceLeDiff,reduceMul,reduceIte,reduceCtorEq,Int.reduceEq,Int.reduceLT,Int.reduceLE,Int.reduceNe];refine alX aw ?_;simp only[ajJ c0 c1,WA,reduceEqDiff,reduceAdd,reduceLT,reduceLeDiff,reduceMul,reduceIte,reduceCtorEq,Int.reduceEq,Int.reduceLT,Int.reduceLE,Int.reduceNe];refine bo (o8 _) ?_;simp only[WA,reduceEqDiff,reduceAdd,reduceLT,reduceLeDiff,reduceMul,reduceIte,reduceCtorEq,Int.reduceEq,Int.reduceLT,Int.reduceLE,Int.reduceNe];refine aS (λ h=> ?_) (λ h=> ?_)
      ·have h:mj (bs s)[i]=false:=by simpa using h
       rw[h]at hI;simp[hI,WA,reduceEqDiff,reduceAdd,reduceLT,reduceLeDiff,reduceMul,reduceIte,reduceCtorEq,Int.reduceEq,Int.reduceLT,Int.reduceLE,Int.reduceNe]
      ·have h:mj (bs s)[i]=true:=by simpa using h
       rw[h]at hI;simp(disch:=omega) only[aG,WA,reduceEqDiff,reduceAdd,reduceLT,reduceLeDiff,reduceMul,reduceIte,reduceCtorEq,Int.reduceEq,Int.reduceLT,Int.reduceLE,Int.reduceNe];exact⟨aw,by simpa using hI⟩
     ·have he:i=(bs s).length:=by omega
      subst he;rw[aea]at hI;simp[hI,WA,reduceEqDiff,reduceAdd,reduceLT,reduceLeDiff,reduceMul,reduceIte,reduceCtorEq,Int.reduceEq,Int.reduceLT,Int.reduceLE,Int.reduceNe]
   ·have hb:b=true:=by simpa using h2
    subst hb;have h4:oa (bs s)[0] 65 90=true:=by simpa using h
    simp only[h4,WA,reduceEqDiff,reduceAdd,reduceLT,reduceLeDiff,reduceMul,reduceIte,reduceCtorEq,Int.reduceEq,Int.reduceLT,Int.reduceLE,Int.reduceNe];refine aN ?_;simp only[WA,reduceEqDiff,reduceAdd,reduceLT,reduceLeDiff,reduceMul,reduceIte,reduceCtorEq,Int.reduceEq,Int.reduceLT,Int.reduceLE,Int.reduceNe];refine sT (bs s).length (λ i=>(bs s).all mj=((bs s).drop i).all mj) (λ i=>[aO i]) rfl rfl λ i hi hI=> ?_
    simp only[WA,reduceEqDiff,reduceAdd,reduceLT,reduceLeDiff,reduceMul,reduceIte,reduceCtorEq,Int.reduceEq,Int.reduceLT,Int.reduceLE,Int.reduceNe];refine ba (λ h=> ?_) (λ h=> ?_)
    ·have aw:i<(bs s).length:=by omega
     obtain⟨c0,c1⟩:=tm (getElem_mem aw);rw[ab6 aw,all_cons]at hI;simp only[WA,reduceEqDiff,reduceAdd,reduceLT,reduceLeDiff,reduceMul,reduceIte,reduceCtorEq,Int.reduceEq,Int.reduceLT,Int.reduceLE,Int.reduceNe];refine alX aw ?_;simp only[ajJ c0 c1,WA,reduceEqDiff,reduceAdd,reduceLT,reduceLeDiff,reduceMul,reduceIte,reduceCtorEq,Int.reduceEq,Int.reduceLT,Int.reduceLE,Int.reduceNe];refine bo (o8 _) ?_;simp only[WA,reduceEqDiff,reduceAdd,reduceLT,reduceLeDiff,reduceMul,reduceIte,reduceCtorEq,Int.reduceEq,Int.reduceLT,Int.reduceLE,Int.reduceNe];refine aS (λ h=> ?_) (λ h=> ?_)
     ·have h:mj (bs s)[i]=false:=by simpa using h
      rw[h]at hI;simp[hI,WA,reduceEqDiff,reduceAdd,reduceLT,reduceLeDiff,reduceMul,reduceIte,reduceCtorEq,Int.reduceEq,Int.reduceLT,Int.reduceLE,Int.reduceNe]
     ·have h:mj (bs s)[i]=true:=by simpa using h
      rw[h]at hI;simp(disch:=omega) only[aG,WA,reduceEqDiff,reduceAdd,reduceLT,reduceLeDiff,reduceMul,reduceIte,reduceCtorEq,Int.reduceEq,Int.reduceLT,Int.reduceLE,Int.reduceNe];exact⟨aw,by simpa using hI⟩
    ·have he:i=(bs s).length:=by omega
     subst he;rw[aea]at hI;simp[hI,WA,reduceEqDiff,reduceAdd,reduceLT,reduceLeDiff,reduceMul,reduceIte,reduceCtorEq,Int.reduceEq,Int.reduceLT,Int.reduceLE,Int.reduceNe]
theorem afh(s:ByteArray):a7 Try.prog F.jI [cv s] (.v (.bool (ae7 s))):=by
 refine T.abu rfl rfl ?_;simp only[T.jI,AV.cells,AV.bO,WA,reduceEqDiff,reduceAdd,reduceLT,reduceLeDiff,reduceMul,reduceIte,reduceCtorEq,Int.reduceEq,Int.reduceLT,Int.reduceLE,Int.reduceNe];refine bo (afG rS s (by decide)) ?_;simp only[WA,reduceEqDiff,reduceAdd,reduceLT,reduceLeDiff,reduceMul,reduceIte,reduceCtorEq,Int.reduceEq,Int.reduceLT,Int.reduceLE,Int.reduceNe]
 rfl
end Go.Proofs.Ab
