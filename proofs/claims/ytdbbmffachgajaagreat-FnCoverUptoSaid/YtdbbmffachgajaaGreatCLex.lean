/-
  BYTES, NAMES, WORDS: what the lexer's small tests compute.
-/
import Derived.Test.YtdbbmffachgajaaGreatH
import Derived.Test.YtdbbmffachgajaaGreatSL
set_option maxHeartbeats 4000000
set_option maxRecDepth 100000
open List(all_cons getElem_mem)
set_option linter.unusedVariables false
set_option linter.unusedSimpArgs false
namespace Go.Ab
def my(n lo hi:Int):Bool:=decide (lo<=n)&&decide (n<=hi)
def ou(c:Int):Bool:=my c 97 122||my c 65 90||my c 48 57||decide (c=95)
def ae0(f:Int->Bool):List Int->Bool
 | []=>false
 |c::r=>decide (r.length+1<=12)&&f c&&(c::r).all ou
def py(f:Int->Bool)(s:ByteArray):Bool:=ae0 f (bs s)
def tN:List ByteArray:=[⟨#[116,121,112,101]⟩,⟨#[111,102]⟩,⟨#[108,101,116]⟩,⟨#[114,101,99]⟩,⟨#[105,110]⟩,⟨#[102,117,110]⟩,⟨#[105,102]⟩,⟨#[116,104,101,110]⟩,⟨#[101,108,115,101]⟩,⟨#[109,97,116,99,104]⟩,⟨#[119,105,116,104]⟩,⟨#[101,110,100]⟩,⟨#[116,114,117,101]⟩,⟨#[102,97,108,115,101]⟩,⟨#[114,101,102]⟩,⟨#[114,101,97,100]⟩,⟨#[112,114,105,110,116]⟩,⟨#[101,120,105,116]⟩,⟨#[115,105,122,101]⟩]
def akw(s:ByteArray):Bool:=tN.any λ y=>decide (s=y)
def ayc(s:ByteArray):Bool:=py (λ c=>my c 97 122) s&& !akw s
theorem am6(f:Int->Bool){l:List Int}(h:0<l.length)(h12:l.length<=12):ae0 f l=(f l[0]&&l.all ou):=by
 cases l with
 |nil=>simp at h
 |cons c r=>simp only[List.length_cons]at h12;simp only[ae0,List.getElem_cons_zero,decide_eq_true h12,Bool.true_and]
theorem aw7{α:Type}(p:α->Bool):∀l:List α,decide ((l.takeWhile p).length=l.length)=l.all p
 | []=>rfl
 |x::l=>by
  simp only[List.takeWhile_cons,all_cons]
  split
  ·rename_i h;simp[h,←aw7 p l]
  ·rename_i h;simp[h]
end Go.Ab
namespace Go.Proofs.Ab
open Go.Ab
theorem ke(n lo hi:Int):aW Tryz.prog F.fb [aD n,aD lo,aD hi] (.v (.bool (my n lo hi))):=by
 refine T.ag3 rfl rfl ?_;simp only[T.fb,WA,seval]
 repeat' (first|(simp(disch:=omega) only[WA,seval])|(refine aC (λ _=> ?_) (λ _=> ?_))|(refine aP (λ _=> ?_) (λ _=> ?_))|(refine aA (λ _=> ?_) (λ _=> ?_))|(refine aw ?_))
 all_goals simp[my, *]
theorem nO(n lo hi:Int):aW Tryz.prog F.iZ [aD n,aD lo,aD hi] (.v (.bool (my n lo hi))):=by
 refine T.acv rfl rfl ?_;simp only[T.iZ,WA,seval]
 repeat' (first|(simp(disch:=omega) only[WA,seval])|(refine aC (λ _=> ?_) (λ _=> ?_))|(refine aP (λ _=> ?_) (λ _=> ?_))|(refine aA (λ _=> ?_) (λ _=> ?_))|(refine aw ?_))
 all_goals simp[my, *]
theorem y7(c:Int):aW Tryz.prog F.nC [.v (.int .u8 c)] (.v (.bool (my c 97 122))):=by
 refine T.afl rfl rfl ?_;simp only[T.nC,WA,seval]
 repeat' (first|(simp(disch:=omega) only[WA,seval])|(refine aC (λ _=> ?_) (λ _=> ?_))|(refine aP (λ _=> ?_) (λ _=> ?_))|(refine aA (λ _=> ?_) (λ _=> ?_))|(refine aw ?_))
 all_goals simp[my, *]
theorem akJ(c:Int):aW Tryz.prog F.qn [.v (.int .u8 c)] (.v (.bool (my c 65 90))):=by
 refine T.afr rfl rfl ?_;simp only[T.qn,WA,seval]
 repeat' (first|(simp(disch:=omega) only[WA,seval])|(refine aC (λ _=> ?_) (λ _=> ?_))|(refine aP (λ _=> ?_) (λ _=> ?_))|(refine aA (λ _=> ?_) (λ _=> ?_))|(refine aw ?_))
 all_goals simp[my, *]
theorem akL(c:Int):aW Tryz.prog F.qo [.v (.int .u8 c)] (.v (.bool (my c 48 57))):=by
 refine T.afu rfl rfl ?_;simp only[T.qo,WA,seval]
 repeat' (first|(simp(disch:=omega) only[WA,seval])|(refine aC (λ _=> ?_) (λ _=> ?_))|(refine aP (λ _=> ?_) (λ _=> ?_))|(refine aA (λ _=> ?_) (λ _=> ?_))|(refine aw ?_))
 all_goals simp[my, *]
theorem acA(c:Int):aW Tryz.prog F.jO [.v (.int .u8 c)] (.v (.bool (ou c))):=by
 refine T.y8 rfl rfl ?_;simp only[T.jO,WA,seval]
 repeat' (first|(simp(disch:=omega) only[WA,seval])|(refine aC (λ _=> ?_) (λ _=> ?_))|(refine aP (λ _=> ?_) (λ _=> ?_))|(refine aA (λ _=> ?_) (λ _=> ?_))|(refine aw ?_)|(refine aJ (y7 _) ?_)|(refine aJ (akJ _) ?_)|(refine aJ (akL _) ?_))
 all_goals simp_all [ou]
theorem uC(c:Int):aW Tryz.prog F.dj [aD c] (.v (.bool (my c 65 90))):=by
 refine T.aag rfl rfl ?_;simp only[T.dj,WA,seval]
 repeat' (first|(simp(disch:=omega) only[WA,seval])|(refine aC (λ _=> ?_) (λ _=> ?_))|(refine aP (λ _=> ?_) (λ _=> ?_))|(refine aA (λ _=> ?_) (λ _=> ?_))|(refine aw ?_)|(refine aJ (ke _ _ _) ?_))
theorem uD(c:Int):aW Tryz.prog F.dw [aD c] (.v (.bool (my c 97 122))):=by
 refine T.aai rfl rfl ?_;simp only[T.dw,WA,seval]
 repeat' (first|(simp(disch:=omega) only[WA,seval])|(refine aC (λ _=> ?_) (λ _=> ?_))|(refine aP (λ _=> ?_) (λ _=> ?_))|(refine aA (λ _=> ?_) (λ _=> ?_))|(refine aw ?_)|(refine aJ (ke _ _ _) ?_))
theorem ajQ(c:Int):aW Tryz.prog F.fH [aD c] (.v (.bool (my c 48 57))):=by
 refine T.aeg rfl rfl ?_;simp only[T.fH,WA,seval]
 repeat' (first|(simp(disch:=omega) only[WA,seval])|(refine aC (λ _=> ?_) (λ _=> ?_))|(refine aP (λ _=> ?_) (λ _=> ?_))|(refine aA (λ _=> ?_) (λ _=> ?_))|(refine aw ?_)|(refine aJ (ke _ _ _) ?_))
theorem qM(c:Int):aW Tryz.prog F.cR [aD c] (.v (.bool (ou c))):=by
 refine T.vW rfl rfl ?_;simp only[T.cR,WA,seval]
 repeat' (first|(simp(disch:=omega) only[WA,seval])|(refine aC (λ _=> ?_) (λ _=> ?_))|(refine aP (λ _=> ?_) (λ _=> ?_))|(refine aA (λ _=> ?_) (λ _=> ?_))|(refine aw ?_)|(refine aJ (uC _) ?_)|(refine aJ (uD _) ?_)|(refine aJ (ajQ _) ?_))
 all_goals simp_all [ou]
theorem apX(s:ByteArray)(g:FuncId)(p:Int->Bool)(hg:∀c,0<=c->c<256->aW Tryz.prog g [.v (.int .u8 c)] (.v (.bool (p c))))(k:Nat)(hk:k<=s.size)(hs:s.size<=1073741824):
  aW Tryz.prog F.u0 [oJ s,aD k,.fn g []] (aD (k+(((bs s).drop k).takeWhile p).length:Nat)):=by
 have hl:=ald s;refine T.akB rfl rfl ?_;simp only[T.u0,WA,seval];refine aG [aD (k+(((bs s).drop k).takeWhile p).length:Nat)] rfl ?_ (by simp only[WA,seval]);simp only[WA,seval];refine fK (ι:=Nat) (λ i=>i<=s.size/\k+(((bs s).drop k).takeWhile p).length=i+(((bs s).drop i).takeWhile p).length) (λ i=>[aD i]) (λ i=>s.size- i) k ⟨hk,rfl⟩ rfl λ i hi=> ?_
 obtain⟨hi,hI⟩:=hi;simp only[WA,seval];refine aw ?_;simp only[WA,seval];refine aw ?_;simp only[WA,seval];refine aC (λ h=> ?_) (λ h=> ?_)
 ·have aK:i<(bs s).length:=by omega
  obtain⟨c0,c1⟩:=vo (getElem_mem aK);rw[vi aK,List.takeWhile_cons]at hI;simp only[WA,seval];refine at1 aK ?_;simp only[WA,seval];refine aJ (hg _ c0 c1) ?_;simp only[WA,seval];refine aA (λ h=> ?_) (λ h=> ?_)
  ·rw[if_pos h]at hI;simp(disch:=omega) only[aI,WA,seval];exact⟨i+1,⟨by omega,by rw[hI,List.length_cons];omega⟩,by omega,rfl⟩
  ·rw[h]at hI;simp only[WA,seval];rw[hI];rfl
 ·have he:i=(bs s).length:=by omega
  subst he;rw[wX]at hI;simp only[WA,seval];rw[hI];rfl
theorem ahp(s:ByteArray)(g:FuncId)(p:Int->Bool)(hg:∀c,0<=c->c<256->aW Tryz.prog g [.v (.int .u8 c)] (.v (.bool (p c))))(hs:s.size<=1048576):
  aW Tryz.prog F.oC [oJ s,.fn g []] (.v (.bool (py p s))):=by
 have hl:=ald s;refine T.acC rfl rfl ?_;simp only[T.oC,WA,seval];refine aw ?_;simp only[WA,seval];refine aJ (nO _ _ _) ?_;simp only[WA,seval];refine aA (λ h=> ?_) (λ h=> ?_)
 ·simp[my]at h;have aK:0<(bs s).length:=by omega
  obtain⟨c0,c1⟩:=vo (getElem_mem aK);simp only[WA,seval];refine at1 (i:=0) aK ?_;simp only[WA,seval];refine aJ (hg _ c0 c1) ?_;have wi:=aw7 ou (bs s);have gC:=apX s F.jO ou (λ c _ _=>acA c) 0 (by omega) (by omega);simp only[WA,seval];refine aA (λ h'=> ?_) (λ h'=> ?_)
  ·simp only[WA,seval];refine aJ gC ?_;simp only[WA,seval];rw[List.drop_zero];unfold py ae0;cases hb:bs s with
   |nil=>rw[hb]at aK;simp at aK
   |cons c r=>
    simp only[hb,List.getElem_cons_zero]at h';rw[hb]at wi hl;simp only;rw[←wi,h',←hl,decide_eq_true (by simp at hl;omega:r.length+1<=12)];simp;omega
  ·simp only[WA,seval];unfold py ae0;cases hb:bs s with
   |nil=>rfl
   |cons c r=>
    simp only[hb,List.getElem_cons_zero]at h';simp[h']
 ·simp only[WA,seval];unfold py ae0;cases hb:bs s with
  |nil=>rfl
  |cons c r=>
   rw[hb]at hl;simp[my]at h hl;have:¬(r.length+1<=12):=by omega
   simp[this]
theorem ag2(s:ByteArray)(b:Bool)(hs:s.size<=1048576):
  aW Tryz.prog F.dL [oJ s,.v (.bool b)] (.v (.bool (py (λ c=>if b=true then my c 65 90 else my c 97 122) s))):=by
 have hl:=ald s;refine T.ack rfl rfl ?_;simp only[T.dL,WA,seval];refine aw ?_;simp only[WA,seval];refine aw ?_;simp only[WA,seval];refine aJ (ke _ _ _) ?_;simp only[WA,seval];refine aA (λ h=> ?_) (λ h=> ?_)
 ·simp only[WA,seval];unfold py ae0;cases hb:bs s with
  |nil=>rfl
  |cons c r=>
   rw[hb]at hl;simp[my]at h hl;have:¬(r.length+1<=12):=by omega
   simp[this]
 ·simp[my]at h;have aK:0<(bs s).length:=by omega
  obtain⟨c0,c1⟩:=vo (getElem_mem aK);simp only[WA,seval];refine at1 (i:=0) aK ?_;simp only[arK c0 c1,WA,seval];refine aJ (uC _) ?_;simp only[WA,seval];have key:py (λ c=>if b=true then my c 65 90 else my c 97 122) s=((if b=true then my (bs s)[0] 65 90 else my (bs s)[0] 97 122)&&(bs s).all ou):=am6 _ aK (by omega);rw[key];refine aA (λ h=> ?_) (λ h=> ?_)
  ·have hx:(if b=true then my (bs s)[0] 65 90 else my (bs s)[0] 97 122)=false:=by
     cases b with
     |false=>
      have h:my (bs s)[0] 65 90=true:=by simpa using h
      simp only[my,Bool.and_eq_true,decide_eq_true_eq]at h;simp[my];omega
     |true=>simpa using h
   simp only[hx,Bool.false_and,WA,seval]
  ·simp only[WA,seval];refine aA (λ h2=> ?_) (λ h2=> ?_)
   ·have hb:b=false:=by simpa using h2
    subst hb;simp only[WA,seval];refine at1 (i:=0) aK ?_;simp only[arK c0 c1,WA,seval];refine aJ (uD _) ?_;simp only[WA,seval];refine aA (λ h3=> ?_) (λ h3=> ?_)
    ·have h3:my (bs s)[0] 97 122=false:=by simpa using h3
     simp[h3,WA,seval]
    ·have h3:my (bs s)[0] 97 122=true:=by simpa using h3
     simp only[h3,WA,seval];refine aw ?_;simp only[WA,seval];refine sj (bs s).length (λ i=>(bs s).all ou=((bs s).drop i).all ou) (λ i=>[aD i]) rfl rfl λ i hi hI=> ?_
     simp only[WA,seval];refine aC (λ h=> ?_) (λ h=> ?_)
     ·have aK:i<(bs s).length:=by omega
      obtain⟨c0,c1⟩:=vo (getElem_mem aK);rw[vi aK,all_cons]at hI;simp only[WA,seval];refine at1 aK ?_;simp only[arK c0 c1,WA,seval];refine aJ (qM _) ?_;simp only[WA,seval];refine aA (λ h=> ?_) (λ h=> ?_)
      ·have h:ou (bs s)[i]=false:=by simpa using h
       rw[h]at hI;simp[hI,WA,seval]
      ·have h:ou (bs s)[i]=true:=by simpa using h
       rw[h]at hI;simp(disch:=omega) only[aI,WA,seval];exact⟨aK,by simpa using hI⟩
     ·have he:i=(bs s).length:=by omega
      subst he;rw[wX]at hI;simp[hI,WA,seval]
   ·have hb:b=true:=by simpa using h2
    subst hb;have h4:my (bs s)[0] 65 90=true:=by simpa using h
    simp only[h4,WA,seval];refine aw ?_;simp only[WA,seval];refine sj (bs s).length (λ i=>(bs s).all ou=((bs s).drop i).all ou) (λ i=>[aD i]) rfl rfl λ i hi hI=> ?_
    simp only[WA,seval];refine aC (λ h=> ?_) (λ h=> ?_)
    ·have aK:i<(bs s).length:=by omega
     obtain⟨c0,c1⟩:=vo (getElem_mem aK);rw[vi aK,all_cons]at hI;simp only[WA,seval];refine at1 aK ?_;simp only[arK c0 c1,WA,seval];refine aJ (qM _) ?_;simp only[WA,seval];refine aA (λ h=> ?_) (λ h=> ?_)
     ·have h:ou (bs s)[i]=false:=by simpa using h
      rw[h]at hI;simp[hI,WA,seval]
     ·have h:ou (bs s)[i]=true:=by simpa using h
      rw[h]at hI;simp(disch:=omega) only[aI,WA,seval];exact⟨aK,by simpa using hI⟩
    ·have he:i=(bs s).length:=by omega
     subst he;rw[wX]at hI;simp[hI,WA,seval]
theorem akH(s:ByteArray):aW Tryz.prog F.qm [oJ s] (.v (.bool (akw s))):=by
 refine T.afp rfl rfl ?_;simp only[T.qm,AV.cells,AV.cB,WA,seval];refine aJ (ak9 tN s (by decide)) ?_;simp only[WA,seval]
 rfl
end Go.Proofs.Ab
