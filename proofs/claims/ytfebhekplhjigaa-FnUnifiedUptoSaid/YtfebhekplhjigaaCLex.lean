/-
  BYTES, NAMES, WORDS: what the lexer's small tests compute.
-/
import Derived.Test.YtfebhekplhjigaaH
import Derived.Test.YtfebhekplhjigaaSL
open List(all_cons getElem_mem)
set_option linter.unusedSimpArgs false
set_option linter.unusedVariables false
namespace Go.Ab
set_option maxRecDepth 100000
set_option maxHeartbeats 4000000
def l9(n lo hi:Int):Bool:=decide (lo<=n)&&decide (n<=hi)
def lf(c:Int):Bool:=l9 c 97 122||l9 c 65 90||l9 c 48 57||decide (c=95)
def tA(f:Int->Bool):List Int->Bool
 | []=>false
 |c::r=>decide (r.length+1<=12)&&f c&&(c::r).all lf
def kS(f:Int->Bool)(s:ByteArray):Bool:=tA f (bs s)
def px:List ByteArray:=[⟨#[116,121,112,101]⟩,⟨#[111,102]⟩,⟨#[108,101,116]⟩,⟨#[114,101,99]⟩,⟨#[105,110]⟩,⟨#[102,117,110]⟩,⟨#[105,102]⟩,⟨#[116,104,101,110]⟩,⟨#[101,108,115,101]⟩,⟨#[109,97,116,99,104]⟩,⟨#[119,105,116,104]⟩,⟨#[101,110,100]⟩,⟨#[116,114,117,101]⟩,⟨#[102,97,108,115,101]⟩,⟨#[114,101,102]⟩,⟨#[114,101,97,100]⟩,⟨#[112,114,105,110,116]⟩,⟨#[101,120,105,116]⟩,⟨#[115,105,122,101]⟩]
def adr(s:ByteArray):Bool:=px.any λ y=>decide (s=y)
def ahJ(s:ByteArray):Bool:=kS (λ c=>l9 c 97 122) s&& !adr s
theorem afb(f:Int->Bool){l:List Int}(h:0<l.length)(h12:l.length<=12):tA f l=(f l[0]&&l.all lf):=by
 cases l with
 |nil=>simp at h
 |cons c r=>simp only[List.length_cons]at h12;simp only[tA,List.getElem_cons_zero,decide_eq_true h12,Bool.true_and]
theorem amk{α:Type}(p:α->Bool):∀l:List α,decide ((l.takeWhile p).length=l.length)=l.all p
 | []=>rfl
 |x::l=>by
  simp only[List.takeWhile_cons,all_cons]
  split
  ·rename_i h;simp[h,←amk p l]
  ·rename_i h;simp[h]
end Go.Ab
namespace Go.Proofs.Ab
open Go.Ab
set_option maxRecDepth 100000
set_option maxHeartbeats 4000000
theorem jA(n lo hi:Int):a7 Try.prog F.eZ [au n,au lo,au hi] (.v (.bool (l9 n lo hi))):=by
 refine T.aaU rfl rfl ?_;simp only[T.eZ,WA]
 repeat' (first|(simp(disch:=omega) only[WA])|(refine aG (λ _=> ?_) (λ _=> ?_))|(refine aZ (λ _=> ?_) (λ _=> ?_))|(refine aE (λ _=> ?_) (λ _=> ?_))|(refine aB ?_))
 all_goals simp[l9, *]
theorem kU(n lo hi:Int):a7 Try.prog F.fk [au n,au lo,au hi] (.v (.bool (l9 n lo hi))):=by
 refine T.wL rfl rfl ?_;simp only[T.fk,WA]
 repeat' (first|(simp(disch:=omega) only[WA])|(refine aG (λ _=> ?_) (λ _=> ?_))|(refine aZ (λ _=> ?_) (λ _=> ?_))|(refine aE (λ _=> ?_) (λ _=> ?_))|(refine aB ?_))
 all_goals simp[l9, *]
theorem tP(c:Int):a7 Try.prog F.ik [.v (.int .u8 c)] (.v (.bool (l9 c 97 122))):=by
 refine T.zp rfl rfl ?_;simp only[T.ik,WA]
 repeat' (first|(simp(disch:=omega) only[WA])|(refine aG (λ _=> ?_) (λ _=> ?_))|(refine aZ (λ _=> ?_) (λ _=> ?_))|(refine aE (λ _=> ?_) (λ _=> ?_))|(refine aB ?_))
 all_goals simp[l9, *]
theorem adE(c:Int):a7 Try.prog F.jt [.v (.int .u8 c)] (.v (.bool (l9 c 65 90))):=by
 refine T.zv rfl rfl ?_;simp only[T.jt,WA]
 repeat' (first|(simp(disch:=omega) only[WA])|(refine aG (λ _=> ?_) (λ _=> ?_))|(refine aZ (λ _=> ?_) (λ _=> ?_))|(refine aE (λ _=> ?_) (λ _=> ?_))|(refine aB ?_))
 all_goals simp[l9, *]
theorem adI(c:Int):a7 Try.prog F.ju [.v (.int .u8 c)] (.v (.bool (l9 c 48 57))):=by
 refine T.zx rfl rfl ?_;simp only[T.ju,WA]
 repeat' (first|(simp(disch:=omega) only[WA])|(refine aG (λ _=> ?_) (λ _=> ?_))|(refine aZ (λ _=> ?_) (λ _=> ?_))|(refine aE (λ _=> ?_) (λ _=> ?_))|(refine aB ?_))
 all_goals simp[l9, *]
theorem wR(c:Int):a7 Try.prog F.eJ [.v (.int .u8 c)] (.v (.bool (lf c))):=by
 refine T.tQ rfl rfl ?_;simp only[T.eJ,WA]
 repeat' (first|(simp(disch:=omega) only[WA])|(refine aG (λ _=> ?_) (λ _=> ?_))|(refine aZ (λ _=> ?_) (λ _=> ?_))|(refine aE (λ _=> ?_) (λ _=> ?_))|(refine aB ?_)|(refine bu (tP _) ?_)|(refine bu (adE _) ?_)|(refine bu (adI _) ?_))
 all_goals simp_all [lf]
theorem p9(c:Int):a7 Try.prog F.fe [au c] (.v (.bool (l9 c 65 90))):=by
 refine T.uE rfl rfl ?_;simp only[T.fe,WA]
 repeat' (first|(simp(disch:=omega) only[WA])|(refine aG (λ _=> ?_) (λ _=> ?_))|(refine aZ (λ _=> ?_) (λ _=> ?_))|(refine aE (λ _=> ?_) (λ _=> ?_))|(refine aB ?_)|(refine bu (jA _ _ _) ?_))
theorem qc(c:Int):a7 Try.prog F.ff [au c] (.v (.bool (l9 c 97 122))):=by
 refine T.uG rfl rfl ?_;simp only[T.ff,WA]
 repeat' (first|(simp(disch:=omega) only[WA])|(refine aG (λ _=> ?_) (λ _=> ?_))|(refine aZ (λ _=> ?_) (λ _=> ?_))|(refine aE (λ _=> ?_) (λ _=> ?_))|(refine aB ?_)|(refine bu (jA _ _ _) ?_))
theorem acO(c:Int):a7 Try.prog F.jf [au c] (.v (.bool (l9 c 48 57))):=by
 refine T.yh rfl rfl ?_;simp only[T.jf,WA]
 repeat' (first|(simp(disch:=omega) only[WA])|(refine aG (λ _=> ?_) (λ _=> ?_))|(refine aZ (λ _=> ?_) (λ _=> ?_))|(refine aE (λ _=> ?_) (λ _=> ?_))|(refine aB ?_)|(refine bu (jA _ _ _) ?_))
theorem nu(c:Int):a7 Try.prog F.ef [au c] (.v (.bool (lf c))):=by
 refine T.rB rfl rfl ?_;simp only[T.ef,WA]
 repeat' (first|(simp(disch:=omega) only[WA])|(refine aG (λ _=> ?_) (λ _=> ?_))|(refine aZ (λ _=> ?_) (λ _=> ?_))|(refine aE (λ _=> ?_) (λ _=> ?_))|(refine aB ?_)|(refine bu (p9 _) ?_)|(refine bu (qc _) ?_)|(refine bu (acO _) ?_))
 all_goals simp_all [lf]
theorem ahZ(s:ByteArray)(g:FuncId)(p:Int->Bool)(hg:∀c,0<=c->c<256->a7 Try.prog g [.v (.int .u8 c)] (.v (.bool (p c))))(k:Nat)(hk:k<=s.size)(hs:s.size<=1073741824):
  a7 Try.prog F.mU [bZ s,au k,.fn g []] (au (k+(((bs s).drop k).takeWhile p).length:Nat)):=by
 have hl:=ad6 s;refine T.adw rfl rfl ?_;simp only[T.mU,WA];refine cu [au (k+(((bs s).drop k).takeWhile p).length:Nat)] rfl ?_ (by simp only[WA]);simp only[WA];refine eh (ι:=Nat) (λ i=>i<=s.size/\k+(((bs s).drop k).takeWhile p).length=i+(((bs s).drop i).takeWhile p).length) (λ i=>[au i]) (λ i=>s.size- i) k ⟨hk,rfl⟩ rfl λ i hi=> ?_
 obtain⟨hi,hI⟩:=hi;simp only[WA];refine aB ?_;simp only[WA];refine aB ?_;simp only[WA];refine aG (λ h=> ?_) (λ h=> ?_)
 ·have aF:i<(bs s).length:=by omega
  obtain⟨c0,c1⟩:=qJ (getElem_mem aF);rw[qD aF,List.takeWhile_cons]at hI;simp only[WA];refine ak0 aF ?_;simp only[WA];refine bu (hg _ c0 c1) ?_;simp only[WA];refine aE (λ h=> ?_) (λ h=> ?_)
  ·rw[if_pos h]at hI;simp(disch:=omega) only[aH,WA];exact⟨i+1,⟨by omega,by rw[hI,List.length_cons];omega⟩,by omega,rfl⟩
  ·rw[h]at hI;simp only[WA];rw[hI];rfl
 ·have he:i=(bs s).length:=by omega
  subst he;rw[sa]at hI;simp only[WA];rw[hI];rfl
theorem abb(s:ByteArray)(g:FuncId)(p:Int->Bool)(hg:∀c,0<=c->c<256->a7 Try.prog g [.v (.int .u8 c)] (.v (.bool (p c))))(hs:s.size<=1048576):
  a7 Try.prog F.il [bZ s,.fn g []] (.v (.bool (kS p s))):=by
 have hl:=ad6 s;refine T.wS rfl rfl ?_;simp only[T.il,WA];refine aB ?_;simp only[WA];refine bu (kU _ _ _) ?_;simp only[WA];refine aE (λ h=> ?_) (λ h=> ?_)
 ·simp[l9]at h;have aF:0<(bs s).length:=by omega
  obtain⟨c0,c1⟩:=qJ (getElem_mem aF);simp only[WA];refine ak0 (i:=0) aF ?_;simp only[WA];refine bu (hg _ c0 c1) ?_;have mf:=amk lf (bs s);have bo:=ahZ s F.eJ lf (λ c _ _=>wR c) 0 (by omega) (by omega);simp only[WA];refine aE (λ h'=> ?_) (λ h'=> ?_)
  ·simp only[WA];refine bu bo ?_;simp only[WA];rw[List.drop_zero];unfold kS tA;cases hb:bs s with
   |nil=>rw[hb]at aF;simp at aF
   |cons c r=>
    simp only[hb,List.getElem_cons_zero]at h';rw[hb]at mf hl;simp only;rw[←mf,h',←hl,decide_eq_true (by simp at hl;omega:r.length+1<=12)];simp;omega
  ·simp only[WA];unfold kS tA;cases hb:bs s with
   |nil=>rfl
   |cons c r=>
    simp only[hb,List.getElem_cons_zero]at h';simp[h']
 ·simp only[WA];unfold kS tA;cases hb:bs s with
  |nil=>rfl
  |cons c r=>
   rw[hb]at hl;simp[l9]at h hl;have:¬(r.length+1<=12):=by omega
   simp[this]
theorem aaT(s:ByteArray)(b:Bool)(hs:s.size<=1048576):
  a7 Try.prog F.fW [bZ s,.v (.bool b)] (.v (.bool (kS (λ c=>if b=true then l9 c 65 90 else l9 c 97 122) s))):=by
 have hl:=ad6 s;refine T.wF rfl rfl ?_;simp only[T.fW,WA];refine aB ?_;simp only[WA];refine aB ?_;simp only[WA];refine bu (jA _ _ _) ?_;simp only[WA];refine aE (λ h=> ?_) (λ h=> ?_)
 ·simp only[WA];unfold kS tA;cases hb:bs s with
  |nil=>rfl
  |cons c r=>
   rw[hb]at hl;simp[l9]at h hl;have:¬(r.length+1<=12):=by omega
   simp[this]
 ·simp[l9]at h;have aF:0<(bs s).length:=by omega
  obtain⟨c0,c1⟩:=qJ (getElem_mem aF);simp only[WA];refine ak0 (i:=0) aF ?_;simp only[aiN c0 c1,WA];refine bu (p9 _) ?_;simp only[WA];have key:kS (λ c=>if b=true then l9 c 65 90 else l9 c 97 122) s=((if b=true then l9 (bs s)[0] 65 90 else l9 (bs s)[0] 97 122)&&(bs s).all lf):=afb _ aF (by omega);rw[key];refine aE (λ h=> ?_) (λ h=> ?_)
  ·have hx:(if b=true then l9 (bs s)[0] 65 90 else l9 (bs s)[0] 97 122)=false:=by
     cases b with
     |false=>
      have h:l9 (bs s)[0] 65 90=true:=by simpa using h
      simp only[l9,Bool.and_eq_true,decide_eq_true_eq]at h;simp[l9];omega
     |true=>simpa using h
   simp only[hx,Bool.false_and,WA]
  ·simp only[WA];refine aE (λ h2=> ?_) (λ h2=> ?_)
   ·have hb:b=false:=by simpa using h2
    subst hb;simp only[WA,reduceCtorEq];refine ak0 (i:=0) aF ?_;simp only[aiN c0 c1,WA];refine bu (qc _) ?_;simp only[WA];refine aE (λ h3=> ?_) (λ h3=> ?_)
    ·have h3:l9 (bs s)[0] 97 122=false:=by simpa using h3
     simp[h3,WA]
    ·have h3:l9 (bs s)[0] 97 122=true:=by simpa using h3
     simp only[h3,WA];refine aB ?_;simp only[WA];refine oo (bs s).length (λ i=>(bs s).all lf=((bs s).drop i).all lf) (λ i=>[au i]) rfl rfl λ i hi hI=> ?_
     simp only[WA];refine aG (λ h=> ?_) (λ h=> ?_)
     ·have aF:i<(bs s).length:=by omega
      obtain⟨c0,c1⟩:=qJ (getElem_mem aF);rw[qD aF,all_cons]at hI;simp only[WA];refine ak0 aF ?_;simp only[aiN c0 c1,WA];refine bu (nu _) ?_;simp only[WA];refine aE (λ h=> ?_) (λ h=> ?_)
      ·have h:lf (bs s)[i]=false:=by simpa using h
       rw[h]at hI;simp[hI,WA]
      ·have h:lf (bs s)[i]=true:=by simpa using h
       rw[h]at hI;simp(disch:=omega) only[aH,WA];exact⟨aF,by simpa using hI⟩
     ·have he:i=(bs s).length:=by omega
      subst he;rw[sa]at hI;simp[hI,WA]
   ·have hb:b=true:=by simpa using h2
    subst hb;have h4:l9 (bs s)[0] 65 90=true:=by simpa using h
    simp only[h4,WA];refine aB ?_;simp only[WA];refine oo (bs s).length (λ i=>(bs s).all lf=((bs s).drop i).all lf) (λ i=>[au i]) rfl rfl λ i hi hI=> ?_
    simp only[WA];refine aG (λ h=> ?_) (λ h=> ?_)
    ·have aF:i<(bs s).length:=by omega
     obtain⟨c0,c1⟩:=qJ (getElem_mem aF);rw[qD aF,all_cons]at hI;simp only[WA];refine ak0 aF ?_;simp only[aiN c0 c1,WA];refine bu (nu _) ?_;simp only[WA];refine aE (λ h=> ?_) (λ h=> ?_)
     ·have h:lf (bs s)[i]=false:=by simpa using h
      rw[h]at hI;simp[hI,WA]
     ·have h:lf (bs s)[i]=true:=by simpa using h
      rw[h]at hI;simp(disch:=omega) only[aH,WA];exact⟨aF,by simpa using hI⟩
    ·have he:i=(bs s).length:=by omega
     subst he;rw[sa]at hI;simp[hI,WA]
theorem adC(s:ByteArray):a7 Try.prog F.js [bZ s] (.v (.bool (adr s))):=by
 refine T.zu rfl rfl ?_;simp only[T.js,AV.cells,AV.cg,WA];refine bu (ad2 px s (by decide)) ?_;simp only[WA]
 rfl
end Go.Proofs.Ab
