/-
  TEXTS OF CODE PARSED: an instruction's line, by the reference.
-/
import Derived.Test.YtkinchcjijhmgaaGreatDoorWPc2
open Option(bind_some)
open Nat(reduceEqDiff reduceLeDiff reduceAdd reduceLT reduceMul)
set_option linter.unusedVariables false
set_option linter.unusedSimpArgs false
namespace Go.Proofs.Ab
open Go.Ab
set_option maxRecDepth 100000
theorem agC{s:ByteArray}{v:Int}(h:fS s=some v):(lR s).getD 0=v:=by
 obtain⟨h,e⟩:=jF h;rw[e,tc h];rfl
theorem anG{s:ByteArray}{v:Int}(h:nQ s=some v):acv s=v:=by
 rw[aaT]at h;unfold acv
 split at h
 ·cases h
 ·rename_i hq;rw[if_neg hq];cases hn:fS (s.extract 1 s.size)with
  |none=>rw[hn]at h;cases h
  |some n=>
   rw[hn]at h;simp only[bind_some]at h
   split at h
   ·injection h with h;rw[←h];exact agC hn
   ·cases h
def akw(c:Int)(w:ByteArray):Int:=if c=110 then(lR w).getD 0 else acv w
theorem aoh{c:Int}{w:ByteArray}{v:Int}(h:numOf c w=some v):akw c w=v:=by
 unfold numOf at h;unfold akw
 split at h
 ·rename_i hc;rw[if_pos hc];exact agC h
 ·rename_i hc;rw[if_neg hc];exact anG h
def amY(p:Option aa)(outs:List AV):Prop:=∃x:aa,outs= [x.av,.v (.bool p.isSome)]/\∀y,p=some y->y=x
theorem vi(s:ByteArray)(hs:s.size<=1048576):∃x:aa,aI Tryz.prog F.eu [bE s] (.aK [x.av,.v (.bool (eR s).isSome)])/\∀y,eR s=some y->y=x:=by
 have key:∃outs:List AV,outs.length=2/\amY (eR s) outs/\bD Tryz.prog (λ _ _ _=>False) (λ a=>a=b4 outs) T.eu [bE s] []:=by
  have aqS:∀p:Option aa,∃x:aa,∀y,p=some y->y=x:=λ p=>match p with
   |none=>⟨⟨0,0,0,0,0,⟨#[]⟩⟩,λ y h=>by cases h⟩
   |some x=>⟨x,λ y h=>by injection h with h;exact h.symm⟩
  obtain⟨x0,hx0⟩:=aqS (eR s);refine adw ⟨_,rfl,x0,rfl,hx0⟩ ?_;have exR:∀(m:Nat) (Q:List AV->Prop) (vs:List AV),aeM (ex m Q) vs=ex m Q (b4 vs):=λ _ _ _=>by unfold aeM;rfl
  have hP:eR s=uP (bs (fu (aC 32 s).1).2.2) (aC 32 s).2 (mU (fu (aC 32 s).1)):=rfl;have x6:=tS (aC 32 s).1
  have hms:vm (aC 32 s).2<=s.size+1:=by
   rcases hn:aC 32 s with⟨w,_|r⟩
   ·simp[vm]
   ·obtain⟨_,rfl⟩:=cj hn;simp only[vm,aL];omega
  generalize eR s=p at hP
  have fin:∀(x:aa) (b:Bool) (op a b' c n:Int) (t:ByteArray),x=⟨op,a,b',c,n,t⟩->b=p.isSome->(∀y,p=some y->y=x)->ex 2 (amY p) (.aK [.agg [br op,br a,br b',br c,br n,bE t],.v (.bool b)]):=by
   rintro x b op a b' c n t rfl rfl hx;exact⟨_,rfl,⟨_,rfl,hx⟩,rfl⟩
  simp only[T.eu,WA,reduceEqDiff,reduceAdd,reduceLT,reduceLeDiff,reduceMul,reduceIte,reduceCtorEq,Int.reduceEq,Int.reduceLT,Int.reduceLE,Int.reduceNe];refine eo (ja s hs) rfl ?_;simp only[dU,WA,reduceEqDiff,reduceAdd,reduceLT,reduceLeDiff,reduceMul,reduceIte,reduceCtorEq,Int.reduceEq,Int.reduceLT,Int.reduceLE,Int.reduceNe];refine eo (wI (aC 32 s).1) rfl ?_;generalize (aC 32 s).2=o0 at hP hms;generalize fu (aC 32 s).1=f at hP x6;obtain⟨op,text,parts⟩:=f;simp only at hP x6;have hl:=ep parts;simp only[dU,WA,reduceEqDiff,reduceAdd,reduceLT,reduceLeDiff,reduceMul,reduceIte,reduceCtorEq,Int.reduceEq,Int.reduceLT,Int.reduceLE,Int.reduceNe];refine aB ?_;simp only[WA,reduceEqDiff,reduceAdd,reduceLT,reduceLeDiff,reduceMul,reduceIte,reduceCtorEq,Int.reduceEq,Int.reduceLT,Int.reduceLE,Int.reduceNe]
  refine cM (ι:=Nat×aa×Option ByteArray) (λ q=>q.1<=(bs parts).length/\p=uP ((bs parts).drop q.1) q.2.2 q.2.1/\q.2.1.Op=op/\q.2.1.Text=text/\vm q.2.2<=s.size+1)
   (λ q=>[br q.2.1.A,br q.2.1.B,br q.2.1.C,br q.2.1.N,bE (q.2.2.getD ⟨#[]⟩),.v (.bool q.2.2.isNone),br q.1]) (λ q=>(bs parts).length- q.1) (0,mU (op,text,parts),o0)
   ⟨Nat.zero_le _,hP,rfl,rfl,hms⟩ rfl ?_
  rintro⟨k,x,o⟩ ⟨hk,hI,ho,ht,hm⟩;simp only at hk hI ho ht hm;have hxe:x=⟨op,x.A,x.B,x.C,x.N,text⟩:=by rw[←ho,←ht];cases x;rfl
  simp only[exR,WA,reduceEqDiff,reduceAdd,reduceLT,reduceLeDiff,reduceMul,reduceIte,reduceCtorEq,Int.reduceEq,Int.reduceLT,Int.reduceLE,Int.reduceNe];refine aq (λ h=> ?_) (λ h=> ?_)
  ·have au:k<(bs parts).length:=by omega
   have hx:(bs parts)[k]? =some (bs parts)[k]:=List.getElem?_eq_getElem au;have uO:=nJ au;generalize hc:(bs parts)[k]=c at hx uO;have mD:=oG hx;rw[uO]at hI;simp only[WA,reduceEqDiff,reduceAdd,reduceLT,reduceLeDiff,reduceMul,reduceIte,reduceCtorEq,Int.reduceEq,Int.reduceLT,Int.reduceLE,Int.reduceNe];refine aB ?_;simp only[WA,reduceEqDiff,reduceAdd,reduceLT,reduceLeDiff,reduceMul,reduceIte,reduceCtorEq,Int.reduceEq,Int.reduceLT,Int.reduceLE,Int.reduceNe];refine aB ?_;simp only[WA,reduceEqDiff,reduceAdd,reduceLT,reduceLeDiff,reduceMul,reduceIte,reduceCtorEq,Int.reduceEq,Int.reduceLT,Int.reduceLE,Int.reduceNe];refine bw [.v (.bool (o.isNone||decide (c=32)))] rfl ?_ ?_
   ·cases o with
    |none=>simp only[Option.isNone_none,Bool.true_or,WA,reduceEqDiff,reduceAdd,reduceLT,reduceLeDiff,reduceMul,reduceIte,reduceCtorEq,Int.reduceEq,Int.reduceLT,Int.reduceLE,Int.reduceNe]
    |some r=>
     simp only[Option.isNone_some,Bool.false_or,mD,WA,reduceEqDiff,reduceAdd,reduceLT,reduceLeDiff,reduceMul,reduceIte,reduceCtorEq,Int.reduceEq,Int.reduceLT,Int.reduceLE,Int.reduceNe]
   ·simp only[WA,reduceEqDiff,reduceAdd,reduceLT,reduceLeDiff,reduceMul,reduceIte,reduceCtorEq,Int.reduceEq,Int.reduceLT,Int.reduceLE,Int.reduceNe];refine bH (λ h1=> ?_) (λ h1=> ?_)
    ·have hp:p=none:=by
       rw[hI];cases o with
       |none=>rfl
       |some r=>
        have:c=32:=by simpa using h1
        rw[uP,if_pos this]
     simp only[exR,WA,reduceEqDiff,reduceAdd,reduceLT,reduceLeDiff,reduceMul,reduceIte,reduceCtorEq,Int.reduceEq,Int.reduceLT,Int.reduceLE,Int.reduceNe];refine fin _ _ _ _ _ _ _ _ hxe (by rw[hp];rfl) (λ y hy=>by rw[hp]at hy;cases hy)
    ·cases o with
     |none=>simp at h1
     |some r=>
      have h32:¬c=32:=by simpa using h1
      rw[uP,if_neg h32]at hI;simp only[vm]at hm;simp only[Option.getD_some,Option.isNone_some,WA,reduceEqDiff,reduceAdd,reduceLT,reduceLeDiff,reduceMul,reduceIte,reduceCtorEq,Int.reduceEq,Int.reduceLT,Int.reduceLE,Int.reduceNe];have hlr:=ep r;refine dx (λ _=>¬c=116) ?_ ?_
      ·simp only[mD,WA,reduceEqDiff,reduceAdd,reduceLT,reduceLeDiff,reduceMul,reduceIte,reduceCtorEq,Int.reduceEq,Int.reduceLT,Int.reduceLE,Int.reduceNe];refine aq (λ h6=> ?_) (λ h6=> ?_)
       ·rw[if_pos h6]at hI;simp only[WA,reduceEqDiff,reduceAdd,reduceLT,reduceLeDiff,reduceMul,reduceIte,reduceCtorEq,Int.reduceEq,Int.reduceLT,Int.reduceLE,Int.reduceNe];refine dx (λ _=>∃r',bs r=34::r') ?_ ?_
        ·simp only[WA,reduceEqDiff,reduceAdd,reduceLT,reduceLeDiff,reduceMul,reduceIte,reduceCtorEq,Int.reduceEq,Int.reduceLT,Int.reduceLE,Int.reduceNe];refine bw [.v (.bool (!decide ((bs r).head?=some 34)))] rfl ?_ ?_
         ·simp only[WA,reduceEqDiff,reduceAdd,reduceLT,reduceLeDiff,reduceMul,reduceIte,reduceCtorEq,Int.reduceEq,Int.reduceLT,Int.reduceLE,Int.reduceNe];refine aq (λ h7=> ?_) (λ h7=> ?_)
          ·subst h7;have e:bs (⟨#[]⟩:ByteArray)= []:=rfl;simp only[e,WA,reduceEqDiff,reduceAdd,reduceLT,reduceLeDiff,reduceMul,reduceIte,reduceCtorEq,Int.reduceEq,Int.reduceLT,Int.reduceLE,Int.reduceNe]
           rfl
          ·cases hb:bs r with
           |nil=>exact absurd (abP (by rw[hb];rfl)) h7
           |cons d r'=>
            have pA:=oG (s:=r) (i:=0) (c:=d) (by rw[hb];rfl);have avl:∀(k:IntKind) (K:AV->Prop),y9 (.v (.string r)) (.v (.int k 0)) K=dU K (.v (.int .u8 d)):=pA;simp only[avl,List.head?_cons,Option.some.injEq,WA,reduceEqDiff,reduceAdd,reduceLT,reduceLeDiff,reduceMul,reduceIte,reduceCtorEq,Int.reduceEq,Int.reduceLT,Int.reduceLE,Int.reduceNe]
         ·simp only[WA,reduceEqDiff,reduceAdd,reduceLT,reduceLeDiff,reduceMul,reduceIte,reduceCtorEq,Int.reduceEq,Int.reduceLT,Int.reduceLE,Int.reduceNe];refine bH (λ h7=> ?_) (λ h7=> ?_)
          ·have h8:¬(bs r).head?=some 34:=by simpa using h7
           have hp:p=none:=by
            rw[hI];unfold j7;cases hb:bs r with
            |nil=>rfl
            |cons d r'=>
             rw[hb]at h8;have:¬d=34:=by simpa using h8
             simp only[if_neg this];rfl
           simp only[exR,WA,reduceEqDiff,reduceAdd,reduceLT,reduceLeDiff,reduceMul,reduceIte,reduceCtorEq,Int.reduceEq,Int.reduceLT,Int.reduceLE,Int.reduceNe];refine fin _ _ _ _ _ _ _ _ hxe (by rw[hp];rfl) (λ y hy=>by rw[hp]at hy;cases hy)
          ·have h8:(bs r).head?=some 34:=by simpa using h7
           simp only[WA,reduceEqDiff,reduceAdd,reduceLT,reduceLeDiff,reduceMul,reduceIte,reduceCtorEq,Int.reduceEq,Int.reduceLT,Int.reduceLE,Int.reduceNe];cases hb:bs r with
           |nil=>rw[hb]at h8;cases h8
           |cons d r'=>
            rw[hb]at h8;simp only[List.head?_cons,Option.some.injEq]at h8;exact⟨r',by rw[h8]⟩
        ·rintro vs ⟨r',hb⟩ hv;obtain rfl:=List.eq_nil_of_length_eq_zero hv;have hsr:0<r.size:=by rw[←hlr,hb];simp
         obtain⟨nx,cQ⟩:=vd r 0 hsr (by omega) _ rfl;have hd:(bs r).drop (0+1)=r':=by rw[hb];rfl
         rw[hd]at cQ
         have hsp:j7 r=(fB r').bind λ q=>if q.2=r'.length then some (pG q.1)else none:=by
          unfold j7;rw[hb];rfl
         have hrl:r.size=r'.length+1:=by rw[←hlr,hb];rfl
         have h0:br ((0:Nat):Int)= .v (.int .i64 0):=rfl;rw[h0]at cQ;simp only[List.append_nil,WA,reduceEqDiff,reduceAdd,reduceLT,reduceLeDiff,reduceMul,reduceIte,reduceCtorEq,Int.reduceEq,Int.reduceLT,Int.reduceLE,Int.reduceNe];refine eo cQ (by simp[AV.ag,AV.ad,a6.ag]) ?_;rw[hsp]at hI;cases hq:fB r' with
         |none=>
          rw[hq]at hI;have hp:p=none:=hI;simp only[dU,p7,wu,mG,a6.isAgg,a6.width,a6.storable,a6.cells,atr,WA,reduceEqDiff,reduceAdd,reduceLT,reduceLeDiff,reduceMul,reduceIte,reduceCtorEq,Int.reduceEq,Int.reduceLT,Int.reduceLE,Int.reduceNe];refine bw [.v (.bool false)] rfl ?_ ?_
          ·simp only[a6.isAgg,a6.width,a6.storable,a6.cells,show decide ((4:Int)=0)=false from rfl,WA,reduceEqDiff,reduceAdd,reduceLT,reduceLeDiff,reduceMul,reduceIte,reduceCtorEq,Int.reduceEq,Int.reduceLT,Int.reduceLE,Int.reduceNe]
          ·simp only[a6.isAgg,a6.width,a6.storable,a6.cells,exR,WA,reduceEqDiff,reduceAdd,reduceLT,reduceLeDiff,reduceMul,reduceIte,reduceCtorEq,Int.reduceEq,Int.reduceLT,Int.reduceLE,Int.reduceNe];refine fin ⟨op,x.A,x.B,x.C,x.N,_⟩ _ _ _ _ _ _ _ rfl (by rw[hp];rfl) (λ y hy=>by rw[hp]at hy;cases hy)
         |some q=>
          rw[hq]at hI;simp only[bind_some]at hI;have hnx:decide (((1+q.2:Nat):Int)=(r.size:Int))=decide (q.2=r'.length):=decide_eq_decide.2 (by omega);simp only[dU,p7,wu,mG,a6.isAgg,a6.width,a6.storable,a6.cells,WA,reduceEqDiff,reduceAdd,reduceLT,reduceLeDiff,reduceMul,reduceIte,reduceCtorEq,Int.reduceEq,Int.reduceLT,Int.reduceLE,Int.reduceNe];refine bw [.v (.bool (decide (q.2=r'.length)))] rfl ?_ ?_
          ·simp only[a6.isAgg,a6.width,a6.storable,a6.cells,show decide ((0:Int)=0)=true from rfl,hnx,WA,reduceEqDiff,reduceAdd,reduceLT,reduceLeDiff,reduceMul,reduceIte,reduceCtorEq,Int.reduceEq,Int.reduceLT,Int.reduceLE,Int.reduceNe]
          ·simp only[a6.isAgg,a6.width,a6.storable,a6.cells,exR,WA,reduceEqDiff,reduceAdd,reduceLT,reduceLeDiff,reduceMul,reduceIte,reduceCtorEq,Int.reduceEq,Int.reduceLT,Int.reduceLE,Int.reduceNe];by_cases hq2:q.2=r'.length
           ·rw[if_pos hq2]at hI;simp only[Option.map_some]at hI
            refine fin ⟨op,x.A,x.B,x.C,x.N,_⟩ _ _ _ _ _ _ _ rfl (by rw[hI,decide_eq_true hq2];rfl) (λ y hy=>by
             rw[hI]at hy;injection hy with hy;rw[←hy,hxe];rfl)
           ·rw[if_neg hq2]at hI;refine fin ⟨op,x.A,x.B,x.C,x.N,_⟩ _ _ _ _ _ _ _ rfl (by rw[hI,decide_eq_false hq2];rfl) (λ y hy=>by rw[hI]at hy;cases hy)
       ·simp only[WA,reduceEqDiff,reduceAdd,reduceLT,reduceLeDiff,reduceMul,reduceIte,reduceCtorEq,Int.reduceEq,Int.reduceLT,Int.reduceLE,Int.reduceNe];exact h6
      ·rintro vs h6 hv;obtain rfl:=List.eq_nil_of_length_eq_zero hv;rw[if_neg h6]at hI;simp only[List.append_nil,WA,reduceEqDiff,reduceAdd,reduceLT,reduceLeDiff,reduceMul,reduceIte,reduceCtorEq,Int.reduceEq,Int.reduceLT,Int.reduceLE,Int.reduceNe];refine eo (ja r (by omega)) rfl ?_;simp only[dU,WA,reduceEqDiff,reduceAdd,reduceLT,reduceLeDiff,reduceMul,reduceIte,reduceCtorEq,Int.reduceEq,Int.reduceLT,Int.reduceLE,Int.reduceNe]
       have hlen:(aC 32 r).1.size<=r.size/\vm (aC 32 r).2<=r.size+1:=by
        rcases hn:aC 32 r with⟨w,_|r'⟩
        ·obtain⟨_,rfl⟩:=fj hn;simp[vm]
        ·obtain⟨_,rfl⟩:=cj hn;simp only[vm,aL];omega
       generalize (aC 32 r).2=o' at hI hlen;generalize (aC 32 r).1=w at hI hlen;refine eo (lO w (by omega)) rfl ?_;simp only[dU,WA,reduceEqDiff,reduceAdd,reduceLT,reduceLeDiff,reduceMul,reduceIte,reduceCtorEq,Int.reduceEq,Int.reduceLT,Int.reduceLE,Int.reduceNe];refine bw [br (akw c w),.v (.bool (numOf c w).isSome)] rfl ?_ ?_
       ·simp only[mD,WA,reduceEqDiff,reduceAdd,reduceLT,reduceLeDiff,reduceMul,reduceIte,reduceCtorEq,Int.reduceEq,Int.reduceLT,Int.reduceLE,Int.reduceNe];refine cn (λ h7=> ?_) (λ h7=> ?_)
        ·simp only[WA,reduceEqDiff,reduceAdd,reduceLT,reduceLeDiff,reduceMul,reduceIte,reduceCtorEq,Int.reduceEq,Int.reduceLT,Int.reduceLE,Int.reduceNe];refine eo (vf w (by omega)) rfl ?_;simp only[dU,akw,numOf,if_neg h7,WA,reduceEqDiff,reduceAdd,reduceLT,reduceLeDiff,reduceMul,reduceIte,reduceCtorEq,Int.reduceEq,Int.reduceLT,Int.reduceLE,Int.reduceNe]
        ·simp only[akw,numOf,if_pos h7,WA,reduceEqDiff,reduceAdd,reduceLT,reduceLeDiff,reduceMul,reduceIte,reduceCtorEq,Int.reduceEq,Int.reduceLT,Int.reduceLE,Int.reduceNe]
       ·cases cd:numOf c w with
        |none=>
         rw[cd]at hI;have hp:p=none:=hI;simp only[Option.isSome_none,Bool.not_false,exR,WA,reduceEqDiff,reduceAdd,reduceLT,reduceLeDiff,reduceMul,reduceIte,reduceCtorEq,Int.reduceEq,Int.reduceLT,Int.reduceLE,Int.reduceNe];refine fin _ _ _ _ _ _ _ _ hxe (by rw[hp];rfl) (λ y hy=>by rw[hp]at hy;cases hy)
        |some n=>
         have hnx:=aoh cd;rw[cd]at hI;simp only at hI;have hw2:IntKind.i64.wrap ((k:Int)+1)=((k+1:Nat):Int):=aD (by omega);have e1:=vR x c n
         have aph:∀vs:List AV,vs= [br (x.jt c n).A,br (x.jt c n).B,br (x.jt c n).C,br (x.jt c n).N,bE (o'.getD ⟨#[]⟩),.v (.bool o'.isNone),br (k+1:Nat)]->∃j:Nat×aa×Option ByteArray,(j.1<=(bs parts).length/\p=uP ((bs parts).drop j.1) j.2.2 j.2.1/\j.2.1.Op=op/\j.2.1.Text=text/\vm j.2.2<=s.size+1)/\(bs parts).length- j.1<(bs parts).length- k/\vs= [br j.2.1.A,br j.2.1.B,br j.2.1.C,br j.2.1.N,bE (j.2.2.getD ⟨#[]⟩),.v (.bool j.2.2.isNone),br j.1]:=by
          rintro vs rfl;exact⟨(k+1,x.jt c n,o'),⟨by simp only;omega,hI,e1.1.trans ho,e1.2.trans ht,by simp only;omega⟩,by simp only;omega,rfl⟩
         simp only[Option.isSome_some,Bool.not_true,hnx,mD,hw2,WA,reduceEqDiff,reduceAdd,reduceLT,reduceLeDiff,reduceMul,reduceIte,reduceCtorEq,Int.reduceEq,Int.reduceLT,Int.reduceLE,Int.reduceNe];refine aq (λ h7=> ?_) (λ h7=> ?_)
         ·simp only[hw2,WA,reduceEqDiff,reduceAdd,reduceLT,reduceLeDiff,reduceMul,reduceIte,reduceCtorEq,Int.reduceEq,Int.reduceLT,Int.reduceLE,Int.reduceNe];refine aph _ ?_;have:x.jt c n=⟨x.Op,n,x.B,x.C,x.N,x.Text⟩:=by unfold aa.jt;rw[if_pos h7]
          rw[this];rfl
         simp only[WA,reduceEqDiff,reduceAdd,reduceLT,reduceLeDiff,reduceMul,reduceIte,reduceCtorEq,Int.reduceEq,Int.reduceLT,Int.reduceLE,Int.reduceNe];refine aq (λ h8=> ?_) (λ h8=> ?_)
         ·simp only[hw2,WA,reduceEqDiff,reduceAdd,reduceLT,reduceLeDiff,reduceMul,reduceIte,reduceCtorEq,Int.reduceEq,Int.reduceLT,Int.reduceLE,Int.reduceNe];refine aph _ ?_;have:x.jt c n=⟨x.Op,x.A,n,x.C,x.N,x.Text⟩:=by unfold aa.jt;rw[if_neg h7,if_pos h8]
          rw[this];rfl
         simp only[WA,reduceEqDiff,reduceAdd,reduceLT,reduceLeDiff,reduceMul,reduceIte,reduceCtorEq,Int.reduceEq,Int.reduceLT,Int.reduceLE,Int.reduceNe];refine aq (λ h9=> ?_) (λ h9=> ?_)
         ·simp only[hw2,WA,reduceEqDiff,reduceAdd,reduceLT,reduceLeDiff,reduceMul,reduceIte,reduceCtorEq,Int.reduceEq,Int.reduceLT,Int.reduceLE,Int.reduceNe];refine aph _ ?_;have:x.jt c n=⟨x.Op,x.A,x.B,n,x.N,x.Text⟩:=by unfold aa.jt;rw[if_neg h7,if_neg h8,if_pos h9]
          rw[this];rfl
         ·simp only[hw2,WA,reduceEqDiff,reduceAdd,reduceLT,reduceLeDiff,reduceMul,reduceIte,reduceCtorEq,Int.reduceEq,Int.reduceLT,Int.reduceLE,Int.reduceNe];refine aph _ ?_;have:x.jt c n=⟨x.Op,x.A,x.B,x.C,n,x.Text⟩:=by unfold aa.jt;rw[if_neg h7,if_neg h8,if_neg h9]
          rw[this];rfl
  ·have hke:k=(bs parts).length:=by omega
   subst hke;rw[List.drop_length]at hI;simp only[exR,WA,reduceEqDiff,reduceAdd,reduceLT,reduceLeDiff,reduceMul,reduceIte,reduceCtorEq,Int.reduceEq,Int.reduceLT,Int.reduceLE,Int.reduceNe];cases o with
   |none=>
    have hp:p=some x:=hI;refine fin _ _ _ _ _ _ _ _ hxe (by rw[hp];rfl) (λ y hy=>by rw[hp]at hy;injection hy with hy;exact hy.symm)
   |some r=>
    have hp:p=none:=hI;refine fin _ _ _ _ _ _ _ _ hxe (by rw[hp];rfl) (λ y hy=>by rw[hp]at hy;cases hy)
 obtain⟨outs,_,⟨x,rfl,hx⟩,hw⟩:=key;exact⟨x,T.rn rfl rfl hw,hx⟩
end Go.Proofs.Ab
