/-
  TYPES BEHIND TYPES: of the reference's parser, so far as the prelude needs it.
-/
import Derived.Test.YtdbbmffachgajaaGreatSM
import Derived.Test.YtdbbmffachgajaaGreatGM
set_option maxHeartbeats 4000000
set_option maxRecDepth 100000
open Nat(reduceEqDiff reduceLeDiff reduceAdd reduceLT reduceMul)
set_option linter.unusedVariables false
set_option linter.unusedSimpArgs false
namespace Go.Proofs.Ab
open Go.Ab
def T.bh:T:= .op ab2 (.op aim (.aq rU (.op (.aY F.bo G.bo [pR,rR,rP,tE,tF,rW,tG,awF]) (.ite pN dU (.op (.aY F.ck G.ck [w9,qI,adn,abn,abo,abl,adI]) (.op arj (.aq al4 (.op aEy (.ite df (.op (.aY F.bJ G.bJ aFh) (.ite adF (.op (.aY F.ck G.ck [aie,alY,alZ,av5,av6,av7,av8]) (.op (.val (.ext 14 0)) (.aq (.cells eA 4) (.op (.pu (.qk false) [aii]) (.ite fu (.op (.aY F.bJ G.bJ [.ext 14 1,.ext 14 2,.ext 14 3,.ext 14 4,.ext 14 5,.ext 14 6,.ext 14 7]) (.ite (.ext 17 0) dU (.op (.iE (.agg [.v (.int .i64 0),.v (.string ⟨#[]⟩),.v (.int .i64 0),.an]) 1 [(0,.x 15)]) (.ret [.agg [qH,aif,aih,.sl iS],.ext 17 1,.ext 17 2,.ext 17 3,.ext 17 4,.ext 17 5,.ext 17 6,.ext 17 7])))) dU))))) (.ret [aEg,aie,alY,alZ,av5,av6,av7,av8]))) (.ret [aEg,abg,ah6,ah7,ah8,ah9,aib,ah2]))))))))))
theorem aP3{l:List AV}(h:l.length=7):∃a b c d e f g,l= [a,b,c,d,e,f,g]:=by
 match l,h with
 | [a,b,c,d,e,f,g],_=>exact⟨a,b,c,d,e,f,g,rfl⟩
theorem len8{l:List AV}(h:l.length=8):∃a b c d e f g k,l= [a,b,c,d,e,f,g,k]:=by
 match l,h with
 | [a,b,c,d,e,f,g,k],_=>exact⟨a,b,c,d,e,f,g,k,rfl⟩
theorem lj{P:Program}{f:FuncId}{args:List AV}{res:AV}{t z:Nat}{xs ys:List AV}(h:j7 P f args [.live t z xs] res [.live t z ys])(ha:AV.bK 1 args=true)(hx:AV.ae xs=true)(hy:AV.ae ys=true)(hr:res.ag=true)(B:List aj):
  j7 P f args (.live t z xs::B) res (.live t z ys::B):=by
 have s1:(AV.sl xs).inScope 1=true:=aM (AV.sl xs) hx;have s2:(AV.sl ys).inScope 1=true:=aM (AV.sl ys) hy;simp only[AV.inScope]at s1 s2;refine h.front rfl ha (aM _ hr) ?_ ?_ B
 ·simp only[List.all_cons,List.all_nil,aj.inScope,Bool.and_true,List.length_cons,List.length_nil];exact s1
 ·simp only[List.all_cons,List.all_nil,aj.inScope,Bool.and_true,List.length_cons,List.length_nil];exact s2
theorem aki{t z:Nat}{xs:List AV}(hx:AV.ae xs=true):(aj.live t z xs).inScope 1=true:=by
 have s1:(AV.sl xs).inScope 1=true:=aM (AV.sl xs) hx;simp only[AV.inScope]at s1;exact s1
theorem aex{rs:List ff}{res:AV}{x:AX}(hx:x= .ret∨x= .normal){e:Env}{t z:Nat}{xs:List AV}{B:List aj}(h:fm e (.live t z xs::B) rs [] λ ys=>cv ys=res)(hr:res.ag=true)(hn:AV.ae xs=true):
  p7 1 rs res [.live t z xs] x e (.live t z xs::B):=by
 have:fm e (.live t z xs::B) rs [] λ ys=>∃e',WK 1 (λ t=>if t=0 then cv ys else .top) (.live t z xs::B) e' [.live t z xs]/\e' 0=res:=by
  refine vF rs _ _ _ (λ ys hp=> ?_) h;refine⟨λ t=>if t=0 then res else .top,WK.forget (k:=1) rfl (Nat.le_refl _) (by simp) (λ ob hb=> ?_) λ u=> ?_,rfl⟩
  ·rw[List.mem_singleton]at hb;rw[hb];exact aki hn
  ·by_cases hu:u=0
   ·subst hu;exact .inr ⟨by simp[hp],by simpa using aM _ hr⟩
   ·exact .inl (by simp[hu])
 rcases hx with rfl|rfl<;>exact this
theorem ata{rs:List ff}{c0 c1 c2:AV}{k len ty zz:Nat}{ks:List AV}{x:AX}(hx:x= .ret∨x= .normal){e:Env}{t z:Nat}{xs:List AV}{B:List aj}(h:fm e (.live t z xs::B) rs [] λ ys=>cv ys= .agg [c0,c1,c2,.row (k+1) len])
  (hk:B[k]? =some (.live ty zz ks)) (hl:ks.length=len) (hr:AV.ae [c0,c1,c2]=true) (hks:AV.ae ks=true) (hn:AV.ae xs=true):
  p7 1 rs (.agg [c0,c1,c2,.sl ks]) [.live t z xs] x e (.live t z xs::B):=by
 subst hl
 have hrr:(AV.agg [c0,c1,c2,.sl ks]).ag=true:=by
  simp only[AV.ae,AV.ag,Bool.and_true]at hr⊢;simp only[hr,hks,Bool.and_true]
 have hkl:k<B.length:=(List.getElem?_eq_some_iff.1 hk).1
 have:fm e (.live t z xs::B) rs [] λ ys=>∃e',WK 1 (λ t=>if t=0 then cv ys else .top) (.live t z xs::B) e' [.live t z xs]/\e' 0= .agg [c0,c1,c2,.sl ks]:=by
  refine vF rs _ _ _ (λ ys hp=> ?_) h;refine⟨λ t=>if t=0 then .agg [c0,c1,c2,.sl ks]else .top,WK.trans (e':=λ t=>if t=0 then .agg [c0,c1,c2,.sl ks]else .top) (O':=(.live t z xs::B).set (k+1) .dead) ?_ (WK.forget (k:=1) ?_ (Nat.le_refl _) (by simp) (λ ob hb=> ?_) λ u=> ?_),rfl⟩
  ·refine WK.lh (n:=k+1) (t:=ty) (s:=zz) (xs:=ks) (.inl (by simpa using hk)) hks (by simp) (by simp[hkl]) (λ m hm=> .inl ?_) λ u=> ?_
   ·rw[List.getElem?_set_ne (λ h=>hm h.symm)]
   ·by_cases hu:u=0
    ·subst hu;simp only[if_true,hp];refine .agg _ _ rfl λ i c d hc hd=> ?_
     match i,hc,hd with
     |0,hc,hd=>cases hc;cases hd;exact .refl _
     |1,hc,hd=>cases hc;cases hd;exact .refl _
     |2,hc,hd=>cases hc;cases hd;exact .refl _
     |3,hc,hd=>cases hc;cases hd;exact .row
    ·simp only[if_neg hu];exact .refl _
  ·rfl
  ·rw[List.mem_singleton]at hb;rw[hb];exact aki hn
  ·by_cases hu:u=0
   ·subst hu;exact .inr ⟨rfl,aM _ hrr⟩
   ·exact .inl (by simp[hu])
 rcases hx with rfl|rfl<;>exact this
theorem apt(P:Program)(e:Env)(O:List aj)(K:KT)(t s:Nat)(z:AV)(x:bj):Go.Ab.wpOp P (.ep t s 1 z [(0,x)]) e O K=((x.ev e).cells.length=s/\(x.ev e).storable=true/\AV.ae [x.ev e]=true/\k1 (.sl [x.ev e]) O K):=by
 simp[Go.Ab.wpOp,uO,k1]
theorem pF{P:Program}{f:FuncId}{g:eK}{args:List AV}{K:AV->Prop}(h:rB P f g args K):∃outs,jY P f g args outs/\outs.length=g.m/\AV.ae outs=true/\gn K (.aZ outs):=by
 obtain⟨o,h1,h2,h3,h4⟩:=h;exact⟨o,h1,h2,h3,by unfold gn;exact h4⟩
theorem ac6{P:Program}{L:Nat->List AV->Nat->Prop}{R:AV->Prop}{c:AV}{t f:T}{r:List AV}{S:List (List AV->Prop)}(h:afg P (λ _ _ _=>False) R c t f r S):(c= .v (.bool true)/\cL P (λ _ _ _=>False) R t r S)∨(c= .v (.bool false)/\cL P (λ _ _ _=>False) R f r S):=by
 unfold afg at h
 split at h
 ·rename_i b;cases b
  ·exact .inr ⟨rfl,h.2 rfl⟩
  ·exact .inl ⟨rfl,h.1 rfl⟩
 ·exact h.elim
theorem aC7{op:BinOp}{a b:AV}{K:AV->Prop}(h:ic op a b K):∃z,gn K (.v z)/\∀(O:List aj) (K':KT),k1 (.v z) O K'->fT op a b O K':=by
 unfold ic fT at h
 split at h
 ·rename_i x y
  split at h
  ·rename_i z hz;refine⟨z,by unfold gn;exact h,λ O K' k=> ?_⟩;unfold fT;simp only[hz];exact k
  ·exact h.elim
 ·exact h.elim
theorem aBP{q:AV}{K:AV->Prop}(h:puT (.qk false) [q] K):(q= .an/\gn K (.v (.bool true)))∨gn K (.v (.bool false)):=by
 cases q with
 |an=>rw[aw6]at h;exact .inl ⟨rfl,h⟩
 |sl xs=>cases xs with
  |nil=>simp[puT,puK,zR]at h
  |cons x xs=>rw[arP]at h;exact .inr h
 |_=>simp[puT,puK,zR]at h
theorem atB{a b c d e f g k:AV}(h:AV.ae [a,b,c,d,e,f,g,k]=true):a.ag=true/\AV.ae [.agg [b,c,d,e,f,g,k]]=true:=by
 simp only[AV.ae,AV.ag,Bool.and_eq_true,Bool.and_true]at h⊢;exact⟨h.1,h.2⟩
theorem aDj{a:AV}(h1:a.isAgg=true)(h2:a.cells.length=4):∃c0 c1 c2 c3,a= .agg [c0,c1,c2,c3]:=by
 cases a with
 |agg cs=>match cs,h2 with
  | [c0,c1,c2,c3],_=>exact⟨c0,c1,c2,c3,rfl⟩
 |_=>cases h1
theorem T.xj{ins outs:List AV}(hl:ins.length=7)(ho:outs.length=8)(hn:AV.ae ins=true)(hw:cL Tryz.prog (λ _ _ _=>False) (λ a=>a=cv outs) T.bh ins []):jY Tryz.prog F.bh G.bh ins outs:=by
 obtain⟨i0,i1,i2,i3,i4,i5,i6,rfl⟩:=aP3 hl;obtain⟨o0,o1,o2,o3,o4,o5,o6,o7,rfl⟩:=len8 ho;simp only[T.bh,WA]at hw
 have hnC:AV.ae [.agg [i0,i1,i2,i3,i4,i5,i6]]=true:=by
  simp only[AV.ae,AV.ag,Bool.and_true]at hn⊢;exact hn
 obtain⟨va,ca,la,na,hw⟩:=pF hw;obtain⟨a0,a1,a2,a3,a4,a5,a6,a7,rfl⟩:=len8 la
 replace ca:j7 Tryz.prog F.de [.ptr 0 1 0 0] [.live 100 7 [.agg [i0,i1,i2,i3,i4,i5,i6]]] a0 [.live 100 7 [.agg [a1,a2,a3,a4,a5,a6,a7]]]:=ca
 obtain⟨na0,naC⟩:=atB na;simp only[WA]at hw;obtain⟨a0g,a0l,a0s,hw⟩:=hw;obtain⟨p0,p1,p2,p3,rfl⟩:=aDj a0g a0l;obtain⟨vb,cb,lb,nb,hw⟩:=pF hw;obtain⟨b0,b1,b2,b3,b4,b5,b6,b7,rfl⟩:=len8 lb
 replace cb:j7 Tryz.prog F.bo [.ptr 0 1 0 0,.v (.string ⟨#[114,101,102]⟩)] [.live 100 7 [.agg [a1,a2,a3,a4,a5,a6,a7]]] b0 [.live 100 7 [.agg [b1,b2,b3,b4,b5,b6,b7]]]:=cb
 obtain⟨nb0,nbC⟩:=atB nb;simp only[WA]at hw;rcases ac6 (L:=λ _ _ _=>False) hw with⟨_,hw⟩|⟨rfl,hw⟩
 ·simp only[WA]at hw
 simp only[WA]at hw;obtain⟨vc,cc,lc,nc,hw⟩:=pF hw;obtain⟨c0,c1,c2,c3,c4,c5,c6,c7,rfl⟩:=len8 lc
 replace cc:j7 Tryz.prog F.ck [.ptr 0 1 0 0] [.live 100 7 [.agg [b1,b2,b3,b4,b5,b6,b7]]] c0 [.live 100 7 [.agg [c1,c2,c3,c4,c5,c6,c7]]]:=cc
 obtain⟨nc0,ncC⟩:=atB nc;simp only[WA]at hw;obtain⟨c0g,c0l,c0s,hw⟩:=hw;obtain⟨q0,q1,q2,q3,rfl⟩:=aDj c0g c0l;obtain⟨z,hw,hz⟩:=aC7 hw;simp only[WA]at hw;have w0:cA (some 4) (AV.agg [p0,p1,p2,p3]) 0= .agg [p0,p1,p2,p3]:=rfl;have w1:cA (some 4) (AV.agg [q0,q1,q2,q3]) 0= .agg [q0,q1,q2,q3]:=rfl;rcases ac6 (L:=λ _ _ _=>False) hw with⟨hzf,hw⟩|⟨hzf,hw⟩
 ·cases hzf;simp only[WA]at hw;obtain⟨vd,cd,ld,nd,hw⟩:=pF hw;obtain⟨d0,d1,d2,d3,d4,d5,d6,d7,rfl⟩:=len8 ld
  replace cd:j7 Tryz.prog F.bJ [.ptr 0 1 0 0] [.live 100 7 [.agg [c1,c2,c3,c4,c5,c6,c7]]] d0 [.live 100 7 [.agg [d1,d2,d3,d4,d5,d6,d7]]]:=cd
  obtain⟨nd0,ndC⟩:=atB nd;simp only[WA]at hw;rcases ac6 (L:=λ _ _ _=>False) hw with⟨rfl,hw⟩|⟨rfl,hw⟩
  ·simp only[WA]at hw;obtain⟨ve,ce,le,ne,hw⟩:=pF hw;obtain⟨e0,e1,e2,e3,e4,e5,e6,e7,rfl⟩:=len8 le
   replace ce:j7 Tryz.prog F.ck [.ptr 0 1 0 0] [.live 100 7 [.agg [d1,d2,d3,d4,d5,d6,d7]]] e0 [.live 100 7 [.agg [e1,e2,e3,e4,e5,e6,e7]]]:=ce
   obtain⟨ne0,neC⟩:=atB ne;simp only[WA]at hw;obtain⟨e0g,e0l,e0s,hw⟩:=hw;obtain⟨r0,r1,r2,r3,rfl⟩:=aDj e0g e0l;rcases aBP hw with⟨rfl,hw⟩|hw
   ·simp only[WA]at hw;obtain⟨vf,cf,lf,nf,hw⟩:=pF hw;obtain⟨f0,f1,f2,f3,f4,f5,f6,f7,rfl⟩:=len8 lf
    replace cf:j7 Tryz.prog F.bJ [.ptr 0 1 0 0] [.live 100 7 [.agg [e1,e2,e3,e4,e5,e6,e7]]] f0 [.live 100 7 [.agg [f1,f2,f3,f4,f5,f6,f7]]]:=cf
    obtain⟨nf0,nfC⟩:=atB nf;simp only[WA]at hw;rcases ac6 (L:=λ _ _ _=>False) hw with⟨_,hw⟩|⟨rfl,hw⟩
    ·simp only[WA]at hw
    simp only[WA]at hw
    show j7 Tryz.prog F.bh [.ptr 0 1 0 0] [.live 100 7 [.agg [i0,i1,i2,i3,i4,i5,i6]]] o0 [.live 100 7 [.agg [o1,o2,o3,o4,o5,o6,o7]]];refine gx A.nk rfl ?_;simp only[A.bh,↓OD,OA,reduceEqDiff,reduceCtorEq];refine bS _ _ (lj ca rfl hnC naC na0 _) ?_;simp only[a0s,↓OD,OA,reduceEqDiff,reduceCtorEq,reduceAdd];refine bS _ _ (lj cb rfl naC nbC nb0 _) ?_;simp only[↓OD,OA,reduceEqDiff,reduceCtorEq];refine bS _ _ (lj cc rfl nbC ncC nc0 _) ?_;simp only[c0s,↓OD,OA,reduceEqDiff,reduceCtorEq,reduceAdd,reduceLeDiff];refine hz _ _ ?_;simp only[↓OD,OA,reduceEqDiff,reduceCtorEq]
    refine eV (ι:=Bool) (λ _=>True) (λ _=>fx [(0,AV.ptr 0 1 0 0),(2,AV.ptr 1 1 0 0),(4,AV.ptr 3 1 0 0)]) (λ b=>if b=true then [aj.live 100 7 [AV.agg [e1,e2,e3,e4,e5,e6,e7]],
     aj.live 114 4 [AV.agg [AV.v (Value.int IntKind.i64 0),AV.v (Value.string {data:= #[]}),AV.v (Value.int IntKind.i64 0),AV.an]],aj.live 148 4 [AV.agg [p0,p1,p2,p3]],aj.live 114 4 [AV.agg [q0,q1,q2,.row 4 1]],.live 114 4 [.agg [r0,r1,r2,r3]]]
     else [aj.live 100 7 [AV.agg [c1,c2,c3,c4,c5,c6,c7]],
     aj.live 114 4 [AV.agg [AV.v (Value.int IntKind.i64 0),AV.v (Value.string {data:= #[]}),AV.v (Value.int IntKind.i64 0),AV.an]],aj.live 148 4 [AV.agg [p0,p1,p2,p3]],aj.live 114 4 [AV.agg [q0,q1,q2,.an]]]) (λ b=>if b=true then 0 else 1) false trivial (.env λ u=>by
     by_cases hu:u=19
     ·exact .inl (by simp[fx,hu])
     ·exact .inr (by simp[fx,hu])) λ i hi=> ?_
    cases i with
    |false=>
     simp only[Bool.false_eq_true,if_false,↓OD,OA,reduceEqDiff,reduceCtorEq];refine bS _ _ (lj cd rfl ncC ndC nd0 _) ?_;simp only[↓OD,OA,reduceEqDiff,reduceCtorEq];refine oG (al:=[⟨none,(some 22),.bX 3 (.t 4)⟩,⟨none,(some 23),.load none (.t 22)⟩,⟨none,(some 24),.bD (.t 0)⟩,⟨none,(some 25),.n6 [3] F.ck [(.t 24)]⟩,⟨none,(some 26),.ep 114 4 1 (.agg [(.v (.int .i64 0)),(.v (.string ⟨#[]⟩)),(.v (.int .i64 0)),.an]) [(0,(.t 25))]⟩,⟨none,(some 27),.app 114 4 56 (.t 23) (.t 26)⟩,⟨none,(some 28),.bX 3 (.t 4)⟩,⟨none,none,.store 1 (.t 28) (.t 27)⟩]) rfl ?_;simp only[↓OD,OA,reduceEqDiff,reduceCtorEq,reduceAdd];refine kE (lj ce rfl ndC neC ne0 _) (λ n hn=>by rw[List.mem_singleton.1 hn];rfl) ?_;have nr:AV.ae [AV.agg [r0,r1,r2,r3]]=true:=by simp only[AV.ae,ne0,Bool.and_true]
     simp only[apt,nr,e0s,↓OD,OA,reduceEqDiff,reduceCtorEq,reduceAdd];refine⟨λ y hy=>by rw[List.mem_singleton.1 hy];rfl,by decide,by decide,λ h=>h.elim,λ _=> ?_⟩;refine⟨by kernel_rfl,?_⟩;exact dz true trivial (by decide) (.of_eq rfl rfl)
    |true=>
     simp only[if_true,↓OD,OA,reduceEqDiff,reduceCtorEq];refine bS _ _ (lj cf rfl neC nfC nf0 _) ?_;simp only[↓OD,OA,reduceEqDiff,reduceCtorEq,reduceAdd];simp only[AV.aZ.injEq,List.cons.injEq,and_true]at hw;obtain⟨rfl,rfl,rfl,rfl,rfl,rfl,rfl,rfl⟩:=hw;have aRP:(q0.cB&&(q1.cB&&q2.cB))=true:=by simpa [AV.storable,AV.cells,AV.cB]using c0s
     have n3:AV.ae [q0,q1,q2]=true:=by simpa [AV.ag,AV.ae]using nc0
     have nr:AV.ae [AV.agg [r0,r1,r2,r3]]=true:=by simp only[AV.ae,ne0,Bool.and_true]
     refine⟨aRP,ata (k:=3) (.inl rfl) ?_ rfl rfl n3 nr nfC⟩;simp only[OA,reduceAdd]
   ·simp only[WA]at hw
  ·simp only[WA]at hw
   show j7 Tryz.prog F.bh [.ptr 0 1 0 0] [.live 100 7 [.agg [i0,i1,i2,i3,i4,i5,i6]]] o0 [.live 100 7 [.agg [o1,o2,o3,o4,o5,o6,o7]]];refine gx A.nk rfl ?_;simp only[A.bh,↓OD,OA,reduceEqDiff,reduceCtorEq];refine bS _ _ (lj ca rfl hnC naC na0 _) ?_;simp only[a0s,↓OD,OA,reduceEqDiff,reduceCtorEq,reduceAdd];refine bS _ _ (lj cb rfl naC nbC nb0 _) ?_;simp only[↓OD,OA,reduceEqDiff,reduceCtorEq];refine bS _ _ (lj cc rfl nbC ncC nc0 _) ?_;simp only[c0s,↓OD,OA,reduceEqDiff,reduceCtorEq,reduceAdd,reduceLeDiff];refine hz _ _ ?_;simp only[↓OD,OA,reduceEqDiff,reduceCtorEq]
   refine eV (ι:=Unit) (λ _=>True) (λ _=>fx [(0,AV.ptr 0 1 0 0),(2,AV.ptr 1 1 0 0),(4,AV.ptr 3 1 0 0)]) (λ _=>[aj.live 100 7 [AV.agg [c1,c2,c3,c4,c5,c6,c7]],
    aj.live 114 4 [AV.agg [AV.v (Value.int IntKind.i64 0),AV.v (Value.string {data:= #[]}),AV.v (Value.int IntKind.i64 0),AV.an]],aj.live 148 4 [AV.agg [p0,p1,p2,p3]],aj.live 114 4 [AV.agg [q0,q1,q2,q3]]]) (λ _=>0) () trivial (.env λ u=>by
    by_cases hu:u=19
    ·exact .inl (by simp[fx,hu])
    ·exact .inr (by simp[fx,hu])) λ i hi=> ?_
   simp only[↓OD,OA,reduceEqDiff,reduceCtorEq];refine bS _ _ (lj cd rfl ncC ndC nd0 _) ?_;simp only[c0s,w1,↓OD,OA,reduceEqDiff,reduceCtorEq,reduceAdd];simp only[AV.aZ.injEq,List.cons.injEq,and_true]at hw;obtain⟨rfl,rfl,rfl,rfl,rfl,rfl,rfl,rfl⟩:=hw;refine aex (.inl rfl) ?_ nc0 ndC;simp only[w1,OA,reduceAdd]
 ·cases hzf;simp only[WA]at hw
  show j7 Tryz.prog F.bh [.ptr 0 1 0 0] [.live 100 7 [.agg [i0,i1,i2,i3,i4,i5,i6]]] o0 [.live 100 7 [.agg [o1,o2,o3,o4,o5,o6,o7]]];refine gx A.nk rfl ?_;simp only[A.bh,↓OD,OA,reduceEqDiff,reduceCtorEq];refine bS _ _ (lj ca rfl hnC naC na0 _) ?_;simp only[a0s,↓OD,OA,reduceEqDiff,reduceCtorEq,reduceAdd];refine bS _ _ (lj cb rfl naC nbC nb0 _) ?_;simp only[↓OD,OA,reduceEqDiff,reduceCtorEq];refine bS _ _ (lj cc rfl nbC ncC nc0 _) ?_;simp only[c0s,↓OD,OA,reduceEqDiff,reduceCtorEq,reduceAdd,reduceLeDiff];refine hz _ _ ?_;simp only[c0s,w1,↓OD,OA,reduceEqDiff,reduceCtorEq,reduceAdd];simp only[AV.aZ.injEq,List.cons.injEq,and_true]at hw;obtain⟨rfl,rfl,rfl,rfl,rfl,rfl,rfl,rfl⟩:=hw;refine aex (.inl rfl) ?_ nc0 ncC;simp only[w1,OA,reduceAdd]
end Go.Proofs.Ab
