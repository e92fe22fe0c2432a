/- Part of a proof: the functions that the law reaches, walked by the abstract logic of the texts Ab. -/
import Derived.Test.YtfebhekplhjigaaAbM1
import Derived.Laws.BytesArg
open Nat(add_assoc le_refl zero_le lt_or_ge sub_self)
open Bool(and_eq_true or_eq_true)
open Option(bind_eq_bind bind_eq_some_iff getD_none getD_some map_eq_some_iff map_some)
open List(getElem?_of_mem mem_of_getElem? getElem?_set getElem?_append_left getElem?_map getElem?_append_right length_map all_eq_true map_congr_left getElem?_set_ne getElem?_set_self map_cons map_nil mem_append append_assoc)
set_option linter.unusedVariables false
set_option linter.unusedSimpArgs false
namespace Go.Ab
section
variable {P:Program} {I:dv} {L:Nat->Loc} {O:List ae} {w:World} {K:AV->List ae->Prop} {e:Env} {a:Act}
variable {d:Option Tmp} {ty:TypeId} {pos:String} {af:Array Edge} {g:Option (Nat×Bool)} {ao:ew}
theorem aoG(hi:Inv I L O w)(he:∀t,R I L O (e t) (a.tmps.getD t undef)){op:BinOp}{t u:TypeId}{x y:Operand}(hc:b8 P ty (.binOp op t x y u)=some ao)(hk:wpOp P ao e O K):
  fx P I L O w (execOp a.eval ⟨d,.binOp op t x y u,ty,pos,af,g⟩) K:=by
 simp only[b8]at hc
 split at hc
 ·rename_i hb;simp only[bind_eq_bind,bind_eq_some_iff,Option.some.injEq]at hc;obtain⟨ax,hx,ay,hy,rfl⟩:=hc;have rx:=an hx he;have ry:=an hy he;simp only[wpOp]at hk
  split at hk
  ·rename_i p q hp hq;rw[hp]at rx;rw[hq]at ry;have h1:=rx.bool;have h2:=ry.bool
   have key:(op= .eql∨op= .neq)/\P.underlying t=some .bool:=by
    unfold adG at hb
    split at hb
    ·rename_i h;exact⟨.inl rfl,h⟩
    ·rename_i h;exact⟨.inr rfl,h⟩
    ·cases hb
   obtain⟨hop,ht⟩:=key;refine fx.same hi hk (.v _ rfl) ?_;simp only[execOp,h1,h2]
   have he:(Op.equal t (.bool p) (.bool q)).run P w= .ok (p==q) w:=by
    have e1:Op.equal t (.bool p) (.bool q)=Op.equalIn (9999+1) t (.bool p) (.bool q):=rfl;rw[e1,Op.equalIn];simp[run_underlying ht]
   rcases hop with rfl|rfl
   ·simp[eqGuard,Go.binOp,he,jj]
   ·simp[eqGuard,Go.binOp,he,jj]
  ·exact hk.elim
 split at hc
 ·rename_i _ hp;simp only[aht,and_eq_true]at hp;obtain⟨hop,hbx⟩:=hp;obtain⟨el,inf,ht,fw,sd⟩:=tR hbx;simp only[bind_eq_bind,bind_eq_some_iff,Option.some.injEq]at hc;obtain⟨ax,hx,ay,hy,rfl⟩:=hc;have rx:=an hx he;have ry:=an hy he;simp only[wpOp]at hk
  split at hk
  ·rename_i n m hn hm;rw[hn]at rx;rw[hm]at ry;obtain⟨k1,k2,hk⟩:=hk;have h1:=ql k1 rx;have h2:=ql k2 ry;have heq:=aaf (P:=P) (w:=w) ht fw sd (adD (P:=P) hi k1 k2);refine fx.same hi hk (.v _ rfl) ?_;have ho:op= .eql∨op= .neq:=by cases op<;>first|exact .inl rfl|exact .inr rfl|(simp[lZ]at hop;done)
   rcases ho with rfl|rfl
   ·simp[execOp,h1,h2,eqGuard,Go.binOp,heq,jj]
   ·simp[execOp,h1,h2,eqGuard,Go.binOp,heq,jj]
  ·exact hk.elim
 simp only[bind_eq_bind,bind_eq_some_iff,Option.some.injEq]at hc;obtain⟨ax,hx,ay,hy,rfl⟩:=hc;have rx:=an hx he;have ry:=an hy he;simp only[wpOp]at hk;generalize ax.ev e=A at rx hk;generalize ay.ev e=B at ry hk;cases A<;>cases B<;>simp only at hk
 rename_i p q;cases hz:kQ op p q with
 |none=>simp only[hz]at hk
 |some z=>
  simp only[hz]at hk;have h1:=rx.exact;have h2:=ry.exact;obtain⟨hr,ho⟩:=akD (P:=P) hz t x y w;refine fx.same hi hk (.v z ho) ?_;simp only[execOp,h1,h2];rw[Sem.run_bind,hr]
  rfl
theorem ar2(hi:Inv I L O w)(he:∀t,R I L O (e t) (a.tmps.getD t undef)){op:UnOp}{t:TypeId}{x:Operand}(hc:b8 P ty (.unOp op t x)=some ao)(hk:wpOp P ao e O K):
  fx P I L O w (execOp a.eval ⟨d,.unOp op t x,ty,pos,af,g⟩) K:=by
 simp only[b8,bind_eq_bind,bind_eq_some_iff,Option.some.injEq]at hc;obtain⟨ax,hx,rfl⟩:=hc;have rx:=an hx he;simp only[wpOp]at hk;generalize ax.ev e=A at rx hk;cases A<;>simp only at hk
 rename_i p;cases hz:sun op p with
 |none=>simp only[hz]at hk
 |some z=>
  simp only[hz]at hk;have h1:=rx.exact;obtain⟨hr,ho⟩:=aoh (P:=P) hz w;refine fx.same hi hk (.v z ho) ?_;simp only[execOp,h1];rw[Sem.run_bind,hr]
  rfl
theorem adf(hi:Inv I L O w)(he:∀t,R I L O (e t) (a.tmps.getD t undef)){s t:TypeId}{x:Operand}(hc:b8 P ty (.convert s t x)=some ao)(hk:wpOp P ao e O K):
  fx P I L O w (execOp a.eval ⟨d,.convert s t x,ty,pos,af,g⟩) K:=by
 simp only[b8]at hc
 split at hc
 ·rename_i k1 k2 hs ht;simp only[bind_eq_bind,bind_eq_some_iff,Option.some.injEq]at hc;obtain⟨ax,hx,rfl⟩:=hc;have rx:=an hx he;simp only[wpOp]at hk;generalize ax.ev e=A at rx hk;cases A
  case v p=>
   cases p
   case int k n=>
    have h1:=rx.exact;refine fx.same hi hk (.v _ rfl) ?_;simp only[execOp,h1];simp[convert,run_underlying hs,run_underlying ht,Conv.intToInt]
   all_goals exact hk.elim
  all_goals exact hk.elim
 ·rename_i el hs ht
  split at hc
  ·rename_i hu;simp only[bind_eq_bind,bind_eq_some_iff,Option.some.injEq]at hc;obtain⟨ax,hx,rfl⟩:=hc;exact aoz hi hs ht hu he hx hk
  ·cases hc
 ·rename_i el0 el hs ht
  split at hc
  ·rename_i hu;simp only[bind_eq_bind,bind_eq_some_iff,Option.some.injEq]at hc;obtain⟨ax,hx,rfl⟩:=hc;obtain⟨hu,rfl⟩:=hu;exact ais hi ht hu he hx hk
  ·cases hc
 ·cases hc
theorem aiv(hi:Inv I L O w)(he:∀t,R I L O (e t) (a.tmps.getD t undef)){t:TypeId}{x:Operand}{f:Nat}(hc:b8 P ty (.fieldAddr t x f)=some ao)(hk:wpOp P ao e O K):
  fx P I L O w (execOp a.eval ⟨d,.fieldAddr t x f,ty,pos,af,g⟩) K:=by
 simp only[b8]at hc
 split at hc
 ·rename_i fs hs;simp only[bind_eq_bind,bind_eq_some_iff]at hc;obtain⟨fd,hf,i,hfi,hc⟩:=hc
  split at hc
  ·rename_i rR;simp only[bind_eq_some_iff,Option.some.injEq]at hc;obtain⟨ax,hx,rfl⟩:=hc;have rx:=an hx he;simp only[wpOp]at hk;generalize ax.ev e=A at rx hk;generalize hX:a.eval x=X at rx
   have bK:∀b o,(Instr.fieldAt t (.pointer (some ⟨b,o,none⟩)) f).run P w= .ok (.pointer (some ⟨b,o+fd.offset,none⟩)) w:=by
    intro b o;simp[Instr.fieldAt,run_underlying hs,hf,Instr.sureAddr,fieldPlace,sizeOf,typeInfo,hfi,Nat.ne_of_gt rR,add_lit]
   cases A
   case ct y q=>
    cases rx with
    |ct _ _ bh base bA hv hr=>
     refine fx.same hi hk (.ct y (q+fd.offset) bh base bA hv hr) ?_;simp only[execOp,hX];simp[bK,add_assoc]
   case ptr n len j q=>
    cases hO:O[n]? with
    |none=>simp only[hO]at hk
    |some ob=>
     cases ob with
     |dead=>simp only[hO]at hk
     |own a=>simp only[hO]at hk
     |dc g=>simp only[hO]at hk
     |nil t' s'=>simp only[hO]at hk
     |live t' s xs=>
      simp only[hO]at hk;have:=rx.gQ hO hk.1;subst this;refine fx.same hi hk.2 (.dU n len j (q+fd.offset) t' s xs hO hk.1) ?_;simp only[execOp,hX];simp[bK,add_assoc]
   all_goals exact hk.elim
  ·cases hc
 ·cases hc
theorem aoC(hi:Inv I L O w)(he:∀t,R I L O (e t) (a.tmps.getD t undef)){t:TypeId}{x:Operand}{f:Nat}(hc:b8 P ty (.field t x f)=some ao)(hk:wpOp P ao e O K):
  fx P I L O w (execOp a.eval ⟨d,.field t x f,ty,pos,af,g⟩) K:=by
 simp only[b8]at hc
 split at hc
 ·rename_i fs hs;simp only[bind_eq_bind,bind_eq_some_iff,Option.some.injEq]at hc;obtain⟨fd,hf,n,hn,ax,hx,rfl⟩:=hc;have rx:=an hx he;obtain⟨h1,h2,h3⟩:=hk;generalize ax.ev e=A at rx h1 h2 h3;generalize hX:a.eval x=X at rx;rw[AV.uu h1]at rx;cases rx with
  |agg _ vs hl hr=>
   have mZ:fd.offset+n.getD 1<=vs.size:=by omega
   refine fx.same hi h3 (y:=sF n λ j=>vs.getD (fd.offset+j) undef) (mL h2 λ j c hj aF=>hr _ c _ hj (by simp[Array.getD,show fd.offset+j<vs.size by omega])) ?_;unfold uk at hn;simp only[bind_eq_bind,bind_eq_some_iff]at hn;obtain⟨dd,hd,i,hii,hn⟩:=hn;simp only[execOp,hX];cases n with
   |none=>
    have hag:yX dd=false:=by
     by_cases h:yX dd=true
     ·rw[if_pos h]at hn;split at hn<;>simp at hn
     ·simpa using h
    have aF:fd.offset<vs.size:=by simp only[getD_none]at mZ;omega
    have h0:vs[fd.offset]? =some (vs.getD fd.offset undef):=by rw[Array.getElem?_eq_getElem aF];simp[Array.getD,aF]
    generalize vs.getD fd.offset undef=q at h0;simp[Instr.field,run_underlying hs,hf,asAgg,part,qc hd,hag,h0,sF]
   |some m=>
    have hag:yX dd=true/\i.size=m:=by
     by_cases h:yX dd=true
     ·rw[if_pos h]at hn;split at hn<;>simp at hn;exact⟨h,hn⟩
     ·rw[if_neg h]at hn;simp at hn
    have hex:vs.extract fd.offset (fd.offset+m)=((List.range m).map λ j=>vs.getD (fd.offset+j) undef).toArray:=by
     apply Array.ext
     ·simp only[getD_some]at mZ;simp;omega
     ·intro j hj1 hj2;simp only[getD_some]at mZ;simp at hj1 hj2;simp[Array.getD,show fd.offset+j<vs.size by omega]
    simp[Instr.field,run_underlying hs,hf,asAgg,part,qc hd,hag.1,sizeOf,typeInfo,hii,hag.2,hex,sF]
 ·cases hc
theorem akP(hi:Inv I L O w)(he:∀t,R I L O (e t) (a.tmps.getD t undef)){x:Operand}(hc:b8 P ty (.nilCheck x)=some ao)(hk:wpOp P ao e O K):
  fx P I L O w (execOp a.eval ⟨d,.nilCheck x,ty,pos,af,g⟩) K:=by
 simp only[b8,bind_eq_bind,bind_eq_some_iff,Option.some.injEq]at hc;obtain⟨ax,hx,rfl⟩:=hc;have rx:=an hx he;simp only[wpOp]at hk;generalize ax.ev e=A at rx hk;generalize hX:a.eval x=X at rx;cases A
 case ct y q=>
  cases rx with
  |ct _ _ bh base bA hv hr=>
   exact fx.same hi hk (.ct y q bh base bA hv hr) (by simp only[execOp,hX];simp)
 case fn f a6=>
  cases rx with
  |fn _ _ vs h1 h2=>
   exact fx.same hi hk (.fn f a6 vs h1 h2) (by simp only[execOp,hX];simp)
 case ptr n len j q=>
  cases hO:O[n]? with
  |none=>simp only[hO]at hk
  |some ob=>
   cases ob with
   |dead=>simp only[hO]at hk
   |own a=>simp only[hO]at hk
   |dc g=>simp only[hO]at hk
   |nil t' s'=>simp only[hO]at hk
   |live t' s xs=>
    simp only[hO]at hk;have:=rx.gQ hO hk.1;subst this;exact fx.same hi hk.2 rx (by simp only[execOp,hX];simp)
 all_goals exact hk.elim
theorem aoD(hi:Inv I L O w)(he:∀t,R I L O (e t) (a.tmps.getD t undef)){x:Operand}{i:Nat}(hc:b8 P ty (.extract x i)=some ao)(hk:wpOp P ao e O K):
  fx P I L O w (execOp a.eval ⟨d,.extract x i,ty,pos,af,g⟩) K:=by
 simp only[b8,bind_eq_bind,bind_eq_some_iff,Option.some.injEq]at hc;obtain⟨ax,hx,rfl⟩:=hc;have rx:=an hx he;simp only[wpOp]at hk;generalize ax.ev e=A at rx hk;generalize hX:a.eval x=X at rx;cases A<;>simp only at hk
 rename_i vs;obtain⟨aF,hk⟩:=hk;cases rx with
 |ba _ us h1 h2=>
  have hu:us[i]? =some (us[i]'(by omega)):=by simp
  refine fx.same hi hk (h2 i _ _ (by simp[List.getD,aF]) hu) ?_;generalize us[i]'(by omega)=q at hu;simp only[execOp,hX];simp[Instr.extract,hu]
theorem akQ(hi:Inv I L O w)(he:∀t,R I L O (e t) (a.tmps.getD t undef)){fn:Fn}{first a6:Array Operand}(hc:b8 P ty (.makeFunc fn first a6)=some ao)(hk:wpOp P ao e O K):
  fx P I L O w (execOp a.eval ⟨d,.makeFunc fn first a6,ty,pos,af,g⟩) K:=by
 cases fn<;>simp only[b8]at hc
 case func f=>
  split at hc
  ·rename_i hfe;simp only[bind_eq_bind,bind_eq_some_iff,Option.some.injEq]at hc;obtain⟨as,has,rfl⟩:=hc;obtain rfl:first= #[]:=by simpa using hfe
   obtain⟨h1,h2⟩:=ve has he;refine fx.same hi hk (y:= .func (.func f) #[] (a6.map a.eval)) (.fn f _ _ (by simpa using h1) λ i c x hc hx=>h2 i c x hc (by simpa using hx)) ?_;simp[execOp,Instr.makeFunc]
  ·cases hc
 all_goals cases hc
end
end Go.Ab
namespace Go.Ab
section
variable {P:Program} {I:dv} {L:Nat->Loc} {O:List ae} {w:World} {K:AV->List ae->Prop} {e:Env} {a:Act}
variable {d:Option Tmp} {ty:TypeId} {pos:String} {af:Array Edge} {g:Option (Nat×Bool)} {ao:ew}
theorem gm{t el:TypeId}(h:oJ P t=some el):P.underlying t=some (.slice el):=by
 unfold oJ at h
 split at h
 ·rename_i x hx;cases h;exact hx
 ·cases h
theorem aiw(hi:Inv I L O w)(he:∀t,R I L O (e t) (a.tmps.getD t undef)){t:TypeId}{parts:Array (Nat×Operand)}(hc:b8 P ty (.build t parts)=some ao)(hk:wpOp P ao e O K):
  fx P I L O w (execOp a.eval ⟨d,.build t parts,ty,pos,af,g⟩) K:=by
 simp only[b8]at hc
 split at hc
 ·rename_i fs hs;simp only[bind_eq_bind,bind_eq_some_iff,Option.some.injEq]at hc;obtain⟨⟨s,b,z⟩,hz,afC,hpl,ps,hps,rfl⟩:=hc;obtain⟨i,z0,h1,h2,h3,rfl,rfl,h4,h5,h6,h7⟩:=e8 hz;have rz:=(eO (I:=I) (L:=L) (O:=O) h3).cells (lQ h7);have hz0:RCs I L O z.cells z0.cells:=⟨rz.1,λ j c y hj hy=>by obtain⟨y',lf,hr⟩:=rz.2 j c hj;rw[hy]at lf;cases lf;exact hr⟩;obtain⟨zs,ng,m1,m2,m3⟩:=s9 he parts.toList ps z.cells z0.cells hz0 hps hk
  have axa:=m3 (λ i=>afC.toArray[i]?) (λ j f n hj hn=>by
   obtain⟨q1,q2⟩:=mapM_some hpl;have aF:j<afC.length:=by rw[q1];simpa using(Array.getElem?_eq_some_iff.1 hj).1
   have:=q2 j f afC[j] (by simpa using hj) (by simp);rw[hn]at this;simp at this;simp[aF,this])
  have hb:P.built t (parts.map λ (i,x)=>(i,a.eval x)).toList=some ng:=by
   simp only[Program.built,h1,hs,h2,hpl];simpa using axa
  refine fx.same hi m1 (y:= .agg ng) (.agg _ _ m2.1 m2.2) ?_;simp only[execOp];rw[Sem.run_bind,run_build w t _ ng hb]
  rfl
 ·rename_i m el hs
  split at hc
  ·rename_i az7;simp only[bind_eq_bind,bind_eq_some_iff,Option.some.injEq]at hc;obtain⟨⟨s,b,z⟩,hz,ie,hie,rfl⟩:=hc;obtain⟨i,z0,h1,h2,h3,rfl,rfl,h4,h5,h6,h7⟩:=e8 hz;have rz:=(eO (I:=I) (L:=L) (O:=O) h3).cells (lQ h7);have hp:parts= #[]:=by simpa using az7
   subst hp
   have hb:P.built t (Array.map (λ (i,x)=>(i,a.eval x)) #[]).toList=some z0.cells:=by
    simp only[Program.built,h1,hs,h2,hie];simp[Instr.fill]
   simp only[wpOp,jd]at hk;refine fx.same hi hk (y:= .agg z0.cells) (.agg _ _ rz.1 λ j c y hj hy=>by obtain⟨y',lf,hr⟩:=rz.2 j c hj;rw[hy]at lf;cases lf;exact hr) ?_;simp only[execOp];rw[Sem.run_bind,run_build w t _ z0.cells hb]
   rfl
  ·cases hc
 ·cases hc
theorem xh(hi:Inv I L O w)(he:∀t,R I L O (e t) (a.tmps.getD t undef)){t:TypeId}{len:Nat}{parts:Array (Nat×Operand)}(hc:b8 P ty (.buildSlice t len parts)=some ao)(hk:wpOp P ao e O K):
  fx P I L O w (execOp a.eval ⟨d,.buildSlice t len parts,ty,pos,af,g⟩) K:=by
 simp only[b8,bind_eq_bind,bind_eq_some_iff]at hc;obtain⟨el,fw,⟨s,b,z⟩,hz,ps,hps,hc⟩:=hc
 split at hc
 ·rename_i acf;simp only[Option.some.injEq]at hc;subst hc;have ht:=gm fw;obtain⟨i,z0,h1,h2,h3,rfl,rfl,h4,h5,h6,h7⟩:=e8 hz;have yn:=fm.made (I:=I) (L:=L) (O:=O) (cap:=len) (n:=len) (eO h3) h7 h4 h5 (le_refl _);obtain⟨gZ,c',m1,m2,m3,m4,m5⟩:=rA he parts.toList ps _ _ yn (by simp) hps hk
  have axi:len<=maxLen:=by
   have h8:len*1<=len*i.size:=Nat.mul_le_mul_left _ h5;simp only at acf;simp only[maxLen];omega
  have dY:=hi.new (e:=el) (s:=i.size) (xs:=gZ) c' len (by rw[m4];simp) (by simpa using(Nat.le_of_eq m3)) axi h5 m2;have hr:=R.cq (I:=I) (L:=λ k=>if k=O.length then Loc.at w.heap.size (len)else L k) (O:=O++ [.live el i.size gZ]) O.length len el i.size gZ (by simp) (by simpa using m3);refine⟨_,_,.slice (some ⟨w.heap.size,0,none⟩) len len,_,_,_,m1,dY,by simpa using hr,.inl ?_⟩;have hns:¬(len*i.size>2^24):=by simpa using acf
  simp only[execOp];by_cases h0:len*i.size=0
  ·have wm:len=0:=by rcases Nat.mul_eq_zero.1 h0 with h|h<;>omega
   subst wm;simp[Array.range_zero']at m5;simp[Instr.buildSlice,run_underlying ht,sizeOf,typeInfo,h1,m5,newRow,Array.range_zero']
  ·simp[Instr.buildSlice,run_underlying ht,sizeOf,typeInfo,h1,hns,h0,zeroValue,h2,m5,newRow]
 ·cases hc
theorem Inv.av9(h:Inv I L O w){el s:Nat}{xs:List AV}(c:Array Value)(cap:Nat)(hx:xs.length<=cap)(hn:∀(i:Nat) x,xs[i]? =some x->∀(j:Nat) a,x.cells[j]? =some a->∀{I':dv} {L':Nat->Loc} {O':List ae} {v:Value},(∀b o x,I b o=some x->I' b o=some x)->R I L O a v->R I' L' O' a v)
  (hr:∀(i:Nat) x,xs[i]? =some x->x.cells.length=s/\∀(j:Nat) a,x.cells[j]? =some a->∃y,c[i*s+j]? =some y/\y.oneCell'=true/\R I L O a y):
  ∃I',Good I L O w I' L O (w.alloc (.cells c el))/\R I' L O (.sl xs) (.slice (some ⟨w.heap.size,0,none⟩) xs.length cap):=by
 have dL:(w.alloc (.cells c el)).heap[w.heap.size]? =some (.cells c el (0,0)):=heap_alloc_new w _;have hold:∀b,b<w.heap.size->(w.alloc (.cells c el)).heap[b]? =w.heap[b]? :=λ b hb=>heap_alloc_old w _ b hb
 have aF:∀{b o x},I b o=some x->b<w.heap.size:=λ hx=>j5 (h.j4 _ _ _ hx)
 have du:∀b o x,I b o=some x->(λ b o=>if b=w.heap.size then(w.alloc (.cells c el)).cell? ⟨b,o,none⟩else I b o) b o=some x:=by
  intro b o x hx;have:=aF hx
  show(if b=w.heap.size then _ else I b o)=_;rw[if_neg (by omega)];exact hx
 have lg:∀{b o},b<w.heap.size->(w.alloc (.cells c el)).cell? ⟨b,o,none⟩=w.cell? ⟨b,o,none⟩:=by
  intro b o hb;simp only[World.cell?];rw[hold b hb]
 have hE:Ext I L O (λ b o=>if b=w.heap.size then(w.alloc (.cells c el)).cell? ⟨b,o,none⟩else I b o) L O:=
  ⟨du,le_refl _,λ n hn e k ys hy=> .inl ⟨ys,hy,le_refl _,λ _=>rfl⟩,λ _ _ _ _ h=>h,λ _ _ a h=>⟨⟨a,h⟩,rfl⟩,λ _ _ a h=>⟨⟨a,h,rfl⟩,rfl⟩⟩
 have qA:∀{n e k ys},O[n]? =some (.live e k ys)->(L n).bh<w.heap.size:=by
  intro n e k ys hn;obtain⟨c',⟨_,h1,_⟩,_⟩:=h.obj n e k ys hn;exact(Array.getElem?_eq_some_iff.1 h1).1
 refine⟨λ b o=>if b=w.heap.size then(w.alloc (.cells c el)).cell? ⟨b,o,none⟩else I b o,⟨⟨λ b o x hx=> ?_,λ n e k ys hn=> ?_,h.sep,λ n e k ys o hn=> ?_,λ p hp=>du _ _ _ (h.fix p hp),h.tb (λ b hb _=>hold b hb) du,h.ow.step (λ _ _ h=>⟨h,rfl⟩) (λ b o v hv=> ?_) (λ m e s xs hm=> .inl ⟨m,e,s,xs,hm,rfl⟩) (λ b hb _=>hold b hb),h.gh.step (λ _ _ h=>⟨h,rfl⟩) (λ _ _ hr=>hr.mono hE) λ b hb=>hold b hb.1⟩,hE,⟨rfl,rfl,rfl,by simp,λ b hb _=>hold b hb⟩,λ _ hb=> .inl hb,λ b o x hx=> ?_⟩,?_⟩
 ·by_cases hb:b=w.heap.size
  ·rw[if_pos hb]at hx;exact hx
  ·rw[if_neg hb]at hx;rw[lg (aF hx)];exact h.j4 b o x hx
 ·exact(h.obj n e k ys hn).congr (hold _ (qA hn)) λ _ _ hr=>hr.mono hE
 ·have:=qA hn
  show(if(L n).bh=w.heap.size then _ else I (L n).bh o)=_;rw[if_neg (by omega)];exact h.dS n e k ys o hn
 ·by_cases hb:b=w.heap.size
  ·exact .inr (.inr (by omega))
  ·rw[if_neg hb]at hv;exact .inl ⟨o,v,hv⟩
 ·by_cases hb:b=w.heap.size
  ·exact .inr (.inr (by omega))
  ·rw[if_neg hb]at hx;exact .inl hx
 ·by_cases nU:xs= []
  ·subst nU;exact .lG _ _
  ·refine(.sl xs w.heap.size 0 cap s (λ i j=>(c[i*s+j]?).getD undef) hx nU (λ i x hx=>(hr i x hx).1) (λ i x j d hx hj=> ?_) λ i x j d hx hj=> ?_)
   ·obtain⟨y,hy,ho,_⟩:=(hr i x hx).2 j d hj
    show(if w.heap.size=w.heap.size then _ else _)=_/\_;rw[if_pos rfl,Nat.zero_add,eN dL,hy];exact⟨rfl,ho⟩
   ·obtain⟨y,hy,ho,o7⟩:=(hr i x hx).2 j d hj;rw[hy];exact hn i x hx j d hj du o7
end
end Go.Ab
namespace Go.Ab
section
variable {P:Program} {I:dv} {L:Nat->Loc} {O:List ae} {w:World} {K:AV->List ae->Prop} {e:Env} {a:Act}
variable {d:Option Tmp} {ty:TypeId} {pos:String} {af:Array Edge} {g:Option (Nat×Bool)} {ao:ew}
theorem aiu(hi:Inv I L O w)(he:∀t,R I L O (e t) (a.tmps.getD t undef)){t:TypeId}{x y:Operand}(hc:b8 P ty (.indexAddr t x y)=some ao)(hk:wpOp P ao e O K):
  fx P I L O w (execOp a.eval ⟨d,.indexAddr t x y,ty,pos,af,g⟩) K:=by
 simp only[b8]at hc
 split at hc
 ·rename_i m el ht;simp only[bind_eq_bind,bind_eq_some_iff,Option.some.injEq]at hc;obtain⟨inf,sV,ax,hx,ay,hy,rfl⟩:=hc;have rx:=an hx he;have ry:=an hy he;simp only[wpOp]at hk;generalize ax.ev e=A at rx hk;generalize ay.ev e=B at ry hk;generalize hX:a.eval x=X at rx;generalize hY:a.eval y=Y at ry
  have bK:∀(kk:IntKind) (b o:Nat) (j:Int),0<=j->j<m->(Instr.indexAt t (.pointer (some ⟨b,o,none⟩)) (.int kk j)).run P w= .ok (.pointer (some ⟨b,o+j.toNat*inf.size,none⟩)) w:=by
   intro kk b o j h0 h1;simp[Instr.indexAt,Instr.sureAddr,asIntOf,run_underlying ht,sizeOf,typeInfo,sV,h0,h1,add_lit]
  cases A
  case ct z q=>
   cases B
   case v p=>
    cases p
    case int kk j=>
     obtain⟨h0,h1,hk⟩:=hk;have:=ry.exact;subst this;cases rx with
     |ct _ _ bh base bA hv hr=>
      refine fx.same hi hk (.ct z (q+j.toNat*inf.size) bh base bA hv hr) ?_;simp only[execOp,hX,hY];simp[bK _ _ _ _ h0 h1,add_assoc]
    all_goals exact hk.elim
   all_goals exact hk.elim
  case ptr n len i q=>
   cases B
   case v p=>
    cases p
    case int kk j=>
     have:=ry.exact;subst this;cases hO:O[n]? with
     |none=>simp only[hO]at hk
     |some ob=>
      cases ob with
      |dead=>simp only[hO]at hk
      |own a=>simp only[hO]at hk
      |dc g=>simp only[hO]at hk
      |nil t' s'=>simp only[hO]at hk
      |live t' s xs=>
       simp only[hO]at hk;obtain⟨hl,h0,h1,hk⟩:=hk;have:=rx.gQ hO hl;subst this;refine fx.same hi hk (.dU n len i (q+j.toNat*inf.size) t' s xs hO hl) ?_;simp only[execOp,hX,hY];simp[bK _ _ _ _ h0 h1,add_assoc]
    all_goals exact hk.elim
   all_goals exact hk.elim
  all_goals exact hk.elim
 simp only[bind_eq_bind,bind_eq_some_iff,Option.some.injEq]at hc;obtain⟨el,fw,inf,sV,ax,hx,ay,hy,rfl⟩:=hc;have ht:=gm fw;have rx:=an hx he;have ry:=an hy he;simp only[wpOp]at hk;generalize ax.ev e=A at rx hk;generalize ay.ev e=B at ry hk;generalize hX:a.eval x=X at rx;generalize hY:a.eval y=Y at ry
 have bK:∀(kk:IntKind) (b o n c:Nat) (j:Int),0<=j->j<n->(Instr.indexAt t (.slice (some ⟨b,o,none⟩) n c) (.int kk j)).run P w= .ok (.pointer (some ⟨b,o+j.toNat*inf.size,none⟩)) w:=by
  intro kk b o n c j h0 h1;simp[Instr.indexAt,asIntOf,run_underlying ht,sizeOf,typeInfo,sV,h0,h1,add_lit]
 cases A
 case sl xs=>
  cases B
  case v p=>
   cases p
   case int kk j=>
    obtain⟨h0,h1,h2,hk⟩:=hk;have:=ry.exact;subst this;have aF:j.toNat<xs.length:=by omega
    have hx':xs[j.toNat]? =some (xs.getD j.toNat .top):=by simp[List.getD,aF]
    cases rx with
    |lG=>simp at h1;omega
    |sl _ bh off cap s bA q1 q2 q3 q4 q5=>
     have hs:s=inf.size:=by rw[←q3 _ _ hx',h2]
     subst hs;refine fx.same hi hk (y:= .pointer (some ⟨bh,off+j.toNat*inf.size+0,none⟩)) (.ct _ 0 bh (off+j.toNat*inf.size) (bA j.toNat) (λ k c hc=>q4 _ _ k c hx' hc) (λ k c hc=>q5 _ _ k c hx' hc)) ?_;simp only[execOp,hX,hY];simp[bK _ _ _ _ _ _ h0 h1]
   all_goals exact hk.elim
  all_goals exact hk.elim
 case row n len=>
  cases B
  case v p=>
   cases p
   case int kk j=>
    have:=ry.exact;subst this;cases hO:O[n]? with
    |none=>simp only[hO]at hk
    |some ob=>
     cases ob with
     |dead=>simp only[hO]at hk
     |own a=>simp only[hO]at hk
     |dc g=>simp only[hO]at hk
     |nil t' s'=>simp only[hO]at hk
     |live t' s xs=>
      simp only[hO]at hk;obtain⟨rfl,hl,h0,h1,hk⟩:=hk;have:=rx.ep hO hl;subst this;refine fx.same hi hk (.dU n len j.toNat 0 t' inf.size xs hO hl) ?_;simp only[execOp,hX,hY];simp[bK _ _ _ _ _ _ h0 h1]
   all_goals exact hk.elim
  all_goals exact hk.elim
 all_goals exact hk.elim
theorem ait(hi:Inv I L O w)(he:∀t,R I L O (e t) (a.tmps.getD t undef)){t:TypeId}{x y:Operand}(hc:b8 P ty (.index t x y)=some ao)(hk:wpOp P ao e O K):
  fx P I L O w (execOp a.eval ⟨d,.index t x y,ty,pos,af,g⟩) K:=by
 simp only[b8]at hc
 split at hc
 ·rename_i ht;simp only[bind_eq_bind,bind_eq_some_iff,Option.some.injEq]at hc;obtain⟨ax,hx,ay,hy,rfl⟩:=hc;have rx:=an hx he;have ry:=an hy he;simp only[wpOp]at hk;generalize ax.ev e=A at rx hk;generalize ay.ev e=B at ry hk;generalize hX:a.eval x=X at rx;generalize hY:a.eval y=Y at ry;cases A
  case v p=>
   cases p
   case string s=>
    cases B
    case v q=>
     cases q
     case int kk j=>
      obtain⟨h0,h1,hk⟩:=hk;have e1:=rx.exact;have e2:=ry.exact;subst e1;subst e2;have aF:j.toNat<s.size:=by omega
      have hb:s[j.toNat]? =some (s.data.toList.getD j.toNat 0):=by
       rw[getElem?_pos s j.toNat aF];have hl2:j.toNat<s.data.toList.length:=by simpa using aF
       simp only[List.getD,List.getElem?_eq_getElem hl2,getD_some,Option.some.injEq]
       rfl
      refine fx.same hi hk (.v _ rfl) ?_;simp only[execOp,hX,hY];generalize s.data.toList.getD j.toNat 0=q at hb;simp[Instr.index,asIntOf,run_underlying ht,h0,hb]
     all_goals exact hk.elim
    all_goals exact hk.elim
   all_goals exact hk.elim
  all_goals exact hk.elim
 ·cases hc
theorem akT(hi:Inv I L O w)(he:∀t,R I L O (e t) (a.tmps.getD t undef)){t:TypeId}{x:Operand}(ht:P.underlying t=some .string){ax:aI}(hx:bL x=some ax)(hk:wpOp P (.kC ax) e O K):
  ∃x' y,K x' O/\R I L O x' y/\(Builtin.len_ #[t] ty #[a.eval x]).run P w= .ok y w:=by
 have rx:=an hx he;simp only[wpOp]at hk;generalize ax.ev e=A at rx hk;generalize a.eval x=X at rx;cases A
 case v p=>
  cases p
  case string s=>
   have e1:=rx.exact;subst e1;exact⟨_,.int .i64 s.size,hk,.v _ rfl,by simp[Builtin.len_,run_underlying ht,goInt]⟩
  all_goals exact hk.elim
 all_goals exact hk.elim
theorem akU(hi:Inv I L O w)(he:∀t,R I L O (e t) (a.tmps.getD t undef)){t el:TypeId}{x:Operand}(ht:P.underlying t=some (.slice el)){ax:aI}(hx:bL x=some ax)(hk:wpOp P (.bM ax) e O K):
  ∃x' y,K x' O/\R I L O x' y/\(Builtin.len_ #[t] ty #[a.eval x]).run P w= .ok y w:=by
 have rx:=an hx he;simp only[wpOp]at hk;generalize ax.ev e=A at rx hk;generalize a.eval x=X at rx
 have hs:∀b n c,(Builtin.len_ #[t] ty #[.slice b n c]).run P w= .ok (.int .i64 n) w:=by
  intro b n c;simp[Builtin.len_,run_underlying ht,goInt]
 cases A
 case aw=>cases rx;exact⟨_,.int .i64 0,hk,.v _ rfl,hs none 0 0⟩
 case sl xs=>
  cases rx with
  |lG b c=>exact⟨_,.int .i64 0,hk,.v _ rfl,hs b 0 c⟩
  |sl _ bh off cap s bA=>exact⟨_,.int .i64 xs.length,hk,.v _ rfl,hs _ _ _⟩
 case row n len=>
  cases hO:O[n]? with
  |none=>simp only[hO]at hk
  |some ob=>
   cases ob with
   |dead=>simp only[hO]at hk
   |own a=>simp only[hO]at hk
   |dc g=>simp only[hO]at hk
   |nil t' s'=>
    simp only[hO]at hk;obtain⟨rfl,hk⟩:=hk;obtain⟨rfl,_⟩:=rx.kf hO;exact⟨_,.int .i64 0,hk,.v _ rfl,hs _ _ _⟩
   |live t' s xs=>
    simp only[hO]at hk;have:=rx.ep hO hk.1;subst this;exact⟨_,.int .i64 len,hk.2,.v _ rfl,hs _ _ _⟩
 all_goals exact hk.elim
theorem zr(hi:Inv I L O w)(he:∀t,R I L O (e t) (a.tmps.getD t undef)){t:TypeId}{x y:Operand}(hc:b8 P ty (.makeSlice t x y)=some ao)(hk:wpOp P ao e O K):
  fx P I L O w (execOp a.eval ⟨d,.makeSlice t x y,ty,pos,af,g⟩) K:=by
 simp only[b8,bind_eq_bind,bind_eq_some_iff,Option.some.injEq]at hc;obtain⟨el,fw,⟨s,b,z⟩,hz,ax,hx,ay,hy,rfl⟩:=hc;have ht:=gm fw;obtain⟨i,z0,h1,h2,h3,rfl,rfl,h4,h5,h6,h7⟩:=e8 hz;have rx:=an hx he;have ry:=an hy he;simp only[wpOp]at hk;generalize ax.ev e=A at rx hk;generalize ay.ev e=B at ry hk;generalize hX:a.eval x=X at rx;generalize hY:a.eval y=Y at ry
 split at hk
 ·rename_i n c;obtain⟨q1,q2,q3,q4,hk⟩:=hk;have e1:=rx.exact;have e2:=ry.exact;subst e1;subst e2;have hm:c<=9223372036854775807:=by simpa [maxLen]using q4
  have bK:=run_make (P:=P) w t el i z0 ht h1 h2 .i64 .i64 n c q1 q2 (by omega) hm;have yn:=fm.made (I:=I) (L:=L) (O:=O) (cap:=c.toNat) (n:=n.toNat) (eO h3) h7 h4 h5 (by omega);have dY:=hi.new (e:=el) (s:=i.size) (xs:=List.replicate n.toNat z) (madeCells z0.cells (c.toNat*i.size)) c.toNat (size_madeCells _ _) (by simp;omega) (by simp only[maxLen]at q4⊢;omega) h5 yn;have hr:=R.cq (I:=I) (L:=λ k=>if k=O.length then Loc.at w.heap.size (c.toNat)else L k) (O:=O++ [.live el i.size (List.replicate n.toNat z)]) O.length n.toNat el i.size (List.replicate n.toNat z) (by simp) (by simp);refine⟨_,_,_,_,_,_,hk,dY,hr,.inl ?_⟩;simp only[execOp,hX,hY];rw[Sem.run_bind,bK];simp
 ·exact hk.elim
theorem jn{x:Option Operand}{ax:Option aI}(hx:x.mapM bL=some ax)(he:∀t,R I L O (e t) (a.tmps.getD t undef)){at0:Int}{M:Int->Prop}(h:ft at0 e ax M):
  ∃i:Int,M i/\((x=none/\i=at0)∨∃o k,x=some o/\a.eval o= .int k i):=by
 cases x with
 |none=>simp at hx;subst hx;exact⟨at0,h,.inl ⟨rfl,rfl⟩⟩
 |some o=>
  simp only[Option.mapM_some,Option.map_eq_map,map_eq_some_iff]at hx;obtain⟨ao,hao,rfl⟩:=hx;have r:=an hao he;simp only[ft]at h;generalize ao.ev e=A at r h;cases A
  case v p=>
   cases p
   case int k i=>exact⟨i,h,.inr ⟨o,k,rfl,r.exact⟩⟩
   all_goals exact h.elim
  all_goals exact h.elim
theorem run_sliceBound{k:IntKind}{i:Int}{y:Nat}{code:BoundsCode}(h0:0<=i)(h1:i<=y)(w:World):(Instr.sliceBound (.int k i) y code).run P w= .ok i.toNat w:=by
 simp[Instr.sliceBound,asIntOf,h0,h1]
theorem gu{sl:Bool}{len cap:Nat}{lo hi:Option Operand}{l h:Int}(hlc:len<=cap)
  (hlo:(lo=none/\l=0)∨∃o k,lo=some o/\a.eval o= .int k l) (hhi:(hi=none/\h=len)∨∃o k,hi=some o/\a.eval o= .int k h)
  (h0:0<=l) (h1:l<=h) (h2:h<=len) (w:World):
  (Instr.sliceBounds sl len cap (lo.map a.eval) (hi.map a.eval) none).run P w= .ok (l.toNat,h.toNat,cap) w:=by
 rcases hhi with⟨rfl,rfl⟩|⟨o,k,rfl,ho⟩<;>rcases hlo with⟨rfl,rfl⟩|⟨o',k',rfl,ho'⟩
 ·simp[Instr.sliceBounds]
 ·simp[Instr.sliceBounds,ho',run_sliceBound (P:=P) (k:=k') (i:=l) (y:=len) h0 (by omega) w]
 ·simp[Instr.sliceBounds,ho,run_sliceBound (P:=P) (k:=k) (i:=h) (y:=cap) (by omega) (by omega) w]
 ·simp[Instr.sliceBounds,ho,ho',run_sliceBound (P:=P) (k:=k) (i:=h) (y:=cap) (by omega) (by omega) w,run_sliceBound (P:=P) (k:=k') (i:=l) (y:=h.toNat) h0 (by omega) w]
theorem aiq(hi:Inv I L O w)(he:∀t,R I L O (e t) (a.tmps.getD t undef)){t:TypeId}{x:Operand}{lo eE mx:Option Operand}(hc:b8 P ty (.slice t x lo eE mx)=some ao)(hk:wpOp P ao e O K):
  fx P I L O w (execOp a.eval ⟨d,.slice t x lo eE mx,ty,pos,af,g⟩) K:=by
 simp only[b8]at hc
 split at hc
 ·cases hc
 ·rename_i jH;obtain rfl:mx=none:=by cases mx<;>simp at jH⊢
  split at hc
  ·rename_i ht;simp only[bind_eq_bind,bind_eq_some_iff,Option.some.injEq]at hc;obtain⟨ax,hx,al,hl,ah,hh,rfl⟩:=hc;have rx:=an hx he;simp only[wpOp]at hk;generalize ax.ev e=A at rx hk;generalize hX:a.eval x=X at rx;cases A
   case v p=>
    cases p
    case string s=>
     have e1:=rx.exact;subst e1;obtain⟨l,hk,hlo⟩:=jn hl he hk;obtain⟨h,hk,hhi⟩:=jn hh he hk;obtain⟨q1,q2,q3,hk⟩:=hk;have hb:=gu (P:=P) (sl:=false) (cap:=s.size) (le_refl _) hlo hhi q1 q2 q3 w;refine fx.same hi hk (.v _ rfl) ?_;simp only[execOp,hX];simp[Instr.sliceAt,Instr.slice,run_underlying ht,hb]
    all_goals exact hk.elim
   all_goals exact hk.elim
  ·rename_i el ht;simp only[bind_eq_bind,bind_eq_some_iff,Option.some.injEq]at hc;obtain⟨inf,sV,ax,hx,al,hl,ah,hh,rfl⟩:=hc;have rx:=an hx he;simp only[wpOp]at hk;generalize ax.ev e=A at rx hk;generalize hX:a.eval x=X at rx;cases A
   case sl xs=>
    obtain⟨l,hk,hlo⟩:=jn hl he hk;obtain⟨h,hk,hhi⟩:=jn hh he hk;obtain⟨q1,q2,q3,q4,hk⟩:=hk;cases rx with
    |lG b cap=>
     simp at q3 hhi;obtain rfl:l=0:=by omega
     obtain rfl:h=0:=by omega
     have hb:=gu (P:=P) (sl:=true) (len:=0) (cap:=cap) (zero_le _) hlo (by simpa using hhi) q1 q2 (by simp) w;refine fx.same hi hk (y:= .slice (if cap=0 then b else b.map (·.add (0*inf.size))) 0 (cap- 0)) (.lG _ _) ?_;simp only[execOp,hX];simp at hb;simp[Instr.sliceAt,Instr.slice,run_underlying ht,hb,sizeOf,typeInfo,sV]
    |sl _ bh off cap s bA r1 r2 r3 r4 r5=>
     have hb:=gu (P:=P) (sl:=true) (len:=xs.length) (cap:=cap) r1 hlo hhi q1 q2 q3 w
     have hs:s=inf.size:=by
      obtain⟨y,hy⟩:=List.exists_mem_of_ne_nil _ r2;obtain⟨j,hj⟩:=getElem?_of_mem hy;rw[←r3 j y hj,q4 y hy]
     subst hs;by_cases hlen:l=h
     ·subst hlen;have vP:(xs.take l.toNat).drop l.toNat= []:=by simp
      rw[vP]at hk;refine fx.same hi hk (y:= .slice (if cap=l.toNat then some ⟨bh,off,none⟩else some ⟨bh,off+l.toNat*inf.size,none⟩) 0 (cap- l.toNat)) (.lG _ _) ?_;simp only[execOp,hX];simp[Instr.sliceAt,Instr.slice,run_underlying ht,hb,sizeOf,typeInfo,sV,add_lit]
     ·have hlh:l.toNat<h.toNat:=by omega
      have mw:¬(cap=l.toNat):=by omega
      have ahA:((xs.take h.toNat).drop l.toNat).length=h.toNat- l.toNat:=by simp;omega
      have as5:∀(i:Nat) y,((xs.take h.toNat).drop l.toNat)[i]? =some y->xs[l.toNat+i]? =some y:=by
       intro i y hy;rw[List.getElem?_drop,List.getElem?_take]at hy
       split at hy
       ·exact hy
       ·cases hy
      have bB:(xs.take h.toNat).drop l.toNat≠[]:=by
       intro h0;have:=congrArg List.length h0;rw[ahA]at this;simp at this;omega
      have hr:=R.sl (I:=I) (L:=L) (O:=O) ((xs.take h.toNat).drop l.toNat) bh (off+l.toNat*inf.size) (cap- l.toNat) inf.size (λ i=>bA (l.toNat+i)) (by omega) bB
       (λ i y hy=>r3 _ y (as5 i y hy))
       (λ i y j c hy hj=>by have:=r4 _ y j c (as5 i y hy) hj;rwa [Nat.add_mul,←add_assoc]at this)
       (λ i y j c hy hj=>r5 _ y j c (as5 i y hy) hj)
      rw[ahA]at hr;refine fx.same hi hk hr ?_;simp only[execOp,hX];simp[Instr.sliceAt,Instr.slice,run_underlying ht,hb,sizeOf,typeInfo,sV,add_lit,mw]
   all_goals exact hk.elim
  ·cases hc
end
end Go.Ab
namespace Go.Ab
theorem bf{xs:List AV}(h:AV.ad xs=true):∀x∈xs,x.ag=true:=by
 induction xs with
 |nil=>simp
 |cons y ys ih=>
  simp only[AV.ad,and_eq_true]at h;intro x hx;rcases List.mem_cons.1 hx with rfl|hx
  ·exact h.1
  ·exact ih h.2 x hx
theorem fg{x:AV}(h:x.ag=true):∀c∈x.cells,c.ag=true:=by
 cases x<;>simp only[AV.cells]<;>try (intro c hc;simp at hc;subst hc;exact h)
 simp only[AV.ag]at h;exact bf h
theorem R.ag{I I':dv}{L L':Nat->Loc}{O O':List ae}(hI:∀b o x,I b o=some x->I' b o=some x){a:AV}{x:Value}(hr:R I L O a x)(h:a.ag=true):R I' L' O' a x:=by
 induction hr with
 |top x=>exact .top x
 |v x hx=>exact .v x hx
 |aw=>exact .aw
 |uU t x=>exact .uU t x
 |lG a cap=>exact .lG a cap
 |sl xs bh off cap s bA h1 h2 h3 h4 _ ih=>
  refine .sl xs bh off cap s bA h1 h2 h3 (λ i x j c hi hj=>⟨hI _ _ _ (h4 i x j c hi hj).1,(h4 i x j c hi hj).2⟩) λ i x j c hi hj=>ih i x j c hi hj ?_
  exact fg (bf (by simpa [AV.ag]using h) x (mem_of_getElem? hi)) c (mem_of_getElem? hj)
 |ct x f bh base bA h1 _ ih=>
  refine .ct x f bh base bA (λ j c hj=>⟨hI _ _ _ (h1 j c hj).1,(h1 j c hj).2⟩) λ j c hj=>ih j c hj ?_
  exact fg (by simpa [AV.ag]using h) c (mem_of_getElem? hj)
 |cq=>simp[AV.ag]at h
 |fY=>simp[AV.ag]at h
 |eP=>simp[AV.ag]at h
 |dU=>simp[AV.ag]at h
 |fZ=>simp[AV.ag]at h
 |fn f a6 vs h1 _ ih=>exact .fn f a6 vs h1 λ i c x hi hx=>ih i c x hi hx (bf (by simpa [AV.ag]using h) c (mem_of_getElem? hi))
 |agg cs vs h1 _ ih=>exact .agg cs vs h1 λ i c x hi hx=>ih i c x hi hx (bf (by simpa [AV.ag]using h) c (mem_of_getElem? hi))
 |ba cs vs h1 _ ih=>exact .ba cs vs h1 λ i c x hi hx=>ih i c x hi hx (bf (by simpa [AV.ag]using h) c (mem_of_getElem? hi))
 |dV=>simp[AV.ag]at h
 |gF=>simp[AV.ag]at h
 |eQ=>simp[AV.ag]at h
theorem R.of_nil{I:dv}{L L':Nat->Loc}{O':List ae}{a:AV}{x:Value}(hr:R I L [] a x):R I L' O' a x:=by
 generalize hO:([]:List ae)=O at hr
 induction hr with
 |top x=>exact .top x
 |v x hx=>exact .v x hx
 |aw=>exact .aw
 |uU t x=>exact .uU t x
 |lG a cap=>exact .lG a cap
 |sl xs bh off cap s bA h1 h2 h3 h4 _ ih=>exact .sl xs bh off cap s bA h1 h2 h3 h4 λ i x j c hi hj=>ih i x j c hi hj
 |ct x f bh base bA h1 _ ih=>exact .ct x f bh base bA h1 λ j c hj=>ih j c hj
 |cq n len e s xs hn=>subst hO;simp at hn
 |fY n e s hn=>subst hO;simp at hn
 |eP n len x hn=>subst hO;simp at hn
 |dU n len i f e s xs hn=>subst hO;simp at hn
 |fZ n len i f x hn=>subst hO;simp at hn
 |fn f a6 vs h1 _ ih=>exact .fn f a6 vs h1 λ i c x hi hx=>ih i c x hi hx
 |agg cs vs h1 _ ih=>exact .agg cs vs h1 λ i c x hi hx=>ih i c x hi hx
 |ba cs vs h1 _ ih=>exact .ba cs vs h1 λ i c x hi hx=>ih i c x hi hx
 |dV n a hn=>subst hO;simp at hn
 |gF n a hn=>subst hO;simp at hn
 |eQ n x hn=>subst hO;simp at hn
theorem R.flat{I I':dv}{L L':Nat->Loc}{O O':List ae}{a:AV}{x:Value}(hr:R I L O a x)(h:a.flat=true):R I' L' O' a x:=by
 cases hr<;>simp only[AV.flat]at h<;>first|(simp at h;done)|skip
 ·exact .v _ (by assumption)
 ·rename_i cs vs h1 h2;refine .ba _ _ h1 λ i c x hc hx=> ?_
  have hm:=List.all_eq_true.1 h c (mem_of_getElem? hc);have hr:=h2 i c x hc hx;cases c<;>simp at hm
  cases hr;exact .v _ (by assumption)
theorem xS(O:List ae)(a:AV):(eA O a).length=O.length:=by
 cases a<;>simp[eA]
theorem adC(as:List AV)(O:List ae):(as.foldl eA O).length=O.length:=by
 induction as generalizing O with
 |nil=>rfl
 |cons a as ih=>simp[ih,xS]
theorem j2(as:List AV)(O:List ae){n e s:Nat}{xs:List AV}(h:(as.foldl eA O)[n]? =some (.live e s xs)):
  O[n]? =some (.live e s xs)/\∀len,AV.row n len∉as:=by
 induction as generalizing O with
 |nil=>exact⟨h,by simp⟩
 |cons a as ih=>
  obtain⟨h1,h2⟩:=ih (eA O a) h;cases a with
  |row m ml=>
   simp only[eA,getElem?_set]at h1;by_cases hm:m=n
   ·subst hm;simp at h1
   ·rw[if_neg hm]at h1;refine⟨h1,λ len nK=> ?_⟩;rcases List.mem_cons.1 nK with h3|h3
    ·cases h3;exact hm rfl
    ·exact h2 len h3
  |own m=>
   simp only[eA,getElem?_set]at h1;by_cases hm:m=n
   ·subst hm;simp at h1
   ·rw[if_neg hm]at h1;refine⟨h1,λ len nK=> ?_⟩;rcases List.mem_cons.1 nK with h3|h3
    ·cases h3
    ·exact h2 len h3
  |_=>exact⟨h1,λ len hm=>by rcases List.mem_cons.1 hm with h3|h3;cases h3;exact h2 len h3⟩
section
variable {P:Program} {I:dv} {L:Nat->Loc} {O:List ae} {w:World}
open Classical in
noncomputable def tN (I:dv) (L:Nat->Loc) (O:List ae) (w:World) (as:List AV):dv:=λ b o=>
 if(∃(n len e s:Nat) (xs:List AV),AV.row n len∈as/\O[n]? =some (.live e s xs)/\xs.length=len/\(L n).bh=b)∨(∃(n:Nat) (a:AV) (o:Nat) (v:Value),AV.own n∈as/\O[n]? =some (.own a)/\(L n).mem b o=some v)then w.cell? ⟨b,o,none⟩else I b o
theorem alP(as:List AV)(O:List ae){n e s:Nat}(h:(as.foldl eA O)[n]? =some (.nil e s)):O[n]? =some (.nil e s):=by
 induction as generalizing O with
 |nil=>exact h
 |cons a as ih=>
  have h0:=ih _ h;cases a<;>try exact h0
  all_goals
   simp only[eA,getElem?_set]at h0
   split at h0
   ·split at h0<;>cases h0
   ·exact h0
theorem sH(as:List AV)(O:List ae){n:Nat}{a:AV}(h:(as.foldl eA O)[n]? =some (.own a)):O[n]? =some (.own a):=by
 induction as generalizing O with
 |nil=>exact h
 |cons a as ih=>
  have h0:=ih _ h;cases a<;>try exact h0
  all_goals
   simp only[eA,getElem?_set]at h0
   split at h0
   ·split at h0<;>cases h0
   ·exact h0
theorem xR(as:List AV)(O:List ae){n:Nat}{a:gr}(h:(as.foldl eA O)[n]? =some (.dc a)):O[n]? =some (.dc a):=by
 induction as generalizing O with
 |nil=>exact h
 |cons a as ih=>
  have h0:=ih _ h;cases a<;>try exact h0
  all_goals
   simp only[eA,getElem?_set]at h0
   split at h0
   ·split at h0<;>cases h0
   ·exact h0
theorem ai1(as:List AV)(O:List ae){n:Nat}{c:AV}(h:(as.foldl eA O)[n]? =some (.own c)):AV.own n∉as:=by
 induction as generalizing O with
 |nil=>simp
 |cons a as ih=>
  intro hm;rcases List.mem_cons.1 hm with h3|h3
  ·subst h3;have h1:=sH as _ h;simp only[eA,getElem?_set]at h1
   split at h1
   ·split at h1<;>cases h1
   ·rename_i bB;exact(bB trivial).elim
  ·exact ih _ h h3
theorem wi(hi:Inv I L O w)(as:List AV):∀b o x,I b o=some x->tN I L O w as b o=some x:=by
 intro b o x hx;unfold tN
 split
 ·exact hi.j4 b o x hx
 ·exact hx
theorem alD(hi:Inv I L O w){as:List AV}{n len:Nat}(hm:AV.row n len∈as){e s:Nat}{xs:List AV}(hO:O[n]? =some (.live e s xs))(hl:xs.length=len)(o:Nat):
  tN I L O w as (L n).bh o=w.cell? ⟨(L n).bh,o,none⟩:=by
 unfold tN;rw[if_pos (.inl ⟨n,len,e,s,xs,hm,hO,hl,rfl⟩)]
theorem aaD(hi:Inv I L O w){as:List AV}{a:AV}(ha:a∈as){x:Value}(hr:R I L O a x)(hn:(iF O a).ag=true):R (tN I L O w as) L [] (iF O a) x:=by
 have hle:=wi hi as;cases a
 case row n len=>
  simp only[iF]at hn⊢;cases hO:O[n]? with
  |none=>simp only[hO]at hn;simp[AV.ag]at hn
  |some ob=>
   cases ob with
   |dead=>simp only[hO]at hn;simp[AV.ag]at hn
   |own a=>simp only[hO]at hn;simp[AV.ag]at hn
   |dc g=>simp only[hO]at hn;simp[AV.ag]at hn
   |nil e s=>
    simp only[hO]at hn⊢;obtain⟨rfl,rfl⟩:=hr.kf hO;rw[if_pos rfl];exact .lG _ _
   |live e s xs=>
    simp only[hO]at hn⊢;by_cases hl:xs.length=len
    ·rw[if_pos hl]at hn⊢;have:=hr.ep hO hl;subst this;obtain⟨c,⟨kR,h1,dE⟩,h2,h3,h4,h5,h6⟩:=hi.obj n e s xs hO;by_cases hx:xs= []
     ·subst hx;simp at hl;subst hl;exact .lG _ _
     ·subst hl;refine(.sl xs (L n).bh 0 (L n).cap s (λ i j=>(c[i*s+j]?).getD undef) h3 hx (λ i x hx=>(h6 i x hx).1) (λ i x j d hx hj=> ?_) λ i x j d hx hj=> ?_)
      ·obtain⟨y,hy,ho,_⟩:=(h6 i x hx).2 j d hj;rw[alD hi ha hO rfl,Nat.zero_add,eN h1,hy];exact⟨rfl,ho⟩
      ·obtain⟨y,hy,ho,o7⟩:=(h6 i x hx).2 j d hj;rw[hy];exact o7.ag hle (fg (bf (by simpa [AV.ag]using hn) x (mem_of_getElem? hx)) d (mem_of_getElem? hj))
    ·rw[if_neg hl]at hn;simp[AV.ag]at hn
 case own n=>
  simp only[iF]at hn⊢;cases hr with
  |dV _ b hO=>
   simp only[hO]at hn⊢;refine(hi.ow.tree n b hO L []).ag (λ p o v hv=> ?_) hn;unfold tN;rw[if_pos (.inr ⟨n,b,o,v,ha,hO,hv⟩)];exact hi.ow.cell n b hO p o v hv
  |gF _ g hO=>simp only[hO]at hn;simp[AV.ag]at hn
  |eQ _ _ aF cE=>
   cases hO:O[n]? with
   |none=>simp only[hO]at hn;simp[AV.ag]at hn
   |some ob=>
    cases ob with
    |own b=>exact(cE b hO).elim
    |_=>simp only[hO]at hn;simp[AV.ag]at hn
 all_goals exact hr.ag hle hn
theorem jh{f:FuncId}{as a6:List AV}{vs:Array Value}{res:AV}(hi:Inv I L O w)(hr:RL I L O (as++a6) vs)(hn:AV.ad (as.map (iF O)++a6)=true)(hc:a7 P f (as.map (iF O)++a6) res):
  Calls P f vs w λ e w'=>∃y I' L',e= .returned y/\R I' L' (vW O as res) res y/\Good I L O w I' L' (vW O as res) w':=by
 have hle:=wi hi as
 have hinv:Inv (tN I L O w as) L [] w:=by
  refine⟨λ b o x hx=> ?_,by simp,by simp,by simp,λ p hp=>hle _ _ _ (hi.fix p hp),hi.wx hle,.no (by simp),.no (by simp)⟩;unfold tN at hx
  split at hx
  ·exact hx
  ·exact hi.j4 b o x hx
 have qU:RL (tN I L O w as) L [] (as.map (iF O)++a6) vs:=by
  refine⟨by have:=hr.1;simpa using this,λ i a x ha hx=> ?_⟩;have hna:=bf hn a (mem_of_getElem? ha);by_cases aF:i<as.length
  ·rw[getElem?_append_left (by simpa using aF)]at ha;simp only[getElem?_map,map_eq_some_iff]at ha;obtain⟨a0,ha0,rfl⟩:=ha;exact aaD hi (mem_of_getElem? ha0) (hr.2 i a0 x (by rw[getElem?_append_left aF];exact ha0) hx) hna
  ·rw[getElem?_append_right (by simp;omega)]at ha;simp only[length_map]at ha;exact(hr.2 i a x (by rw[getElem?_append_right (by omega)];exact ha) hx).ag hle hna
 refine(hc.2 _ _ _ _ hinv qU).mono ?_;rintro e w' ⟨y,I',L',rfl,hry,hg⟩;have qA:∀b,b<w.heap.size->w'.heap[b]? =w.heap[b]? :=λ b hb=>hg.pa.block b hb yZ
 have hold:∀{n e s xs},O[n]? =some (.live e s xs)->(L n).bh<w.heap.size:=by
  intro n e s xs h;obtain⟨c,⟨kR,h1,dE⟩,_⟩:=hi.obj n e s xs h;exact(Array.getElem?_eq_some_iff.1 h1).1
 by_cases hf:res.flat=true
 ·rw[vW,if_pos hf];refine⟨y,I,L,rfl,hry.flat hf,⟨⟨λ b o x hx=> ?_,λ n e s xs hn=> ?_,hi.sep,hi.dS,hi.fix,hi.tb (λ b hb _=>qA b hb) (λ _ _ _ h=>h),hi.ow.aL λ b hb _=>qA b hb,hi.gh.step (λ _ _ h=>⟨h,rfl⟩) (λ _ _ h=>h) λ b hb=>qA b hb.1⟩,.refl _ _ _,⟨hg.pa.os,hg.pa.tape,hg.pa.output,hg.pa.size,λ b hb _=>qA b hb⟩,λ _ h=> .inl h,λ _ _ _ h=> .inl h⟩⟩
  ·have:=hi.j4 b o x hx;rw[←this];exact World.cell?_of_block (a:=⟨b,o,none⟩) (qA b (j5 this))
  ·exact(hi.obj n e s xs hn).congr (qA _ (hold hn)) λ _ _ h=>h
 ·rw[vW,if_neg hf];have atf:∀b o x,I b o=some x->I' b o=some x:=λ b o x h=>hg.ext.j4 _ _ _ (hle b o x h)
  have du:Ext I L O I' L (as.foldl eA O):=⟨atf,by rw[adC];exact le_refl _,λ n _ e s xs h=> .inl ⟨xs,(j2 as O h).1,le_refl _,λ _=>rfl⟩,λ n _ e s h=>alP as O h,λ n _ a h=>⟨⟨a,sH as O h⟩,rfl⟩,λ n _ a h=>⟨⟨a,xR as O h,rfl⟩,rfl⟩⟩
  have dL:∀b o x,I' b o=some x->I b o=some x∨(∃(n len e s:Nat) (xs:List AV),AV.row n len∈as/\O[n]? =some (.live e s xs)/\xs.length=len/\(L n).bh=b)∨w.heap.size<=b∨(∃(n:Nat) (a:AV) (o:Nat) (v:Value),AV.own n∈as/\O[n]? =some (.own a)/\(L n).mem b o=some v):=by
   intro b o x h;rcases hg.iz b o x h with h1|h1|h1
   ·unfold tN at h1
    split at h1
    ·rename_i hh;rcases hh with hh|hh
     ·exact .inr (.inl hh)
     ·exact .inr (.inr (.inr hh))
    ·exact .inl h1
   ·exact(yZ h1).elim
   ·exact .inr (.inr (.inl h1))
  refine⟨y,I',L,rfl,hry.of_nil,⟨⟨hg.inv.j4,λ n e s xs hn=> ?_,λ n m e s xs e' s' ys h1 h2=>hi.sep n m _ _ _ _ _ _ (j2 as O h1).1 (j2 as O h2).1,λ n e s xs o h=> ?_,hg.inv.fix,hg.inv.bh,hi.ow.aqt (λ n a h=>⟨sH as O h,rfl⟩) (λ b o v hv=> ?_) (λ m e s xs hm=> .inl ⟨m,e,s,xs,(j2 as O hm).1,rfl⟩) (λ b hb _=>qA b hb),hi.gh.step (λ n a h=>⟨xR as O h,rfl⟩) (λ _ _ h=>h.mono du) λ b hb=>qA b hb.1⟩,du,⟨hg.pa.os,hg.pa.tape,hg.pa.output,hg.pa.size,λ b hb _=>qA b hb⟩,?_,?_⟩⟩
  ·have h0:=(j2 as O hn).1;exact(hi.obj n e s xs h0).congr (qA _ (hold h0)) λ _ _ h=>h.mono du
  ·obtain⟨h0,h1⟩:=j2 as O h;cases hx:I' (L n).bh o with
   |none=>rfl
   |some x=>
    rcases dL _ _ _ hx with h2|⟨m,len,e',s',gZ,h2,h3,h4,h5⟩|h2|⟨m,c,o2,v2,h2,h3,h4⟩
    ·rw[hi.dS n e s xs o h0]at h2;cases h2
    ·have:=hi.sep m n _ _ _ _ _ _ h3 h0 h5;subst this;exact(h1 len h2).elim
    ·have:=hold h0;omega
    ·exact(hi.ow.live m c h3 _ o2 v2 h4 n _ _ _ h0 rfl).elim
  ·rcases dL b o v hv with h1|⟨n,len,e,s,xs,_,h2,_,h3⟩|h1|⟨m,c,o2,v2,h2,h3,h4⟩
   ·exact .inl ⟨o,v,h1⟩
   ·exact .inr (.inl ⟨n,e,s,xs,h2,h3⟩)
   ·exact .inr (.inr (.inl h1))
   ·exact .inr (.inr (.inr ⟨m,c,o2,v2,h3,h4,λ d hd=>ai1 as O hd h2⟩))
  ·rintro b (⟨n,e,s,xs,h,hb⟩|⟨n,a,o,v,h,hb⟩|⟨n,a,h,hb⟩)
   ·exact .inl (.inl ⟨n,e,s,xs,(j2 as O h).1,hb⟩)
   ·exact .inl (.inr (.inl ⟨n,a,o,v,sH as O h,hb⟩))
   ·exact .inl (.inr (.inr ⟨n,a,xR as O h,hb⟩))
  ·intro b o x h;rcases dL b o x h with h1|⟨n,len,e,s,xs,_,h2,_,h3⟩|h1|⟨m,c,o2,v2,h2,h3,h4⟩
   ·exact .inl h1
   ·exact .inr (.inl (.inl ⟨n,e,s,xs,h2,h3⟩))
   ·exact .inr (.inr h1)
   ·exact .inr (.inl (.inr (.inl ⟨m,c,o2,v2,h3,h4⟩)))
end
section
variable {P:Program} {I:dv} {L:Nat->Loc} {O:List ae} {w:World} {K:AV->List ae->Prop} {e:Env} {a:Act}
variable {d:Option Tmp} {ty:TypeId} {pos:String} {af:Array Edge} {g:Option (Nat×Bool)}
theorem afr(hi:Inv I L O w)(he:∀t,R I L O (e t) (a.tmps.getD t undef)){t:TypeId}{len:Nat}{parts:Array (Nat×Operand)}{el' s' l':Nat}{z':AV}{ps':List (Nat×aI)}
  (hc:b8 P ty (.buildSlice t len parts)=some (.buildSlice el' s' l' z' ps')) (hk:wpOp P (.iB el' s' l' z' ps') e O K):
  fx P I L O w (execOp a.eval ⟨d,.buildSlice t len parts,ty,pos,af,g⟩) K:=by
 simp only[b8,bind_eq_bind,bind_eq_some_iff]at hc;obtain⟨el,fw,⟨s,b,z⟩,hz,ps,hps,hc⟩:=hc
 split at hc
 ·rename_i acf;simp only[Option.some.injEq,ew.buildSlice.injEq]at hc;obtain⟨rfl,rfl,rfl,rfl,rfl⟩:=hc;have ht:=gm fw;obtain⟨i,z0,h1,h2,h3,rfl,rfl,h4,h5,h6,h7⟩:=e8 hz;have yn:=fm.made (I:=I) (L:=L) (O:=O) (cap:=len) (n:=len) (eO h3) h7 h4 h5 (le_refl _);obtain⟨gZ,c',⟨cE,m1⟩,m2,m3,m4,m5⟩:=rA he parts.toList ps _ _ yn (by simp) hps hk;have hlx:gZ.length=len:=by simpa using m3
  obtain⟨I',hg,hr⟩:=hi.av9 (el:=el) (s:=i.size) (xs:=gZ) c' len (by omega) (λ k x hx j c hj I' L' O' v hI hv=>hv.ag hI (fg (bf cE x (mem_of_getElem? hx)) c (mem_of_getElem? hj))) m2;rw[hlx]at hr;refine⟨_,_,.slice (some ⟨w.heap.size,0,none⟩) len len,_,_,_,m1,hg,hr,.inl ?_⟩;have hns:¬(len*i.size>2^24):=by simpa using acf
  simp only[execOp];by_cases h0:len*i.size=0
  ·have wm:len=0:=by rcases Nat.mul_eq_zero.1 h0 with h|h<;>omega
   subst wm;simp[Array.range_zero']at m5;simp[Instr.buildSlice,run_underlying ht,sizeOf,typeInfo,h1,m5,newRow,Array.range_zero']
  ·simp[Instr.buildSlice,run_underlying ht,sizeOf,typeInfo,h1,hns,h0,zeroValue,h2,m5,newRow]
 ·cases hc
end
end Go.Ab
namespace Go.Ab
mutual
def AV.inScope(k:Nat):AV->Bool
 | .top| .v _| .aw| .uU=>true
 | .sl xs=>AV.cX k xs
 | .ct x _=>x.inScope k
 | .row n _=>n<k
 | .ptr n _ _ _=>n<k
 | .fn _ cs=>AV.cX k cs
 | .agg cs=>AV.cX k cs
 | .ba vs=>AV.cX k vs
 | .own n=>n<k
def AV.cX(k:Nat):List AV->Bool
 | []=>true
 |x::xs=>x.inScope k&&AV.cX k xs
end
theorem bZ{k:Nat}{xs:List AV}(h:AV.cX k xs=true):∀x∈xs,x.inScope k=true:=by
 induction xs with
 |nil=>simp
 |cons y ys ih=>
  simp only[AV.cX,and_eq_true]at h;intro x hx;rcases List.mem_cons.1 hx with rfl|hx
  ·exact h.1
  ·exact ih h.2 x hx
mutual
theorem cA{k:Nat}:∀(x:AV),x.ag=true->x.inScope k=true
 | .top,_| .v _,_| .aw,_| .uU,_=>rfl
 | .sl xs,h=>by simp only[AV.ag,AV.inScope]at*;exact dg xs h
 | .ct x _,h=>by simp only[AV.ag,AV.inScope]at*;exact cA x h
 | .row _ _,h=>by simp[AV.ag]at h
 | .ptr _ _ _ _,h=>by simp[AV.ag]at h
 | .fn _ cs,h=>by simp only[AV.ag,AV.inScope]at*;exact dg cs h
 | .agg cs,h=>by simp only[AV.ag,AV.inScope]at*;exact dg cs h
 | .ba cs,h=>by simp only[AV.ag,AV.inScope]at*;exact dg cs h
 | .own _,h=>by simp[AV.ag]at h
theorem dg{k:Nat}:∀(xs:List AV),AV.ad xs=true->AV.cX k xs=true
 | [],_=>rfl
 |x::xs,h=>by
  simp only[AV.ad,AV.cX,and_eq_true]at*;exact⟨cA x h.1,dg xs h.2⟩
end
theorem cp{k:Nat}{x:AV}(h:x.inScope k=true):∀c∈x.cells,c.inScope k=true:=by
 cases x<;>simp only[AV.cells]<;>try (intro c hc;simp at hc;subst hc;exact h)
 simp only[AV.inScope]at h;exact bZ h
def ae.inScope(k:Nat):ae->Bool
 | .dead=>true
 | .own _=>true
 | .nil _ _=>true
 | .live _ _ xs=>AV.cX k xs
 | .dc (.mp es)=>es.all λ p=>p.1.inScope k&&p.2.inScope k
 | .dc (.it _ _)=>true
theorem fe(s:Nat->Nat)(xs:List AV):AV.rB s xs=xs.map (AV.bU s):=by
 induction xs with
 |nil=>rfl
 |cons x xs ih=>simp[AV.rB,ih]
mutual
theorem dW{s:Nat->Nat}:∀(a:AV),a.ag=true->a.bU s=a
 | .top,_| .v _,_| .aw,_| .uU,_=>rfl
 | .sl xs,h=>by simp only[AV.bU];rw[ff xs (by simpa [AV.ag]using h)]
 | .ct x _,h=>by simp only[AV.bU];rw[dW x (by simpa [AV.ag]using h)]
 | .row _ _,h=>by simp[AV.ag]at h
 | .ptr _ _ _ _,h=>by simp[AV.ag]at h
 | .fn _ cs,h=>by simp only[AV.bU];rw[ff cs (by simpa [AV.ag]using h)]
 | .agg cs,h=>by simp only[AV.bU];rw[ff cs (by simpa [AV.ag]using h)]
 | .ba cs,h=>by simp only[AV.bU];rw[ff cs (by simpa [AV.ag]using h)]
 | .own _,h=>by simp[AV.ag]at h
theorem ff{s:Nat->Nat}:∀(xs:List AV),AV.ad xs=true->AV.rB s xs=xs
 | [],_=>rfl
 |x::xs,h=>by
  simp only[AV.ad,and_eq_true]at h;simp only[AV.rB];rw[dW x h.1,ff xs h.2]
end
theorem ea(s:Nat->Nat)(a:AV):(a.bU s).cells=a.cells.map (AV.bU s):=by
 cases a<;>simp[AV.bU,AV.cells,fe]
theorem iI{s:Nat->Nat}{xs:List AV}{i:Nat}{y:AV}(h:(xs.map (AV.bU s))[i]? =some y):∃x,xs[i]? =some x/\y=x.bU s:=by
 simp only[getElem?_map,map_eq_some_iff]at h;obtain⟨x,hx,rfl⟩:=h;exact⟨x,hx,rfl⟩
theorem R.bU{I:dv}{L L':Nat->Loc}{O O':List ae}{s:Nat->Nat}(hn:∀n,n<O'.length->s n<O.length)
  (hg:∀n,n<O'.length->O[s n]? =(O'[n]?).map (ae.bU s)) (hL:∀n,n<O'.length->L (s n)=L' n) {a:AV} {x:Value} (hr:R I L' O' a x):R I L O (a.bU s) x:=by
 have live:∀{n e k xs},O'[n]? =some (.live e k xs)->O[s n]? =some (.live e k (xs.map (AV.bU s)))/\L (s n)=L' n:=by
  intro n e k xs h;have aF:=(List.getElem?_eq_some_iff.1 h).1;exact⟨by rw[hg n aF,h];rfl,hL n aF⟩
 have back:∀{n e k xs},n<O'.length->O[s n]? =some (.live e k xs)->∃ys,O'[n]? =some (.live e k ys)/\ys.length=xs.length:=by
  intro n e k xs aF h;rw[hg n aF,map_eq_some_iff]at h;obtain⟨ob,h1,h2⟩:=h;cases ob with
  |dead=>cases h2
  |own a=>cases h2
  |dc g=>cases h2
  |nil=>cases h2
  |live e' k' ys=>cases h2;exact⟨ys,h1,by simp⟩
 have av6:∀{n e k},n<O'.length->O'[n]? ≠some (.nil e k)->O[s n]? ≠some (.nil e k):=by
  intro n e k aF bB h;rw[hg n aF,map_eq_some_iff]at h;obtain⟨ob,h1,h2⟩:=h;cases ob with
  |dead=>cases h2
  |own a=>cases h2
  |dc g=>cases h2
  |nil=>cases h2;exact bB h1
  |live=>cases h2
 induction hr with
 |top x=>exact .top x
 |v x hx=>exact .v x hx
 |aw=>exact .aw
 |uU t x=>exact .uU t x
 |lG a cap=>exact .lG a cap
 |sl xs bh off cap k bA h1 h2 h3 h4 _ ih=>
  simp only[AV.bU,fe];rw[show xs.length=(xs.map (AV.bU s)).length by simp];refine .sl _ bh off cap k bA (by simpa using h1) (by simpa using h2) (λ i x hx=> ?_) (λ i x j c hx hc=> ?_) (λ i x j c hx hc=> ?_)
  ·obtain⟨y,hy,rfl⟩:=iI hx;rw[ea,length_map];exact h3 i y hy
  ·obtain⟨y,hy,rfl⟩:=iI hx;rw[ea]at hc;obtain⟨d,hd,rfl⟩:=iI hc;exact h4 i y j d hy hd
  ·obtain⟨y,hy,rfl⟩:=iI hx;rw[ea]at hc;obtain⟨d,hd,rfl⟩:=iI hc;exact ih i y j d hy hd
 |ct x f bh base bA h1 _ ih=>
  simp only[AV.bU];refine .ct _ f bh base bA (λ j c hc=> ?_) (λ j c hc=> ?_)
  ·rw[ea]at hc;obtain⟨d,hd,rfl⟩:=iI hc;exact h1 j d hd
  ·rw[ea]at hc;obtain⟨d,hd,rfl⟩:=iI hc;exact ih j d hd
 |cq n len e k xs hx hl=>
  obtain⟨h1,h2⟩:=live hx;simp only[AV.bU];rw[←h2];exact .cq (s n) len e k _ h1 (by simpa using hl)
 |fY n e k hx=>
  simp only[AV.bU];refine .fY (s n) e k ?_;rw[hg n (List.getElem?_eq_some_iff.1 hx).1,hx];rfl
 |eP n len x aF wj hs hx=>
  simp only[AV.bU];refine .eP (s n) len x (hn n aF) (λ e k he=>av6 aF (wj e k) he) (λ e k xs nU=> ?_) hx;obtain⟨ys,hy,he⟩:=back aF nU;rw[←he];exact hs e k ys hy
 |dU n len i f e k xs hx hl=>
  obtain⟨h1,h2⟩:=live hx;simp only[AV.bU];rw[←h2];exact .dU (s n) len i f e k _ h1 (by simpa using hl)
 |fZ n len i f x aF wj hs hx=>
  simp only[AV.bU];refine .fZ (s n) len i f x (hn n aF) (λ e k he=>av6 aF (wj e k) he) (λ e k xs nU=> ?_) hx;obtain⟨ys,hy,he⟩:=back aF nU;rw[←he];exact hs e k ys hy
 |fn f a6 vs h1 _ ih=>
  simp only[AV.bU,fe];refine .fn f _ vs (by simpa using h1) λ i c x hc hx=> ?_
  obtain⟨d,hd,rfl⟩:=iI hc;exact ih i d x hd hx
 |agg cs vs h1 _ ih=>
  simp only[AV.bU,fe];refine .agg _ vs (by simpa using h1) λ i c x hc hx=> ?_
  obtain⟨d,hd,rfl⟩:=iI hc;exact ih i d x hd hx
 |ba cs vs h1 _ ih=>
  simp only[AV.bU,fe];refine .ba _ vs (by simpa using h1) λ i c x hc hx=> ?_
  obtain⟨d,hd,rfl⟩:=iI hc;exact ih i d x hd hx
 |dV n a h h1=>
  have aF:=(List.getElem?_eq_some_iff.1 h).1;rw[←hL n aF]at h1⊢;exact .dV (s n) a (by rw[hg n aF,h];rfl) h1
 |gF n g h=>
  have aF:=(List.getElem?_eq_some_iff.1 h).1;have:g.val (L' n).bh=(g.bU s).val (L (s n)).bh:=by unfold gr.val;rw[gr.xf,hL n aF]
  rw[this];exact .gF (s n) (g.bU s) (by rw[hg n aF,h];rfl)
 |eQ n x aF cE hng h1=>
  refine .eQ (s n) x (hn n aF) (λ a ha=> ?_) (λ a ha=> ?_) h1
  ·rw[hg n aF,map_eq_some_iff]at ha;obtain⟨ob,h1,h2⟩:=ha;cases ob with
   |own c=>exact cE c h1
   |_=>cases h2
  ·rw[hg n aF,map_eq_some_iff]at ha;obtain⟨ob,h1,h2⟩:=ha;cases ob with
   |dc c=>exact hng c h1
   |_=>cases h2
theorem R.akr{I:dv}{L L':Nat->Loc}{O O':List ae}{s:Nat->Nat}(hg:∀n,n<O'.length->O[s n]? =(O'[n]?).map (ae.bU s))(hL:∀n,n<O'.length->L (s n)=L' n)
  {b:AV} {x:Value} (hr:R I L O b x):∀a:AV,b=a.bU s->a.inScope O'.length=true->R I L' O' a x:=by
 have live:∀{n e k xs},n<O'.length->O[s n]? =some (.live e k xs)->∃ys,O'[n]? =some (.live e k ys)/\xs=ys.map (AV.bU s):=by
  intro n e k xs aF h;rw[hg n aF,map_eq_some_iff]at h;obtain⟨ob,h1,h2⟩:=h;cases ob with
  |dead=>cases h2
  |own a=>cases h2
  |dc g=>cases h2
  |nil=>cases h2
  |live e' k' ys=>cases h2;exact⟨ys,h1,rfl⟩
 have fwd:∀{n e k ys},O'[n]? =some (.live e k ys)->O[s n]? =some (.live e k (ys.map (AV.bU s))):=by
  intro n e k ys h;rw[hg n (List.getElem?_eq_some_iff.1 h).1,h];rfl
 have axx:∀{n e k},O'[n]? =some (.nil e k)->O[s n]? =some (.nil e k):=by
  intro n e k h;rw[hg n (List.getElem?_eq_some_iff.1 h).1,h];rfl
 have cm:∀{y:AV} {j:Nat} {d:AV},y.cells[j]? =some d->(y.bU s).cells[j]? =some (d.bU s):=by
  intro y j d h;rw[ea,getElem?_map,h];rfl
 have mm:∀{ys:List AV} {j:Nat} {d:AV},ys[j]? =some d->(ys.map (AV.bU s))[j]? =some (d.bU s):=by
  intro ys j d h;rw[getElem?_map,h];rfl
 induction hr with
 |top x=>intro a h;cases a<;>simp[AV.bU]at h;intro _;exact .top x
 |v x hx=>intro a h;cases a<;>simp[AV.bU]at h;intro _;subst h;exact .v x hx
 |aw=>intro a h;cases a<;>simp[AV.bU]at h;intro _;exact .aw
 |uU t x=>intro a h;cases a<;>simp[AV.bU]at h;intro _;exact .uU t x
 |lG a cap=>
  intro a h;cases a<;>simp[AV.bU,fe]at h;intro _;subst h;exact .lG _ cap
 |sl xs bh off cap k bA h1 h2 h3 h4 _ ih=>
  intro a h;cases a<;>simp[AV.bU,fe]at h
  rename_i ys;subst h;intro hs;have hs':=bZ (by simpa [AV.inScope]using hs);rw[length_map];refine .sl ys bh off cap k bA (by simpa using h1) (by simpa using h2) (λ i x hx=> ?_) (λ i x j c hx hc=>h4 i _ j _ (mm hx) (cm hc)) (λ i x j c hx hc=> ?_)
  ·have:=h3 i _ (mm hx);rwa [ea,length_map]at this
  ·exact ih i _ j _ (mm hx) (cm hc) c rfl (cp (hs' x (mem_of_getElem? hx)) c (mem_of_getElem? hc))
 |ct x f bh base bA h1 _ ih=>
  intro a h;cases a<;>simp[AV.bU]at h
  rename_i y g;obtain⟨rfl,rfl⟩:=h;intro hs;refine .ct y f bh base bA (λ j c hc=>h1 j _ (cm hc)) (λ j c hc=>ih j _ (cm hc) c rfl (cp (by simpa [AV.inScope]using hs) c (mem_of_getElem? hc)))
 |cq n len e k xs hx hl=>
  intro a h;cases a<;>simp[AV.bU]at h
  rename_i n' l';obtain⟨rfl,rfl⟩:=h;intro hs;have aF:n'<O'.length:=by simpa [AV.inScope]using hs
  obtain⟨ys,hy,rfl⟩:=live aF hx;rw[hL n' aF];exact .cq n' len e k ys hy (by simpa using hl)
 |fY n e k hx=>
  intro a h;cases a<;>simp[AV.bU]at h
  rename_i n' l';obtain⟨rfl,rfl⟩:=h;intro hs;have aF:n'<O'.length:=by simpa [AV.inScope]using hs
  rw[hg n' aF,map_eq_some_iff]at hx;obtain⟨ob,h1,h2⟩:=hx;cases ob with
  |dead=>cases h2
  |own a=>cases h2
  |dc g=>cases h2
  |live=>cases h2
  |nil=>cases h2;exact .fY n' e k h1
 |eP n len x awT wj hd hx=>
  intro a h;cases a<;>simp[AV.bU]at h
  rename_i n' l';obtain⟨rfl,rfl⟩:=h;intro hs;refine .eP n' len x (by simpa [AV.inScope]using hs) (λ e k he=>wj e k (axx he)) (λ e k ys tg=> ?_) hx;have:=hd e k _ (fwd tg);simpa using this
 |dU n len i f e k xs hx hl=>
  intro a h;cases a<;>simp[AV.bU]at h
  rename_i n' l' i' f';obtain⟨rfl,rfl,rfl,rfl⟩:=h;intro hs;have aF:n'<O'.length:=by simpa [AV.inScope]using hs
  obtain⟨ys,hy,rfl⟩:=live aF hx;rw[hL n' aF];exact .dU n' len i f e k ys hy (by simpa using hl)
 |fZ n len i f x awT wj hd hx=>
  intro a h;cases a<;>simp[AV.bU]at h
  rename_i n' l' i' f';obtain⟨rfl,rfl,rfl,rfl⟩:=h;intro hs;refine .fZ n' len i f x (by simpa [AV.inScope]using hs) (λ e k he=>wj e k (axx he)) (λ e k ys tg=> ?_) hx;have:=hd e k _ (fwd tg);simpa using this
 |fn f a6 vs h1 _ ih=>
  intro a h;cases a<;>simp[AV.bU,fe]at h
  rename_i f' ys;obtain⟨rfl,rfl⟩:=h;intro hs;exact .fn f ys vs (by simpa using h1) λ i c x hc hx=>ih i _ x (mm hc) hx c rfl (bZ (by simpa [AV.inScope]using hs) c (mem_of_getElem? hc))
 |agg cs vs h1 _ ih=>
  intro a h;cases a<;>simp[AV.bU,fe]at h
  rename_i ys;subst h;intro hs;exact .agg ys vs (by simpa using h1) λ i c x hc hx=>ih i _ x (mm hc) hx c rfl (bZ (by simpa [AV.inScope]using hs) c (mem_of_getElem? hc))
 |ba cs vs h1 _ ih=>
  intro a h;cases a<;>simp[AV.bU,fe]at h
  rename_i ys;subst h;intro hs;exact .ba ys vs (by simpa using h1) λ i c x hc hx=>ih i _ x (mm hc) hx c rfl (bZ (by simpa [AV.inScope]using hs) c (mem_of_getElem? hc))
 |dV n a hx ym=>
  intro b h;cases b<;>simp[AV.bU]at h
  rename_i n';subst h;intro hs;have aF:n'<O'.length:=by simpa [AV.inScope]using hs
  rw[hg n' aF,map_eq_some_iff]at hx;obtain⟨ob,h1,h2⟩:=hx;rw[hL n' aF]at ym⊢;cases ob with
  |own c=>exact .dV n' c h1 ym
  |_=>cases h2
 |gF n g hx=>
  intro b h;cases b<;>simp[AV.bU]at h
  rename_i n';subst h;intro hs;have aF:n'<O'.length:=by simpa [AV.inScope]using hs
  rw[hg n' aF,map_eq_some_iff]at hx;obtain⟨ob,h1,h2⟩:=hx;rw[hL n' aF];cases ob with
  |dc c=>
   cases h2;have:(c.bU s).val (L' n').bh=c.val (L' n').bh:=by unfold gr.val;rw[gr.xf]
   rw[this];exact .gF n' c h1
  |_=>cases h2
 |eQ n x awT cE hng ym=>
  intro b h;cases b<;>simp[AV.bU]at h
  rename_i n';subst h;intro hs;have aF:n'<O'.length:=by simpa [AV.inScope]using hs
  exact .eQ n' x aF (λ a ha=>cE a (by rw[hg n' aF,ha];rfl)) (λ a ha=>hng (a.bU s) (by rw[hg n' aF,ha];rfl)) ym
theorem qY.un{I:dv}{L L1:Nat->Loc}{O O1:List ae}{w:World}{l:Loc}{g:gr}{s:Nat->Nat}{k:Nat}(un:∀a x,R I L O (a.bU s) x->a.inScope k=true->R I L1 O1 a x)(h:qY I L O w l (g.bU s))(hs:(ae.dc g).inScope k=true):qY I L1 O1 w l g:=by
 cases g with
 |it a b=>exact h
 |mp es=>
  obtain⟨en,c,q1,q2,q3⟩:=h;refine⟨en,c,q1,by simpa using q2,λ i k' v hx=> ?_⟩;obtain⟨e,q4,q5,q6⟩:=q3 i (k'.bU s) (v.bU s) (by rw[getElem?_map,hx];rfl);have agj:=List.all_eq_true.1 (show es.all (λ p=>p.1.inScope k&&p.2.inScope k)=true from hs) (k',v) (mem_of_getElem? hx);simp only[and_eq_true]at agj;exact⟨e,q4,un _ _ q5 agj.1,un _ _ q6 agj.2⟩
theorem hD.frame{P:Program}{f:FuncId}{args:List AV}{O1:List ae}{res:AV}{mz:List ae}(h:hD P f args O1 res mz){O oY:List ae}(s:Nat->Nat)
  (hs:∀i,i<O1.length->s i<O.length) (hg:∀i,i<O1.length->O[s i]? =(O1[i]?).map (ae.bU s)) (vQ:∀i j,i<O1.length->j<O1.length->s i=s j->i=j)
  (dL:∀i,O1.length<=i->s i=O.length+(i- O1.length)) (hsc:∀a∈args,a.inScope O1.length=true) (hsO:∀ob∈O1,ob.inScope O1.length=true)
  (hl:oY.length=O.length+(mz.length- O1.length)) (h1:∀i,i<mz.length->oY[s i]? =(mz[i]?).map (ae.bU s)) (h2:∀n,n<O.length->(∀i,i<O1.length->s i≠n)->oY[n]? =O[n]?):
  hD P f (args.map (AV.bU s)) O (res.bU s) oY:=by
 refine⟨h.1,λ I L w vs hi hr=> ?_⟩
 have inj:∀i j,s i=s j->i=j:=by
  intro i j he;by_cases hi:i<O1.length<;>by_cases hj:j<O1.length
  ·exact vQ i j hi hj he
  ·have:=hs i hi;have:=dL j (by omega);omega
  ·have:=hs j hj;have:=dL i (by omega);omega
  ·have:=dL i (by omega);have:=dL j (by omega);omega
 let L1:Nat->Loc:=λ n=>L (s n)
 have gv:∀{n e k ys},O1[n]? =some (.live e k ys)->O[s n]? =some (.live e k (ys.map (AV.bU s))):=by
  intro n e k ys hn;rw[hg n (List.getElem?_eq_some_iff.1 hn).1,hn];rfl
 have un:∀{a:AV} {x:Value},R I L O (a.bU s) x->a.inScope O1.length=true->R I L1 O1 a x:=λ hr hsc=>R.akr hg (λ _ _=>rfl) hr _ rfl hsc
 have iT:∀{n:Nat} {a:AV},O1[n]? =some (.own a)->O[s n]? =some (.own a):=by
  intro n a hn;rw[hg n (List.getElem?_eq_some_iff.1 hn).1,hn];rfl
 have oz:∀{n:Nat} {g:gr},O1[n]? =some (.dc g)->O[s n]? =some (.dc (g.bU s)):=by
  intro n a hn;rw[hg n (List.getElem?_eq_some_iff.1 hn).1,hn];rfl
 have hi1:Inv I L1 O1 w:=by
  refine⟨hi.j4,λ n e k ys hn=> ?_,λ n n' e k ys e' k' ux hn lz hb=> ?_,λ n e k ys o hn=>hi.dS _ _ _ _ o (gv hn),hi.fix,hi.bh,
   ⟨λ n a hn=>hi.ow.tree _ a (iT hn),λ n a hn=>hi.ow.cell _ a (iT hn),λ n a hn=>hi.ow.j4 _ a (iT hn),λ n a hn b o v hv m e k xs hm=>hi.ow.live _ a (iT hn) b o v hv _ _ _ _ (gv hm),
    λ n m a c hn hm b o o' v v' hv jO=>inj _ _ (hi.ow.sep _ _ a c (iT hn) (iT hm) b o o' v v' hv jO),λ n a hn=>hi.ow.deep _ a (iT hn)⟩,⟨λ n g hn=> ?_,λ n m g g' hn hm hb=>inj _ _ (hi.gh.sep _ _ _ _ (oz hn) (oz hm) hb)⟩⟩
  rotate_right
  ·have q:=hi.gh.ok _ _ (oz hn);cases g with
   |it a b=>exact q
   |mp es=>
    obtain⟨en,c,q1,q2,q3⟩:=q;refine⟨en,c,q1,by simpa using q2,λ i k v hx=> ?_⟩;obtain⟨e,q4,q5,q6⟩:=q3 i (k.bU s) (v.bU s) (by rw[getElem?_map,hx];rfl);have hbo:=hsO _ (mem_of_getElem? hn);have agj:=List.all_eq_true.1 (show es.all (λ p=>p.1.inScope O1.length&&p.2.inScope O1.length)=true from hbo) (k,v) (mem_of_getElem? hx);simp only[and_eq_true]at agj;exact⟨e,q4,un q5 agj.1,un q6 agj.2⟩
  ·obtain⟨c,⟨kR,q1,dE⟩,q2,q3,q4,q5,q6⟩:=hi.obj _ _ _ _ (gv hn);refine⟨c,⟨kR,q1,dE⟩,q2,by simpa using q3,q4,q5,λ i x hx=> ?_⟩;have jH:(ys.map (AV.bU s))[i]? =some (x.bU s):=by rw[getElem?_map,hx];rfl
   obtain⟨r1,r2⟩:=q6 i _ jH;rw[ea,length_map]at r1;refine⟨r1,λ j a ha=> ?_⟩;obtain⟨y,hy,ho,o7⟩:=r2 j (a.bU s) (by rw[ea,getElem?_map,ha];rfl);have hbo:=hsO _ (mem_of_getElem? hn);exact⟨y,hy,ho,un o7 (cp (bZ hbo x (mem_of_getElem? hx)) a (mem_of_getElem? ha))⟩
  ·exact inj _ _ (hi.sep _ _ _ _ _ _ _ _ (gv hn) (gv lz) hb)
 have hr1:RL I L1 O1 args vs:=by
  refine⟨by simpa using hr.1,λ i a x ha hx=>un (hr.2 i _ x (by rw[getElem?_map,ha];rfl) hx) (hsc a (mem_of_getElem? ha))⟩
 refine(h.2 I L1 w vs hi1 hr1).mono ?_;rintro e w' ⟨y,I',L1',rfl,hy,iA⟩;have hlen:=iA.ext.len
 open Classical in
 let L'':Nat->Loc:=λ n=>if hx:∃i,i<mz.length/\s i=n then L1' hx.choose else L n
 have se:∀i,i<mz.length->L'' (s i)=L1' i:=by
  intro i hi;have hx:∃j,j<mz.length/\s j=s i:=⟨i,hi,rfl⟩
  show(if hx:∃j,j<mz.length/\s j=s i then L1' hx.choose else L (s i))=_;rw[dif_pos hx];rw[inj _ _ hx.choose_spec.2]
 have qB:∀n,(∀i,i<mz.length->s i≠n)->L'' n=L n:=by
  intro n hn;exact dif_neg (by rintro⟨i,hi,he⟩;exact hn i hi he)
 have hsl:∀i,i<mz.length->s i<oY.length:=by
  intro i hi;by_cases hm:i<O1.length
  ·have:=hs i hm;omega
  ·have:=dL i (by omega);omega
 have cls:∀n e k xs,oY[n]? =some (.live e k xs)->(∃i ys,i<mz.length/\s i=n/\mz[i]? =some (.live e k ys)/\xs=ys.map (AV.bU s))∨(n<O.length/\(∀i,i<mz.length->s i≠n)/\O[n]? =some (.live e k xs)):=by
  intro n e k xs hn;by_cases hx:∃i,i<mz.length/\s i=n
  ·obtain⟨i,hi,rfl⟩:=hx;rw[h1 i hi,map_eq_some_iff]at hn;obtain⟨ob,q1,q2⟩:=hn;cases ob with
   |dead=>cases q2
   |own a=>cases q2
   |dc g=>cases q2
   |nil=>cases q2
   |live e' k' ys=>cases q2;exact .inl ⟨i,ys,hi,rfl,q1,rfl⟩
  ·have cE:∀i,i<mz.length->s i≠n:=λ i hi he=>hx ⟨i,hi,he⟩
   have aF:n<O.length:=by
    have:=(List.getElem?_eq_some_iff.1 hn).1;rcases lt_or_ge n O.length with h'|h'
    ·exact h'
    ·exact absurd (dL (O1.length+(n- O.length)) (by omega)) (λ he=>cE (O1.length+(n- O.length)) (by omega) (by omega))
   rw[h2 n aF (λ i hi=>cE i (by omega))]at hn;exact .inr ⟨aF,cE,hn⟩
 have lb1:∀{b},LB L1 O1 b->LB L O b:=by
  rintro b (⟨n,e,k,ys,hn,hb⟩|⟨n,a,o,v,hn,hb⟩|⟨n,g,hn,hb⟩)
  ·exact .inl ⟨s n,e,k,_,gv hn,hb⟩
  ·exact .inr (.inl ⟨s n,a,o,v,iT hn,hb⟩)
  ·exact .inr (.inr ⟨s n,_,oz hn,hb⟩)
 have gB:∀{n e k xs},O[n]? =some (.live e k xs)->(∀i,i<mz.length->s i≠n)->¬LB L1 O1 (L n).bh/\(L n).bh<w.heap.size:=by
  intro n e k xs hn cE;refine⟨?_,?_⟩
  ·rintro(⟨i,e',k',ys,eE,hb⟩|⟨i,a,o,v,eE,hb⟩|⟨i,g,eE,hb⟩)
   ·have:=hi.sep _ _ _ _ _ _ _ _ (gv eE) hn hb;exact cE i (by have:=(List.getElem?_eq_some_iff.1 eE).1;omega) this
   ·exact hi.ow.live _ a (iT eE) _ o v hb _ _ _ _ hn rfl
   ·obtain⟨c,⟨kR,q1,dE⟩,_⟩:=hi.obj n e k xs hn;have hq:=(hi.gh.ok _ _ (oz eE)).no.2 c e kR;exact hq (by rw[show(L (s i)).bh=(L n).bh from hb];exact q1)
  ·obtain⟨c,⟨kR,q1,dE⟩,_⟩:=hi.obj n e k xs hn;exact(Array.getElem?_eq_some_iff.1 q1).1
 have aiF:∀{n:Nat} {a:AV} {b o:Nat} {v:Value},O[n]? =some (.own a)->(∀i,i<mz.length->s i≠n)->(L n).mem b o=some v->¬LB L1 O1 b/\b<w.heap.size:=by
  intro n a b o v hn cE hv;refine⟨?_,j5 (hi.ow.cell n a hn b o v hv)⟩;rintro(⟨i,e',k',ys,eE,hb⟩|⟨i,c,o',v',eE,hb⟩|⟨i,g,eE,hb⟩)
  ·exact hi.ow.live n a hn b o v hv _ _ _ _ (gv eE) hb
  ·have:=hi.ow.sep _ _ c a (iT eE) hn b o' o v' v hb hv;exact cE i (by have:=(List.getElem?_eq_some_iff.1 eE).1;omega) this
  ·have hq:=(hi.gh.ok _ _ (oz eE)).no.cell (o:=o);rw[show(L (s i)).bh=b from hb,hi.ow.cell n a hn b o v hv]at hq;cases hq
 have asg:∀{n:Nat} {g:gr},O[n]? =some (.dc g)->(∀i,i<mz.length->s i≠n)->¬LB L1 O1 (L n).bh/\(L n).bh<w.heap.size:=by
  intro n g hn cE;have hq:=(hi.gh.ok _ _ hn).no;refine⟨?_,hq.1⟩;rintro(⟨i,e',k',ys,eE,hb⟩|⟨i,c,o',v',eE,hb⟩|⟨i,g',eE,hb⟩)
  ·obtain⟨c,⟨kR,q1,dE⟩,_⟩:=hi.obj _ _ _ _ (gv eE);exact hq.2 c e' kR (by rw[←show(L (s i)).bh=(L n).bh from hb];exact q1)
  ·have h0:=hq.cell (o:=o');rw[hi.ow.cell _ c (iT eE) _ o' v' hb]at h0;cases h0
  ·have:=hi.gh.sep _ _ _ _ (oz eE) hn hb;exact cE i (by have:=(List.getElem?_eq_some_iff.1 eE).1;omega) this
 have acr:∀(n:Nat) (a:AV),oY[n]? =some (.own a)->(∃i,i<mz.length/\s i=n/\mz[i]? =some (.own a))∨(n<O.length/\(∀i,i<mz.length->s i≠n)/\O[n]? =some (.own a)):=by
  intro n a hn;by_cases hx:∃i,i<mz.length/\s i=n
  ·obtain⟨i,hi,rfl⟩:=hx;rw[h1 i hi,map_eq_some_iff]at hn;obtain⟨ob,q1,q2⟩:=hn;cases ob with
   |dead=>cases q2
   |live=>cases q2
   |nil=>cases q2
   |dc g=>cases q2
   |own c=>cases q2;exact .inl ⟨i,hi,rfl,q1⟩
  ·have cE:∀i,i<mz.length->s i≠n:=λ i hi he=>hx ⟨i,hi,he⟩
   have aF:n<O.length:=by
    have:=(List.getElem?_eq_some_iff.1 hn).1;rcases lt_or_ge n O.length with h'|h'
    ·exact h'
    ·exact absurd (dL (O1.length+(n- O.length)) (by omega)) (λ he=>cE (O1.length+(n- O.length)) (by omega) (by omega))
   rw[h2 n aF (λ i hi=>cE i (by omega))]at hn;exact .inr ⟨aF,cE,hn⟩
 have anf:∀(n:Nat) (g:gr),oY[n]? =some (.dc g)->(∃i g',i<mz.length/\s i=n/\mz[i]? =some (.dc g')/\g=g'.bU s)∨(n<O.length/\(∀i,i<mz.length->s i≠n)/\O[n]? =some (.dc g)):=by
  intro n a hn;by_cases hx:∃i,i<mz.length/\s i=n
  ·obtain⟨i,hi,rfl⟩:=hx;rw[h1 i hi,map_eq_some_iff]at hn;obtain⟨ob,q1,q2⟩:=hn;cases ob with
   |dead=>cases q2
   |live=>cases q2
   |nil=>cases q2
   |own c=>cases q2
   |dc g=>cases q2;exact .inl ⟨i,g,hi,rfl,q1,rfl⟩
  ·have cE:∀i,i<mz.length->s i≠n:=λ i hi he=>hx ⟨i,hi,he⟩
   have aF:n<O.length:=by
    have:=(List.getElem?_eq_some_iff.1 hn).1;rcases lt_or_ge n O.length with h'|h'
    ·exact h'
    ·exact absurd (dL (O1.length+(n- O.length)) (by omega)) (λ he=>cE (O1.length+(n- O.length)) (by omega) (by omega))
   rw[h2 n aF (λ i hi=>cE i (by omega))]at hn;exact .inr ⟨aF,cE,hn⟩
 have ext:Ext I L O I' L'' oY:=by
  refine⟨iA.ext.j4,by omega,λ n hn e k xs hx=> ?_,λ n hn e k hx=> ?_,λ n hn a hx=> ?_,λ n hn g hx=> ?_⟩
  rotate_right
  ·rcases anf n g hx with⟨i,g',eE,rfl,q1,rfl⟩|⟨aF,cE,q1⟩
   ·have him:i<O1.length:=by
      rcases lt_or_ge i O1.length with h'|h'
      ·exact h'
      ·have:=dL i h';omega
    obtain⟨⟨b,hb,hk⟩,hv⟩:=iA.ext.dc i him g' q1;exact⟨⟨_,oz hb,by rw[gr.xf,gr.xf];exact hk⟩,by rw[se i eE];exact hv⟩
   ·exact⟨⟨g,q1,rfl⟩,by rw[qB n cE]⟩
  rotate_left 2
  ·rcases acr n a hx with⟨i,eE,rfl,q1⟩|⟨aF,cE,q1⟩
   ·have him:i<O1.length:=by
      rcases lt_or_ge i O1.length with h'|h'
      ·exact h'
      ·have:=dL i h';omega
    obtain⟨⟨b,hb⟩,hv⟩:=iA.ext.own i him a q1;exact⟨⟨b,iT hb⟩,by rw[se i eE];exact hv⟩
   ·exact⟨⟨a,q1⟩,by rw[qB n cE]⟩
  rotate_left
  ·by_cases hex:∃i,i<mz.length/\s i=n
   ·obtain⟨i,eE,rfl⟩:=hex;rw[h1 i eE,map_eq_some_iff]at hx;obtain⟨ob,q1,q2⟩:=hx;cases ob with
    |dead=>cases q2
    |own a=>cases q2
    |dc g=>cases q2
    |live=>cases q2
    |nil=>
     cases q2
     have him:i<O1.length:=by
      rcases lt_or_ge i O1.length with h'|h'
      ·exact h'
      ·have:=dL i h';omega
     rw[hg i him,iA.ext.nil i him e k q1];rfl
   ·rwa [h2 n hn (λ i eE he=>hex ⟨i,by omega,he⟩)]at hx
  rcases cls n e k xs hx with⟨i,ys,eE,rfl,q1,rfl⟩|⟨aF,cE,q1⟩
  ·have him:i<O1.length:=by
     rcases lt_or_ge i O1.length with h'|h'
     ·exact h'
     ·have:=dL i h';omega
   rcases iA.ext.obj i him e k ys q1 with⟨zs,z1,z2,z3⟩|⟨z1,z2⟩
   ·refine .inl ⟨_,gv z1,by simpa using z2,λ he=> ?_⟩;rw[se i eE,z3 (by simpa using he)]
   ·exact .inr ⟨by rw[hg i him,z1];rfl,by simpa using z2⟩
  ·exact .inl ⟨xs,q1,le_refl _,λ _=>qB n cE⟩
 have fwd:∀{a:AV} {x:Value},R I' L1' mz a x->R I' L'' oY (a.bU s) x:=λ hr=>hr.bU hsl h1 se
 have how:Own I' L'' oY w':=by
  have aze:∀{n:Nat} {a:AV},O[n]? =some (.own a)->(∀i,i<mz.length->s i≠n)->∀{b o v},(L n).mem b o=some v->∀o',I' b o'=none:=by
   intro n a hn cE b o v hv o';obtain⟨o1,o2⟩:=aiF hn cE hv;cases hx:I' b o' with
   |none=>rfl
   |some u=>
    rcases iA.iz _ _ _ hx with h'|h'|h'
    ·rw[hi.ow.j4 _ _ hn b o v hv]at h';cases h'
    ·exact(o1 h').elim
    ·omega
  refine⟨λ n a hn=> ?_,λ n a hn b o v hv=> ?_,λ n a hn b o v hv o'=> ?_,λ n a hn b o v hv m e k xs hm hb=> ?_,λ n m a c hn hm b o o' v v' hv jO=> ?_,λ n a hn=> ?_⟩
  ·rcases acr n a hn with⟨i,eE,rfl,q1⟩|⟨aF,cE,q1⟩
   ·rw[se i eE];exact iA.inv.ow.tree _ _ q1
   ·rw[qB n cE];exact hi.ow.tree _ _ q1
  ·rcases acr n a hn with⟨i,eE,rfl,q1⟩|⟨aF,cE,q1⟩
   ·rw[se i eE]at hv;exact iA.inv.ow.cell _ _ q1 b o v hv
   ·rw[qB n cE]at hv;obtain⟨o1,o2⟩:=aiF q1 cE hv;rw[←hi.ow.cell _ _ q1 b o v hv];exact World.cell?_of_block (a:=⟨b,o,none⟩) (iA.pa.block _ o2 o1)
  ·rcases acr n a hn with⟨i,eE,rfl,q1⟩|⟨aF,cE,q1⟩
   ·rw[se i eE]at hv;exact iA.inv.ow.j4 _ _ q1 b o v hv o'
   ·rw[qB n cE]at hv;exact aze q1 cE hv o'
  ·rcases acr n a hn with⟨i,eE,rfl,q1⟩|⟨aF,cE,q1⟩<;>rcases cls m e k xs hm with⟨i',ux,yp,rfl,xi,rfl⟩|⟨oq,rS,xi⟩
   ·rw[se i' yp]at hb;rw[se i eE]at hv;exact iA.inv.ow.live _ _ q1 b o v hv _ _ _ _ xi hb
   ·rw[qB m rS]at hb;rw[se i eE]at hv;obtain⟨o1,o2⟩:=gB xi rS;rw[hb]at o1 o2;rcases iA.lb b (.inr (.inl ⟨i,a,o,v,q1,hv⟩))with h'|h'
    ·exact o1 h'
    ·omega
   ·rw[se i' yp]at hb;rw[qB n cE]at hv;obtain⟨o1,o2⟩:=aiF q1 cE hv;rcases iA.lb b (.inl ⟨i',_,_,_,xi,hb⟩)with h'|h'
    ·exact o1 h'
    ·omega
   ·rw[qB m rS]at hb;rw[qB n cE]at hv;exact hi.ow.live _ _ q1 b o v hv _ _ _ _ xi hb
  ·rcases acr n a hn with⟨i,eE,rfl,q1⟩|⟨aF,cE,q1⟩<;>rcases acr m c hm with⟨i',yp,rfl,xi⟩|⟨oq,rS,xi⟩
   ·rw[se i eE]at hv;rw[se i' yp]at jO;rw[iA.inv.ow.sep _ _ _ _ q1 xi b o o' v v' hv jO]
   ·rw[se i eE]at hv;rw[qB m rS]at jO;obtain⟨o1,o2⟩:=aiF xi rS jO;rcases iA.lb b (.inr (.inl ⟨i,a,o,v,q1,hv⟩))with h'|h'
    ·exact(o1 h').elim
    ·omega
   ·rw[qB n cE]at hv;rw[se i' yp]at jO;obtain⟨o1,o2⟩:=aiF q1 cE hv;rcases iA.lb b (.inr (.inl ⟨i',c,o',v',xi,jO⟩))with h'|h'
    ·exact(o1 h').elim
    ·omega
   ·rw[qB n cE]at hv;rw[qB m rS]at jO;exact hi.ow.sep _ _ _ _ q1 xi b o o' v v' hv jO
  ·rcases acr n a hn with⟨i,eE,rfl,q1⟩|⟨aF,cE,q1⟩
   ·rw[se i eE];exact iA.inv.ow.deep _ _ q1
   ·rw[qB n cE];obtain⟨S,p1,p2⟩:=hi.ow.deep _ _ q1;refine⟨S,p1.congr λ b hb=> ?_,p2⟩;obtain⟨o,v,hv⟩:=(p2 b).1 hb;obtain⟨o1,o2⟩:=aiF q1 cE hv;exact iA.pa.block _ o2 o1
 have hgh:Gh I' L'' oY w':=by
  refine⟨λ n g hn=> ?_,λ n m g g' hn hm hb=> ?_⟩
  ·rcases anf n g hn with⟨i,g0,eE,rfl,q1,rfl⟩|⟨aF,cE,q1⟩
   ·have q:=iA.inv.gh.ok _ _ q1;rw[se i eE];cases g0 with
    |it a b=>exact q
    |mp es=>
     obtain⟨en,c,p1,p2,p3⟩:=q;refine⟨en,c,p1,by simpa using p2,λ j k v hx=> ?_⟩;rw[getElem?_map,map_eq_some_iff]at hx;obtain⟨z,hz,hze⟩:=hx;cases hze;obtain⟨e,p4,p5,p6⟩:=p3 j z.1 z.2 hz;exact⟨e,p4,fwd p5,fwd p6⟩
   ·obtain⟨o1,o2⟩:=asg q1 cE;rw[qB n cE];exact(hi.gh.ok _ _ q1).mono rfl (λ _ _ hr=>hr.mono ext) (iA.pa.block _ o2 o1)
  ·rcases anf n g hn with⟨i,g0,eE,rfl,q1,rfl⟩|⟨aF,cE,q1⟩<;>rcases anf m g' hm with⟨i',g0',yp,rfl,xi,rfl⟩|⟨oq,rS,xi⟩
   ·rw[se i eE,se i' yp]at hb;rw[iA.inv.gh.sep _ _ _ _ q1 xi hb]
   ·rw[se i eE,qB m rS]at hb;obtain⟨o1,o2⟩:=asg xi rS;rcases iA.lb _ (.inr (.inr ⟨i,_,q1,hb⟩))with h'|h'
    ·exact(o1 h').elim
    ·omega
   ·rw[se i' yp,qB n cE]at hb;obtain⟨o1,o2⟩:=asg q1 cE;rcases iA.lb _ (.inr (.inr ⟨i',_,xi,hb.symm⟩))with h'|h'
    ·exact(o1 h').elim
    ·omega
   ·rw[qB n cE,qB m rS]at hb;exact hi.gh.sep _ _ _ _ q1 xi hb
 refine⟨y,I',L'',rfl,fwd hy,⟨⟨iA.inv.j4,λ n e k xs hn=> ?_,λ n n' e k xs e' k' gZ hn lz hb=> ?_,λ n e k xs o hn=> ?_,iA.inv.fix,iA.inv.bh,how,hgh⟩,ext,⟨iA.pa.os,iA.pa.tape,iA.pa.output,iA.pa.size,λ b hb cE=>iA.pa.block b hb λ hc=>cE (lb1 hc)⟩,?_,λ b o x hx=> ?_⟩⟩
 ·rcases cls n e k xs hn with⟨i,ys,eE,rfl,q1,rfl⟩|⟨aF,cE,q1⟩
  ·obtain⟨c,⟨kR,q1,dE⟩,q2,q3,q4,q5,q6⟩:=iA.inv.obj _ _ _ _ q1;rw[se i eE];refine⟨c,⟨kR,q1,dE⟩,q2,by simpa using q3,q4,q5,λ j x hx=> ?_⟩;obtain⟨z,hz,rfl⟩:=iI hx;rw[ea];refine⟨by rw[length_map];exact(q6 j z hz).1,λ l a ha=> ?_⟩;obtain⟨b,hb,rfl⟩:=iI ha;obtain⟨v,hv,ho,o7⟩:=(q6 j z hz).2 l b hb;exact⟨v,hv,ho,fwd o7⟩
  ·obtain⟨o1,o2⟩:=gB q1 cE;rw[qB n cE];obtain⟨c,⟨kR,q1,dE⟩,q2,q3,q4,q5,q6⟩:=hi.obj _ _ _ _ q1;refine⟨c,⟨kR,by rw[iA.pa.block _ o2 o1];exact q1,dE⟩,q2,q3,q4,q5,λ j x hx=>⟨(q6 j x hx).1,λ l a ha=> ?_⟩⟩;obtain⟨v,hv,ho,o7⟩:=(q6 j x hx).2 l a ha;exact⟨v,hv,ho,o7.mono ext⟩
 ·rcases cls n e k xs hn with⟨i,ys,eE,rfl,q1,rfl⟩|⟨aF,cE,q1⟩<;>rcases cls n' e' k' gZ lz with⟨i',ux,yp,rfl,xi,rfl⟩|⟨oq,rS,xi⟩
  ·rw[se i eE,se i' yp]at hb;rw[iA.inv.sep _ _ _ _ _ _ _ _ q1 xi hb]
  ·rw[se i eE,qB n' rS]at hb;obtain⟨o1,o2⟩:=gB xi rS;rcases iA.lb _ (.inl ⟨i,_,_,_,q1,hb⟩)with h'|h'
   ·exact(o1 h').elim
   ·omega
  ·rw[se i' yp,qB n cE]at hb;obtain⟨o1,o2⟩:=gB q1 cE;rcases iA.lb _ (.inl ⟨i',_,_,_,xi,hb.symm⟩)with h'|h'
   ·exact(o1 h').elim
   ·omega
  ·rw[qB n cE,qB n' rS]at hb;exact hi.sep _ _ _ _ _ _ _ _ q1 xi hb
 ·rcases cls n e k xs hn with⟨i,ys,eE,rfl,q1,rfl⟩|⟨aF,cE,q1⟩
  ·rw[se i eE];exact iA.inv.dS _ _ _ _ o q1
  ·rw[qB n cE];obtain⟨o1,o2⟩:=gB q1 cE;cases hx:I' (L n).bh o with
   |none=>rfl
   |some x=>
    rcases iA.iz _ _ _ hx with h'|h'|h'
    ·rw[hi.dS _ _ _ _ o q1]at h';cases h'
    ·exact(o1 h').elim
    ·omega
 ·rintro b (⟨n,e,k,xs,hn,hb⟩|⟨n,a,o,v,hn,hb⟩|⟨n,g,hn,hb⟩)
  rotate_right
  ·rcases anf n g hn with⟨i,g',eE,rfl,q1,rfl⟩|⟨aF,cE,q1⟩
   ·rw[se i eE]at hb;rcases iA.lb b (.inr (.inr ⟨i,_,q1,hb⟩))with h'|h'
    ·exact .inl (lb1 h')
    ·exact .inr h'
   ·rw[qB n cE]at hb;exact .inl (.inr (.inr ⟨n,_,q1,hb⟩))
  ·rcases cls n e k xs hn with⟨i,ys,eE,rfl,q1,rfl⟩|⟨aF,cE,q1⟩
   ·rw[se i eE]at hb;rcases iA.lb b (.inl ⟨i,_,_,_,q1,hb⟩)with h'|h'
    ·exact .inl (lb1 h')
    ·exact .inr h'
   ·rw[qB n cE]at hb;exact .inl (.inl ⟨n,_,_,_,q1,hb⟩)
  ·rcases acr n a hn with⟨i,eE,rfl,q1⟩|⟨aF,cE,q1⟩
   ·rw[se i eE]at hb;rcases iA.lb b (.inr (.inl ⟨i,a,o,v,q1,hb⟩))with h'|h'
    ·exact .inl (lb1 h')
    ·exact .inr h'
   ·rw[qB n cE]at hb;exact .inl (.inr (.inl ⟨n,a,o,v,q1,hb⟩))
 ·rcases iA.iz b o x hx with h'|h'|h'
  ·exact .inl h'
  ·exact .inr (.inl (lb1 h'))
  ·exact .inr (.inr h')
theorem hD.fresh{P:Program}{f:FuncId}{args:List AV}{res:AV}{mz:List ae}(h:hD P f args [] res mz)(hn:AV.ad args=true)(O:List ae):
  hD P f args O (res.bU λ n=>O.length+n) (O++mz.map (ae.bU λ n=>O.length+n)):=by
 have:=h.frame (O:=O) (oY:=O++mz.map (ae.bU λ n=>O.length+n)) (λ n=>O.length+n) (by simp) (by simp) (by simp) (by simp) (λ a ha=>cA a (bf hn a ha)) (by simp) (by simp)
  (λ i hi=>by rw[getElem?_append_right (by omega),getElem?_map,show O.length+i- O.length=i by omega]) (λ n hn _=>by rw[getElem?_append_left hn])
 rwa [←fe,ff args hn]at this
theorem ahj{n:Nat}{s:Nat->Nat}(h:s 0=n){a:AV}(ha:a.one=true):a.bU s=a.bU λ _=>n:=by
 cases a<;>simp only[AV.one]at ha
 case row m l=>have:m=0:=by simpa using ha
               subst this;simp only[AV.bU,h]
 case ptr m l i f=>have:m=0:=by simpa using ha
                   subst this;simp only[AV.bU,h]
 case own m=>have:m=0:=by simpa using ha
             subst this;simp only[AV.bU,h]
 all_goals rw[dW _ ha,dW _ ha]
theorem afH{a:AV}(ha:a.one=true):a.inScope 1=true:=by
 cases a<;>simp only[AV.one]at ha
 case row m l=>have:m=0:=by simpa using ha
               subst this;rfl
 case ptr m l i f=>have:m=0:=by simpa using ha
                   subst this;rfl
 case own m=>have:m=0:=by simpa using ha
             subst this;rfl
 all_goals exact cA _ ha
theorem fD{s:Nat->Nat}{ob:ae}(h:ob.ad=true):ob.bU s=ob:=by
 cases ob<;>try rfl
 ·simp only[ae.ad]at h;simp only[ae.bU];rw[←fe,ff _ h]
 ·rename_i g;cases g with
  |it a b=>rfl
  |mp es=>
   simp only[ae.ad,all_eq_true,and_eq_true]at h;simp only[ae.bU,gr.bU]
   have:(es.map λ p=>(p.1.bU s,p.2.bU s))=es.map id:=map_congr_left λ p hp=>by
    obtain⟨a,b⟩:=p;have:=h _ hp;rw[dW _ this.1,dW _ this.2];rfl
   rw[this,List.map_id]
theorem mI{k:Nat}{ob:ae}(h:ob.ad=true):ob.inScope k=true:=by
 cases ob<;>try rfl
 ·exact dg _ h
 ·rename_i g;cases g with
  |it a b=>rfl
  |mp es=>
   simp only[ae.ad,all_eq_true,and_eq_true]at h;simp only[ae.inScope,all_eq_true,and_eq_true];exact λ p hp=>⟨cA _ (h p hp).1,cA _ (h p hp).2⟩
theorem hD.ay7{P:Program}{f:FuncId}{a0:List AV}{res:AV}{ob ob':ae}(h:hD P f a0 [ob] res [ob'])(ha:a0.all AV.one=true)(hx:ob.ad=true)(hy:ob'.ad=true)(hr:res.ag=true)
  {O:List ae} (k:Nat) (hk:O[k]? =some ob):hD P f (a0.map (AV.bU λ _=>k)) O res (O.set k ob'):=by
 have aF:k<O.length:=(List.getElem?_eq_some_iff.1 hk).1
 have:=h.frame (O:=O) (oY:=O.set k ob') (λ n=>if n=0 then k else O.length+(n- 1))
  (by intro i hi;simp at hi;subst hi;simpa using aF) (by intro i hi;simp at hi;subst hi;simp[hk,fD hx]) (by intro i j hi hj _;simp at hi hj;omega)
  (by intro i hi;simp at hi;simp;omega) (λ a h'=>afH (List.all_eq_true.1 ha a h')) (by intro b ho;simp at ho;subst ho;exact mI hx) (by simp)
  (by intro i hi;simp at hi;subst hi;simp[aF,fD hy]) (by intro n hn cE;have:=cE 0 (by simp);simp at this;rw[getElem?_set_ne this])
 rw[dW _ hr]at this;have he:a0.map (AV.bU λ n=>if n=0 then k else O.length+(n- 1))=a0.map (AV.bU λ _=>k):=map_congr_left λ a h'=>ahj (by simp) (List.all_eq_true.1 ha a h')
 rwa [he]at this
mutual
theorem oP{k:Nat}:∀(x:AV),(∀c∈x.cells,c.inScope k=true)->x.inScope k=true
 | .agg cs,h=>by simp only[AV.inScope];exact nY cs h
 | .top,_| .v _,_| .aw,_| .uU,_=>rfl
 | .sl xs,h=>h (.sl xs) (by simp[AV.cells])
 | .ct x f,h=>h (.ct x f) (by simp[AV.cells])
 | .row n l,h=>h (.row n l) (by simp[AV.cells])
 | .ptr n l i f,h=>h (.ptr n l i f) (by simp[AV.cells])
 | .fn f cs,h=>h (.fn f cs) (by simp[AV.cells])
 | .ba vs,h=>h (.ba vs) (by simp[AV.cells])
 | .own x,h=>h (.own x) (by simp[AV.cells])
theorem nY{k:Nat}:∀(xs:List AV),(∀c∈xs,c.inScope k=true)->AV.cX k xs=true
 | [],_=>rfl
 |x::xs,h=>by simp only[AV.cX,h x (by simp),nY xs λ c hc=>h c (by simp[hc])];rfl
end
theorem R.inScope{I:dv}{L:Nat->Loc}{O:List ae}{a:AV}{x:Value}(hr:R I L O a x):a.inScope O.length=true:=by
 have ix:∀{xs:List AV} {vs:Array Value},xs.length=vs.size->(∀(i:Nat) c x,xs[i]? =some c->vs[i]? =some x->c.inScope O.length=true)->AV.cX O.length xs=true:=by
  intro xs vs hl h;refine nY xs λ c hc=> ?_
  obtain⟨i,hi⟩:=getElem?_of_mem hc;have aF:=(List.getElem?_eq_some_iff.1 hi).1;exact h i c _ hi (by rw[Array.getElem?_eq_getElem (show i<vs.size by omega)])
 induction hr with
 |top x=>rfl
 |v x _=>rfl
 |aw=>rfl
 |uU=>rfl
 |lG a cap=>rfl
 |sl xs bh off cap s bA h1 h2 h3 h4 _ ih=>
  refine nY xs λ x hx=>oP x λ c hc=> ?_
  obtain⟨i,hi⟩:=getElem?_of_mem hx;obtain⟨j,hj⟩:=getElem?_of_mem hc;exact ih i x j c hi hj
 |ct x f bh base bA h1 _ ih=>
  refine oP x λ c hc=> ?_
  obtain⟨j,hj⟩:=getElem?_of_mem hc;exact ih j c hj
 |cq n len e s xs hn hl=>exact decide_eq_true (List.getElem?_eq_some_iff.1 hn).1
 |fY n e s hn=>exact decide_eq_true (List.getElem?_eq_some_iff.1 hn).1
 |eP n len x hn=>exact decide_eq_true hn
 |dU n len i f e s xs hn hl=>exact decide_eq_true (List.getElem?_eq_some_iff.1 hn).1
 |fZ n len i f x hn=>exact decide_eq_true hn
 |fn f a6 vs h1 _ ih=>exact ix h1 ih
 |agg cs vs h1 _ ih=>exact ix h1 ih
 |ba cs vs h1 _ ih=>exact ix h1 ih
 |dV n a hn=>exact decide_eq_true (List.getElem?_eq_some_iff.1 hn).1
 |gF n a hn=>exact decide_eq_true (List.getElem?_eq_some_iff.1 hn).1
 |eQ n x hn=>exact decide_eq_true hn
section
variable {I I':dv} {L L':Nat->Loc} {O:List ae} {w w':World} {t s k:Nat} {xs:List AV}
def k9(L:Nat->Loc)(k N:Nat):Nat->Loc:=λ n=>if n=k then L N else L n
theorem R.move(hk:O[k]? =some (.nil t s))(bB:xs≠[]){a:AV}{x:Value}(hr:R I' L' (O++ [.live t s xs]) a x)(h:a.inScope O.length=true):R I' (k9 L' k O.length) (O.set k (.live t s xs)) a x:=by
 have hkl:=(List.getElem?_eq_some_iff.1 hk).1;have gB:∀{n:Nat},n<O.length->(O++ [ae.live t s xs])[n]? =O[n]? :=λ {n} hn=>getElem?_append_left hn
 have oth:∀{n:Nat},n≠k->(O.set k (.live t s xs))[n]? =O[n]? :=λ {n} hn=>getElem?_set_ne (λ he=>hn he.symm)
 have self:(O.set k (.live t s xs))[k]? =some (.live t s xs):=getElem?_set_self hkl;have hL:∀{n:Nat},n≠k->k9 L' k O.length n=L' n:=λ {n} hn=>if_neg hn
 induction hr with
 |top x=>exact .top x
 |v x hx=>exact .v x hx
 |aw=>exact .aw
 |uU t x=>exact .uU t x
 |lG a cap=>exact .lG a cap
 |sl xs bh off cap s bA h1 h2 h3 h4 _ ih=>
  refine .sl xs bh off cap s bA h1 h2 h3 h4 λ i x j c hi hj=>ih i x j c hi hj ?_
  exact cp (bZ (by simpa [AV.inScope]using h) x (mem_of_getElem? hi)) c (mem_of_getElem? hj)
 |ct x f bh base bA h1 _ ih=>
  refine .ct x f bh base bA h1 λ j c hj=>ih j c hj ?_
  exact cp (by simpa [AV.inScope]using h) c (mem_of_getElem? hj)
 |cq n len e s' ys hn hl=>
  have aF:n<O.length:=by simpa [AV.inScope]using h
  rw[gB aF]at hn;have bB:n≠k:=by rintro rfl;rw[hk]at hn;cases hn
  rw[←hL bB];exact .cq n len e s' ys (by rw[oth bB];exact hn) hl
 |fY n e s' hn=>
  have aF:n<O.length:=by simpa [AV.inScope]using h
  rw[gB aF]at hn;by_cases oS:n=k
  ·subst oS;exact .eP n 0 _ (by simpa using aF) (λ e s he=>by rw[self]at he;cases he) (λ e s ys hy=>by rw[self]at hy;cases hy;exact List.length_pos_iff.2 bB) rfl
  ·exact .fY n e s' (by rw[oth oS];exact hn)
 |eP n len x oq wj hs hx=>
  have aF:n<O.length:=by simpa [AV.inScope]using h
  have oS:n≠k:=by rintro rfl;exact wj t s (by rw[gB aF];exact hk)
  exact .eP n len x (by simpa using aF) (λ e s' he=>wj e s' (by rw[gB aF];rwa [oth oS]at he)) (λ e s' ys hy=>hs e s' ys (by rw[gB aF];rwa [oth oS]at hy)) hx
 |dU n len i f e s' ys hn hl=>
  have aF:n<O.length:=by simpa [AV.inScope]using h
  rw[gB aF]at hn;have bB:n≠k:=by rintro rfl;rw[hk]at hn;cases hn
  rw[←hL bB];exact .dU n len i f e s' ys (by rw[oth bB];exact hn) hl
 |fZ n len i f x oq wj hs hx=>
  have aF:n<O.length:=by simpa [AV.inScope]using h
  have oS:n≠k:=by rintro rfl;exact wj t s (by rw[gB aF];exact hk)
  exact .fZ n len i f x (by simpa using aF) (λ e s' he=>wj e s' (by rw[gB aF];rwa [oth oS]at he)) (λ e s' ys hy=>hs e s' ys (by rw[gB aF];rwa [oth oS]at hy)) hx
 |fn f a6 vs h1 _ ih=>exact .fn f a6 vs h1 λ i c x hi hx=>ih i c x hi hx (bZ (by simpa [AV.inScope]using h) c (mem_of_getElem? hi))
 |agg cs vs h1 _ ih=>exact .agg cs vs h1 λ i c x hi hx=>ih i c x hi hx (bZ (by simpa [AV.inScope]using h) c (mem_of_getElem? hi))
 |ba cs vs h1 _ ih=>exact .ba cs vs h1 λ i c x hi hx=>ih i c x hi hx (bZ (by simpa [AV.inScope]using h) c (mem_of_getElem? hi))
 |dV n a hn h1=>
  have aF:n<O.length:=by simpa [AV.inScope]using h
  rw[gB aF]at hn;have bB:n≠k:=by rintro rfl;rw[hk]at hn;cases hn
  rw[←hL bB]at h1⊢;exact .dV n a (by rw[oth bB];exact hn) h1
 |gF n a hn=>
  have aF:n<O.length:=by simpa [AV.inScope]using h
  rw[gB aF]at hn;have bB:n≠k:=by rintro rfl;rw[hk]at hn;cases hn
  rw[←hL bB];exact .gF n a (by rw[oth bB];exact hn)
 |eQ n x oq cE hng h1=>
  have aF:n<O.length:=by simpa [AV.inScope]using h
  refine .eQ n x (by simpa using aF) (λ a ha=> ?_) (λ a ha=> ?_) h1
  ·by_cases oS:n=k
   ·subst oS;rw[self]at ha;cases ha
   ·exact cE a (by rw[gB aF];rwa [oth oS]at ha)
  ·by_cases oS:n=k
   ·subst oS;rw[self]at ha;cases ha
   ·exact hng a (by rw[gB aF];rwa [oth oS]at ha)
theorem Good.move(hi:Inv I L O w)(hk:O[k]? =some (.nil t s))(bB:xs≠[])(hsc:∀x∈xs,∀c∈x.cells,c.inScope O.length=true)(hg:Good I L O w I' L' (O++ [.live t s xs]) w'):
  Good I L O w I' (k9 L' k O.length) (O.set k (.live t s xs)) w':=by
 have hkl:=(List.getElem?_eq_some_iff.1 hk).1;have gB:∀{n:Nat},n<O.length->(O++ [ae.live t s xs])[n]? =O[n]? :=λ {n} hn=>getElem?_append_left hn
 have oth:∀{n:Nat},n≠k->(O.set k (.live t s xs))[n]? =O[n]? :=λ {n} hn=>getElem?_set_ne (λ he=>hn he.symm)
 have self:(O.set k (.live t s xs))[k]? =some (.live t s xs):=getElem?_set_self hkl;have dL:(O++ [ae.live t s xs])[O.length]? =some (.live t s xs):=by simp
 have src:∀{n e k' ys},(O.set k (.live t s xs))[n]? =some (.live e k' ys)->∃m,(O++ [ae.live t s xs])[m]? =some (.live e k' ys)/\k9 L' k O.length n=L' m/\(∀x∈ys,∀c∈x.cells,c.inScope O.length=true)/\((n=k/\m=O.length)∨(n≠k/\m=n/\n<O.length)):=by
  intro n e k' ys hn;by_cases oS:n=k
  ·subst oS;rw[self]at hn;cases hn;exact⟨O.length,dL,if_pos rfl,hsc,.inl ⟨rfl,rfl⟩⟩
  ·rw[oth oS]at hn;have aF:=(List.getElem?_eq_some_iff.1 hn).1;refine⟨n,by rw[gB aF];exact hn,if_neg oS,λ x hx c hc=> ?_,.inr ⟨oS,rfl,aF⟩⟩;obtain⟨_,⟨kR,_,dE⟩,_,_,_,_,q⟩:=hi.obj n e k' ys hn;obtain⟨i,hix⟩:=getElem?_of_mem hx;obtain⟨j,hjc⟩:=getElem?_of_mem hc;obtain⟨_,_,_,hr⟩:=(q i x hix).2 j c hjc;exact hr.inScope
 have arP:∀{n:Nat} {a:AV},(O.set k (.live t s xs))[n]? =some (.own a)->(O++ [ae.live t s xs])[n]? =some (.own a)/\k9 L' k O.length n=L' n:=by
  intro n a hn;by_cases oS:n=k
  ·subst oS;rw[self]at hn;cases hn
  ·rw[oth oS]at hn;rw[gB (List.getElem?_eq_some_iff.1 hn).1];exact⟨hn,if_neg oS⟩
 have akz:∀{n:Nat} {a:gr},(O.set k (.live t s xs))[n]? =some (.dc a)->(O++ [ae.live t s xs])[n]? =some (.dc a)/\k9 L' k O.length n=L' n/\O[n]? =some (.dc a):=by
  intro n a hn;by_cases oS:n=k
  ·subst oS;rw[self]at hn;cases hn
  ·rw[oth oS]at hn;rw[gB (List.getElem?_eq_some_iff.1 hn).1];exact⟨hn,if_neg oS,hn⟩
 have hgh:Gh I' (k9 L' k O.length) (O.set k (.live t s xs)) w':=by
  refine⟨λ n g hn=> ?_,λ n m g g' hn hm hb=> ?_⟩
  ·obtain⟨q1,q2,q3⟩:=akz hn;have h1:=hg.inv.gh.ok n g q1;have h2:=hi.gh.ok n g q3;rw[q2];cases g with
   |it a b=>exact h1
   |mp es=>
    obtain⟨en,c,r1,r2,r3⟩:=h1;obtain⟨en0,c0,s1,s2,s3⟩:=h2;refine⟨en,c,r1,r2,λ i a v hx=> ?_⟩;obtain⟨e,r4,r5,r6⟩:=r3 i a v hx;obtain⟨e0,s4,s5,s6⟩:=s3 i a v hx;exact⟨e,r4,r5.move hk bB s5.inScope,r6.move hk bB s6.inScope⟩
  ·obtain⟨q1,q2,_⟩:=akz hn;obtain⟨p1,p2,_⟩:=akz hm;rw[q2,p2]at hb;exact hg.inv.gh.sep _ _ _ _ q1 p1 hb
 refine⟨⟨hg.inv.j4,λ n e k' ys hn=> ?_,λ n m e k' ys e' k'' ux hn hm hb=> ?_,λ n e k' ys o hn=> ?_,hg.inv.fix,hg.inv.bh,hg.inv.ow.same (λ n a hn=>arP hn) (λ b o v hv=> .inl ⟨o,v,hv⟩) (λ m e k' ys hm=>by obtain⟨m1,h1,h2,_⟩:=src hm;rw[h2];exact .inl ⟨m1,_,_,_,h1,rfl⟩) rfl,hgh⟩,⟨hg.ext.j4,by simp,λ n hn e k' ys hx=> ?_,λ n hn e k' hx=> ?_,λ n hn a hx=>by obtain⟨q1,q2⟩:=arP hx;rw[q2];exact hg.ext.own n hn a q1,λ n hn a hx=>by obtain⟨q1,q2,_⟩:=akz hx;rw[q2];exact hg.ext.dc n hn a q1⟩,hg.pa,?_,hg.iz⟩
 ·obtain⟨m,h1,h2,h3,_⟩:=src hn;rw[h2];obtain⟨c,⟨kR,q1,dE⟩,q2,q3,q4,q5,q6⟩:=hg.inv.obj m e k' ys h1;refine⟨c,⟨kR,q1,dE⟩,q2,q3,q4,q5,λ i x hx=>⟨(q6 i x hx).1,λ j a ha=> ?_⟩⟩;obtain⟨y,hy,ho,hr⟩:=(q6 i x hx).2 j a ha;exact⟨y,hy,ho,hr.move hk bB (h3 x (mem_of_getElem? hx) a (mem_of_getElem? ha))⟩
 ·obtain⟨m1,h1,h2,_,h4⟩:=src hn;obtain⟨m2,k1,k2,_,k4⟩:=src hm;rw[h2,k2]at hb;have:=hg.inv.sep m1 m2 _ _ _ _ _ _ h1 k1 hb;rcases h4 with⟨a1,a2⟩|⟨a1,a2,a3⟩<;>rcases k4 with⟨b1,b2⟩|⟨b1,b2,b3⟩<;>omega
 ·obtain⟨m,h1,h2,_⟩:=src hn;rw[h2];exact hg.inv.dS m e k' ys o h1
 ·by_cases oS:n=k
  ·subst oS;rw[self]at hx;cases hx;exact .inr ⟨hk,bB⟩
  ·rw[oth oS]at hx;rcases hg.ext.obj n hn e k' ys (by rw[gB hn];exact hx)with⟨zs,z1,z2,z3⟩|h
   ·exact .inl ⟨zs,z1,z2,λ he=>by rw[show k9 L' k O.length n=L' n from if_neg oS];exact z3 he⟩
   ·exact .inr h
 ·by_cases oS:n=k
  ·subst oS;rw[self]at hx;cases hx
  ·rwa [oth oS]at hx
 ·rintro b (⟨n,e,k',ys,hn,hb⟩|⟨n,a,o,v,hn,hb⟩|⟨n,a,hn,hb⟩)
  rotate_right
  ·obtain⟨q1,q2,_⟩:=akz hn;rw[q2]at hb;exact hg.lb b (.inr (.inr ⟨n,a,q1,hb⟩))
  ·obtain⟨m,h1,h2,_⟩:=src hn;rw[h2]at hb;exact hg.lb b (.inl ⟨m,e,k',ys,h1,hb⟩)
  ·obtain⟨q1,q2⟩:=arP hn;rw[q2]at hb;exact hg.lb b (.inr (.inl ⟨n,a,o,v,q1,hb⟩))
end
end Go.Ab
namespace Go.Ab
def ew.strip:ew->ew
 | .mG f args=> .call f args
 | .jD x args=> .eu x args
 | .k7 f args=> .call f args
 | .iv x args=> .eu x args
 | .lT f args=> .call f args
 | .eV _ _ _ f args=> .call f args
 | .bp _ f args=> .call f args
 | .jC _ f args=> .call f args
 | .qM _ f args=> .call f args
 | .qN _ f args=> .call f args
 | .nn _ f args=> .call f args
 | .gq _ t s z=> .alloc t s z
 | .mo _ t s x=> .box t s x
 | .gn _ t s l z ps=> .buildSlice t s l z ps
 | .iB t s l z ps=> .buildSlice t s l z ps
 | .cut s x l h=> .db s x l h
 | .vt neg x=> .pu (.oj neg) [x]
 | .mkF e s b z l c=> .mk e s b z l c
 | .xG _ e s b z l c=> .mk e s b z l c
 |o=>o
section
variable {P:Program} {I:dv} {L:Nat->Loc} {O:List ae} {w:World} {K:AV->List ae->Prop} {e:Env} {a:Act}
theorem fx.wp{o:Oper}(h:fx P I L O w (execOp a.eval o) K){next:Act->World->Prop}{Q:Exit->Act->World->Prop}
  (hn:∀x O' y I' L' w',K x O'->Good I L O w I' L' O' w'->R I' L' O' x y->next (a.put o.dst y) w'):o.wp P a w next Q:=by
 obtain⟨x,O',y,I',L',w',hk,hg,hr,h|⟨h,rfl⟩⟩:=h
 ·unfold Oper.wp;rw[h];exact hn _ _ _ _ _ _ hk hg hr
 ·unfold Oper.wp;rw[h];exact hn _ _ _ _ _ _ hk hg hr
theorem im{o:Oper}{f:FuncId}{vs:Array Value}{next:Act->World->Prop}{Q:Exit->Act->World->Prop}{M:Value->World->Prop}
  (bK:(execOp a.eval o).run P w= .ok (.enter f vs) w) (hc:Calls P f vs w λ e w'=>∃y,e= .returned y/\M y w') (hn:∀y w',M y w'->next (a.put o.dst y) w'):o.wp P a w next Q:=by
 unfold Oper.wp;rw[bK]
 show Calls P f vs w _;refine hc.mono λ e w' ⟨y,he,hm⟩=> ?_
 subst he;exact hn y w' hm
theorem abv{f:FuncId}(h:agT P f)(vs:Array Value)(w:World):(callFunc f vs).run P w= .ok (.enter f vs) w:=by
 obtain⟨fn,h1,h2,h3⟩:=h;obtain⟨b,hb⟩:=Option.isSome_iff_exists.1 h2;have h4:¬fn.name= "runtime.NumGoroutine" :=by simpa using h3
 simp[callFunc,h1,h4,hb]
theorem dC{c:Call}{fv:Operand}(jJ:c.callee= .value fv){f:FuncId}{a6:Array Value}(hfv:a.eval fv= .func (.func f) #[] a6)(he:agT P f){d:Option Tmp}{ty:TypeId}{pos:String}{af:Array Edge}{g:Option (Nat×Bool)}:
  (execOp a.eval ⟨d,.call c,ty,pos,af,g⟩).run P w= .ok (.enter f (c.args.map a.eval++a6)) w:=by
 simp only[execOp,resolve,jJ,hfv,Deferred.ofValue];simp[invoke,abv he]
def ew.zx:ew->Bool
 | .gq _ _ _ _| .mo _ _ _ _| .gn _ _ _ _ _ _| .cut _ _ _ _| .vt _ _| .mkF _ _ _ _ _ _| .xG _ _ _ _ _ _ _=>true
 |_=>false
theorem pr{ao b:ew}(ha:ao.zx=false)(h:b=ao.strip)(hb:b.xX=false)(hs:∀t s l z ps,b≠ .buildSlice t s l z ps):ao=b:=by
 subst h;cases ao<;>first|rfl|(simp[ew.strip,ew.xX]at hb;done)|(simp[ew.zx]at ha;done)|(exact(hs _ _ _ _ _ rfl).elim)
theorem ahh{d:Option Tmp}{op:Op}{ty:TypeId}{pos:String}{af:Array Edge}{g:Option (Nat×Bool)}{ao:ew}(hc:b8 P ty op=some ao)(hi:Inv I L O w)(he:∀t,R I L O (e t) (a.tmps.getD t undef))(hk:wpOp P ao e O K):
  fx P I L O w (execOp a.eval ⟨d,op,ty,pos,af,g⟩) K:=by
 cases op
 case move=>exact aoA hi he hc hk
 case assign=>exact afs hi he hc hk
 case pick=>exact akN hi he hc hk
 case alloc=>exact aix hi hc hk
 case box=>exact aoF hi he hc hk
 case build=>exact aiw hi he hc hk
 case buildSlice=>exact xh hi he hc hk
 case load=>exact akS hi he hc hk
 case store=>exact aio hi he hc hk
 case nilCheck=>exact akP hi he hc hk
 case binOp=>exact aoG hi he hc hk
 case unOp=>exact ar2 hi he hc hk
 case convert=>exact adf hi he hc hk
 case fieldAddr=>exact aiv hi he hc hk
 case field=>exact aoC hi he hc hk
 case indexAddr=>exact aiu hi he hc hk
 case index=>exact ait hi he hc hk
 case slice=>exact aiq hi he hc hk
 case makeSlice=>exact zr hi he hc hk
 case extract=>exact aoD hi he hc hk
 case makeMap=>exact air hi hc hk
 case lookup=>exact akR hi he hc hk
 case mapUpdate=>exact ade hi he hc hk
 case insert=>exact afq hi he hc hk
 case range=>exact ain hi he hc hk
 case next=>exact aip hi he hc hk
 case makeFunc=>exact akQ hi he hc hk
 all_goals cases hc
theorem ahV(O:List ae)(res:AV):vW O [] res=O:=by simp[vW]
theorem acu{c:Call}{ao:ew}{d:Option Tmp}{ty:TypeId}{pos:String}{af:Array Edge}{g:Option (Nat×Bool)}(hc:vg P c=some ao.strip)(hi:Inv I L O w)(he:∀t,R I L O (e t) (a.tmps.getD t undef))(hk:wpOp P ao e O K){next:Act->World->Prop}{Q:Exit->Act->World->Prop}
  (hn:∀x O' y I' L' w',K x O'->Good I L O w I' L' O' w'->R I' L' O' x y->next (a.put d y) w'):Oper.wp P ⟨d,.call c,ty,pos,af,g⟩ a w next Q:=by
 unfold vg at hc
 split at hc
 ·rename_i fv jJ
  have jw:∀{args},anm c.args=some args->RL I L O (args.map (aI.ev e)) (c.args.map a.eval):=by
   intro args h;have:=ve (I:=I) (L:=L) (O:=O) (e:=e) (a:=a) h he;have h2:(List.map a.eval c.args.toList).toArray=Array.map a.eval c.args:=by apply Array.ext';simp
   rwa [h2]at this
  split at hc
  ·rename_i f args hf qU;have rf:=an hf he
   have hv:a.eval fv= .func (.func f) #[] #[]:=by
    generalize a.eval fv=X at rf;cases rf with
    |fn _ _ vs h1 h2=>congr 1;exact(Array.eq_empty_of_size_eq_zero h1.symm)
   have uW:=jw qU;simp only[Option.some.injEq]at hc;cases ao<;>simp only[ew.strip]at hc<;>first|(cases hc;done)|skip
   case call f' oW=>
    cases hc;obtain⟨res,O',eY,hk⟩:=hk;refine im (a:=a) (dC jJ hv eY.1) (M:=λ y w'=>∃I' L',R I' L' O' res y/\Good I L O w I' L' O' w') ?_ λ y w' ⟨I',L',h1,h2⟩=>hn _ _ _ _ _ _ hk h2 h1
    refine(eY.2 I L w _ hi (by simpa using uW)).mono ?_;rintro e' w' ⟨y,I',L',rfl,h1,h2⟩;exact⟨y,rfl,I',L',h1,h2⟩
   case mG f' oW=>
    cases hc;obtain⟨res,hnr,eY,hk⟩:=hk;have:=jh (as:=args.map (aI.ev e)) (a6:=[]) (vs:=c.args.map a.eval) hi (by simpa using uW) (by simpa [Function.comp_def]using hnr) (by simpa [Function.comp_def]using eY);refine im (a:=a) (dC jJ hv eY.1) (M:=λ y w'=>∃I' L',R I' L' (vW O (args.map (aI.ev e)) res) res y/\Good I L O w I' L' (vW O (args.map (aI.ev e)) res) w') ?_ λ y w' ⟨I',L',h1,h2⟩=>hn _ _ _ _ _ _ hk h2 h1
    simp only[Array.append_empty];refine this.mono ?_;rintro e' w' ⟨y,I',L',rfl,h1,h2⟩;exact⟨y,rfl,I',L',h1,h2⟩
   case k7 f' oW=>
    cases hc;obtain⟨res,hnr,eY,hk⟩:=hk;have:=jh (as:=[]) (a6:=args.map (aI.ev e)) (vs:=c.args.map a.eval) hi (by simpa using uW) (by simpa using hnr) (by simpa using eY);rw[ahV]at this;refine im (a:=a) (dC jJ hv eY.1) (M:=λ y w'=>∃I' L',R I' L' O res y/\Good I L O w I' L' O w') ?_ λ y w' ⟨I',L',h1,h2⟩=>hn _ _ _ _ _ _ hk h2 h1
    simp only[Array.append_empty];refine this.mono ?_;rintro e' w' ⟨y,I',L',rfl,h1,h2⟩;exact⟨y,rfl,I',L',h1,h2⟩
   case bp gs f' oW=>
    cases hc;obtain⟨res,O',eY,hk⟩:=hk;refine im (a:=a) (dC jJ hv eY.1) (M:=λ y w'=>∃I' L',R I' L' O' res y/\Good I L O w I' L' O' w') ?_ λ y w' ⟨I',L',h1,h2⟩=>hn _ _ _ _ _ _ hk h2 h1
    refine(eY.2 I L w _ hi (by simpa using uW)).mono ?_;rintro e' w' ⟨y,I',L',rfl,h1,h2⟩;exact⟨y,rfl,I',L',h1,h2⟩
   case jC gs f' oW=>
    cases hc;obtain⟨n,a0,ob,res,ob',q1,q2,q3,q4,q5,q6,q7,q8,hk⟩:=hk;have eY:=q8.ay7 q2 q5 q7 q6 n q4;rw[←q1]at eY;refine im (a:=a) (dC jJ hv eY.1) (M:=λ y w'=>∃I' L',R I' L' (O.set n ob') res y/\Good I L O w I' L' (O.set n ob') w') ?_ λ y w' ⟨I',L',h1,h2⟩=>hn _ _ _ _ _ _ hk h2 h1
    refine(eY.2 I L w _ hi (by simpa using uW)).mono ?_;rintro e' w' ⟨y,I',L',rfl,h1,h2⟩;exact⟨y,rfl,I',L',h1,h2⟩
   case qM rd' f' oW=>
    cases hc;obtain⟨res,ob,adY,hk⟩:=hk;have eY:=adY O rfl λ _ _=>rfl
    refine im (a:=a) (dC jJ hv eY.1) (M:=λ y w'=>∃I' L',R I' L' (O++ [ob]) res y/\Good I L O w I' L' (O++ [ob]) w') ?_ λ y w' ⟨I',L',h1,h2⟩=>hn _ _ _ _ _ _ hk h2 h1
    refine(eY.2 I L w _ hi (by simpa using uW)).mono ?_;rintro e' w' ⟨y,I',L',rfl,h1,h2⟩;exact⟨y,rfl,I',L',h1,h2⟩
   case nn rd' f' oW=>
    cases hc;obtain⟨res,O',eY,_,hk⟩:=hk;refine im (a:=a) (dC jJ hv eY.1) (M:=λ y w'=>∃I' L',R I' L' O' res y/\Good I L O w I' L' O' w') ?_ λ y w' ⟨I',L',h1,h2⟩=>hn _ _ _ _ _ _ hk h2 h1
    refine(eY.2 I L w _ hi (by simpa using uW)).mono ?_;rintro e' w' ⟨y,I',L',rfl,h1,h2⟩;exact⟨y,rfl,I',L',h1,h2⟩
   case qN rd' f' oW=>
    cases hc;obtain⟨res,adY,hk⟩:=hk;have eY:=adY O λ _ _=>rfl
    refine im (a:=a) (dC jJ hv eY.1) (M:=λ y w'=>∃I' L',R I' L' O res y/\Good I L O w I' L' O w') ?_ λ y w' ⟨I',L',h1,h2⟩=>hn _ _ _ _ _ _ hk h2 h1
    refine(eY.2 I L w _ hi (by simpa using uW)).mono ?_;rintro e' w' ⟨y,I',L',rfl,h1,h2⟩;exact⟨y,rfl,I',L',h1,h2⟩
   case eV nl' t' s' f' oW=>
    cases hc;obtain⟨res,ob,cE,adY,hk⟩:=hk;have eY:=adY.fresh cE O;refine im (a:=a) (dC jJ hv eY.1) (M:=λ y w'=>∃I' L',R I' L' (O++ [ob.bU λ n=>O.length+n]) (res.bU λ n=>O.length+n) y/\Good I L O w I' L' (O++ [ob.bU λ n=>O.length+n]) w') ?_ λ y w' ⟨I',L',h1,h2⟩=>hn _ _ _ _ _ _ hk h2 h1
    refine(eY.2 I L w _ hi (by simpa using uW)).mono ?_;rintro e' w' ⟨y,I',L',rfl,h1,h2⟩;exact⟨y,rfl,I',L',h1,h2⟩
   case lT f' oW=>
    cases hc;obtain⟨res,hfl,hnr,eY,hk⟩:=hk;have atq:vW O (args.map (aI.ev e)) res=O:=if_pos hfl;have:=jh (as:=args.map (aI.ev e)) (a6:=[]) (vs:=c.args.map a.eval) hi (by simpa using uW) (by simpa [Function.comp_def]using hnr) (by simpa [Function.comp_def]using eY);rw[atq]at this;refine im (a:=a) (dC jJ hv eY.1) (M:=λ y w'=>∃I' L',R I' L' O res y/\Good I L O w I' L' O w') ?_ λ y w' ⟨I',L',h1,h2⟩=>hn _ _ _ _ _ _ hk h2 h1
    simp only[Array.append_empty];refine this.mono ?_;rintro e' w' ⟨y,I',L',rfl,h1,h2⟩;exact⟨y,rfl,I',L',h1,h2⟩
  ·rename_i x args bB hf qU;have rf:=an hf he;have uW:=jw qU;simp only[Option.some.injEq]at hc;cases ao<;>simp only[ew.strip]at hc<;>first|(cases hc;done)|skip
   case eu x' oW=>
    cases hc;simp only[wpOp]at hk;generalize hA:x.ev e=A at rf hk;cases A<;>simp only at hk
    rename_i f a6;obtain⟨res,O',eY,hk⟩:=hk;generalize hX:a.eval fv=X at rf;cases rf with
    |fn _ _ vs h1 h2=>
     refine im (a:=a) (dC jJ hX eY.1) (M:=λ y w'=>∃I' L',R I' L' O' res y/\Good I L O w I' L' O' w') ?_ λ y w' ⟨I',L',h1,h2⟩=>hn _ _ _ _ _ _ hk h2 h1
     refine(eY.2 I L w _ hi ?_).mono ?_
     ·refine⟨by simp only[List.length_append,Array.size_append,h1,uW.1],λ i b y hb hy=> ?_⟩;by_cases aF:i<(args.map (aI.ev e)).length
      ·rw[getElem?_append_left aF]at hb;rw[Array.getElem?_append_left (by rw[←uW.1];exact aF)]at hy;exact uW.2 i b y hb hy
      ·rw[getElem?_append_right (by omega)]at hb;rw[Array.getElem?_append_right (by rw[←uW.1];omega),←uW.1]at hy;exact h2 _ b y hb hy
     ·rintro e' w' ⟨y,I',L',rfl,h1,h2⟩;exact⟨y,rfl,I',L',h1,h2⟩
   case jD x' oW=>
    cases hc;simp only[wpOp]at hk;generalize hA:x.ev e=A at rf hk;cases A<;>simp only at hk
    rename_i f a6;obtain⟨res,hnr,eY,hk⟩:=hk;generalize hX:a.eval fv=X at rf;cases rf with
    |fn _ _ vs h1 h2=>
     have:=jh (as:=args.map (aI.ev e)) (a6:=a6) (vs:=c.args.map a.eval++vs) hi (by
      refine⟨by simp only[List.length_append,Array.size_append,h1,uW.1],λ i b y hb hy=> ?_⟩;by_cases aF:i<(args.map (aI.ev e)).length
      ·rw[getElem?_append_left aF]at hb;rw[Array.getElem?_append_left (by rw[←uW.1];exact aF)]at hy;exact uW.2 i b y hb hy
      ·rw[getElem?_append_right (by omega)]at hb;rw[Array.getElem?_append_right (by rw[←uW.1];omega),←uW.1]at hy;exact h2 _ b y hb hy) (by simpa [Function.comp_def]using hnr) (by simpa [Function.comp_def]using eY)
     refine im (a:=a) (dC jJ hX eY.1) (M:=λ y w'=>∃I' L',R I' L' (vW O (args.map (aI.ev e)) res) res y/\Good I L O w I' L' (vW O (args.map (aI.ev e)) res) w') ?_ λ y w' ⟨I',L',h1,h2⟩=>hn _ _ _ _ _ _ hk h2 h1
     refine this.mono ?_;rintro e' w' ⟨y,I',L',rfl,h1,h2⟩;exact⟨y,rfl,I',L',h1,h2⟩
   case iv x' oW=>
    cases hc;simp only[wpOp]at hk;generalize hA:x.ev e=A at rf hk;cases A<;>simp only at hk
    rename_i f a6;obtain⟨res,hnr,eY,hk⟩:=hk;generalize hX:a.eval fv=X at rf;cases rf with
    |fn _ _ vs h1 h2=>
     have:=jh (as:=[]) (a6:=args.map (aI.ev e)++a6) (vs:=c.args.map a.eval++vs) hi (by
      refine⟨by simp only[List.nil_append,List.length_append,Array.size_append,h1,uW.1],λ i b y hb hy=> ?_⟩;rw[List.nil_append]at hb;by_cases aF:i<(args.map (aI.ev e)).length
      ·rw[getElem?_append_left aF]at hb;rw[Array.getElem?_append_left (by rw[←uW.1];exact aF)]at hy;exact uW.2 i b y hb hy
      ·rw[getElem?_append_right (by omega)]at hb;rw[Array.getElem?_append_right (by rw[←uW.1];omega),←uW.1]at hy;exact h2 _ b y hb hy) (by simpa using hnr) (by simpa using eY)
     rw[ahV]at this;refine im (a:=a) (dC jJ hX eY.1) (M:=λ y w'=>∃I' L',R I' L' O res y/\Good I L O w I' L' O w') ?_ λ y w' ⟨I',L',h1,h2⟩=>hn _ _ _ _ _ _ hk h2 h1
     refine this.mono ?_;rintro e' w' ⟨y,I',L',rfl,h1,h2⟩;exact⟨y,rfl,I',L',h1,h2⟩
  ·cases hc
 ·rename_i jJ
  split at hc
  ·rename_i t x sa has;have yv:c.argTypes= #[t]:=by apply Array.ext';simpa using sa
   have haa:c.args= #[x]:=by apply Array.ext';simpa using has
   split at hc
   ·rename_i ht;simp only[map_eq_some_iff]at hc;obtain⟨ax,hx,hc⟩:=hc;have:=pr (by cases ao<;>first|rfl|(simp[ew.strip]at hc;done)) hc rfl (by simp);subst this;obtain⟨x',y,h1,h2,h3⟩:=akT (ty:=ty) hi he ht hx hk;refine fx.wp (fx.same hi h1 h2 ?_) hn;simp only[execOp,resolve,jJ,yv,haa];simp[invoke,builtin,h3]
   ·rename_i el ht;simp only[map_eq_some_iff]at hc;obtain⟨ax,hx,hc⟩:=hc;have:=pr (by cases ao<;>first|rfl|(simp[ew.strip]at hc;done)) hc rfl (by simp);subst this;obtain⟨x',y,h1,h2,h3⟩:=akU (ty:=ty) hi he ht hx hk;refine fx.wp (fx.same hi h1 h2 ?_) hn;simp only[execOp,resolve,jJ,yv,haa];simp[invoke,builtin,h3]
   ·cases hc
  ·cases hc
 ·rename_i jJ
  split at hc
  ·rename_i t u x y sa has
   split at hc
   ·rename_i htu;subst htu;have yv:c.argTypes= #[t,t]:=by apply Array.ext';simpa using sa
    have haa:c.args= #[x,y]:=by apply Array.ext';simpa using has
    simp only[bind_eq_bind,bind_eq_some_iff,Option.some.injEq]at hc;obtain⟨el,fw,⟨s,b,z⟩,hz,ax,hx,ay,hy,hc⟩:=hc;have:=pr (by cases ao<;>first|rfl|(simp[ew.strip]at hc;done)) hc rfl (by simp);subst this;obtain⟨x',O',y',I',L',w',h1,h2,h3,h4⟩:=aqk (ty:=ty) (gm fw) hz hi (an hx he) (an hy he) hk;refine fx.wp ⟨x',O',y',I',L',w',h1,h2,h3,.inl ?_⟩ hn;simp only[execOp,resolve,jJ,yv,haa];simp[invoke,builtin,h4]
   ·cases hc
  ·cases hc
 ·cases hc
theorem vU{ty:TypeId}{op:Op}{t s l:Nat}{z:AV}{ps:List (Nat×aI)}(h:b8 P ty op=some (.buildSlice t s l z ps)):∃t len parts,op= .buildSlice t len parts:=by
 cases op<;>simp only[b8]at h
 case buildSlice t len parts=>exact⟨t,len,parts,rfl⟩
 all_goals (repeat' split at h)
 all_goals first
  |(simp[bind_eq_some_iff]at h;done)
  |(rename_i heq;cases heq;done)
  |(exfalso;simp_all;done)
theorem alE(hi:Inv I L O w)(as:List AV):Inv (tN I L O w as) L [] w:=by
 refine⟨λ b o x hx=> ?_,by simp,by simp,by simp,λ p hp=>wi hi as _ _ _ (hi.fix p hp),hi.wx (wi hi as),.no (by simp),.no (by simp)⟩;unfold tN at hx
 split at hx
 ·exact hx
 ·exact hi.j4 b o x hx
theorem adF{t:TypeId}(h:apw P t=true):∃el,P.underlying t=some (.slice el):=by
 unfold apw at h;split at h
 ·rename_i x hx;exact⟨_,hx⟩
 ·cases h
theorem aau{t:TypeId}(h:ahu P t=true):∃el,P.underlying t=some (.pointer el):=by
 unfold ahu at h;split at h
 ·rename_i x hx;exact⟨_,hx⟩
 ·cases h
theorem ai8{t:TypeId}(h:alX P t=true):∃el,P.underlying t=some (.interface el):=by
 unfold alX at h;split at h
 ·rename_i x hx;exact⟨_,hx⟩
 ·cases h
theorem alW{t:TypeId}(h:zw P t=true):P.underlying t=some (.int .u8):=by
 unfold zw at h;split at h
 ·rename_i hx;exact hx
 ·cases h
theorem ai7{t:TypeId}(h:isInt P t=true):∃k,P.underlying t=some (.int k):=by
 unfold isInt at h;split at h
 ·rename_i k hx;exact⟨k,hx⟩
 ·cases h
theorem aat{t:TypeId}(h:isStr P t=true):P.underlying t=some .string:=by
 unfold isStr at h;split at h
 ·rename_i hx;exact hx
 ·cases h
theorem lx(hi:Inv I L O w){v:AV}{x:Value}(hr:R I L O v x)(hn:(iF O v).ag=true)(as:List AV)(hm:v∈as):R (tN I L O w as) L [] (iF O v) x:=aaD hi hm hr hn
theorem acT:∀{xs:List AV} {l:List UInt8},u8s xs=some l->∃ns:List Int,xs=ns.map (λ n=> .v (.int .u8 n))/\l=ns.map λ n=>UInt8.ofNat n.toNat
 | [],l,h=>by simp[u8s]at h;subst h;exact⟨[],rfl,rfl⟩
 |x::r,l,h=>by
  unfold u8s at h
  split at h
  ·rename_i hx;cases hx
  ·rename_i n r' hx;cases hx;simp only[map_eq_some_iff]at h;obtain⟨l',h1,rfl⟩:=h;obtain⟨ns,rfl,rfl⟩:=acT h1;exact⟨n::ns,rfl,rfl⟩
  ·cases h
theorem aqi{s d el:TypeId}(hs:P.underlying s=some (.slice el))(he:P.underlying el=some (.int .u8))(hd:P.underlying d=some .string){I':dv}{L':Nat->Loc}(hinv:Inv I' L' [] w){v:AV}{x:Value}{y:AV}(hr:R I' L' [] v x)(hp:v8 .b2s [v]=some y):
  ∃z,y= .v z/\z.oneCell'=true/\(convert s d x).run P w= .ok z w:=by
 unfold v8 at hp
 split at hp<;>first|(rename_i ho hv;cases ho;done)|(rename_i ho;cases ho;done)|skip
 ·rename_i ys ho hv;cases hv;simp only[map_eq_some_iff]at hp;obtain⟨l,hl,rfl⟩:=hp;obtain⟨ns,rfl,rfl⟩:=acT hl;generalize hX:(ns.map λ n=>AV.v (.int .u8 n))=X at hr;cases hr with
  |lG a cap=>
   have hn:ns= []:=by simpa using hX
   subst hn;refine⟨_,rfl,rfl,?_⟩;rw[run_convert_bytes_string w s d el a 0 cap hs he hd];cases a with
   |none=>simp[Conv.bytesToString];rfl
   |some a=>simp[Conv.bytesToString,loadCells,loadCellsFrom];rfl
  |sl xs bh off cap s' bA h1 h2 h3 h4 h5=>
   subst hX;refine⟨_,rfl,rfl,?_⟩;have hlen:ns.length=(ns.map λ n=>AV.v (.int .u8 n)).length:=by simp
   have:=run_convert_bytes_arg (P:=P) w s el hs he bh off (ns.map λ n=>AV.v (.int .u8 n)).length cap ns hlen (λ i hi=> ?_) d hd
   ·rw[this];rfl
   ·have eE:i<ns.length:=by simpa using hi
    have hx:(ns.map λ n=>AV.v (.int .u8 n))[i]? =some (.v (.int .u8 ns[i])):=by simp[eE]
    have vO:s'=1:=by have:=h3 i _ hx;simpa [AV.cells]using this.symm
    subst vO;have hc0:(AV.v (.int .u8 ns[i])).cells[0]? =some (.v (.int .u8 ns[i])):=rfl;have lg:=(h4 i _ 0 _ hx hc0).1;have tX:=(h5 i _ 0 _ hx hc0).exact;rw[tX]at lg;have:=hinv.j4 _ _ _ lg;simp only[Nat.mul_one,Nat.add_zero]at this;rw[this];simp[List.getD,eE]
 ·rename_i ho hv;cases hv;simp only[Option.some.injEq]at hp;subst hp;cases hr;refine⟨_,rfl,rfl,?_⟩;rw[run_convert_bytes_string w s d el none 0 0 hs he hd];simp[Conv.bytesToString];rfl
 ·cases hp
theorem acp{op:BinOp}(h:lZ op=true):op= .eql∨op= .neq:=by
 cases op<;>simp[lZ]at h<;>simp
theorem lL{t:TypeId}{x y:Value}{b:Bool}{op:BinOp}(ho:op= .eql∨op= .neq)(ht:(Op.equalIn (9999+1) t x y).run P w= .ok b w)(ox oy:Operand)
  (hb:∀op:BinOp,op= .eql∨op= .neq->(eqGuard op t ox oy x y).run P w= .ok () w) (h2:∀op:BinOp,op= .eql->binOp op t x y=do pure (.bool (←Op.equal t x y))) (h3:∀op:BinOp,op= .neq->binOp op t x y=do pure (.bool (!(←Op.equal t x y)))):
  (do eqGuard op t ox oy x y;binOp op t x y:Sem Value).run P w= .ok (.bool (jj op !=b)) w:=by
 have e1:(Op.equal t x y).run P w= .ok b w:=ht;rcases ho with rfl|rfl
 ·rw[Sem.run_bind,hb _ (.inl rfl),h2 _ rfl];simp[e1,jj]
 ·rw[Sem.run_bind,hb _ (.inr rfl),h3 _ rfl];simp[e1,jj]
theorem af3{t el:TypeId}(ht:P.underlying t=some (.slice el)){op:BinOp}(ho:lZ op=true){I':dv}{L':Nat->Loc}{v:AV}{x:Value}{y:AV}(hr:R I' L' [] v x)(hp:v8 (.tP (jj op)) [v]=some y)(ox oy:Operand):
  ∃z,y= .v z/\z.oneCell'=true/\(do eqGuard op t ox oy x (.slice none 0 0);binOp op t x (.slice none 0 0):Sem Value).run P w= .ok z w:=by
 have ho:=acp ho;unfold v8 at hp
 split at hp<;>first|(rename_i h1 h2;cases h1;done)|(rename_i h1;cases h1;done)|skip
 ·rename_i neg h1 h2;cases h1;cases h2;cases hr;simp only[Option.some.injEq]at hp;subst hp;refine⟨_,rfl,rfl,lL (b:=true) ho ?_ ox oy (λ op ho=> ?_) (λ op ho=> ?_) (λ op ho=> ?_)⟩
  ·rw[Op.equalIn];simp[run_underlying ht]
  ·rcases ho with rfl|rfl<;>simp[eqGuard]
  ·subst ho;rfl
  ·subst ho;rfl
 ·rename_i neg a l h1 h2;cases h1;cases h2;simp only[Option.some.injEq]at hp;subst hp;cases hr with
  |sl xs bh off cap s' bA h1 h2 h3 h4 h5=>
   refine⟨_,rfl,rfl,lL (b:=false) ho ?_ ox oy (λ op ho=> ?_) (λ op ho=> ?_) (λ op ho=> ?_)⟩
   ·rw[Op.equalIn];simp[run_underlying ht]
   ·rcases ho with rfl|rfl<;>simp[eqGuard]
   ·subst ho;rfl
   ·subst ho;rfl
 ·cases hp
theorem af4{t el:TypeId}(ht:P.underlying t=some (.pointer el)){op:BinOp}(ho:lZ op=true){I':dv}{L':Nat->Loc}{v:AV}{x:Value}{y:AV}(hr:R I' L' [] v x)(hp:v8 (.oj (jj op)) [v]=some y)(ox oy:Operand):
  ∃z,y= .v z/\z.oneCell'=true/\(do eqGuard op t ox oy x (.pointer none);binOp op t x (.pointer none):Sem Value).run P w= .ok z w:=by
 have ho:=acp ho;unfold v8 at hp
 split at hp<;>first|(rename_i h1 h2;cases h1;done)|(rename_i h1;cases h1;done)|skip
 ·rename_i neg h1 h2;cases h1;cases h2;have:=hr.exact;subst this;simp only[Option.some.injEq]at hp;subst hp;refine⟨_,rfl,rfl,lL (b:=true) ho ?_ ox oy (λ op ho=> ?_) (λ op ho=> ?_) (λ op ho=> ?_)⟩
  ·rw[Op.equalIn];simp[run_underlying ht]
  ·rcases ho with rfl|rfl<;>simp[eqGuard]
  ·subst ho;rfl
  ·subst ho;rfl
 ·rename_i neg a l h1 h2;cases h1;cases h2;simp only[Option.some.injEq]at hp;subst hp;cases hr;refine⟨_,rfl,rfl,lL (b:=false) ho ?_ ox oy (λ op ho=> ?_) (λ op ho=> ?_) (λ op ho=> ?_)⟩
  ·rw[Op.equalIn];simp[run_underlying ht]
  ·rcases ho with rfl|rfl<;>simp[eqGuard]
  ·subst ho;rfl
  ·subst ho;rfl
 ·cases hp
theorem af5{t:TypeId}{el:Array (String×TypeId)}(ht:P.underlying t=some (.interface el)){op:BinOp}(ho:lZ op=true){I':dv}{L':Nat->Loc}{v:AV}{x:Value}{y:AV}(hr:R I' L' [] v x)(hp:v8 (.tQ (jj op)) [v]=some y)(ox:Operand):
  ∃z,y= .v z/\z.oneCell'=true/\(do eqGuard op t ox (.const .nilIface) x .nilIface;binOp op t x .nilIface:Sem Value).run P w= .ok z w:=by
 have ho:=acp ho;unfold v8 at hp
 split at hp<;>first|(rename_i h1 h2;cases h1;done)|(rename_i h1;cases h1;done)|skip
 ·rename_i neg h1 h2;cases h1;cases h2;have:=hr.exact;subst this;simp only[Option.some.injEq]at hp;subst hp;refine⟨_,rfl,rfl,lL (b:=true) ho ?_ ox (.const .nilIface) (λ op ho=> ?_) (λ op ho=> ?_) (λ op ho=> ?_)⟩
  ·rw[Op.equalIn];simp[run_underlying ht]
  ·rcases ho with rfl|rfl<;>simp[eqGuard]
  ·subst ho;rfl
  ·subst ho;rfl
 ·rename_i neg h1 h2;cases h1;cases h2;simp only[Option.some.injEq]at hp;subst hp;cases hr;refine⟨_,rfl,rfl,lL (b:=false) ho ?_ ox (.const .nilIface) (λ op ho=> ?_) (λ op ho=> ?_) (λ op ho=> ?_)⟩
  ·rw[Op.equalIn];simp[run_underlying ht]
  ·rcases ho with rfl|rfl<;>simp[eqGuard]
  ·subst ho;rfl
  ·subst ho;rfl
 ·cases hp
theorem apc{I':dv}{L':Nat->Loc}{u v:AV}{x x':Value}{y:AV}(hr:R I' L' [] u x)(o7:R I' L' [] v x')(hp:v8 .min [u,v]=some y)(ts:Array TypeId)(ty:TypeId):
  ∃z,y= .v z/\z.oneCell'=true/\(Builtin.min_ ts ty #[x,x']).run P w= .ok z w:=by
 unfold v8 at hp
 split at hp<;>first|(rename_i h1 h2;cases h1;done)|(rename_i h1;cases h1;done)|skip
 ·rename_i k a k' b h1 h2;cases h2;have e1:=hr.exact;have e2:=o7.exact;subst e1;subst e2
  split at hp
  ·rename_i hk;subst hk;simp only[Option.some.injEq]at hp;subst hp;exact⟨_,rfl,rfl,by simp[Builtin.min_,Builtin.min2]⟩
  ·cases hp
 ·cases hp
theorem ape{I':dv}{L':Nat->Loc}{u v:AV}{x x':Value}{y:AV}(hr:R I' L' [] u x)(o7:R I' L' [] v x')(hp:v8 .max [u,v]=some y)(ts:Array TypeId)(ty:TypeId):
  ∃z,y= .v z/\z.oneCell'=true/\(Builtin.max_ ts ty #[x,x']).run P w= .ok z w:=by
 unfold v8 at hp
 split at hp<;>first|(rename_i h1 h2;cases h1;done)|(rename_i h1;cases h1;done)|skip
 ·rename_i k a k' b h1 h2;cases h2;have e1:=hr.exact;have e2:=o7.exact;subst e1;subst e2
  split at hp
  ·rename_i hk;subst hk;simp only[Option.some.injEq]at hp;subst hp;exact⟨_,rfl,rfl,by simp[Builtin.max_,Builtin.max2]⟩
  ·cases hp
 ·cases hp
theorem ang{I':dv}{L':Nat->Loc}{v:AV}{x:Value}{y:AV}(hr:R I' L' [] v x)(hp:v8 .jc [v]=some y):
  ∃z,y= .v z/\z.oneCell'=true/\x= .slice none 0 0/\z= .int .i64 0:=by
 unfold v8 at hp
 split at hp<;>first|(rename_i h1 h2;cases h1;done)|(rename_i h1;cases h1;done)|skip
 ·rename_i h1 h2;cases h2;cases hr;simp only[Option.some.injEq]at hp;subst hp;exact⟨_,rfl,rfl,rfl,rfl⟩
 ·cases hp
theorem n9{o:PU}{xs:List AV}{M:AV->Prop}(h:puK o xs M):∃y,v8 o xs=some y/\M y:=by
 unfold puK at h;split at h
 ·rename_i v hv;exact⟨v,hv,h⟩
 ·exact h.elim
theorem aoS{d:Option Tmp}{op:Op}{ty:TypeId}{pos:String}{af:Array Edge}{g:Option (Nat×Bool)}{ao:ew}(hc:ajD P op=some ao)(hi:Inv I L O w)(he:∀t,R I L O (e t) (a.tmps.getD t undef))(hk:wpOp P ao e O K):
  fx P I L O w (execOp a.eval ⟨d,op,ty,pos,af,g⟩) K:=by
 unfold ajD at hc
 split at hc
 ·rename_i op t x u
  split at hc
  ·rename_i hb;simp only[bind_eq_bind,bind_eq_some_iff,Option.some.injEq]at hc;obtain⟨ax,hx,rfl⟩:=hc;obtain⟨el,ht⟩:=adF hb.2;obtain⟨hn,hk⟩:=hk;simp only[map_cons,map_nil]at hn hk;obtain⟨y,hy,hk⟩:=n9 hk;have rx:=lx hi (an hx he) (by simpa [AV.ad]using hn) [ax.ev e] (by simp);obtain⟨z,rfl,hz,bK⟩:=af3 (P:=P) (w:=w) ht hb.1 rx hy x (.const (.slice none 0 0));refine fx.same hi hk (.v z hz) ?_;simp only[execOp];have:a.eval (.const (.slice none 0 0))= .slice none 0 0:=rfl;rw[this,Sem.run_bind,bK];rfl
  ·cases hc
 ·rename_i op t x u
  split at hc
  ·rename_i hb;simp only[bind_eq_bind,bind_eq_some_iff,Option.some.injEq]at hc;obtain⟨ax,hx,rfl⟩:=hc;obtain⟨el,ht⟩:=aau hb.2;obtain⟨hn,hk⟩:=hk;simp only[map_cons,map_nil]at hn hk;obtain⟨y,hy,hk⟩:=n9 hk;have rx:=lx hi (an hx he) (by simpa [AV.ad]using hn) [ax.ev e] (by simp);obtain⟨z,rfl,hz,bK⟩:=af4 (P:=P) (w:=w) ht hb.1 rx hy x (.const (.pointer none));refine fx.same hi hk (.v z hz) ?_;simp only[execOp];have:a.eval (.const (.pointer none))= .pointer none:=rfl;rw[this,Sem.run_bind,bK];rfl
  ·cases hc
 ·rename_i op t x u
  split at hc
  ·rename_i hb;simp only[bind_eq_bind,bind_eq_some_iff,Option.some.injEq]at hc;obtain⟨ax,hx,rfl⟩:=hc;obtain⟨el,ht⟩:=ai8 hb.2;obtain⟨hn,hk⟩:=hk;simp only[map_cons,map_nil]at hn hk;obtain⟨y,hy,hk⟩:=n9 hk;have rx:=lx hi (an hx he) (by simpa [AV.ad]using hn) [ax.ev e] (by simp);obtain⟨z,rfl,hz,bK⟩:=af5 (P:=P) (w:=w) ht hb.1 rx hy x;refine fx.same hi hk (.v z hz) ?_;simp only[execOp];have:a.eval (.const .nilIface)= .nilIface:=rfl;rw[this,Sem.run_bind,bK];rfl
  ·cases hc
 ·rename_i s d' x;simp only[bind_eq_bind,bind_eq_some_iff]at hc;obtain⟨el,fw,hc⟩:=hc
  split at hc
  ·rename_i hb;simp only[bind_eq_some_iff,Option.some.injEq]at hc;obtain⟨ax,hx,rfl⟩:=hc;obtain⟨hn,hk⟩:=hk;simp only[map_cons,map_nil]at hn hk;obtain⟨y,hy,hk⟩:=n9 hk;have rx:=lx hi (an hx he) (by simpa [AV.ad]using hn) [ax.ev e] (by simp);obtain⟨z,rfl,hz,bK⟩:=aqi (P:=P) (gm fw) (alW hb.1) (aat hb.2) (alE hi [ax.ev e]) rx hy;refine fx.same hi hk (.v z hz) ?_;simp only[execOp];rw[Sem.run_bind,bK];rfl
  ·cases hc
 ·rename_i c
  split at hc
  ·rename_i t u x y jJ sa has;have yv:c.argTypes= #[t,u]:=by apply Array.ext';simpa using sa
   have haa:c.args= #[x,y]:=by apply Array.ext';simpa using has
   split at hc
   ·rename_i hu;simp only[bind_eq_bind,bind_eq_some_iff]at hc;obtain⟨el,fw,⟨s,b,z⟩,hz,hc⟩:=hc
    split at hc
    ·simp only[bind_eq_some_iff,Option.some.injEq]at hc;obtain⟨ax,hx,ay,hy,rfl⟩:=hc;simp only[wpOp]at hk
     split at hk
     ·rename_i sb hsb;have ry:=an (I:=I) (L:=L) (O:=O) hy he;rw[hsb]at ry;have hv:=ry.exact;obtain⟨x',O',y',I',L',w',h1,h2,h3,h4⟩:=anC (ty:=ty) (gm fw) (aat hu) hz hi (an hx he) hk.1 hk.2;refine⟨x',O',y',I',L',w',h1,h2,h3,.inl ?_⟩;simp only[execOp,resolve,jJ,yv,haa];simp[invoke,builtin,hv,h4]
     ·exact hk.elim
    ·cases hc
   ·split at hc
    ·rename_i rT;obtain⟨ki,hu⟩:=ai7 rT;simp only[bind_eq_bind,bind_eq_some_iff,Option.some.injEq]at hc;obtain⟨el,fw,⟨s,b,z⟩,hz,ax,hx,ay,hy,rfl⟩:=hc;simp only[wpOp]at hk;have rx:=an (I:=I) (L:=L) (O:=O) hx he;have ry:=an (I:=I) (L:=L) (O:=O) hy he
     split at hk
     ·rename_i k hA hB;rw[hA]at rx;rw[hB]at ry;have e2:=ry.exact;obtain⟨k0,k1,k2,hk⟩:=hk;obtain⟨n,rfl⟩:∃n:Nat,k=n:=⟨k.toNat,by omega⟩;obtain⟨i,z0,h1,h2,h3,rfl,rfl,h4,h5,h6,h7⟩:=e8 hz
      have k1':n*i.bytes<=281474976710656:=by
       have:((i.bytes*n:Nat):Int)<=281474976710656:=by rw[Int.natCast_mul];omega
       rw[Nat.mul_comm];omega
      obtain⟨y',I',L',w',g1,g2,g3⟩:=anB (P:=P) (w:=w) (t:=t) (u:=u) (ty:=ty) (gm fw) hu h1 h2 h3 h5 h6 h7 h4 hi (by omega) k1' (by omega);simp only[Int.toNat_natCast]at hk;refine⟨_,_,y',I',L',w',hk,g1,g2,.inl ?_⟩;have e1:a.eval x= .slice none 0 0:=by generalize a.eval x=X at rx;cases rx;rfl
      simp only[execOp,resolve,jJ,yv,haa];simp[invoke,builtin,e1,e2,g3]
     ·exact hk.elim
    ·cases hc
  ·rename_i t x jJ sa has;have yv:c.argTypes= #[t]:=by apply Array.ext';simpa using sa
   have haa:c.args= #[x]:=by apply Array.ext';simpa using has
   split at hc
   ·rename_i hsl;obtain⟨el,ht⟩:=adF hsl;simp only[bind_eq_bind,bind_eq_some_iff,Option.some.injEq]at hc;obtain⟨ax,hx,rfl⟩:=hc;obtain⟨hn,hk⟩:=hk;simp only[map_cons,map_nil]at hn hk;simp only[AV.ad,Bool.and_true]at hn;obtain⟨v,hv,hk⟩:=n9 hk;have rx:=lx hi (an hx he) hn [ax.ev e] (by simp);obtain⟨z,rfl,hz,hX,rfl⟩:=ang rx hv;refine fx.same hi hk (.v _ hz) ?_;simp only[execOp,resolve,jJ,yv,haa];simp[invoke,builtin,hX,Builtin.cap_,run_underlying ht]
    rfl
   ·cases hc
  ·rename_i t u x y jJ sa has;have yv:c.argTypes= #[t,u]:=by apply Array.ext';simpa using sa
   have haa:c.args= #[x,y]:=by apply Array.ext';simpa using has
   simp only[bind_eq_bind,bind_eq_some_iff,Option.some.injEq]at hc;obtain⟨ax,hx,ay,hy,rfl⟩:=hc;obtain⟨hn,hk⟩:=hk;simp only[map_cons,map_nil]at hn hk;simp only[AV.ad,Bool.and_true,and_eq_true]at hn;obtain⟨v,hv,hk⟩:=n9 hk;have rx:=lx hi (an hx he) hn.1 [ax.ev e,ay.ev e] (by simp);have ry:=lx hi (an hy he) hn.2 [ax.ev e,ay.ev e] (by simp);obtain⟨z,rfl,hz,bK⟩:=apc (P:=P) (w:=w) rx ry hv #[t,u] ty;refine fx.same hi hk (.v z hz) ?_;simp only[execOp,resolve,jJ,yv,haa];simp[invoke,builtin,bK]
  ·rename_i t u x y jJ sa has;have yv:c.argTypes= #[t,u]:=by apply Array.ext';simpa using sa
   have haa:c.args= #[x,y]:=by apply Array.ext';simpa using has
   simp only[bind_eq_bind,bind_eq_some_iff,Option.some.injEq]at hc;obtain⟨ax,hx,ay,hy,rfl⟩:=hc;obtain⟨hn,hk⟩:=hk;simp only[map_cons,map_nil]at hn hk;simp only[AV.ad,Bool.and_true,and_eq_true]at hn;obtain⟨v,hv,hk⟩:=n9 hk;have rx:=lx hi (an hx he) hn.1 [ax.ev e,ay.ev e] (by simp);have ry:=lx hi (an hy he) hn.2 [ax.ev e,ay.ev e] (by simp);obtain⟨z,rfl,hz,bK⟩:=ape (P:=P) (w:=w) rx ry hv #[t,u] ty;refine fx.same hi hk (.v z hz) ?_;simp only[execOp,resolve,jJ,yv,haa];simp[invoke,builtin,bK]
  ·cases hc
 ·cases hc
theorem aiE{o:Oper}{b ao:ew}(yv:ao.zx=false)(hc:vV P o.type o.op=some b)(uZ:b=ao.strip)(hi:Inv I L O w)(he:∀t,R I L O (e t) (a.tmps.getD t undef))(hk:wpOp P ao e O K){next:Act->World->Prop}{Q:Exit->Act->World->Prop}
  (hn:∀x O' y I' L' w',K x O'->Good I L O w I' L' O' w'->R I' L' O' x y->next (a.put o.dst y) w'):o.wp P a w next Q:=by
 obtain⟨dst,op,ty,pos,af,g⟩:=o;subst uZ;unfold vV at hc;simp only at hc
 split at hc
 ·exact acu hc hi he hk hn
 ·simp only[bind_eq_some_iff]at hc;obtain⟨b,hb,hc⟩:=hc
  split at hc
  ·cases hc
  ·rename_i gg;simp only[Option.some.injEq]at hc;by_cases hbs:∃t s l z ps,b= .buildSlice t s l z ps
   ·obtain⟨t,s,l,z,ps,rfl⟩:=hbs;obtain⟨t',len,parts,rfl⟩:=vU hb;cases ao<;>simp only[ew.strip]at hc<;>first|(cases hc;done)|(simp[ew.zx]at yv;done)|skip
    case buildSlice=>cases hc;exact(ahh hb hi he hk).wp hn
    case iB=>cases hc;exact(afr hi he hb hk).wp hn
   ·have:=pr yv hc (by simpa using gg) (λ t s l z ps h=>hbs ⟨t,s,l,z,ps,h⟩);subst this;exact(ahh hb hi he hk).wp hn
theorem oK{op:Op}{b:ew}(h:ajD P op=some b):(∃o as,b= .pu o as)∨(∃t s by_ x y,b= .j7 t s by_ x y)∨∃t s by_ z x y,b= .acy t s by_ z x y:=by
 unfold ajD at h
 split at h
 ·split at h
  ·simp only[bind_eq_bind,bind_eq_some_iff,Option.some.injEq]at h;obtain⟨_,_,rfl⟩:=h;exact .inl ⟨_,_,rfl⟩
  ·cases h
 ·split at h
  ·simp only[bind_eq_bind,bind_eq_some_iff,Option.some.injEq]at h;obtain⟨_,_,rfl⟩:=h;exact .inl ⟨_,_,rfl⟩
  ·cases h
 ·split at h
  ·simp only[bind_eq_bind,bind_eq_some_iff,Option.some.injEq]at h;obtain⟨_,_,rfl⟩:=h;exact .inl ⟨_,_,rfl⟩
  ·cases h
 ·simp only[bind_eq_bind,bind_eq_some_iff]at h;obtain⟨_,_,h⟩:=h
  split at h
  ·simp only[bind_eq_some_iff,Option.some.injEq]at h;obtain⟨_,_,rfl⟩:=h;exact .inl ⟨_,_,rfl⟩
  ·cases h
 ·split at h
  ·split at h
   ·simp only[bind_eq_bind,bind_eq_some_iff]at h;obtain⟨_,_,_,_,h⟩:=h
    split at h
    ·simp only[bind_eq_some_iff,Option.some.injEq]at h;obtain⟨_,_,_,_,rfl⟩:=h;exact .inr (.inl ⟨_,_,_,_,_,rfl⟩)
    ·cases h
   ·split at h
    ·simp only[bind_eq_bind,bind_eq_some_iff,Option.some.injEq]at h;obtain⟨_,_,_,_,_,_,_,_,rfl⟩:=h;exact .inr (.inr ⟨_,_,_,_,_,_,rfl⟩)
    ·cases h
  ·split at h
   ·simp only[bind_eq_bind,bind_eq_some_iff,Option.some.injEq]at h;obtain⟨_,_,rfl⟩:=h;exact .inl ⟨_,_,rfl⟩
   ·cases h
  ·simp only[bind_eq_bind,bind_eq_some_iff,Option.some.injEq]at h;obtain⟨_,_,_,_,rfl⟩:=h;exact .inl ⟨_,_,rfl⟩
  ·simp only[bind_eq_bind,bind_eq_some_iff,Option.some.injEq]at h;obtain⟨_,_,_,_,rfl⟩:=h;exact .inl ⟨_,_,rfl⟩
  ·cases h
 ·cases h
theorem nF{o:Oper}{ao:ew}(yv:ao.zx=false)(hc:cOp P o.type o.op=some ao.strip)(hi:Inv I L O w)(he:∀t,R I L O (e t) (a.tmps.getD t undef))(hk:wpOp P ao e O K){next:Act->World->Prop}{Q:Exit->Act->World->Prop}
  (hn:∀x O' y I' L' w',K x O'->Good I L O w I' L' O' w'->R I' L' O' x y->next (a.put o.dst y) w'):o.wp P a w next Q:=by
 unfold cOp ajE at hc;simp only[Option.some.injEq]at hc
 split at hc
 ·rename_i b hb;have hx:=oK hb
  have uZ:ao=b:=by
   refine pr yv hc ?_ ?_
   ·rcases hx with⟨_,_,rfl⟩|⟨_,_,_,_,_,rfl⟩|⟨_,_,_,_,_,_,rfl⟩<;>rfl
   ·rcases hx with⟨_,_,rfl⟩|⟨_,_,_,_,_,rfl⟩|⟨_,_,_,_,_,_,rfl⟩<;>simp
  subst uZ;obtain⟨dst,op,ty,pos,af,g⟩:=o;exact(aoS hb hi he hk).wp hn
 ·cases h0:vV P o.type o.op with
  |some b=>rw[h0]at hc;exact aiE yv h0 hc hi he hk hn
  |none=>
   rw[h0]at hc;simp only[getD_none]at hc;cases ao<;>simp only[ew.strip]at hc<;>first|(cases hc;done)|(simp[ew.zx]at yv;done)|exact hk.elim
theorem aI.zW(he:∀t,R I L O (e t) (a.tmps.getD t undef)){x:aI}(h:x.okc=true):(x.ev e).inScope O.length=true:=by
 cases x with
 |t n=>exact(he n).inScope
 |c y=>exact cA y h
theorem uB(he:∀t,R I L O (e t) (a.tmps.getD t undef)){s:Nat}:∀(ps:List (Nat×aI)) (zs:List AV) {M:List AV->Prop},ps.all (λ p=>p.2.okc)=true->(∀x∈zs,∀c∈x.cells,c.inScope O.length=true)->mV e s zs ps M->
  mV e s zs ps λ xs=>(∀x∈xs,∀c∈x.cells,c.inScope O.length=true)/\M xs
 | [],zs,M,_,hz,h=>⟨hz,h⟩
 |(i,x)::ps,zs,M,hp,hz,h=>by
  simp only[List.all_cons,and_eq_true]at hp;obtain⟨h1,h2,h3,h4⟩:=h;refine⟨h1,h2,h3,uB he ps _ hp.2 (λ y hy c hc=> ?_) h4⟩;rcases List.mem_or_eq_of_mem_set hy with hy|rfl
  ·exact hz y hy c hc
  ·exact cp (aI.zW he hp.1) c hc
theorem Good.cut(hi:Inv I L O w){n t s:Nat}{xs:List AV}(hO:O[n]? =some (.live t s xs)):
  Good I L O w I (λ k=>if k=O.length then L n else L k) (O.set n .dead++ [.live t s []]) w/\R I (λ k=>if k=O.length then L n else L k) (O.set n .dead++ [.live t s []]) (.row O.length 0) (.slice (some ⟨(L n).bh,0,none⟩) 0 (L n).cap):=by
 have aF:=(List.getElem?_eq_some_iff.1 hO).1
 have cz:∀{m e k ys},(O.set n .dead++ [ae.live t s []])[m]? =some (.live e k ys)->(m=O.length/\e=t/\k=s/\ys= [])∨(m<O.length/\m≠n/\O[m]? =some (.live e k ys)):=by
  intro m e k ys hm;by_cases o8:m<O.length
  ·rw[getElem?_append_left (by simpa using o8)]at hm;by_cases oo:m=n
   ·subst oo;rw[getElem?_set_self aF]at hm;cases hm
   ·rw[getElem?_set_ne (λ h=>oo h.symm)]at hm;exact .inr ⟨o8,oo,hm⟩
  ·rw[getElem?_append_right (by simp;omega),List.length_set]at hm
   have:m- O.length=0:=by
    rcases Nat.eq_zero_or_pos (m- O.length)with h|h
    ·exact h
    ·rw[List.getElem?_eq_none (by simp;omega)]at hm;cases hm
   rw[this]at hm;simp at hm;obtain⟨rfl,rfl,rfl⟩:=hm;exact .inl ⟨by omega,rfl,rfl,rfl⟩
 have yr:∀{m:Nat} {a:AV},(O.set n .dead++ [ae.live t s []])[m]? =some (.own a)->O[m]? =some (.own a)/\(if m=O.length then L n else L m)=L m:=by
  intro m a hm;by_cases o8:m<O.length
  ·rw[getElem?_append_left (by simpa using o8)]at hm;by_cases oo:m=n
   ·subst oo;rw[getElem?_set_self o8]at hm;cases hm
   ·rw[getElem?_set_ne (λ h=>oo h.symm)]at hm;exact⟨hm,if_neg (by omega)⟩
  ·rw[getElem?_append_right (by simp;omega)]at hm;cases hq:m- (O.set n .dead).length with
   |zero=>rw[hq]at hm;cases hm
   |succ q=>rw[hq]at hm;simp at hm
 have qS:∀{m:Nat} {a:gr},(O.set n .dead++ [ae.live t s []])[m]? =some (.dc a)->O[m]? =some (.dc a)/\(if m=O.length then L n else L m)=L m:=by
  intro m a hm;by_cases o8:m<O.length
  ·rw[getElem?_append_left (by simpa using o8)]at hm;by_cases oo:m=n
   ·subst oo;rw[getElem?_set_self o8]at hm;cases hm
   ·rw[getElem?_set_ne (λ h=>oo h.symm)]at hm;exact⟨hm,if_neg (by omega)⟩
  ·rw[getElem?_append_right (by simp;omega)]at hm;cases hq:m- (O.set n .dead).length with
   |zero=>rw[hq]at hm;cases hm
   |succ q=>rw[hq]at hm;simp at hm
 have dL:(O.set n .dead++ [ae.live t s []])[O.length]? =some (.live t s []):=by
  rw[getElem?_append_right (by simp)];simp
 have hL:∀{m},m<O.length->(if m=O.length then L n else L m)=L m:=λ {m} hm=>if_neg (by omega)
 have du:Ext I L O I (λ k=>if k=O.length then L n else L k) (O.set n .dead++ [.live t s []]):=by
  refine⟨λ _ _ _ h=>h,by simp,λ m hm e k ys hx=> ?_,λ m hm e k hx=> ?_,λ m hm a hx=>by obtain⟨q1,q2⟩:=yr hx;exact⟨⟨a,q1⟩,by rw[q2]⟩,λ m hm a hx=>by obtain⟨q1,q2⟩:=qS hx;exact⟨⟨a,q1,rfl⟩,by rw[q2]⟩⟩
  ·rcases cz hx with⟨h1,_⟩|⟨_,_,h3⟩
   ·omega
   ·exact .inl ⟨ys,h3,le_refl _,λ _=>hL hm⟩
  ·rw[getElem?_append_left (by simpa using hm)]at hx;by_cases oo:m=n
   ·subst oo;rw[getElem?_set_self aF]at hx;cases hx
   ·rwa [getElem?_set_ne (λ h=>oo h.symm)]at hx
 refine⟨⟨⟨hi.j4,λ m e k ys hm=> ?_,λ m m' e k ys e' k' ux hm uX hb=> ?_,λ m e k ys o hm=> ?_,hi.fix,hi.bh,hi.ow.same (λ m a hm=>yr hm) (λ b o v hv=> .inl ⟨o,v,hv⟩) (λ m e k ys hm=> ?_) rfl,hi.gh.step (λ m a hm=>⟨(qS hm).1,by rw[(qS hm).2]⟩) (λ _ _ hr=>hr.mono du) λ _ _=>rfl⟩,du,Frm.refl _ _,?_,λ _ _ _ h=> .inl h⟩,?_⟩
 ·rcases cz hm with⟨rfl,rfl,rfl,rfl⟩|⟨h1,h2,h3⟩
  ·obtain⟨c,⟨kR,q1,dE⟩,q2,q3,q4,q5,q6⟩:=hi.obj n _ _ _ hO;simp only[if_true];exact⟨c,⟨_,q1,dE⟩,q2,zero_le _,q4,q5,by simp⟩
  ·simp only[hL h1];exact(hi.obj m _ _ _ h3).congr rfl λ _ _ h=>h.mono du
 ·rcases cz hm with⟨rfl,rfl,rfl,rfl⟩|⟨h1,h2,h3⟩<;>rcases cz uX with⟨h4,_,_,_⟩|⟨h4,h5,h6⟩
  ·exact h4.symm
  ·simp only[if_true,hL h4]at hb;exact(h5 (hi.sep _ _ _ _ _ _ _ _ h6 hO hb.symm)).elim
  ·subst h4;simp only[if_true,hL h1]at hb;exact(h2 (hi.sep _ _ _ _ _ _ _ _ h3 hO hb)).elim
  ·simp only[hL h1,hL h4]at hb;exact hi.sep _ _ _ _ _ _ _ _ h3 h6 hb
 ·rcases cz hm with⟨rfl,rfl,rfl,rfl⟩|⟨h1,h2,h3⟩
  ·simp only[if_true];exact hi.dS n _ _ _ o hO
  ·simp only[hL h1];exact hi.dS m _ _ _ o h3
 ·rcases cz hm with⟨rfl,rfl,rfl,rfl⟩|⟨h1,h2,h3⟩
  ·simp only[if_true];exact .inl ⟨n,_,_,_,hO,rfl⟩
  ·simp only[hL h1];exact .inl ⟨m,_,_,_,h3,rfl⟩
 ·rintro b (⟨m,e,k,ys,hm,hb⟩|⟨m,a,o,v,hm,hb⟩|⟨m,a,hm,hb⟩)
  rotate_right
  ·obtain⟨q1,q2⟩:=qS hm;simp only[q2]at hb;exact .inl (.inr (.inr ⟨m,a,q1,hb⟩))
  ·rcases cz hm with⟨rfl,rfl,rfl,rfl⟩|⟨h1,h2,h3⟩
   ·simp only[if_true]at hb;exact .inl (.inl ⟨n,_,_,_,hO,hb⟩)
   ·simp only[hL h1]at hb;exact .inl (.inl ⟨m,_,_,_,h3,hb⟩)
  ·obtain⟨q1,q2⟩:=yr hm;simp only[q2]at hb;exact .inl (.inr (.inl ⟨m,a,o,v,q1,hb⟩))
 ·have:=R.cq (I:=I) (L:=λ k=>if k=O.length then L n else L k) (O:=O.set n .dead++ [.live t s []]) O.length 0 t s [] dL rfl;simpa using this
theorem aeo{ty:TypeId}{op:Op}{s:Nat}{x:aI}{lo hi:Option aI}(h:b8 P ty op=some (.db s x lo hi)):
  ∃t el ox olo ohi,op= .slice t ox olo ohi none/\P.underlying t=some (.slice el)/\bL ox=some x/\olo.mapM bL=some lo/\ohi.mapM bL=some hi/\(∃inf,P.info? el=some inf/\inf.size=s):=by
 cases op<;>simp only[b8]at h
 case slice t ox olo ohi mx=>
  split at h
  ·cases h
  ·rename_i jH;obtain rfl:mx=none:=by cases mx<;>simp at jH⊢
   split at h
   ·simp only[bind_eq_bind,bind_eq_some_iff,Option.some.injEq]at h;obtain⟨_,_,_,_,_,_,h⟩:=h;cases h
   ·rename_i el ht;simp only[bind_eq_bind,bind_eq_some_iff,Option.some.injEq]at h;obtain⟨inf,sV,ax,hx,al,hl,ah,hh,h⟩:=h;cases h;exact⟨t,el,ox,olo,ohi,rfl,ht,hx,hl,hh,inf,sV,rfl⟩
   ·cases h
 all_goals (repeat' split at h)
 all_goals first
  |(simp[bind_eq_some_iff]at h;done)
  |(exfalso;simp_all;done)
theorem agG{ty:TypeId}{op:Op}{s:Nat}{x:aI}{lo hi:Option aI}(h:cOp P ty op=some (.db s x lo hi)):b8 P ty op=some (.db s x lo hi):=by
 unfold cOp ajE at h;simp only[Option.some.injEq]at h
 split at h
 ·rename_i b hb;rcases oK hb with⟨_,_,rfl⟩|⟨_,_,_,_,_,rfl⟩|⟨_,_,_,_,_,_,rfl⟩<;>cases h
 ·cases h0:vV P ty op with
  |none=>rw[h0]at h;cases h
  |some b=>
   rw[h0]at h;simp only[getD_some]at h;subst h;unfold vV at h0
   split at h0
   ·rename_i c;exfalso;unfold vg at h0
    split at h0
    ·split at h0
     ·cases h0
     ·cases h0
     ·cases h0
    ·split at h0
     ·split at h0
      ·simp only[map_eq_some_iff]at h0;obtain⟨_,_,h⟩:=h0;cases h
      ·simp only[map_eq_some_iff]at h0;obtain⟨_,_,h⟩:=h0;cases h
      ·cases h0
     ·cases h0
    ·split at h0
     ·split at h0
      ·simp only[bind_eq_bind,bind_eq_some_iff,Option.some.injEq]at h0;obtain⟨_,_,_,_,_,_,_,_,h⟩:=h0;cases h
      ·cases h0
     ·cases h0
    ·cases h0
   ·rw[bind_eq_some_iff]at h0;obtain⟨b',hb,lh⟩:=h0
    split at lh
    ·cases lh
    ·cases lh;exact hb
theorem aue{ty:TypeId}{op:Op}{el s b:Nat}{z:AV}{x y:aI}(h:cOp P ty op=some (.mk el s b z x y)):b8 P ty op=some (.mk el s b z x y):=by
 unfold cOp ajE at h;simp only[Option.some.injEq]at h
 split at h
 ·rename_i b hb;rcases oK hb with⟨_,_,rfl⟩|⟨_,_,_,_,_,rfl⟩|⟨_,_,_,_,_,_,rfl⟩<;>cases h
 ·cases h0:vV P ty op with
  |none=>rw[h0]at h;cases h
  |some bb=>
   rw[h0]at h;simp only[getD_some]at h;subst h;unfold vV at h0
   split at h0
   ·rename_i c;exfalso;unfold vg at h0
    split at h0
    ·split at h0
     ·cases h0
     ·cases h0
     ·cases h0
    ·split at h0
     ·split at h0
      ·simp only[map_eq_some_iff]at h0;obtain⟨_,_,h⟩:=h0;cases h
      ·simp only[map_eq_some_iff]at h0;obtain⟨_,_,h⟩:=h0;cases h
      ·cases h0
     ·cases h0
    ·split at h0
     ·split at h0
      ·simp only[bind_eq_bind,bind_eq_some_iff,Option.some.injEq]at h0;obtain⟨_,_,_,_,_,_,_,_,h⟩:=h0;cases h
      ·cases h0
     ·cases h0
    ·cases h0
   ·rw[bind_eq_some_iff]at h0;obtain⟨b',hb,lh⟩:=h0
    split at lh
    ·cases lh
    ·cases lh;exact hb
theorem rI{z:AV}(h:z.ag=true):∀n:Nat,AV.ad (List.replicate n z)=true
 |0=>rfl
 |n+1=>by simp only[List.replicate_succ,AV.ad,h,rI h n,Bool.and_self]
theorem aqe{ty:TypeId}{op:Op}{el s b:Nat}{z:AV}{x y:aI}(h:b8 P ty op=some (.mk el s b z x y)):∃t ox oy,op= .makeSlice t ox oy:=by
 cases op<;>simp only[b8]at h
 case makeSlice t ox oy=>exact⟨t,ox,oy,rfl⟩
 all_goals (repeat' split at h)
 all_goals first
  |(cases h;done)
  |(simp[bind_eq_some_iff]at h;done)
  |(exfalso;simp_all;done)
theorem aoB(hi:Inv I L O w)(he:∀t,R I L O (e t) (a.tmps.getD t undef)){ty:TypeId}{op:Op}{d:Option Tmp}{pos:String}{af:Array Edge}{g:Option (Nat×Bool)}{el s b:Nat}{z:AV}{x y:aI}(hc:b8 P ty op=some (.mk el s b z x y))(hk:wpOp P (.mkF el s b z x y) e O K):
  fx P I L O w (execOp a.eval ⟨d,op,ty,pos,af,g⟩) K:=by
 obtain⟨t,ox,oy,rfl⟩:=aqe hc;simp only[b8,bind_eq_bind,bind_eq_some_iff,Option.some.injEq,ew.mk.injEq]at hc;obtain⟨el',fw,⟨s',b',z'⟩,hz,ax,hx,ay,hy,hq⟩:=hc;obtain⟨rfl,rfl,rfl,rfl,rfl,rfl⟩:=hq;have ht:=gm fw;obtain⟨i,z0,h1,h2,h3,rfl,rfl,h4,h5,h6,h7⟩:=e8 hz;have rx:=an hx he;have ry:=an hy he;simp only[wpOp]at hk;generalize ax.ev e=A at rx hk;generalize ay.ev e=B at ry hk;generalize hX:a.eval ox=X at rx;generalize hY:a.eval oy=Y at ry
 split at hk
 ·rename_i n c;obtain⟨q1,q2,q3,q4,q5,hk⟩:=hk;have e1:=rx.exact;have e2:=ry.exact;subst e1;subst e2;have hm:c<=9223372036854775807:=by simpa [maxLen]using q4
  have bK:=run_make (P:=P) w t el' i z0 ht h1 h2 .i64 .i64 n c q1 q2 (by omega) hm;have yn:=fm.made (I:=I) (L:=L) (O:=O) (cap:=c.toNat) (n:=n.toNat) (eO h3) h7 h4 h5 (by omega);have cE:AV.ad (List.replicate n.toNat z')=true:=rI q5 _;obtain⟨I',hg,hr⟩:=hi.av9 (el:=el') (s:=i.size) (xs:=List.replicate n.toNat z') (madeCells z0.cells (c.toNat*i.size)) c.toNat (by simp;omega) (λ k x hx j c hj I' L' O' v hI hv=>hv.ag hI (fg (bf cE x (mem_of_getElem? hx)) c (mem_of_getElem? hj))) yn;rw[List.length_replicate]at hr;refine⟨_,_,_,_,_,_,hk,hg,hr,.inl ?_⟩;simp only[execOp,hX,hY];rw[Sem.run_bind,bK];simp
 ·exact hk.elim
theorem agH{ty:TypeId}{op:Op}{neg:Bool}{x:aI}(h:cOp P ty op=some (.pu (.oj neg) [x])):
  ∃o t y u,op= .binOp o t y (.const (.pointer none)) u/\lZ o=true/\ahu P t=true/\bL y=some x/\neg=jj o:=by
 unfold cOp ajE at h;simp only[Option.some.injEq]at h
 split at h
 ·rename_i b hb;subst h;unfold ajD at hb
  split at hb
  case h_2 o t y u=>
   split at hb
   ·rename_i hq;simp only[bind_eq_bind,bind_eq_some_iff,Option.some.injEq]at hb;obtain⟨ax,hx,hb⟩:=hb;cases hb;exact⟨o,t,y,u,rfl,hq.1,hq.2,hx,rfl⟩
   ·cases hb
  all_goals (repeat' split at hb)
  all_goals first
   |(cases hb;done)
   |(simp[bind_eq_some_iff]at hb;done)
   |(exfalso;simp only[bind_eq_bind,bind_eq_some_iff,Option.some.injEq]at hb;obtain⟨_,_,hb⟩:=hb;cases hb;done)
   |(exfalso;simp only[bind_eq_bind,bind_eq_some_iff,Option.some.injEq]at hb;obtain⟨_,_,hb⟩:=hb;split at hb<;>simp[bind_eq_some_iff]at hb;done)
 ·exfalso;cases h0:vV P ty op with
  |none=>rw[h0]at h;cases h
  |some b=>
   rw[h0]at h;simp only[getD_some]at h;subst h;unfold vV at h0
   split at h0
   ·rename_i c;unfold vg at h0
    split at h0
    ·split at h0
     ·cases h0
     ·cases h0
     ·cases h0
    ·split at h0
     ·split at h0
      ·simp only[map_eq_some_iff]at h0;obtain⟨_,_,h⟩:=h0;cases h
      ·simp only[map_eq_some_iff]at h0;obtain⟨_,_,h⟩:=h0;cases h
      ·cases h0
     ·cases h0
    ·split at h0
     ·split at h0
      ·simp only[bind_eq_bind,bind_eq_some_iff,Option.some.injEq]at h0;obtain⟨_,_,_,_,_,_,_,_,h⟩:=h0;cases h
      ·cases h0
     ·cases h0
    ·cases h0
   ·rw[bind_eq_some_iff]at h0;obtain⟨b',hb,lh⟩:=h0
    split at lh
    ·cases lh
    ·cases lh;cases op<;>simp only[b8]at hb
     all_goals (repeat' split at hb)
     all_goals first
      |(cases hb;done)
      |(simp[bind_eq_some_iff]at hb;done)
      |(exfalso;simp_all;done)
theorem akM(hi:Inv I L O w)(he:∀t,R I L O (e t) (a.tmps.getD t undef)){ty:TypeId}{op:Op}{d:Option Tmp}{pos:String}{af:Array Edge}{g:Option (Nat×Bool)}{neg:Bool}{x:aI}(hc:cOp P ty op=some (.pu (.oj neg) [x]))(hk:wpOp P (.vt neg x) e O K):
  fx P I L O w (execOp a.eval ⟨d,op,ty,pos,af,g⟩) K:=by
 obtain⟨o,t,y,u,rfl,ho,ht,hy,rfl⟩:=agH hc;obtain⟨el,ht⟩:=aau ht;have rx:=an (I:=I) (L:=L) (O:=O) hy he
 have key:∀(b:Bool) (v:Option Addr),a.eval y= .pointer v->v.isNone=b->fx P I L O w (execOp a.eval ⟨d,.binOp o t y (.const (.pointer none)) u,ty,pos,af,g⟩) K∨¬K (.v (.bool (jj o !=b))) O:=by
  intro b v hv hb;by_cases hK:K (.v (.bool (jj o !=b))) O
  ·left;refine fx.same hi hK (.v _ rfl) ?_;have he0:a.eval (.const (.pointer none))= .pointer none:=rfl
   have heq:(Op.equal t (.pointer v) (.pointer none)).run P w= .ok b w:=by
    have e1:Op.equal t (.pointer v) (.pointer none)=Op.equalIn (9999+1) t (.pointer v) (.pointer none):=rfl;rw[e1,Op.equalIn];cases v<;>simp at hb<;>subst hb<;>simp[run_underlying ht]
   rcases acp ho with rfl|rfl
   ·simp[execOp,he0,hv,eqGuard,Go.binOp,heq,jj]
   ·simp[execOp,he0,hv,eqGuard,Go.binOp,heq,jj]
  ·exact .inr hK
 simp only[wpOp]at hk
 split at hk
 ·rename_i hx;rw[hx]at rx;have hv:=rx.exact;rcases key true none hv rfl with h|h
  ·exact h
  ·exact(h hk).elim
 ·rename_i n len i f hx;rw[hx]at rx
  split at hk
  ·rename_i t' s xs hO;have hv:=rx.gQ hO hk.1;rcases key false _ hv rfl with h|h
   ·exact h
   ·exact(h hk.2).elim
  ·exact hk.elim
 ·exact hk.elim
theorem aoE(hi:Inv I L O w)(he:∀t,R I L O (e t) (a.tmps.getD t undef)){ty:TypeId}{op:Op}{d:Option Tmp}{pos:String}{af:Array Edge}{g:Option (Nat×Bool)}{s:Nat}{x:aI}{lo eE:Option aI}(hc:b8 P ty op=some (.db s x lo eE))(hk:wpOp P (.cut s x lo eE) e O K):
  fx P I L O w (execOp a.eval ⟨d,op,ty,pos,af,g⟩) K:=by
 obtain⟨t,el,ox,olo,ohi,rfl,ht,hx,hl,hh,inf,sV,rfl⟩:=aeo hc;have rx:=an hx he;simp only[wpOp]at hk;generalize x.ev e=A at rx hk;generalize hX:a.eval ox=X at rx;cases A
 case aw=>
  obtain⟨l,hk,hlo⟩:=jn hl he hk;obtain⟨h,hk,hhi⟩:=jn hh he hk;obtain⟨rfl,rfl,hk⟩:=hk;cases rx;have hb:=gu (P:=P) (sl:=true) (len:=0) (cap:=0) (zero_le _) hlo (by simpa using hhi) (Int.le_refl _) (Int.le_refl _) (by simp) w;refine fx.same hi hk (y:= .slice none 0 0) .aw ?_;simp only[execOp,hX];simp at hb;simp[Instr.sliceAt,Instr.slice,run_underlying ht,hb,sizeOf,typeInfo,sV]
 case row n len=>
  simp only at hk
  split at hk
  ·rename_i t' s' xs hO;obtain⟨hlen,rfl,hk⟩:=hk;obtain⟨l,hk,hlo⟩:=jn hl he hk;obtain⟨h,hk,hhi⟩:=jn hh he hk;obtain⟨rfl,rfl,hk⟩:=hk;have hv:=rx.ep hO hlen;subst hv;obtain⟨c,⟨kR,q1,dE⟩,q2,q3,q4,q5,q6⟩:=hi.obj n _ _ _ hO;have hb:=gu (P:=P) (sl:=true) (len:=len) (cap:=(L n).cap) (by omega) hlo hhi (Int.le_refl _) (Int.le_refl _) (by omega) w;obtain⟨hg,hr⟩:=Good.cut hi hO;refine⟨_,_,_,_,_,_,hk,hg,hr,.inl ?_⟩;simp only[execOp,hX];simp at hb;simp[Instr.sliceAt,Instr.slice,run_underlying ht,hb,sizeOf,typeInfo,sV,add_lit]
  ·exact hk.elim
 all_goals exact hk.elim
theorem xw{o:Oper}{ao:ew}(hc:cOp P o.type o.op=some ao.strip)(hi:Inv I L O w)(he:∀t,R I L O (e t) (a.tmps.getD t undef))(hk:wpOp P ao e O K){next:Act->World->Prop}{Q:Exit->Act->World->Prop}
  (hn:∀x O' y I' L' w',K x O'->Good I L O w I' L' O' w'->R I' L' O' x y->next (a.put o.dst y) w'):o.wp P a w next Q:=by
 cases yv:ao.zx with
 |false=>exact nF yv hc hi he hk hn
 |true=>
  cases ao<;>first|(simp[ew.zx]at yv;done)|skip
  case cut s x lo eE=>
   obtain⟨dst,op,ty,pos,af,g⟩:=o;exact(aoE hi he (agG hc) hk).wp hn
  case mkF el s b z x y=>
   obtain⟨dst,op,ty,pos,af,g⟩:=o;exact(aoB hi he (aue hc) hk).wp hn
  case xG k t s b z x y=>
   simp only[wpOp]at hk
   split at hk
   ·rename_i n c hx hy;obtain⟨q1,q2,q3,q4,q5,hO,hK⟩:=hk;have cE:AV.ad (List.replicate n.toNat z)=true:=rI q5 _;refine nF (ao:= .mk t s b z x y) rfl hc hi he (K:=λ v O'=>v= .row O.length n.toNat/\O'=O++ [.live t s (List.replicate n.toNat z)]) (by simp only[wpOp,hx,hy];exact⟨by omega,q2,q3,q4,by simp⟩) ?_;rintro x' O' y' I' L' w' ⟨rfl,rfl⟩ hg hr;have hv:=hr.ep (show _=_ from by rw[getElem?_append_right (le_refl _),sub_self];rfl) (by simp);refine hn _ _ y' _ _ w' hK (hg.move hi hO (by simp;omega) (λ z' hz' c hcc=> ?_)) ?_
    ·rw[(List.mem_replicate.1 hz').2]at hcc;exact cp (cA _ q5) c hcc
    ·rw[hv];have:=R.cq (I:=I') (L:=k9 L' k O.length) (O:=O.set k (.live t s (List.replicate n.toNat z))) k n.toNat t s (List.replicate n.toNat z) (getElem?_set_self (List.getElem?_eq_some_iff.1 hO).1) (by simp);simpa [k9]using this
   ·exact hk.elim
  case vt neg x=>
   obtain⟨dst,op,ty,pos,af,g⟩:=o;exact(akM hi he hc hk).wp hn
  case gq k t s z=>
   obtain⟨hz,hO,hK⟩:=hk;refine nF (ao:= .alloc t s z) rfl hc hi he (K:=λ x O'=>x= .ptr O.length 1 0 0/\O'=O++ [.live t s [z]]) ⟨rfl,rfl⟩ ?_;rintro x O' y I' L' w' ⟨rfl,rfl⟩ hg hr;have hv:=hr.gQ (show _=_ from by rw[getElem?_append_right (le_refl _),sub_self];rfl) rfl;refine hn _ _ y _ _ w' hK (hg.move hi hO (by simp) (λ x hx c hcc=> ?_)) ?_
   ·simp at hx;subst hx;exact cp (cA _ hz) c hcc
   ·rw[hv];have:=R.dU (I:=I') (L:=k9 L' k O.length) (O:=O.set k (.live t s [z])) k 1 0 0 t s [z] (getElem?_set_self (List.getElem?_eq_some_iff.1 hO).1) rfl;simpa [k9]using this
  case mo k t s x=>
   obtain⟨hx,hO,h1,h2,hK⟩:=hk;refine nF (ao:= .box t s x) rfl hc hi he (K:=λ y O'=>y= .ptr O.length 1 0 0/\O'=O++ [.live t s [x.ev e]]) ⟨h1,h2,rfl,rfl⟩ ?_;rintro x' O' y I' L' w' ⟨rfl,rfl⟩ hg hr;have hv:=hr.gQ (show _=_ from by rw[getElem?_append_right (le_refl _),sub_self];rfl) rfl;refine hn _ _ y _ _ w' hK (hg.move hi hO (by simp) (λ z hz c hcc=> ?_)) ?_
   ·simp at hz;subst hz;exact cp (aI.zW he hx) c hcc
   ·rw[hv];have:=R.dU (I:=I') (L:=k9 L' k O.length) (O:=O.set k (.live t s [x.ev e])) k 1 0 0 t s [x.ev e] (getElem?_set_self (List.getElem?_eq_some_iff.1 hO).1) rfl;simpa [k9]using this
  case gn k t s len z ps=>
   obtain⟨hz,hp,eh⟩:=hk
   have eh:=uB he ps _ hp (λ x hx c hc=>by
    rw[List.mem_replicate]at hx;rw[hx.2]at hc;exact cp (cA _ hz) c hc) eh
   have hlen:∀(ps:List (Nat×aI)) (zs:List AV) {M:List AV->Prop},mV e s zs ps M->mV e s zs ps λ xs=>xs.length=zs.length/\M xs:=by
    intro ps
    induction ps with
    |nil=>intro zs M h;exact⟨rfl,h⟩
    |cons p ps ih=>
     intro zs M h;obtain⟨h1,h2,h3,h4⟩:=h;have:=ih _ h4;rw[List.length_set]at this;exact⟨h1,h2,h3,this⟩
   have eh:=hlen ps _ eh;rw[List.length_replicate]at eh;refine nF (ao:= .buildSlice t s len z ps) rfl hc hi he (K:=λ y O'=>∃xs,(xs.length=len/\(∀x∈xs,∀c∈x.cells,c.inScope O.length=true)/\O[k]? =some (.nil t s)/\xs≠[]/\K (.row k len) (O.set k (.live t s xs)))/\y= .row O.length len/\O'=O++ [.live t s xs]) ?_ ?_
   ·have awS:∀(ps:List (Nat×aI)) (zs:List AV) {M M':List AV->Prop},(∀xs,M xs->M' xs)->mV e s zs ps M->mV e s zs ps M':=by
      intro ps
      induction ps with
      |nil=>intro zs M M' hm h;exact hm _ h
      |cons p ps ih=>intro zs M M' hm h;obtain⟨h1,h2,h3,h4⟩:=h;exact⟨h1,h2,h3,ih _ hm h4⟩
    exact awS ps _ (λ xs h=>⟨xs,h,rfl,rfl⟩) eh
   ·rintro x' O' y I' L' w' ⟨xs,⟨hl,hsc,hO,bB,hK⟩,rfl,rfl⟩ hg hr;have hv:=hr.ep (show _=_ from by rw[getElem?_append_right (le_refl _),sub_self];rfl) hl;refine hn _ _ y _ _ w' hK (hg.move hi hO bB hsc) ?_;rw[hv];have:=R.cq (I:=I') (L:=k9 L' k O.length) (O:=O.set k (.live t s xs)) k len t s xs (getElem?_set_self (List.getElem?_eq_some_iff.1 hO).1) hl;simpa [k9]using this
end
end Go.Ab
namespace Go.Ab
structure aP where
 guard:Option (Nat×Bool)
 dst:Option Nat
 op:ew
def aP.strip(o:aP):aP:={o with op:=o.op.strip}
def bT(e:Env)(d:Option Nat)(a:AV):Env:=
 match d with
 |some t=>e.set t a
 |none=>e
def wpOps(P:Program):List aP->Env->List ae->(Env->List ae->Prop)->Prop
 | [],e,O,K=>K e O
 |o::r,e,O,K=>
  match o.guard with
  |none=>wpOp P o.op e O λ x O'=>wpOps P r (bT e o.dst x) O' K
  |some (t,want)=>
   match e t with
   | .v (.bool b)=>
     (b=want->wpOp P o.op (e.set t (.v (.bool want))) O λ x O'=>wpOps P r (bT (e.set t (.v (.bool want))) o.dst x) O' K)/\
     (b= !want->wpOps P r (bT (e.set t (.v (.bool (!want)))) o.dst (.ba [])) O K)
   | .ba []=>wpOps P r (bT e o.dst (.ba [])) O K
   |_=>False
inductive EK where
 |fP
 |set (n:Nat)
 |push (n:Nat)
 |any
 |yT (kp:List Nat)
structure g9 where
 rd:List Nat
 k:EK
instance:Inhabited g9:=⟨⟨[],.any⟩⟩
def ly(o:ew)(rf:aI->List Nat)(N:Nat):g9:=
 match o with
 | .mkF _ _ _ _ _ _| .iB _ _ _ _ _| .bc _| .pick _ _ _| .build _ _| .bin _ _ _| .beq _ _ _| .un _ _| .jK _ _| .yC _ _ _| .kU _ _| .fC _ _ _| .db _ _ _ _| .ext _ _| .rK _ _| .kC _| .k7 _ _| .iv _ _=>⟨[],.fP⟩
 | .load _ x| .bX _ x| .ef x| .bM x=>⟨rf x,.fP⟩
 | .fS _ x _| .vi _ _ x _=>⟨rf x,.fP⟩
 | .pu _ as| .lT _ as=>⟨as.flatMap rf,.fP⟩
 | .alloc _ _ _| .box _ _ _| .buildSlice _ _ _ _ _| .mk _ _ _ _ _ _| .eV _ _ _ _ _=>⟨[],.push N⟩
 | .xG k _ _ _ _ _ _| .gq k _ _ _| .mo k _ _ _| .gn k _ _ _ _ _=>⟨[k],.set k⟩
 | .qM rd _ _=>⟨rd,.push N⟩
 | .qN rd _ _=>⟨rd,.fP⟩
 | .nn kp _ _=>⟨[],.yT kp⟩
 | .jC _ _ as=>match as.flatMap rf with
   | [n]=>⟨[n],.set n⟩
   |_=>⟨[],.any⟩
 | .store _ x _=>match rf x with
   | [n]=>⟨[n],.set n⟩
   |_=>⟨[],.any⟩
 | .app _ _ _ x y=>match rf x with
   | [n]=>⟨n::rf y,.set n⟩
   |_=>⟨[],.any⟩
 | .j7 _ _ _ x y=>match rf x with
   | [n]=>⟨n::rf y,.set n⟩
   |_=>⟨[],.any⟩
 |_=>⟨[],.any⟩
def cL(o:ew)(e:Env)(N:Nat):g9:=ly o (λ x=>refs (x.ev e)) N
def EK.keeps:EK->List Nat
 | .yT kp=>kp
 |_=>[]
def g9.pure(kp:List Nat)(l:g9):Bool:=l.rd.all (λ n=>kp.contains n)&&(match l.k with| .fP=>true|_=>false)
def EK.pH:EK->List Nat->Bool
 | .fP,_=>false
 | .set n,rd=>rd.contains n
 | .push n,rd=>rd.contains n
 | .any,_=>true
 | .yT _,_=>true
def EK.isAny:EK->Bool
 | .any=>true
 | .yT _=>true
 |_=>false
def EK.gd:EK->Bool
 | .push _=>true
 |_=>false
def tF(p i:g9):Bool:=
 if p.k.isAny=true then i.pure p.k.keeps else if i.k.isAny=true then p.pure i.k.keeps else
  !(p.k.pH i.rd)&& !(i.k.pH p.rd)&& !(p.k.gd&&i.k.gd)
def aI.rd:aI->List Nat
 | .t n=>[n]
 | .c _=>[]
def alc:Option aI->List Nat
 |some x=>x.rd
 |none=>[]
def ew.reads:ew->List Nat
 | .xF=>[]
 | .aiS _ _ _ m k=>m.rd++k.rd
 | .o5 _ m k v=>m.rd++k.rd++v.rd
 | .zt _ _ m k=>m.rd++k.rd
 | .jY m k v=>m.rd++k.rd++v.rd
 | .zR x| .zU x| .xI _ x| .s2b _ x| .vt _ x=>x.rd
 | .peq _ x y=>x.rd++y.rd
 | .stuck=>[]
 | .iB _ _ _ _ ps=>ps.flatMap λ p=>p.2.rd
 | .pu _ as=>as.flatMap aI.rd
 | .bc x| .box _ _ x| .load _ x| .un _ x| .jK _ x| .bX _ x| .yC _ _ x| .kC x| .bM x| .ext x _| .ef x=>x.rd
 | .alloc _ _ _| .gq _ _ _ _=>[]
 | .mo _ _ _ x=>x.rd
 | .gn _ _ _ _ _ ps=>ps.flatMap λ p=>p.2.rd
 | .pick c a b=>c.rd++a.rd++b.rd
 | .build _ ps=>ps.flatMap λ p=>p.2.2.rd
 | .buildSlice _ _ _ _ ps=>ps.flatMap λ p=>p.2.rd
 | .store _ x y| .bin _ x y| .beq _ x y| .fS _ x y| .vi _ _ x y| .kU x y| .app _ _ _ x y| .j7 _ _ _ x y| .acy _ _ _ _ x y| .mk _ _ _ _ x y| .mkF _ _ _ _ x y| .xG _ _ _ _ _ x y=>x.rd++y.rd
 | .fC x l h| .db _ x l h| .cut _ x l h=>x.rd++alc l++alc h
 | .rK _ cs=>cs.flatMap aI.rd
 | .call _ as| .mG _ as| .k7 _ as| .lT _ as| .eV _ _ _ _ as| .bp _ _ as| .jC _ _ as| .qM _ _ as| .qN _ _ as| .nn _ _ as=>as.flatMap aI.rd
 | .eu x as| .jD x as| .iv x as=>x.rd++as.flatMap aI.rd
def aP.reads(o:aP):List Nat:=(match o.guard with|some (t,_)=>[t]|none=>[])++o.op.reads
def l8(p i:aP×g9):Bool:=
 (match p.1.dst with
  |some t=> !(i.1.reads.contains t)&& !(i.1.dst==some t)
  |none=>true)&&
 (match i.1.dst with
  |some t=> !(p.1.reads.contains t)
  |none=>true)&&tF p.2 i.2
def vT(rows:List (List Nat)):Nat->List Nat
 |0=>[]
 |n+1=>let acc:=vT rows n;acc++ [(rows.getD n []).foldl (λ s j=>s|||(2^j|||acc.getD j 0)) 0]
def ij(rows:List (List Nat))(al:List (aP×g9)):Bool:=
 let c:=vT rows al.length
 (List.range al.length).all λ i=>(rows.getD i []).all (·<i)&&
  (List.range i).all λ p=>(c.getD i 0).testBit p||(match al[p]?,al[i]? with|some x,some y=>l8 x y|_,_=>false)
def cI(P:Program):List aP->List g9->Env->List ae->(List g9->Env->List ae->Prop)->Prop
 | [],acc,e,O,K=>K acc e O
 |o::r,acc,e,O,K=>
  match o.guard with
  |none=>wpOp P o.op e O λ x O'=>cI P r (acc++ [cL o.op e O.length]) (bT e o.dst x) O' K
  |some (t,want)=>
   match e t with
   | .v (.bool b)=>
     (b=want->wpOp P o.op (e.set t (.v (.bool want))) O λ x O'=>cI P r (acc++ [cL o.op (e.set t (.v (.bool want))) O.length]) (bT (e.set t (.v (.bool want))) o.dst x) O' K)/\
     (b= !want->cI P r (acc++ [⟨[],.fP⟩]) (bT (e.set t (.v (.bool (!want)))) o.dst (.ba [])) O K)
   | .ba []=>cI P r (acc++ [⟨[],.fP⟩]) (bT e o.dst (.ba [])) O K
   |_=>False
inductive AX where
 |normal
 |exit (id:Nat)
 |ret
inductive aU where
 |skip
 |region (rows:Option (List (List Nat))) (ops:List aP)
 |seq (a b:aU)
 |cond (c:aI) (t f:aU)
 |block (id:Nat) (b:aU)
 |loop (b:aU)
 |exit (id:Nat)
 |ret
 |aL (live:List Nat) (c:aU)
 |ku (c:aU)
 |gJ (ops:List aP)
def aU.strip:aU->aU
 | .region d ops=> .region d (ops.map aP.strip)
 | .seq a b=> .seq a.strip b.strip
 | .cond c t f=> .cond c t.strip f.strip
 | .block id b=> .block id b.strip
 | .loop b=> .loop b.strip
 | .aL _ c=>c.strip
 | .ku c=>c.strip
 | .gJ ops=> .region none (ops.map aP.strip)
 |c=>c
def sK(live:List Nat)(e:Env):Env:=λ t=>if live.contains t then e t else .top
def WK(n0:Nat)(e:Env)(O:List ae)(e':Env)(O':List ae):Prop:=
 ∀(I0:dv) (L0:Nat->Loc) (O0:List ae) (w0:World) (I:dv) (L:Nat->Loc) (w:World) (f:Nat->Value),O0.length=n0->Good I0 L0 O0 w0 I L O w->(∀t,R I L O (e t) (f t))->
  ∃I' L',Good I0 L0 O0 w0 I' L' O' w/\∀t,R I' L' O' (e' t) (f t)
theorem WK.refl(n0:Nat)(e:Env)(O:List ae):WK n0 e O e O:=λ _ _ _ _ I L _ _ _ h k=>⟨I,L,h,k⟩
theorem WK.trans{n0:Nat}{e e' e'':Env}{O O' oY:List ae}(h:WK n0 e O e' O')(k:WK n0 e' O' e'' oY):WK n0 e O e'' oY:=by
 intro I0 L0 O0 w0 I L w f h0 hg hr;obtain⟨I1,L1,g1,r1⟩:=h I0 L0 O0 w0 I L w f h0 hg hr;exact k I0 L0 O0 w0 I1 L1 w f h0 g1 r1
def gD(P:Program)(n0:Nat):List aP->Env->List ae->(Env->List ae->Prop)->Prop
 | [],e,O,K=>∃e' O',WK n0 e O e' O'/\K e' O'
 |o::r,e0,O0,K=>∃e O,WK n0 e0 O0 e O/\
  match o.guard with
  |none=>wpOp P o.op e O λ x O'=>gD P n0 r (bT e o.dst x) O' K
  |some (t,want)=>
   match e t with
   | .v (.bool b)=>
     (b=want->wpOp P o.op (e.set t (.v (.bool want))) O λ x O'=>gD P n0 r (bT (e.set t (.v (.bool want))) o.dst x) O' K)/\
     (b= !want->gD P n0 r (bT (e.set t (.v (.bool (!want)))) o.dst (.ba [])) O K)
   | .ba []=>gD P n0 r (bT e o.dst (.ba [])) O K
   |_=>False
def jR(P:Program)(n0:Nat):aU->(AX->Env->List ae->Prop)->Env->List ae->Prop
 | .skip,Q,e,O=>Q .normal e O
 | .region none ops,Q,e,O=>wpOps P ops e O (Q .normal)
 | .region (some rows) ops,Q,e,O=>∃al,al.map aP.strip=ops.map aP.strip/\cI P al [] e O λ ic e O=>ij rows (al.zip ic)=true/\Q .normal e O
 | .seq a b,Q,e,O=>jR P n0 a (λ x e O=>match x with| .normal=>jR P n0 b Q e O|x=>Q x e O) e O
 | .cond c t f,Q,e,O=>match c.ev e with
   | .v (.bool b)=>(b=true->jR P n0 t Q e O)/\(b=false->jR P n0 f Q e O)
   |_=>False
 | .block id b,Q,e,O=>jR P n0 b (λ x e O=>match x with| .exit i=>if i=id then Q .normal e O else Q (.exit i) e O|x=>Q x e O) e O
 | .loop b,Q,e,O=>∃(J:Nat->Env->List ae->Prop) (n:Nat),(∃e' O',WK n0 e O e' O'/\J n e' O')/\
  ∀n e O,J n e O->jR P n0 b (λ x e O=>match x with| .normal=>∃m e' O',m<n/\WK n0 e O e' O'/\J m e' O'|x=>Q x e O) e O
 | .exit id,Q,e,O=>Q (.exit id) e O
 | .ret,Q,e,O=>Q .ret e O
 | .aL live c,Q,e,O=>jR P n0 c (λ x e O=>match x with| .normal=>Q .normal (sK live e) O|x=>Q x e O) e O
 | .ku c,Q,e,O=>∃e' O',WK n0 e O e' O'/\jR P n0 c Q e' O'
 | .gJ ops,Q,e,O=>gD P n0 ops e O (Q .normal)
inductive dO where
 |tmp (t:Nat)
 |cell (t:Nat) (n:Option Nat)
def dO.get(e:Env)(O:List ae)(r:dO)(K:AV->Prop):Prop:=
 match r with
 | .tmp t=>K (e t)
 | .cell t n=>match e t with
   | .ptr k 1 0 0=>match O[k]? with
     |some (.live _ _ [x])=>n.getD 1<=x.cells.length/\K (dG n x 0)
     |_=>False
   |_=>False
def dQ(e:Env)(O:List ae):List dO->List AV->(List AV->Prop)->Prop
 | [],acc,K=>K acc.reverse
 |r::rs,acc,K=>r.get e O λ x=>dQ e O rs (x::acc) K
def bz:List AV->AV
 | [x]=>x
 |xs=> .ba xs
def n7(n0:Nat)(rs:List dO)(res:AV)(O':List ae)(x:AX)(e:Env)(O:List ae):Prop:=
 match x with
 | .exit _=>False
 |_=>dQ e O rs [] λ xs=>∃e',WK n0 (λ t=>if t=0 then bz xs else .top) O e' O'/\e' 0=res
def pU(ops:Array Oper)(nt:Nat)(g:Option (Nat×Bool)):Option (Option (Nat×Bool)):=
 match g with
 |none=>some none
 |some (j,b)=>match(ops[j]?).bind (·.dst)with
  |some t=>if t<nt then some (some (t,b))else none
  |none=>none
def rowsOf(ops:Array Oper):List (List Nat):=ops.toList.map λ o=>(o.after.toList.filter (Region.binds .any)).map (·.on)
def oV(P:Program)(nt:Nat)(ops:Array Oper)(o:Oper):Option aP:=
 match cOp P o.type o.op,pU ops nt o.guard with
 |some op,some g=>if o.dst.all (·<nt)=true then some ⟨g,o.dst,op⟩else none
 |_,_=>none
def fJ(P:Program)(nt:Nat):Code->Option aU
 | .skip=>some .skip
 | .region _ ops false=>(ops.toList.mapM (oV P nt ops)).map (.region none)
 | .region _ ops true=>if Region.departs ops=true/\P.follows .mixedOrders=false then none else(ops.toList.mapM (oV P nt ops)).map (.region (some (rowsOf ops)))
 | .seq a b=>match fJ P nt a,fJ P nt b with
   |some a,some b=>some (.seq a b)
   |_,_=>none
 | .cond c t f=>match bL c,fJ P nt t,fJ P nt f with
   |some c,some t,some f=>some (.cond c t f)
   |_,_,_=>none
 | .block id b=>(fJ P nt b).map (.block id)
 | .loop b=>(fJ P nt b).map .loop
 | .exit id=>some (.exit id)
 | .ret=>some .ret
 |_=>none
def ajB(P:Program)(r:ResultVar):Option dO:=
 match r with
 | .tmp t=>some (.tmp t)
 | .cell t ty=>(uk P ty).map (.cell t)
structure nT where
 dX:Nat
 nt:Nat
 code:aU
 res:List dO
def mg(args:List AV):Env:=λ t=>args.getD t (.ba [])
end Go.Ab
namespace Go.Ab
def ew.cls:ew->Nat
 | .mkF _ _ _ _ _ _| .iB _ _ _ _ _| .bc _| .pick _ _ _| .build _ _| .bin _ _ _| .beq _ _ _| .un _ _| .jK _ _| .yC _ _ _| .kU _ _| .fC _ _ _| .db _ _ _ _| .ext _ _| .rK _ _| .kC _| .k7 _ _| .iv _ _=>0
 | .load _ _| .bX _ _| .ef _| .fS _ _ _| .vi _ _ _ _| .bM _| .pu _ _| .lT _ _=>1
 | .alloc _ _ _| .box _ _ _| .buildSlice _ _ _ _ _| .mk _ _ _ _ _ _| .eV _ _ _ _ _=>2
 |_=>3
def oX(l:List Nat)(e e':Env):Prop:=∀t∈l,e t=e' t
theorem oX.ev{x:aI}{e e':Env}{l:List Nat}(h:oX l e e')(hx:∀t∈x.rd,t∈l):x.ev e=x.ev e':=by
 cases x with
 |t n=>exact h n (hx n (by simp[aI.rd]))
 |c a=>rfl
theorem oX.a9{xs:List aI}{e e':Env}{l:List Nat}(h:oX l e e')(hx:∀t∈xs.flatMap aI.rd,t∈l):xs.map (aI.ev e)=xs.map (aI.ev e'):=by
 apply map_congr_left;intro x hm;exact h.ev λ t ht=>hx t (List.mem_flatMap.2 ⟨x,hm,ht⟩)
theorem iq{d:Int}{e e':Env}{x:Option aI}{l:List Nat}(h:oX l e e')(hx:∀t∈alc x,t∈l)(K:Int->Prop):ft d e x K=ft d e' x K:=by
 cases x with
 |none=>rfl
 |some o=>simp only[ft];rw[h.ev hx]
theorem ta{e e':Env}{l:List Nat}(h:oX l e e'):∀(ps:List (Nat×Nat×aI)) (z:List AV) (K:AV->Prop),(∀t∈ps.flatMap (λ p=>p.2.2.rd),t∈l)->jd e z ps K=jd e' z ps K
 | [],_,_,_=>rfl
 |(off,size,x)::r,z,K,hx=>by
  simp only[jd];rw[h.ev (x:=x) λ t ht=>hx t (by simp[ht]),ta h r _ K λ t ht=>hx t (by simp only[List.flatMap_cons,mem_append];exact .inr ht)]
theorem nZ{e e':Env}{l:List Nat}(h:oX l e e')(s:Nat):∀(ps:List (Nat×aI)) (z:List AV) (K:List AV->Prop),(∀t∈ps.flatMap (λ p=>p.2.rd),t∈l)->mV e s z ps K=mV e' s z ps K
 | [],_,_,_=>rfl
 |(i,x)::r,z,K,hx=>by
  simp only[mV];rw[h.ev (x:=x) λ t ht=>hx t (by simp[ht]),nZ h s r _ K λ t ht=>hx t (by simp only[List.flatMap_cons,mem_append];exact .inr ht)]
theorem afc{P:Program}{o:ew}{e e':Env}(h:oX o.reads e e')(O:List ae)(K:AV->List ae->Prop):wpOp P o e O K=wpOp P o e' O K:=by
 cases o<;>simp only[ew.reads]at h<;>simp only[wpOp]
 case bc x=>rw[h.ev λ t ht=>ht]
 case pick c a b=>rw[h.ev (x:=c) (by simp+contextual),h.ev (x:=a) (by simp+contextual),h.ev (x:=b) (by simp+contextual)]
 case box t s x=>rw[h.ev λ t ht=>ht]
 case build z ps=>exact ta h ps z _ λ t ht=>ht
 case buildSlice t s len z ps=>exact nZ h s ps _ _ λ t ht=>ht
 case iB t s len z ps=>exact nZ h s ps _ _ λ t ht=>ht
 case pu o as=>
  have hm:(as.map λ x=>iF O (x.ev e))=as.map λ x=>iF O (x.ev e'):=map_congr_left λ x hx=>by rw[h.ev (x:=x) λ t ht=>List.mem_flatMap.2 ⟨x,hx,ht⟩]
  rw[hm]
 case j7 t s b x y=>rw[h.ev (x:=x) (by simp+contextual),h.ev (x:=y) (by simp+contextual)]
 case load n x=>rw[h.ev λ t ht=>ht]
 case store m x y=>rw[h.ev (x:=x) (by simp+contextual),h.ev (x:=y) (by simp+contextual)]
 case bin op x y=>rw[h.ev (x:=x) (by simp+contextual),h.ev (x:=y) (by simp+contextual)]
 case beq neg x y=>rw[h.ev (x:=x) (by simp+contextual),h.ev (x:=y) (by simp+contextual)]
 case un op x=>rw[h.ev λ t ht=>ht]
 case jK k x=>rw[h.ev λ t ht=>ht]
 case bX k x=>rw[h.ev λ t ht=>ht]
 case yC k n x=>rw[h.ev λ t ht=>ht]
 case fS s x y=>rw[h.ev (x:=x) (by simp+contextual),h.ev (x:=y) (by simp+contextual)]
 case vi m s x y=>rw[h.ev (x:=x) (by simp+contextual),h.ev (x:=y) (by simp+contextual)]
 case kU x y=>rw[h.ev (x:=x) (by simp+contextual),h.ev (x:=y) (by simp+contextual)]
 case fC x lo hi=>
  have e1:=λ d K=>iq (d:=d) (x:=lo) h (by simp+contextual) K
  have e2:=λ d K=>iq (d:=d) (x:=hi) h (by simp+contextual) K
  rw[h.ev (x:=x) (by simp+contextual)];simp only[e1,e2]
 case db s x lo hi=>
  have e1:=λ d K=>iq (d:=d) (x:=lo) h (by simp+contextual) K
  have e2:=λ d K=>iq (d:=d) (x:=hi) h (by simp+contextual) K
  rw[h.ev (x:=x) (by simp+contextual)];simp only[e1,e2]
 case acy t s b z x y=>rw[h.ev (x:=x) (by simp+contextual),h.ev (x:=y) (by simp+contextual)]
 case cut s x lo hi=>
  have e1:=λ d K=>iq (d:=d) (x:=lo) h (by simp+contextual) K
  have e2:=λ d K=>iq (d:=d) (x:=hi) h (by simp+contextual) K
  rw[h.ev (x:=x) (by simp+contextual)];simp only[e1,e2]
 case mkF t s b z x y=>rw[h.ev (x:=x) (by simp+contextual),h.ev (x:=y) (by simp+contextual)]
 case xG k t s b z x y=>rw[h.ev (x:=x) (by simp+contextual),h.ev (x:=y) (by simp+contextual)]
 case mk t s b z x y=>rw[h.ev (x:=x) (by simp+contextual),h.ev (x:=y) (by simp+contextual)]
 case kC x=>rw[h.ev λ t ht=>ht]
 case bM x=>rw[h.ev λ t ht=>ht]
 case app t s b x y=>rw[h.ev (x:=x) (by simp+contextual),h.ev (x:=y) (by simp+contextual)]
 case ext x i=>rw[h.ev λ t ht=>ht]
 case ef x=>rw[h.ev λ t ht=>ht]
 case rK f cs=>rw[h.a9 λ t ht=>ht]
 case call f as=>rw[h.a9 λ t ht=>ht]
 case eu x as=>rw[h.ev (x:=x) (by simp+contextual),h.a9 (xs:=as) (by simp+contextual)]
 case mG f as=>
  have hm:(as.map λ x=>iF O (x.ev e))=as.map λ x=>iF O (x.ev e'):=map_congr_left λ x hx=>by rw[h.ev (x:=x) λ t ht=>List.mem_flatMap.2 ⟨x,hx,ht⟩]
  rw[hm,h.a9 λ t ht=>ht]
 case jD x as=>
  have hm:(as.map λ x=>iF O (x.ev e))=as.map λ x=>iF O (x.ev e'):=map_congr_left λ x hx=>by rw[h.ev (x:=x) λ t ht=>List.mem_append_right _ (List.mem_flatMap.2 ⟨x,hx,ht⟩)]
  rw[hm,h.ev (x:=x) (by simp+contextual),h.a9 (xs:=as) (by simp+contextual)]
 case k7 f as=>rw[h.a9 λ t ht=>ht]
 case lT f as=>
  have hm:(as.map λ x=>iF O (x.ev e))=as.map λ x=>iF O (x.ev e'):=map_congr_left λ x hx=>by rw[h.ev (x:=x) λ t ht=>List.mem_flatMap.2 ⟨x,hx,ht⟩]
  rw[hm]
 case eV nl t s f as=>rw[h.a9 λ t ht=>ht]
 case aiS ok d z m k=>rw[h.ev (x:=m) (by simp+contextual),h.ev (x:=k) (by simp+contextual)]
 case zt ok z m k=>rw[h.ev (x:=m) (by simp+contextual),h.ev (x:=k) (by simp+contextual)]
 case jY m k v=>rw[h.ev (x:=m) (by simp+contextual),h.ev (x:=k) (by simp+contextual),h.ev (x:=v) (by simp+contextual)]
 case zR x=>rw[h.ev λ t ht=>ht]
 case zU x=>rw[h.ev λ t ht=>ht]
 case xI t x=>rw[h.ev λ t ht=>ht]
 case s2b t x=>rw[h.ev λ t ht=>ht]
 case vt neg x=>rw[h.ev λ t ht=>ht]
 case peq neg x y=>rw[h.ev (x:=x) (by simp+contextual),h.ev (x:=y) (by simp+contextual)]
 case o5 d m k v=>rw[h.ev (x:=m) (by simp+contextual),h.ev (x:=k) (by simp+contextual),h.ev (x:=v) (by simp+contextual)]
 case qM rd f as=>rw[h.a9 λ t ht=>ht]
 case qN rd f as=>rw[h.a9 λ t ht=>ht]
 case nn rd f as=>rw[h.a9 λ t ht=>ht]
 case mo k t s x=>rw[h.ev λ t ht=>ht]
 case gn k t s len z ps=>
  have:=nZ h s ps (List.replicate len z) (λ xs=>O[k]? =some (.nil t s)/\xs≠[]/\K (.row k len) (O.set k (.live t s xs))) λ t ht=>ht
  rw[this]
 case bp gs f as=>rw[h.a9 λ t ht=>ht]
 case jC gs f as=>
  have hm:(as.flatMap λ x=>refs (x.ev e))=as.flatMap λ x=>refs (x.ev e'):=by
   simp only[←List.flatMap_map (aI.ev e) refs,←List.flatMap_map (aI.ev e') refs];rw[h.a9 λ t ht=>ht]
  rw[h.a9 λ t ht=>ht,hm]
 case iv x as=>rw[h.ev (x:=x) (by simp+contextual),h.a9 (xs:=as) (by simp+contextual)]
def Ex(P:Program)(o:ew)(e:Env)(O:List ae)(x:AV)(O':List ae):Prop:=∀K:AV->List ae->Prop,K x O'->wpOp P o e O K
theorem aaT{e:Env}:∀(ps:List (Nat×Nat×aI)) (z:List AV) {K:AV->Prop},jd e z ps K->∃x,K x/\∀K':AV->Prop,K' x->jd e z ps K'
 | [],_,_,h=>⟨_,h,λ _ h=>h⟩
 |(off,size,x)::r,z,K,h=>by
  obtain⟨h1,h2,h3,h4⟩:=h;obtain⟨y,h5,h6⟩:=aaT r _ h4;exact⟨y,h5,λ K' h=>⟨h1,h2,h3,h6 K' h⟩⟩
theorem su{e:Env}{s:Nat}:∀(ps:List (Nat×aI)) (z:List AV) {K:List AV->Prop},mV e s z ps K->∃x,K x/\∀K':List AV->Prop,K' x->mV e s z ps K'
 | [],_,_,h=>⟨_,h,λ _ h=>h⟩
 |(i,x)::r,z,K,h=>by
  obtain⟨h1,h2,h3,h4⟩:=h;obtain⟨y,h5,h6⟩:=su r _ h4;exact⟨y,h5,λ K' h=>⟨h1,h2,h3,h6 K' h⟩⟩
theorem jo{d:Int}{e:Env}{x:Option aI}{K:Int->Prop}(h:ft d e x K):∃i,K i/\∀K':Int->Prop,K' i->ft d e x K':=by
 cases x with
 |none=>exact⟨_,h,λ _ h=>h⟩
 |some o=>
  simp only[ft]at h⊢
  split at h
  ·exact⟨_,h,λ _ h=>h⟩
  ·exact h.elim
theorem ex0{P:Program}{o:ew}(hc:o.cls=0){e:Env}{O:List ae}{K:AV->List ae->Prop}(h:wpOp P o e O K):
  ∃x,K x O/\∀O',Ex P o e O' x O':=by
 cases o<;>simp only[ew.cls]at hc<;>first|(cases hc;done)|skip
 case bc x=>exact⟨_,h,λ O' K' h'=>h'⟩
 case pick c a b=>
  simp only[wpOp]at h
  split at h
  ·rename_i t ht;exact⟨_,h,λ O' K' h'=>by simp only[wpOp,ht];exact h'⟩
  ·exact h.elim
 case build z ps=>
  obtain⟨x,h1,h2⟩:=aaT ps z h;exact⟨x,h1,λ O' K' h'=>h2 (λ a=>K' a O') h'⟩
 case mkF t s b z x y=>
  simp only[wpOp]at h
  split at h
  ·rename_i n c hx hy;obtain⟨h1,h2,h3,h4,h5,h6⟩:=h;exact⟨_,h6,λ O' K' h'=>by simp only[wpOp,hx,hy];exact⟨h1,h2,h3,h4,h5,h'⟩⟩
  ·exact h.elim
 case iB t s len z ps=>
  obtain⟨xs,⟨cE,h1⟩,h2⟩:=su ps _ h;exact⟨_,h1,λ O' K' h'=>h2 (λ xs=>AV.ad xs=true/\K' (.sl xs) O') ⟨cE,h'⟩⟩
 case beq neg x y=>
  simp only[wpOp]at h
  split at h
  ·rename_i a b ha hb;exact⟨_,h,λ O' K' h'=>by simp only[wpOp,ha,hb];exact h'⟩
  ·exact h.elim
 case bin op x y=>
  simp only[wpOp]at h
  split at h
  ·rename_i a b ha hb
   split at h
   ·rename_i z hz;exact⟨_,h,λ O' K' h'=>by simp only[wpOp,ha,hb,hz];exact h'⟩
   ·exact h.elim
  ·exact h.elim
 case un op x=>
  simp only[wpOp]at h
  split at h
  ·rename_i a ha
   split at h
   ·rename_i z hz;exact⟨_,h,λ O' K' h'=>by simp only[wpOp,ha,hz];exact h'⟩
   ·exact h.elim
  ·exact h.elim
 case jK k x=>
  simp only[wpOp]at h
  split at h
  ·rename_i k' n ha;exact⟨_,h,λ O' K' h'=>by simp only[wpOp,ha];exact h'⟩
  ·exact h.elim
 case yC off n x=>exact⟨_,h.2.2,λ O' K' h'=>⟨h.1,h.2.1,h'⟩⟩
 case kU x i=>
  simp only[wpOp]at h
  split at h
  ·rename_i s k j ha hb;exact⟨_,h.2.2,λ O' K' h'=>by simp only[wpOp,ha,hb];exact⟨h.1,h.2.1,h'⟩⟩
  ·exact h.elim
 case fC x lo hi=>
  simp only[wpOp]at h
  split at h
  ·rename_i s ha;obtain⟨l,h1,h2⟩:=jo h;obtain⟨u,h3,h4⟩:=jo h1;exact⟨_,h3.2.2.2,λ O' K' h'=>by simp only[wpOp,ha];exact h2 _ (h4 _ ⟨h3.1,h3.2.1,h3.2.2.1,h'⟩)⟩
  ·exact h.elim
 case db s x lo hi=>
  simp only[wpOp]at h
  split at h
  ·rename_i s ha;obtain⟨l,h1,h2⟩:=jo h;obtain⟨u,h3,h4⟩:=jo h1;exact⟨_,h3.2.2.2.2,λ O' K' h'=>by simp only[wpOp,ha];exact h2 _ (h4 _ ⟨h3.1,h3.2.1,h3.2.2.1,h3.2.2.2.1,h'⟩)⟩
  ·exact h.elim
 case kC x=>
  simp only[wpOp]at h
  split at h
  ·rename_i s ha;exact⟨_,h,λ O' K' h'=>by simp only[wpOp,ha];exact h'⟩
  ·exact h.elim
 case ext x i=>
  simp only[wpOp]at h
  split at h
  ·rename_i vs ha;exact⟨_,h.2,λ O' K' h'=>by simp only[wpOp,ha];exact⟨h.1,h'⟩⟩
  ·exact h.elim
 case rK f cs=>exact⟨_,h,λ O' K' h'=>h'⟩
 case k7 f as=>
  obtain⟨r,h1,h2,h3⟩:=h;exact⟨r,h3,λ O' K' h'=>⟨r,h1,h2,h'⟩⟩
 case iv x as=>
  simp only[wpOp]at h
  split at h
  ·rename_i f a6 ha;obtain⟨r,h1,h2,h3⟩:=h;exact⟨r,h3,λ O' K' h'=>by simp only[wpOp,ha];exact⟨r,h1,h2,h'⟩⟩
  ·exact h.elim
def oN(rd:List Nat)(O O':List ae):Prop:=∀n∈rd,O'[n]? =O[n]?
theorem ajk{O O':List ae}{a:AV}(h:oN (refs a) O O'):iF O' a=iF O a:=by
 cases a with
 |row n len=>simp only[iF,h n (by simp[refs])]
 |own n=>simp only[iF,h n (by simp[refs])]
 |_=>rfl
theorem yx{O O':List ae}{e:Env}{as:List aI}(h:oN (as.flatMap λ x=>refs (x.ev e)) O O'):(as.map λ x=>iF O' (x.ev e))=as.map λ x=>iF O (x.ev e):=
 map_congr_left λ x hx=>ajk λ n hn=>h n (List.mem_flatMap.2 ⟨x,hx,hn⟩)
theorem ex1{P:Program}{o:ew}(hc:o.cls=1){e:Env}{O:List ae}{K:AV->List ae->Prop}(h:wpOp P o e O K):
  ∃x,K x O/\∀O' N,oN (cL o e N).rd O O'->Ex P o e O' x O':=by
 cases o<;>simp only[ew.cls]at hc<;>first|(cases hc;done)|skip
 case pu o as=>
  obtain⟨hn,hk⟩:=h;unfold puK at hk
  split at hk
  ·rename_i v hv;refine⟨v,hk,λ O' N ha K' h'=> ?_⟩;have hm:=yx (O:=O) (O':=O') (e:=e) (as:=as) ha;exact⟨by rw[hm];exact hn,by rw[hm];unfold puK;rw[hv];exact h'⟩
  ·exact hk.elim
 case lT f as=>
  obtain⟨r,h1,h2,h3,h4⟩:=h;refine⟨r,h4,λ O' N ha K' h'=> ?_⟩;have hm:=yx (O:=O) (O':=O') (e:=e) (as:=as) ha;exact⟨r,h1,by rw[hm];exact h2,by rw[hm];exact h3,h'⟩
 case load n x=>
  simp only[wpOp]at h
  split at h
  ·rename_i y f ha;exact⟨_,h.2,λ O' N hg K' h'=>by simp only[wpOp,ha];exact⟨h.1,h'⟩⟩
  ·rename_i k len i f ha
   split at h
   ·rename_i t s xs hO;obtain⟨h1,h2,h3,h4⟩:=h
    exact⟨_,h4,λ O' N hg K' h'=>by
     have o9:=hg k (by simp[cL,ly,ha,refs]);simp only[wpOp,ha,o9,hO];exact⟨h1,h2,h3,h'⟩⟩
   ·exact h.elim
  ·exact h.elim
 case bX off x=>
  simp only[wpOp]at h
  split at h
  ·rename_i y f ha;exact⟨_,h,λ O' N hg K' h'=>by simp only[wpOp,ha];exact h'⟩
  ·rename_i k len i f ha
   split at h
   ·rename_i t s xs hO
    exact⟨_,h.2,λ O' N hg K' h'=>by
     have o9:=hg k (by simp[cL,ly,ha,refs]);simp only[wpOp,ha,o9,hO];exact⟨h.1,h'⟩⟩
   ·exact h.elim
  ·exact h.elim
 case ef x=>
  simp only[wpOp]at h
  split at h
  ·rename_i y f ha;exact⟨_,h,λ O' N hg K' h'=>by simp only[wpOp,ha];exact h'⟩
  ·rename_i y f ha;exact⟨_,h,λ O' N hg K' h'=>by simp only[wpOp,ha];exact h'⟩
  ·rename_i k len i f ha
   split at h
   ·rename_i t s xs hO
    exact⟨_,h.2,λ O' N hg K' h'=>by
     have o9:=hg k (by simp[cL,ly,ha,refs]);simp only[wpOp,ha,o9,hO];exact⟨h.1,h'⟩⟩
   ·exact h.elim
  ·exact h.elim
 case fS s x y=>
  simp only[wpOp]at h
  split at h
  ·rename_i xs k i ha hb;obtain⟨h1,h2,h3,h4⟩:=h;exact⟨_,h4,λ O' N hg K' h'=>by simp only[wpOp,ha,hb];exact⟨h1,h2,h3,h'⟩⟩
  ·rename_i n len k i ha hb
   split at h
   ·rename_i t s' xs hO;obtain⟨h1,h2,h3,h4,h5⟩:=h
    exact⟨_,h5,λ O' N hg K' h'=>by
     have o9:=hg n (by simp[cL,ly,ha,refs]);simp only[wpOp,ha,hb,o9,hO];exact⟨h1,h2,h3,h4,h'⟩⟩
   ·exact h.elim
  ·exact h.elim
 case vi m s x y=>
  simp only[wpOp]at h
  split at h
  ·rename_i b f k i ha hb;obtain⟨h1,h2,h3⟩:=h;exact⟨_,h3,λ O' N hg K' h'=>by simp only[wpOp,ha,hb];exact⟨h1,h2,h'⟩⟩
  ·rename_i n len j f k i ha hb
   split at h
   ·rename_i t s' xs hO;obtain⟨h1,h2,h3,h4⟩:=h
    exact⟨_,h4,λ O' N hg K' h'=>by
     have o9:=hg n (by simp[cL,ly,ha,refs]);simp only[wpOp,ha,hb,o9,hO];exact⟨h1,h2,h3,h'⟩⟩
   ·exact h.elim
  ·exact h.elim
 case bM x=>
  simp only[wpOp]at h
  split at h
  ·rename_i ha;exact⟨_,h,λ O' N hg K' h'=>by simp only[wpOp,ha];exact h'⟩
  ·rename_i xs ha;exact⟨_,h,λ O' N hg K' h'=>by simp only[wpOp,ha];exact h'⟩
  ·rename_i k len ha;have o9:∀O' N,oN (cL (.bM x) e N).rd O O'->O'[k]? =O[k]? :=λ O' N hg=>hg k (by simp[cL,ly,ha,refs])
   split at h
   ·rename_i t s xs hO;exact⟨_,h.2,λ O' N hg K' h'=>by simp only[wpOp,ha,o9 O' N hg,hO];exact⟨h.1,h'⟩⟩
   ·rename_i t s hO;exact⟨_,h.2,λ O' N hg K' h'=>by simp only[wpOp,ha,o9 O' N hg,hO];exact⟨h.1,h'⟩⟩
   ·exact h.elim
  ·exact h.elim
theorem ex2{P:Program}{o:ew}(hc:o.cls=2){e:Env}{O:List ae}{K:AV->List ae->Prop}(h:wpOp P o e O K):
  ∃x b,K x (O++ [b])/\∀O',O'.length=O.length->Ex P o e O' x (O'++ [b]):=by
 cases o<;>simp only[ew.cls]at hc<;>first|(cases hc;done)|skip
 case alloc t s z=>exact⟨_,_,h,λ O' hl K' h'=>by simp only[wpOp,hl];exact h'⟩
 case box t s x=>exact⟨_,_,h.2.2,λ O' hl K' h'=>by simp only[wpOp,hl];exact⟨h.1,h.2.1,h'⟩⟩
 case buildSlice t s len z ps=>
  obtain⟨xs,h1,h2⟩:=su ps _ h;exact⟨.row O.length len,.live t s xs,h1,λ O' hl K' h'=>by simp only[wpOp];exact h2 (λ ys=>K' (.row O'.length len) (O'++ [ae.live t s ys])) (by rw[hl];exact h')⟩
 case eV nl t s f as=>
  obtain⟨res,ob,h1,h2,h3⟩:=h;exact⟨_,_,h3,λ O' hl K' h'=>⟨res,ob,h1,h2,by rw[hl];exact h'⟩⟩
 case mk t s b z x y=>
  simp only[wpOp]at h
  split at h
  ·rename_i n c ha hb;obtain⟨h1,h2,h3,h4,h5⟩:=h;exact⟨_,_,h5,λ O' hl K' h'=>by simp only[wpOp,ha,hb,hl];exact⟨h1,h2,h3,h4,h'⟩⟩
  ·exact h.elim
theorem aoj{O:List ae}{y:AV}{K:List AV->Prop}(h:rh O y K):∃ys,K ys/\∀K':List AV->Prop,K' ys->rh O y K':=by
 unfold rh at h
 split at h
 ·exact⟨_,h,λ K' h'=>h'⟩
 ·exact⟨_,h,λ K' h'=>h'⟩
 ·rename_i n len
  split at h
  ·rename_i t s xs hO;exact⟨_,h.2,λ K' h'=>by simp only[rh,hO];exact⟨h.1,h'⟩⟩
  ·rename_i t s hO;exact⟨_,h.2,λ K' h'=>by simp only[rh,hO];exact⟨h.1,h'⟩⟩
  ·exact h.elim
 ·exact h.elim
theorem ahT{O:List ae}{x:AV}{t s b:Nat}{ys:List AV}{K:AV->List ae->Prop}(h:gY O x t s b ys K):∃r O',K r O'/\∀K':AV->List ae->Prop,K' r O'->gY O x t s b ys K':=by
 unfold gY at h
 split at h
 ·obtain⟨h1,h2,h3,h4⟩:=h;by_cases hy:ys= []
  ·exact⟨_,_,h3 hy,λ K' h'=>⟨h1,h2,λ _=>h',λ hn=>(hn hy).elim⟩⟩
  ·exact⟨_,_,h4 hy,λ K' h'=>⟨h1,h2,λ hn=>(hy hn).elim,λ _=>h'⟩⟩
 ·rename_i n len
  split at h
  ·rename_i t' s' xs hO;obtain⟨h1,h2,h3,h4,h5,h6⟩:=h;exact⟨_,_,h6,λ K' h'=>by simp only[gY,hO];exact⟨h1,h2,h3,h4,h5,h'⟩⟩
  ·rename_i t' s' hO;obtain⟨h1,h2,h3,h4,h5,h6,h7⟩:=h;by_cases hy:ys= []
   ·exact⟨_,_,h6 hy,λ K' h'=>by simp only[gY,hO];exact⟨h1,h2,h3,h4,h5,λ _=>h',λ hn=>(hn hy).elim⟩⟩
   ·exact⟨_,_,h7 hy,λ K' h'=>by simp only[gY,hO];exact⟨h1,h2,h3,h4,h5,λ hn=>(hy hn).elim,λ _=>h'⟩⟩
  ·exact h.elim
 ·exact h.elim
theorem u9{P:Program}{o:ew}{e:Env}{O:List ae}{K:AV->List ae->Prop}(h:wpOp P o e O K):∃x O',K x O'/\Ex P o e O x O':=by
 by_cases h0:o.cls=0
 ·obtain⟨x,h1,h2⟩:=ex0 h0 h;exact⟨x,O,h1,h2 O⟩
 by_cases h1:o.cls=1
 ·obtain⟨x,h1,h2⟩:=ex1 h1 h;exact⟨x,O,h1,h2 O 0 λ _ _=>rfl⟩
 by_cases h2:o.cls=2
 ·obtain⟨x,b,h1,h2⟩:=ex2 h2 h;exact⟨x,_,h1,h2 O rfl⟩
 cases o<;>first|(exact(h0 rfl).elim)|(exact(h1 rfl).elim)|(exact(h2 rfl).elim)|skip
 case stuck=>exact h.elim
 case acy t s b z x y=>
  simp only[wpOp]at h
  split at h
  ·rename_i k ha hb;exact⟨_,_,h.2.2.2,λ K' h'=>by simp only[wpOp,ha,hb];exact⟨h.1,h.2.1,h.2.2.1,h'⟩⟩
  ·exact h.elim
 case cut s x lo hi=>
  simp only[wpOp]at h
  split at h
  ·rename_i ha;obtain⟨l,h1,h2⟩:=jo h;obtain⟨u,h3,h4⟩:=jo h1;exact⟨_,_,h3.2.2,λ K' h'=>by simp only[wpOp,ha];exact h2 _ (h4 _ ⟨h3.1,h3.2.1,h'⟩)⟩
  ·rename_i n len ha
   split at h
   ·rename_i t s' xs hO;obtain⟨q1,q2,h⟩:=h;obtain⟨l,h1,h2⟩:=jo h;obtain⟨u,h3,h4⟩:=jo h1;exact⟨_,_,h3.2.2,λ K' h'=>by simp only[wpOp,ha,hO];exact⟨q1,q2,h2 _ (h4 _ ⟨h3.1,h3.2.1,h'⟩)⟩⟩
   ·exact h.elim
  ·exact h.elim
 case j7 t s b x y=>
  simp only[wpOp]at h
  split at h
  ·rename_i sb hsb;obtain⟨r,O',h1,h2⟩:=ahT h.2;exact⟨r,O',h1,λ K' h'=>by simp only[wpOp,hsb];exact⟨h.1,h2 K' h'⟩⟩
  ·exact h.elim
 case store m x y=>
  simp only[wpOp]at h
  split at h
  ·rename_i k len i f ha
   split at h
   ·rename_i t s xs hO;obtain⟨q1,q2,q3,q4,q5,q6⟩:=h;exact⟨_,_,q6,λ K' h'=>by simp only[wpOp,ha,hO];exact⟨q1,q2,q3,q4,q5,h'⟩⟩
   ·exact h.elim
  ·exact h.elim
 case app t s b x y=>
  simp only[wpOp]at h;obtain⟨ys,q1,q2⟩:=aoj h;obtain⟨r,O',q3,q4⟩:=ahT q1.2;exact⟨r,O',q3,λ K' h'=>by simp only[wpOp];exact q2 _ ⟨q1.1,q4 K' h'⟩⟩
 case call f as=>
  obtain⟨r,O',q1,q2⟩:=h;exact⟨r,O',q2,λ K' h'=>⟨r,O',q1,h'⟩⟩
 case gq k t s z=>exact⟨_,_,h.2.2,λ K' h'=>⟨h.1,h.2.1,h'⟩⟩
 case xG k t s b z x y=>
  simp only[wpOp]at h
  split at h
  ·rename_i n c hx hy;obtain⟨h1,h2,h3,h4,h5,h6,h7⟩:=h;exact⟨_,_,h7,λ K' h'=>by simp only[wpOp,hx,hy];exact⟨h1,h2,h3,h4,h5,h6,h'⟩⟩
  ·exact h.elim
 case mo k t s x=>exact⟨_,_,h.2.2.2.2,λ K' h'=>⟨h.1,h.2.1,h.2.2.1,h.2.2.2.1,h'⟩⟩
 case gn k t s len z ps=>
  obtain⟨xs,⟨h1,h2,h3⟩,h4⟩:=su ps _ h.2.2;exact⟨_,_,h3,λ K' h'=>⟨h.1,h.2.1,h4 (λ xs=>O[k]? =some (.nil t s)/\xs≠[]/\K' (.row k len) (O.set k (ae.live t s xs))) ⟨h1,h2,h'⟩⟩⟩
 case bp gs f as=>
  obtain⟨r,O',q1,q2⟩:=h;exact⟨r,O',q2,λ K' h'=>⟨r,O',q1,h'⟩⟩
 case xF=>exact⟨_,_,h,λ K' h'=>h'⟩
 case aiS ok d z m k=>
  simp only[wpOp]at h
  split at h
  ·rename_i n kv hm hk
   split at h
   ·rename_i es hO;obtain⟨h1,h2,h3⟩:=h;exact⟨_,_,h3,λ K' h'=>by simp only[wpOp,hm,hk,hO];exact⟨h1,h2,h'⟩⟩
   ·exact h.elim
  ·exact h.elim
 case o5 d m k v=>
  simp only[wpOp]at h
  split at h
  ·rename_i n kv hm hk
   split at h
   ·rename_i es hO;obtain⟨h1,h2,h3⟩:=h;exact⟨_,_,h3,λ K' h'=>by simp only[wpOp,hm,hk,hO];exact⟨h1,h2,h'⟩⟩
   ·exact h.elim
  ·exact h.elim
 case zt ok z m k=>
  simp only[wpOp]at h
  split at h
  ·rename_i n j hm hk
   split at h
   ·rename_i es hO;obtain⟨h1,h2,h3⟩:=h;exact⟨_,_,h3,λ K' h'=>by simp only[wpOp,hm,hk,hO];exact⟨h1,h2,h'⟩⟩
   ·exact h.elim
  ·exact h.elim
 case jY m k v=>
  simp only[wpOp]at h
  split at h
  ·rename_i n j hm hk
   split at h
   ·rename_i es hO;obtain⟨h1,h2,h3⟩:=h;exact⟨_,_,h3,λ K' h'=>by simp only[wpOp,hm,hk,hO];exact⟨h1,h2,h'⟩⟩
   ·exact h.elim
  ·exact h.elim
 case zR x=>
  simp only[wpOp]at h
  split at h
  ·rename_i s hx;exact⟨_,_,h,λ K' h'=>by simp only[wpOp,hx];exact h'⟩
  ·exact h.elim
 case zU x=>
  simp only[wpOp]at h
  split at h
  ·rename_i n hx
   split at h
   ·rename_i s pos hO;by_cases hp:pos<s.size
    ·exact⟨_,_,h.1 hp,λ K' h'=>by simp only[wpOp,hx,hO];exact⟨λ _=>h',λ q=>(q hp).elim⟩⟩
    ·exact⟨_,_,h.2 hp,λ K' h'=>by simp only[wpOp,hx,hO];exact⟨λ q=>(hp q).elim,λ _=>h'⟩⟩
   ·exact h.elim
  ·exact h.elim
 case s2b t x=>
  simp only[wpOp]at h
  split at h
  ·rename_i s hx;exact⟨_,_,h.2,λ K' h'=>by simp only[wpOp,hx];exact⟨h.1,h'⟩⟩
  ·exact h.elim
 case xI t x=>
  simp only[wpOp]at h
  split at h
  ·rename_i n len hx
   split at h
   ·rename_i t' s xs hO;obtain⟨h1,h2,h3,h4⟩:=h;exact⟨_,_,h4,λ K' h'=>by simp only[wpOp,hx,hO];exact⟨h1,h2,h3,h'⟩⟩
   ·exact h.elim
  ·exact h.elim
 case vt neg x=>
  simp only[wpOp]at h
  split at h
  ·rename_i hx;exact⟨_,_,h,λ K' h'=>by simp only[wpOp,hx];exact h'⟩
  ·rename_i n len i f hx
   split at h
   ·rename_i t s xs hO;exact⟨_,_,h.2,λ K' h'=>by simp only[wpOp,hx,hO];exact⟨h.1,h'⟩⟩
   ·exact h.elim
  ·exact h.elim
 case peq neg x y=>
  simp only[wpOp]at h
  split at h
  ·rename_i n m hx hy;exact⟨_,_,h.2.2,λ K' h'=>by simp only[wpOp,hx,hy];exact⟨h.1,h.2.1,h'⟩⟩
  ·exact h.elim
 case qM rd f as=>
  obtain⟨r,ob,q1,q2⟩:=h;exact⟨r,_,q2,λ K' h'=>⟨r,ob,q1,h'⟩⟩
 case qN rd f as=>
  obtain⟨r,q1,q2⟩:=h;exact⟨r,_,q2,λ K' h'=>⟨r,q1,h'⟩⟩
 case nn rd f as=>
  obtain⟨r,O',q1,q2,q3⟩:=h;exact⟨r,O',q3,λ K' h'=>⟨r,O',q1,q2,h'⟩⟩
 case jC gs f as=>
  obtain⟨n,a0,ob,r,ob',q1,q2,q3,q4,q5,q6,q7,q8,q9⟩:=h;exact⟨r,_,q9,λ K' h'=>⟨n,a0,ob,r,ob',q1,q2,q3,q4,q5,q6,q7,q8,h'⟩⟩
 case eu x as=>
  simp only[wpOp]at h
  split at h
  ·rename_i f a6 ha;obtain⟨r,O',q1,q2⟩:=h;exact⟨r,O',q2,λ K' h'=>by simp only[wpOp,ha];exact⟨r,O',q1,h'⟩⟩
  ·exact h.elim
 case mG f as=>
  obtain⟨r,q1,q2,q3⟩:=h;exact⟨r,_,q3,λ K' h'=>⟨r,q1,q2,h'⟩⟩
 case jD x as=>
  simp only[wpOp]at h
  split at h
  ·rename_i f a6 ha;obtain⟨r,q1,q2,q3⟩:=h;exact⟨r,_,q3,λ K' h'=>by simp only[wpOp,ha];exact⟨r,q1,q2,h'⟩⟩
  ·exact h.elim
theorem ai2{o:ew}(h:∀kp f as,o≠ .nn kp f as)(e:Env)(N:Nat):(cL o e N).k.keeps= []:=by
 cases o<;>first|rfl|(exact(h _ _ _ rfl).elim)|(simp only[cL,ly];split<;>rfl)
theorem atW{P:Program}{o:ew}{e:Env}{O:List ae}{K:AV->List ae->Prop}(h:wpOp P o e O K):∃x O',K x O'/\Ex P o e O x O'/\∀n∈(cL o e O.length).k.keeps,O'[n]? =O[n]? :=by
 by_cases hu:∃kp f as,o= .nn kp f as
 ·obtain⟨kp,f,as,rfl⟩:=hu;obtain⟨r,O',q1,q2,q3⟩:=h;exact⟨r,O',q3,λ K' h'=>⟨r,O',q1,q2,h'⟩,q2⟩
 ·obtain⟨x,O',h1,h2⟩:=u9 h;refine⟨x,O',h1,h2,λ n hn=> ?_⟩;rw[ai2 λ kp f as he=>hu ⟨kp,f,as,he⟩]at hn;simp at hn
theorem akA{O:List ae}{y:AV}{K:List AV->Prop}(h:rh O y K):∃ys,K ys/\∀O',oN (refs y) O O'->∀K':List AV->Prop,K' ys->rh O' y K':=by
 unfold rh at h
 split at h
 ·exact⟨_,h,λ O' _ K' h'=>h'⟩
 ·exact⟨_,h,λ O' _ K' h'=>h'⟩
 ·rename_i n len;have hg:∀O',oN (refs (.row n len)) O O'->O'[n]? =O[n]? :=λ O' hg=>hg n (by simp[refs])
  split at h
  ·rename_i t s xs hO;exact⟨_,h.2,λ O' ha K' h'=>by simp only[rh,hg O' ha,hO];exact⟨h.1,h'⟩⟩
  ·rename_i t s hO;exact⟨_,h.2,λ O' ha K' h'=>by simp only[rh,hg O' ha,hO];exact⟨h.1,h'⟩⟩
  ·exact h.elim
 ·exact h.elim
inductive Eff where
 |fP
 |set (n:Nat) (b:ae)
 |push (b:ae)
def Eff.app:Eff->List ae->List ae
 | .fP,O=>O
 | .set n b,O=>O.set n b
 | .push b,O=>O++ [b]
def Fit:EK->Eff->List ae->Prop
 | .fP,.fP,_=>True
 | .set _,.fP,_=>True
 | .set n,.set m _,O=>m=n/\n<O.length
 | .push N,.push _,O=>O.length=N
 |_,_,_=>False
theorem aeO{O:List ae}{n len:Nat}{t s b:Nat}{ys:List AV}{K:AV->List ae->Prop}(h:gY O (.row n len) t s b ys K):
  ∃r rX,Fit (.set n) rX O/\K r (rX.app O)/\∀O',O'[n]? =O[n]? ->∀K':AV->List ae->Prop,K' r (rX.app O')->gY O' (.row n len) t s b ys K':=by
 simp only[gY]at h
 split at h
 ·rename_i t' s' xs hO;obtain⟨h1,h2,h3,h4,h5,h6⟩:=h;exact⟨_,.set n _,⟨rfl,(List.getElem?_eq_some_iff.1 hO).1⟩,h6,λ O' ho K' h'=>by simp only[gY,ho,hO];exact⟨h1,h2,h3,h4,h5,h'⟩⟩
 ·rename_i t' s' hO;obtain⟨h1,h2,h3,h4,h5,h6,h7⟩:=h;by_cases hy:ys= []
  ·exact⟨_,.fP,trivial,h6 hy,λ O' ho K' h'=>by simp only[gY,ho,hO];exact⟨h1,h2,h3,h4,h5,λ _=>h',λ hn=>(hn hy).elim⟩⟩
  ·exact⟨_,.set n _,⟨rfl,(List.getElem?_eq_some_iff.1 hO).1⟩,h7 hy,λ O' ho K' h'=>by simp only[gY,ho,hO];exact⟨h1,h2,h3,h4,h5,λ hn=>(hy hn).elim,λ _=>h'⟩⟩
 ·exact h.elim
theorem xg{a:AV}{n:Nat}(h:refs a= [n]):(∃len,a= .row n len)∨(∃len i f,a= .ptr n len i f)∨a= .own n:=by
 cases a<;>simp[refs]at h
 ·subst h;exact .inl ⟨_,rfl⟩
 ·subst h;exact .inr (.inl ⟨_,_,_,rfl⟩)
 ·subst h;exact .inr (.inr rfl)
theorem aiZ{P:Program}{o:ew}{e:Env}{O:List ae}{K:AV->List ae->Prop}(hk:(cL o e O.length).k.isAny=false)(h:wpOp P o e O K):
  ∃x rX,Fit (cL o e O.length).k rX O/\(∀n,(cL o e O.length).k= .set n->n∈(cL o e O.length).rd)/\K x (rX.app O)/\
   ∀O',oN (cL o e O.length).rd O O'->((cL o e O.length).k.gd=true->O'.length=O.length)->Ex P o e O' x (rX.app O'):=by
 by_cases h0:o.cls=0
 ·have hl:cL o e O.length=⟨[],.fP⟩:=by cases o<;>first|(simp[ew.cls]at h0;done)|rfl
  obtain⟨x,h1,h2⟩:=ex0 h0 h;exact⟨x,.fP,by rw[hl];trivial,by rw[hl];simp,h1,λ O' _ _=>h2 O'⟩
 by_cases h1:o.cls=1
 ·have hl:(cL o e O.length).k= .fP:=by cases o<;>first|(simp[ew.cls]at h1;done)|rfl
  obtain⟨x,h2,h3⟩:=ex1 h1 h;exact⟨x,.fP,by rw[hl];trivial,by rw[hl];simp,h2,λ O' ha _=>h3 O' _ ha⟩
 by_cases h2:o.cls=2
 ·have hl:cL o e O.length=⟨[],.push O.length⟩:=by cases o<;>first|(simp[ew.cls]at h2;done)|rfl
  obtain⟨x,b,h3,h4⟩:=ex2 h2 h;exact⟨x,.push b,by rw[hl];exact rfl,by rw[hl];simp,h3,λ O' _ hp=>h4 O' (hp (by rw[hl];rfl))⟩
 cases o<;>first|(exact(h0 rfl).elim)|(exact(h1 rfl).elim)|(exact(h2 rfl).elim)|(simp[cL,ly,EK.isAny]at hk;done)|skip
 case gq k t s z=>
  obtain⟨h1,h2,h3⟩:=h;exact⟨_,.set k _,⟨rfl,(List.getElem?_eq_some_iff.1 h2).1⟩,by simp[cL,ly],h3,λ O' ha _ K' h'=>⟨h1,by rw[ha k (by simp[cL,ly])];exact h2,h'⟩⟩
 case xG k t s b z x y=>
  simp only[wpOp]at h
  split at h
  ·rename_i n c hx hy;obtain⟨h1,h2,h3,h4,h5,h6,h7⟩:=h;exact⟨_,.set k _,⟨rfl,(List.getElem?_eq_some_iff.1 h6).1⟩,by simp[cL,ly],h7,λ O' ha _ K' h'=>by simp only[wpOp,hx,hy];exact⟨h1,h2,h3,h4,h5,by rw[ha k (by simp[cL,ly])];exact h6,h'⟩⟩
  ·exact h.elim
 case mo k t s x=>
  obtain⟨h0,h2,h3,h4,h5⟩:=h;exact⟨_,.set k _,⟨rfl,(List.getElem?_eq_some_iff.1 h2).1⟩,by simp[cL,ly],h5,λ O' ha _ K' h'=>⟨h0,by rw[ha k (by simp[cL,ly])];exact h2,h3,h4,h'⟩⟩
 case gn k t s len z ps=>
  obtain⟨h0,hp,h⟩:=h;obtain⟨xs,⟨h1,h2,h3⟩,h4⟩:=su ps _ h;exact⟨_,.set k (.live t s xs),⟨rfl,(List.getElem?_eq_some_iff.1 h1).1⟩,by simp[cL,ly],h3,λ O' ha _ K' h'=>⟨h0,hp,h4 (λ xs=>O'[k]? =some (.nil t s)/\xs≠[]/\K' (.row k len) (O'.set k (ae.live t s xs))) ⟨by rw[ha k (by simp[cL,ly])];exact h1,h2,h'⟩⟩⟩
 case qM rd f as=>
  obtain⟨res,ob,h1,h2⟩:=h;exact⟨res,.push ob,rfl,by simp[cL,ly],h2,λ O' ha hp K' h'=>⟨res,ob,λ oY hl hr=>h1 oY (hl.trans (hp rfl)) λ n hn=>(hr n hn).trans (ha n hn),h'⟩⟩
 case qN rd f as=>
  obtain⟨res,h1,h2⟩:=h;exact⟨res,.fP,trivial,by simp[cL,ly],h2,λ O' ha _ K' h'=>⟨res,λ oY hr=>h1 oY λ n hn=>(hr n hn).trans (ha n hn),h'⟩⟩
 case jC gs f as=>
  simp only[cL,ly]at hk⊢;obtain⟨n,a0,ob,r,ob',q1,q2,q3,q4,q5,q6,q7,q8,q9⟩:=h;simp only[q3];exact⟨r,.set n ob',⟨rfl,(List.getElem?_eq_some_iff.1 q4).1⟩,by simp,q9,λ O' ha _ K' h'=>⟨n,a0,ob,r,ob',q1,q2,q3,by rw[ha n (by simp)];exact q4,q5,q6,q7,q8,h'⟩⟩
 case store m x y=>
  simp only[cL,ly]at hk⊢
  split at hk
  ·rename_i n hn;simp only[hn];rcases xg hn with⟨len,hx⟩|⟨len,i,f,hx⟩|hx;rotate_left 2
   ·simp only[wpOp,hx]at h
   ·simp only[wpOp,hx]at h
   ·simp only[wpOp,hx]at h
    split at h
    ·rename_i t s xs hO;obtain⟨q1,q2,q3,q4,q5,q6⟩:=h
     exact⟨_,.set n _,⟨rfl,(List.getElem?_eq_some_iff.1 hO).1⟩,by simp,q6,λ O' ha _ K' h'=>by
      simp only[wpOp,hx,ha n (by simp),hO];exact⟨q1,q2,q3,q4,q5,h'⟩⟩
    ·exact h.elim
  ·simp[EK.isAny]at hk
 case app t s b x y=>
  simp only[cL,ly]at hk⊢
  split at hk
  ·rename_i n hn;simp only[hn];simp only[wpOp]at h;obtain⟨ys,⟨q0,q1⟩,q2⟩:=akA h;rcases xg hn with⟨len,hx⟩|⟨len,i,f,hx⟩|hx
   ·rw[hx]at q1;obtain⟨r,rX,q3,q4,q5⟩:=aeO q1
    exact⟨r,rX,q3,by simp,q4,λ O' ha _ K' h'=>by
     simp only[wpOp,hx];exact q2 O' (λ m hm=>ha m (by simp[hm])) _ ⟨q0,q5 O' (ha n (by simp)) K' h'⟩⟩
   ·rw[hx]at q1;exact q1.elim
   ·rw[hx]at q1;exact q1.elim
  ·simp[EK.isAny]at hk
 case j7 t s b x y=>
  simp only[cL,ly]at hk⊢
  split at hk
  ·rename_i n hn;simp only[hn];simp only[wpOp]at h
   split at h
   ·rename_i sb hsb;obtain⟨q0,q1⟩:=h;rcases xg hn with⟨len,hx⟩|⟨len,i,f,hx⟩|hx
    ·rw[hx]at q1;obtain⟨r,rX,q3,q4,q5⟩:=aeO q1
     exact⟨r,rX,q3,by simp,q4,λ O' ha _ K' h'=>by
      simp only[wpOp,hsb,hx];exact⟨q0,q5 O' (ha n (by simp)) K' h'⟩⟩
    ·rw[hx]at q1;exact q1.elim
    ·rw[hx]at q1;exact q1.elim
   ·exact h.elim
  ·simp[EK.isAny]at hk
end Go.Ab
namespace Go.Ab
inductive Step(P:Program)(o:aP)(e:Env)(O:List ae):Env->List ae->Prop
 |run (x:AV) (O':List ae):(∀t want,o.guard=some (t,want)->e t= .v (.bool want))->Ex P o.op e O x O'->Step P o e O (bT e o.dst x) O'
 |skip (t:Nat) (want:Bool):o.guard=some (t,want)->(e t= .v (.bool (!want))∨e t= .ba [])->Step P o e O (bT e o.dst (.ba [])) O
inductive Run(P:Program):List aP->Env->List ae->Env->List ae->Prop
 |nil (e:Env) (O:List ae):Run P [] e O e O
 |cons {o:aP} {l:List aP} {e e1 e2:Env} {O O1 O2:List ae}:Step P o e O e1 O1->Run P l e1 O1 e2 O2->Run P (o::l) e O e2 O2
theorem wX{e:Env}{t:Nat}{a:AV}(h:e t=a):e.set t a=e:=by
 funext k;unfold Env.set;split
 ·rename_i hk;subst hk;exact h.symm
 ·rfl
theorem jg{e:Env}{d d':Option Nat}{a b:AV}(h:d=none∨d≠d'):bT (bT e d a) d' b=bT (bT e d' b) d a:=by
 cases d<;>cases d'<;>simp only[bT]
 rename_i t t'
 have bB:t≠t':=by
  rcases h with h|h
  ·cases h
  ·intro he;exact h (by rw[he])
 funext k
 simp only[Env.set];by_cases h1:k=t
 ·subst h1;rw[if_neg bB,if_pos rfl,if_pos rfl]
 ·rw[if_neg h1,if_neg h1]
theorem oM{l:List Nat}{e:Env}{d:Option Nat}{a:AV}(h:∀t,d=some t->t∉l):oX l (bT e d a) e:=by
 intro t ht;cases d with
 |none=>rfl
 |some d=>
  simp only[bT,Env.set];rw[if_neg];intro he;subst he;exact h _ rfl ht
theorem Ex.congr{P:Program}{o:ew}{e e':Env}{O O':List ae}{x:AV}(h:Ex P o e O x O')(ha:oX o.reads e' e):Ex P o e' O x O':=by
 intro K hk;rw[afc ha];exact h K hk
inductive nS(P:Program)(o:aP)(l:g9)(e:Env)(O:List ae):Env->List ae->Prop
 |any (x:AV) (O':List ae):l.k.isAny=true->(∀n∈l.k.keeps,O'[n]? =O[n]?)->(∀t want,o.guard=some (t,want)->e t= .v (.bool want))->Ex P o.op e O x O'->nS P o l e O (bT e o.dst x) O'
 |lab (x:AV) (rX:Eff):l.k.isAny=false->Fit l.k rX O->(∀n,l.k= .set n->n∈l.rd)->(∀t want,o.guard=some (t,want)->e t= .v (.bool want))->
  (∀O',oN l.rd O O'->(l.k.gd=true->O'.length=O.length)->Ex P o.op e O' x (rX.app O'))->nS P o l e O (bT e o.dst x) (rX.app O)
 |skip (t:Nat) (want:Bool):o.guard=some (t,want)->(e t= .v (.bool (!want))∨e t= .ba [])->nS P o l e O (bT e o.dst (.ba [])) O
theorem nS.step{P:Program}{o:aP}{l:g9}{e e':Env}{O O':List ae}(h:nS P o l e O e' O'):Step P o e O e' O':=by
 cases h with
 |any x _ _ _ hg hx=>exact .run x _ hg hx
 |lab x rX _ _ _ hg hx=>exact .run x _ hg (hx O (λ _ _=>rfl) λ _=>rfl)
 |skip t want hg hb=>exact .skip t want hg hb
inductive vX(P:Program):List (aP×g9)->Env->List ae->Env->List ae->Prop
 |nil (e:Env) (O:List ae):vX P [] e O e O
 |cons {o:aP×g9} {l:List (aP×g9)} {e e1 e2:Env} {O O1 O2:List ae}:nS P o.1 o.2 e O e1 O1->vX P l e1 O1 e2 O2->vX P (o::l) e O e2 O2
theorem vX.run{P:Program}{l:List (aP×g9)}{e e':Env}{O O':List ae}(h:vX P l e O e' O'):Run P (l.map (·.1)) e O e' O':=by
 induction h with
 |nil=>exact .nil _ _
 |cons hs _ ih=>exact .cons hs.step ih
theorem acW{P:Program}{o:aP}{e:Env}{O:List ae}{K:AV->List ae->Prop}(hg:∀t want,o.guard=some (t,want)->e t= .v (.bool want))(h:wpOp P o.op e O K):
  ∃x O',K x O'/\nS P o (cL o.op e O.length) e O (bT e o.dst x) O':=by
 cases hk:(cL o.op e O.length).k.isAny with
 |true=>
  obtain⟨x,O',h1,h2,h3⟩:=atW h;exact⟨x,O',h1,.any x O' hk h3 hg h2⟩
 |false=>
  obtain⟨x,rX,h1,h2,h3,h4⟩:=aiZ hk h;exact⟨x,_,h3,.lab x rX hk h1 h2 hg h4⟩
theorem lS{P:Program}:∀(l:List aP) {acc:List g9} {e:Env} {O:List ae} {K:List g9->Env->List ae->Prop},cI P l acc e O K->∃ic e' O',ic.length=l.length/\vX P (l.zip ic) e O e' O'/\K (acc++ic) e' O'
 | [],acc,e,O,K,h=>⟨[],e,O,rfl,.nil e O,by rw[List.append_nil];exact h⟩
 |o::l,acc,e,O,K,h=>by
  simp only[cI]at h;cases hg:o.guard with
  |none=>
   rw[hg]at h;obtain⟨x,O',h1,h2⟩:=acW (λ t want h=>by rw[hg]at h;cases h) h;obtain⟨ic,e2,O2,h0,h3,h4⟩:=lS l h1;exact⟨cL o.op e O.length::ic,e2,O2,by simp[h0],.cons h2 h3,by rw[append_assoc]at h4;exact h4⟩
  |some g=>
   obtain⟨t,want⟩:=g;rw[hg]at h;simp only at h
   split at h
   ·rename_i b hb;by_cases lA:b=want
    ·have hs:e.set t (.v (.bool want))=e:=wX (by rw[hb,lA]);rw[hs]at h;obtain⟨x,O',h1,h2⟩:=acW (λ t' kZ h=>by rw[hg]at h;cases h;rw[hb,lA]) (h.1 lA);obtain⟨ic,e2,O2,h0,h3,h4⟩:=lS l h1;exact⟨cL o.op e O.length::ic,e2,O2,by simp[h0],.cons h2 h3,by rw[append_assoc]at h4;exact h4⟩
    ·have kV:b= !want:=by cases b<;>cases want<;>simp_all
     have hs:e.set t (.v (.bool (!want)))=e:=wX (by rw[hb,kV]);rw[hs]at h;obtain⟨ic,e2,O2,h0,h3,h4⟩:=lS l (h.2 kV);exact⟨⟨[],.fP⟩::ic,e2,O2,by simp[h0],.cons (.skip t want hg (.inl (by rw[hb,kV]))) h3,by rw[append_assoc]at h4;exact h4⟩
   ·rename_i hb;obtain⟨ic,e2,O2,h0,h3,h4⟩:=lS l h;exact⟨⟨[],.fP⟩::ic,e2,O2,by simp[h0],.cons (.skip t want hg (.inr hb)) h3,by rw[append_assoc]at h4;exact h4⟩
   ·exact h.elim
theorem aga{p i:aP×g9}(h:l8 p i=true):
  (∀t,p.1.dst=some t->t∉i.1.reads)/\(p.1.dst=none∨p.1.dst≠i.1.dst)/\(∀t,i.1.dst=some t->t∉p.1.reads)/\tF p.2 i.2=true:=by
 unfold l8 at h;simp only[and_eq_true]at h;obtain⟨⟨h1,h2⟩,h3⟩:=h;refine⟨λ t ht=> ?_,?_,λ t ht=> ?_,h3⟩
 ·rw[ht]at h1;simp at h1;exact h1.1
 ·cases hp:p.1.dst with
  |none=>exact .inl rfl
  |some t=>rw[hp]at h1;simp at h1;exact .inr λ he=>h1.2 he.symm
 ·rw[ht]at h2;simpa using h2
theorem adh{kp:List Nat}{l:g9}(h:l.pure kp=true):(∀n∈l.rd,n∈kp)/\l.k= .fP:=by
 unfold g9.pure at h;simp only[and_eq_true,all_eq_true]at h;refine⟨λ n hn=>by simpa using h.1 n hn,?_⟩;have:=h.2
 split at this
 ·assumption
 ·cases this
theorem aaN{k:EK}{rX:Eff}{O:List ae}(hf:Fit k rX O){rd:List Nat}(h:k.pH rd=false):oN rd O (rX.app O):=by
 intro n hn;cases k<;>cases rX<;>simp only[Fit]at hf<;>simp only[EK.pH]at h<;>simp only[Eff.app]
 ·rename_i k m b;obtain⟨rfl,aF⟩:=hf;have:n≠m:=by rintro rfl;simp at h;exact h hn
  rw[getElem?_set_ne (λ he=>this he.symm)]
 ·rename_i N b;have:n≠N:=by rintro rfl;simp at h;exact h hn
  by_cases aF:n<O.length
  ·rw[getElem?_append_left aF]
  ·rw[List.getElem?_eq_none (l:=O++ [b]) (by simp;omega),List.getElem?_eq_none (by omega)]
theorem ahK{k:EK}{rX:Eff}{O:List ae}(hf:Fit k rX O)(h:k.gd=false):∀O':List ae,(rX.app O').length=O'.length:=by
 intro O';cases k<;>cases rX<;>simp only[Fit]at hf<;>simp[Eff.app]
 simp[EK.gd]at h
theorem am4{kp ki:EK}{p i:Eff}{O:List ae}(hp:Fit kp p O)(hi:Fit ki i (p.app O))(awK:(kp.gd&&ki.gd)=false)(pF:∀n m,kp= .set n->ki= .set m->n≠m)(hps:∀n m,kp= .push n->ki= .set m->n≠m):
  Fit ki i O/\Fit kp p (i.app O)/\i.app (p.app O)=p.app (i.app O):=by
 cases kp<;>cases p<;>simp only[Fit]at hp<;>cases ki<;>cases i<;>simp only[Fit]at hi<;>simp only[Fit,Eff.app,true_and,and_true]<;>(try simp only[Eff.app]at hi)<;>try trivial
 case set.set.set.set n _ b m _ c=>
  obtain⟨rfl,h1⟩:=hp;obtain⟨rfl,h2⟩:=hi;have:=pF _ _ rfl rfl;refine⟨⟨rfl,by simpa using h2⟩,⟨rfl,by simpa using h1⟩,List.set_comm _ _ (λ he=>this he)⟩
 case set.set.push.push n _ b m c=>
  obtain⟨rfl,h1⟩:=hp;refine⟨by simpa using hi,⟨rfl,by simp;omega⟩,?_⟩;rw[List.set_append_left _ _ h1]
 case push.push.set.set=>
  obtain⟨rfl,h2⟩:=hi;have:=hps _ _ rfl rfl;have aF:_<O.length:=Nat.lt_of_le_of_ne (by simp at h2;omega) (λ he=>this (hp.symm.trans he.symm));refine⟨⟨rfl,aF⟩,by simpa using hp,?_⟩;rw[List.set_append_left _ _ aF]
 all_goals simp[EK.gd]at awK
theorem afj{P:Program}{p i:aP×g9}(hd:l8 p i=true){e e1 e2:Env}{O O1 O2:List ae}(h1:nS P p.1 p.2 e O e1 O1)(h2:nS P i.1 i.2 e1 O1 e2 O2):
  ∃e1' mz,nS P i.1 i.2 e O e1' mz/\nS P p.1 p.2 e1' mz e2 O2:=by
 obtain⟨p,lp⟩:=p;obtain⟨i,li⟩:=i;obtain⟨d1,d2,d3,d4⟩:=aga hd;simp only at d1 d2 d3 d4 h1 h2⊢
 have gi:∀{t want a},i.guard=some (t,want)->bT e p.dst a t=e t:=by
  intro t want a hg;exact oM (l:=i.reads) d1 t (by simp[aP.reads,hg])
 have gp:∀{t want} {e':Env} {a},p.guard=some (t,want)->bT e' i.dst a t=e' t:=by
  intro t want e' a hg;exact oM (l:=p.reads) d3 t (by simp[aP.reads,hg])
 have ri:∀{a},oX i.op.reads e (bT e p.dst a):=λ {a} t ht=>(oM (l:=i.reads) d1 t (by simp[aP.reads,ht])).symm
 have rp:∀{e' a},oX p.op.reads (bT e' i.dst a) e':=λ {e' a} t ht=>oM (l:=p.reads) d3 t (by simp[aP.reads,ht])
 have adR:(lp.k.isAny=true/\li.pure lp.k.keeps=true)∨(lp.k.isAny=false/\li.k.isAny=true/\lp.pure li.k.keeps=true)∨(lp.k.isAny=false/\li.k.isAny=false/\lp.k.pH li.rd=false/\li.k.pH lp.rd=false/\(lp.k.gd&&li.k.gd)=false):=by
  unfold tF at d4
  split at d4
  ·rename_i h;exact .inl ⟨h,d4⟩
  ·rename_i h
   split at d4
   ·rename_i h';exact .inr (.inl ⟨by simpa using h,h',d4⟩)
   ·rename_i h';simp only[and_eq_true,Bool.not_eq_true']at d4;exact .inr (.inr ⟨by simpa using h,by simpa using h',d4.1.1,d4.1.2,d4.2⟩)
 cases h1 with
 |skip t want hg hb=>
  have hp':∀{e':Env} {O':List ae} {y:AV},e'=bT e i.dst y->nS P p lp e' O' (bT e' p.dst (.ba [])) O':=by
   rintro e' O' y rfl;exact .skip t want hg (by rw[gp hg];exact hb)
  cases h2 with
  |skip t' kZ nL lh=>
   rw[gi nL]at lh;refine⟨_,_,.skip t' kZ nL lh,?_⟩;rw[jg d2];exact hp' rfl
  |any y _ ha zJ hq hy=>
   refine⟨_,_,.any y O2 ha zJ (λ t' kZ nL=>by rw[←gi nL];exact hq t' kZ nL) (hy.congr ri),?_⟩;rw[jg d2];exact hp' rfl
  |lab y rX ha hf hm hq hy=>
   refine⟨_,_,.lab y rX ha hf hm (λ t' kZ nL=>by rw[←gi nL];exact hq t' kZ nL) (λ O' h1 h2=>(hy O' h1 h2).congr ri),?_⟩;rw[jg d2];exact hp' rfl
 |any x _ hap zJ hqp hx=>
  have hp':∀{e':Env} {y:AV},e'=bT e i.dst y->nS P p lp e' O (bT e' p.dst x) O1:=by
   rintro e' y rfl;exact .any x O1 hap zJ (λ t want hg=>by rw[gp hg];exact hqp t want hg) (hx.congr rp)
  have hpu:li.pure lp.k.keeps=true:=by
   rcases adR with⟨_,h⟩|⟨h,_⟩|⟨h,_⟩
   ·exact h
   ·rw[hap]at h;cases h
   ·rw[hap]at h;cases h
  obtain⟨hrd,eH⟩:=adh hpu;cases h2 with
  |skip t' kZ nL lh=>
   rw[gi nL]at lh;refine⟨_,_,.skip t' kZ nL lh,?_⟩;rw[jg d2];exact hp' rfl
  |any y _ ha _ hq hy=>rw[eH]at ha;cases ha
  |lab y rX ha hf hm hq hy=>
   have he:rX= .fP:=by rw[eH]at hf;cases rX<;>simp[Fit]at hf;rfl
   subst he;refine⟨_,_,.lab y .fP ha (by rw[eH];trivial) hm (λ t' kZ nL=>by rw[←gi nL];exact hq t' kZ nL) (λ O' h1 h2=>(hy O' (λ n hn=>(h1 n hn).trans (zJ n (hrd n hn)).symm) (by rw[eH];simp[EK.gd])).congr ri),?_⟩;rw[jg d2];exact hp' rfl
 |lab x ap3 hap hfp hmp hqp hx=>
  cases h2 with
  |skip t' kZ nL lh=>
   rw[gi nL]at lh;refine⟨_,_,.skip t' kZ nL lh,?_⟩;rw[jg d2];exact .lab x ap3 hap hfp hmp (λ t want hg=>by rw[gp hg];exact hqp t want hg) (λ O' h1 h2=>(hx O' h1 h2).congr rp)
  |any y _ ha zJ hq hy=>
   have hpu:lp.pure li.k.keeps=true:=by
    rcases adR with⟨h,_⟩|⟨_,_,h⟩|⟨_,h,_⟩
    ·rw[hap]at h;cases h
    ·exact h
    ·rw[ha]at h;cases h
   obtain⟨hrd,eH⟩:=adh hpu;have he:ap3= .fP:=by rw[eH]at hfp;cases ap3<;>simp[Fit]at hfp;rfl
   subst he;refine⟨_,_,.any y O2 ha zJ (λ t' kZ nL=>by rw[←gi nL];exact hq t' kZ nL) (hy.congr ri),?_⟩;rw[jg d2];exact .lab x .fP hap (by rw[eH];trivial) hmp (λ t want hg=>by rw[gp hg];exact hqp t want hg) (λ O' h1 h2=>(hx O' (λ n hn=>(h1 n hn).trans (zJ n (hrd n hn))) (by rw[eH];simp[EK.gd])).congr rp)
  |lab y aAO ha hf hm hq hy=>
   have hh:lp.k.pH li.rd=false/\li.k.pH lp.rd=false/\(lp.k.gd&&li.k.gd)=false:=by
    rcases adR with⟨h,_⟩|⟨_,h,_⟩|⟨_,_,h⟩
    ·rw[hap]at h;cases h
    ·rw[ha]at h;cases h
    ·exact h
   obtain⟨hh1,hh2,hh3⟩:=hh
   have pF:∀n m,lp.k= .set n->li.k= .set m->n≠m:=by
    rintro n m hn uX rfl;have:=hm n uX;rw[hn]at hh1;simp[EK.pH]at hh1;exact hh1 this
   have hps:∀n m,lp.k= .push n->li.k= .set m->n≠m:=by
    rintro n m hn uX rfl;have:=hm n uX;rw[hn]at hh1;simp[EK.pH]at hh1;exact hh1 this
   obtain⟨c1,c2,c3⟩:=am4 hfp hf hh3 pF hps;have a1:=aaN hfp hh1;have a2:=aaN c1 hh2;refine⟨_,_,.lab y aAO ha c1 hm (λ t' kZ nL=>by rw[←gi nL];exact hq t' kZ nL) (λ O' h1 h2=>(hy O' (λ n hn=>(h1 n hn).trans (a1 n hn).symm) λ hpu=> ?_).congr ri),?_⟩
   ·rw[h2 hpu,ahK hfp (by cases hlp:lp.k.gd with|false=>rfl|true=>rw[hlp,hpu]at hh3;cases hh3)]
   ·rw[jg d2,c3];refine .lab x ap3 hap c2 hmp (λ t want hg=>by rw[gp hg];exact hqp t want hg) (λ O' h1 h2=>(hx O' (λ n hn=>(h1 n hn).trans (a2 n hn)) λ hpu=> ?_).congr rp);rw[h2 hpu,ahK c1 (by cases hli:li.k.gd with|false=>rfl|true=>rw[hli,hpu]at hh3;cases hh3)]
theorem xb{P:Program}{i:aP×g9}{post:List (aP×g9)}:∀(pre:List (aP×g9)),(∀p∈pre,l8 p i=true)->∀{e e2:Env} {O O2:List ae},vX P (pre++i::post) e O e2 O2->vX P (i::(pre++post)) e O e2 O2
 | [],_,_,_,_,_,h=>h
 |p::pre,hp,e,e2,O,O2,h=>by
  cases h with
  |cons hs hr=>
   have:=xb pre (λ q hq=>hp q (by simp[hq])) hr;cases this with
   |cons hi o7=>
    obtain⟨e1',mz,s1,s2⟩:=afj (hp p (by simp)) hs hi;exact .cons s1 (.cons s2 o7)
end Go.Ab
namespace Go.Ab
theorem pR(rows:List (List Nat))(n:Nat):(vT rows n).length=n:=by
 induction n with
 |zero=>rfl
 |succ n ih=>simp[vT,ih]
theorem yL(rows:List (List Nat)){i n:Nat}(h:i<n):(vT rows n).getD i 0=(rows.getD i []).foldl (λ s j=>s|||(2^j|||(vT rows i).getD j 0)) 0:=by
 induction n with
 |zero=>omega
 |succ n ih=>
  simp only[vT];by_cases hi:i<n
  ·rw[List.getD,getElem?_append_left (by rw[pR];exact hi)];exact ih hi
  ·obtain rfl:i=n:=by omega
   rw[List.getD,getElem?_append_right (by rw[pR];exact le_refl _)];simp[pR]
theorem aef(rows:List (List Nat)){i n m:Nat}(h:i<n)(h':i<m):(vT rows n).getD i 0=(vT rows m).getD i 0:=by
 rw[yL rows h,yL rows h']
theorem sf(f:Nat->Nat)(p:Nat):∀(l:List Nat) (s:Nat),(l.foldl (λ s j=>s|||(2^j|||f j)) s).testBit p=true->s.testBit p=true∨∃j∈l,p=j∨(f j).testBit p=true
 | [],s,h=> .inl h
 |j::l,s,h=>by
  rcases sf f p l _ h with h1|⟨k,hk,h1⟩
  ·rw[Nat.testBit_or,Nat.testBit_or]at h1;simp only[or_eq_true]at h1;rcases h1 with h1|h1|h1
   ·exact .inl h1
   ·rw[Nat.testBit_two_pow]at h1;exact .inr ⟨j,by simp,.inl (by simpa using(of_decide_eq_true h1).symm)⟩
   ·exact .inr ⟨j,by simp,.inr h1⟩
  ·exact .inr ⟨k,by simp[hk],h1⟩
theorem at6{rows:List (List Nat)}{n:Nat}{S:Nat->Prop}(awF:∀i,i<n->∀d∈rows.getD i [],d<i)(hS:∀j,j<n->S j->∀d∈rows.getD j [],S d):
  ∀i,i<n->(∀d∈rows.getD i [],S d)->∀p,((vT rows n).getD i 0).testBit p=true->S p:=by
 intro i
 induction i using Nat.strongRecOn with
 |_ i ih=>
  intro hi hd p hp;rw[yL rows hi]at hp;rcases sf _ p _ _ hp with h|⟨j,hj,h⟩
  ·simp at h
  ·have qR:=awF i hi j hj;rcases h with rfl|h
   ·exact hd p hj
   ·exact ih j qR (by omega) (hS j (by omega) (hd j hj)) p (by rw[aef rows (show j<n by omega) qR];exact h)
section
variable {P:Program} {ops:Array Oper} {al:List (aP×g9)}
theorem ac4{i:Nat}{o:Oper}(h:ops[i]? =some o):(rowsOf ops).getD i []=(o.after.toList.filter (Region.binds .any)).map (·.on):=by
 have:ops.toList[i]? =some o:=by simpa using h
 simp[rowsOf,List.getD,this]
theorem atC(hlen:al.length=ops.size)(mr:ij (rowsOf ops) al=true){e2:Env}{O2:List ae}:
  ∀(fuel t:Nat) (gG:Array Bool) (acc rem:List Nat) (e:Env) (O:List ae),gG.size=ops.size->rem.length<=fuel->rem.Pairwise (·<·)->(∀j,j∈rem↔j<ops.size/\gG.getD j true=false)->
   (∀j,j<ops.size->gG.getD j true=true->∀d∈(rowsOf ops).getD j [],gG.getD d true=true)->
   vX P (rem.map λ i=>al.getD i (⟨none,none,.bc (.c .top)⟩,⟨[],.any⟩)) e O e2 O2->
   ∃l,Region.linearise.go .any ops fuel t gG acc=acc.reverse++l/\vX P (l.map λ i=>al.getD i (⟨none,none,.bc (.c .top)⟩,⟨[],.any⟩)) e O e2 O2/\∀i∈l,i<ops.size:=by
 have ata:∀i,i<ops.size->(∀d∈(rowsOf ops).getD i [],d<i)/\∀p,p<i->((vT (rowsOf ops) ops.size).getD i 0).testBit p=true∨l8 (al.getD p (⟨none,none,.bc (.c .top)⟩,⟨[],.any⟩)) (al.getD i (⟨none,none,.bc (.c .top)⟩,⟨[],.any⟩))=true:=by
  intro i hi;unfold ij at mr;simp only[all_eq_true,List.mem_range,and_eq_true,or_eq_true,decide_eq_true_eq,hlen]at mr;obtain⟨h1,h2⟩:=mr i hi;refine⟨h1,λ p hp=> ?_⟩;rcases h2 p hp with h|h
  ·exact .inl h
  ·refine .inr ?_;have e1:al[p]? =some (al.getD p (⟨none,none,.bc (.c .top)⟩,⟨[],.any⟩)):=by simp[List.getD,show p<al.length by omega]
   have e2:al[i]? =some (al.getD i (⟨none,none,.bc (.c .top)⟩,⟨[],.any⟩)):=by simp[List.getD,show i<al.length by omega]
   rw[e1,e2]at h;exact h
 intro fuel
 induction fuel with
 |zero=>
  intro t gG acc rem e O sd hf hpw nK mw hr;obtain rfl:rem= []:=List.eq_nil_of_length_eq_zero (by omega);exact⟨[],by simp[Region.linearise.go],hr,by simp⟩
 |succ fuel ih=>
  intro t gG acc rem e O sd hf hpw nK mw hr;simp only[Region.linearise.go];generalize hrs:(List.range ops.size).filter (λ i=> !gG.getD i true&&((ops[i]?).map (·.after.all λ e=> !Region.binds .any e||gG.getD e.on false)).getD false)=rs;cases hg:rs[t%rs.length]? with
  |none=>
   have ato:rs= []:=by
    by_cases h0:rs.length=0
    ·exact List.eq_nil_of_length_eq_zero h0
    ·have:=Nat.mod_lt t (Nat.pos_of_ne_zero h0);rw[List.getElem?_eq_getElem this]at hg;cases hg
   have azw:rem= []:=by
    cases rem with
    |nil=>rfl
    |cons i r=>
     exfalso;obtain⟨hi,hli⟩:=(nK i).1 (by simp)
     have azM:∀d,d<i->gG.getD d true=true:=by
      intro d hdi;cases hld:gG.getD d true with
      |true=>rfl
      |false=>
       have hm:=(nK d).2 ⟨by omega,hld⟩;rcases List.mem_cons.1 hm with rfl|hm
       ·omega
       ·have:=List.rel_of_pairwise_cons hpw hm;omega
     have:i∈rs:=by
      rw[←hrs,List.mem_filter];refine⟨List.mem_range.2 hi,?_⟩;have ho:ops[i]? =some ops[i]:=by simp[hi]
      simp only[hli,Bool.not_false,Bool.true_and,ho,map_some,getD_some,Array.all_eq_true,or_eq_true];intro j hj;by_cases hbj:Region.binds .any (ops[i].after[j])=true;rotate_left
      ·exact .inl (by simpa using hbj)
      refine .inr ?_;have hdi:(ops[i].after[j]).on<i:=(ata i hi).1 _ (by rw[ac4 ho];exact List.mem_map.2 ⟨_,List.mem_filter.2 ⟨Array.getElem_mem_toList hj,hbj⟩,rfl⟩);have:=azM _ hdi;have aF:(ops[i].after[j]).on<gG.size:=by omega
      simp[Array.getD,aF]at this⊢;exact this
     rw[ato]at this;cases this
   subst azw;exact⟨[],by simp,hr,by simp⟩
  |some i=>
   have hmi:i∈rs:=mem_of_getElem? hg;rw[←hrs,List.mem_filter]at hmi;obtain⟨hi,aqV⟩:=hmi;have hi:i<ops.size:=List.mem_range.1 hi;have ho:ops[i]? =some ops[i]:=by simp[hi]
   simp only[ho,map_some,getD_some,and_eq_true,Bool.not_eq_true',Array.all_eq_true,or_eq_true]at aqV;obtain⟨hli,jP⟩:=aqV
   have aq6:∀d∈(rowsOf ops).getD i [],gG.getD d true=true:=by
    intro d hdm;rw[ac4 ho]at hdm;obtain⟨ed,az9,rfl⟩:=List.mem_map.1 hdm;obtain⟨hed,hbe⟩:=List.mem_filter.1 az9;obtain⟨j,hj⟩:=getElem?_of_mem hed;obtain⟨hjl,hje⟩:=List.getElem?_eq_some_iff.1 hj;have azW:j<ops[i].after.size:=by simpa using hjl
    have aw2:ops[i].after[j]=ed:=by simpa using hje
    rcases jP j azW with h|h
    ·rw[aw2,hbe]at h;simp at h
    ·rw[aw2]at h;by_cases aF:ed.on<gG.size
     ·simp[Array.getD,aF]at h⊢;exact h
     ·simp[Array.getD,aF]at h
   have aw5:i∈rem:=(nK i).2 ⟨hi,hli⟩;obtain⟨pre,post,rfl⟩:=List.append_of_mem aw5;have amh:=List.pairwise_append.1 hpw;have ago:∀p∈pre,p<i:=λ p hp=>amh.2.2 p hp i (by simp)
   have awL:∀p∈post,i<p:=λ p hp=>List.rel_of_pairwise_cons amh.2.1 hp
   have atm:=xb (P:=P) (i:=al.getD i (⟨none,none,.bc (.c .top)⟩,⟨[],.any⟩)) (post:=post.map λ i=>al.getD i (⟨none,none,.bc (.c .top)⟩,⟨[],.any⟩)) (pre.map λ i=>al.getD i (⟨none,none,.bc (.c .top)⟩,⟨[],.any⟩)) (by
    intro q hq;obtain⟨p,hp,rfl⟩:=List.mem_map.1 hq;rcases(ata i hi).2 p (ago p hp)with h|h
    ·exfalso;have:=at6 (S:=λ j=>gG.getD j true=true) (λ j hj=>(ata j hj).1) mw i hi aq6 p h;have hpm:=((nK p).1 (by simp[hp])).2;rw[hpm]at this;cases this
    ·exact h) (by simpa using hr)
   cases atm with
   |cons hs amg=>
    have bB:∀j,j∈pre++post->j≠i:=by
     intro j hj he;subst he;rcases List.mem_append.1 hj with h|h
     ·have:=ago j h;omega
     ·have:=awL j h;omega
    have pF:∀j,(gG.setIfInBounds i true).getD j true=if j=i then true else gG.getD j true:=by
     intro j;simp only[Array.getD_eq_getD_getElem?,Array.getElem?_setIfInBounds];by_cases qR:i=j
     ·subst qR;simp[sd,hi]
     ·rw[if_neg qR,if_neg (λ h=>qR h.symm)]
    obtain⟨l,h1,h2,h3⟩:=ih (t/rs.length) (gG.setIfInBounds i true) (i::acc) (pre++post) _ _ (by simp[sd]) (by simp at hf⊢;omega)
     (List.pairwise_append.2 ⟨amh.1,(List.pairwise_cons.1 amh.2.1).2,λ x hx y hy=>amh.2.2 x hx y (by simp[hy])⟩)
     (by
      intro j;rw[pF];constructor
      ·intro hj;rw[if_neg (bB j hj)];exact(nK j).1 (by rcases List.mem_append.1 hj with h|h<;>simp[h])
      ·rintro⟨hj1,hj2⟩;by_cases qR:j=i
       ·rw[if_pos qR]at hj2;cases hj2
       ·rw[if_neg qR]at hj2;have:=(nK j).2 ⟨hj1,hj2⟩;simp only[mem_append,List.mem_cons]at this⊢;rcases this with h|h|h
        ·exact .inl h
        ·exact(qR h).elim
        ·exact .inr h)
     (by
      intro j hj hlj d hd;rw[pF]at hlj⊢
      split
      ·rfl
      ·by_cases qR:j=i
       ·subst qR;exact aq6 d hd
       ·rw[if_neg qR]at hlj;exact mw j hj hlj d hd)
     (by simpa using amg)
    refine⟨i::l,by simp[h1],?_,λ j hj=> ?_⟩
    ·exact .cons hs h2
    ·rcases List.mem_cons.1 hj with rfl|h
     ·exact hi
     ·exact h3 j h
theorem abt{mixed:Bool}(hd:Region.departs ops=false∨mixed=true)(hlen:al.length=ops.size)(mr:ij (rowsOf ops) al=true){e e2:Env}{O O2:List ae}(hr:vX P al e O e2 O2)(t:Nat):
  vX P ((Region.schedule mixed ops t).map λ i=>al.getD i (⟨none,none,.bc (.c .top)⟩,⟨[],.any⟩)) e O e2 O2/\∀i∈Region.schedule mixed ops t,i<ops.size:=by
 have hs:Region.schedule mixed ops t=Region.linearise .any ops t:=by rcases hd with hd|hd<;>simp[Region.schedule,hd]
 rw[hs]
 have jP:(List.range ops.size).map (λ i=>al.getD i (⟨none,none,.bc (.c .top)⟩,⟨[],.any⟩))=al:=by
  apply List.ext_getElem
  ·simp[hlen]
  ·intro i h1 h2;simp[List.getD,h2]
 obtain⟨l,h1,h2,h3⟩:=atC (P:=P) hlen mr ops.size t (Array.replicate ops.size false) [] (List.range ops.size) e O (by simp) (by simp) List.pairwise_lt_range
  (λ j=>by
   rw[List.mem_range];constructor
   ·intro h;exact⟨h,by simp[Array.getD,h]⟩
   ·exact λ h=>h.1)
  (λ j hj h=>by simp[Array.getD,hj]at h)
  (by rw[jP];exact hr)
 simp only[Region.linearise];rw[h1];simpa using⟨h2,h3⟩
end
end Go.Ab
