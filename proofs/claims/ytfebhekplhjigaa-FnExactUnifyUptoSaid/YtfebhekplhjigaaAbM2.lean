/- Part of a proof: the functions that the law reaches, walked by the abstract logic of the texts Ab. -/
import Derived.Test.YtfebhekplhjigaaAbM1
import Derived.Laws.BytesArg
open Nat(add_assoc le_refl zero_le lt_or_ge sub_self)
open Bool(and_eq_true or_eq_true)
open Option(bind_eq_bind bind_eq_some_iff getD_none getD_some map_eq_some_iff map_some)
open List(getElem?_of_mem mem_of_getElem? getElem?_set getElem?_append_left getElem?_map getElem?_append_right length_map all_eq_true map_congr_left getElem?_set_ne getElem?_set_self map_cons map_nil mem_append append_assoc)
set_option linter.unusedVariables false
set_option linter.unusedSimpArgs false
namespace Go.Ab
section
variable {P:Program} {I:cZ} {L:Nat->Loc} {O:List aa} {w:World} {K:AV->List aa->Prop} {e:Env} {a:Act}
variable {d:Option Tmp} {ty:TypeId} {pos:String} {af:Array Edge} {g:Option (Nat×Bool)} {ao:dY}
theorem aqZ(hi:Inv I L O w)(he:∀t,R I L O (e t) (a.tmps.getD t undef)){op:BinOp}{t u:TypeId}{x y:Operand}(hc:bL P ty (.binOp op t x y u)=some ao)(hk:wpOp P ao e O K):
  fu P I L O w (execOp a.eval ⟨d,.binOp op t x y u,ty,pos,af,g⟩) K:=by
 simp only[bL]at hc
 split at hc
 ·rename_i hb;simp only[bind_eq_bind,bind_eq_some_iff,Option.some.injEq]at hc;obtain⟨ax,hx,ay,hy,rfl⟩:=hc;have rx:=ar hx he;have ry:=ar hy he;simp only[wpOp]at hk
  split at hk
  ·rename_i p q hp hq;rw[hp]at rx;rw[hq]at ry;have h1:=rx.bool;have h2:=ry.bool
   have key:(op= .eql∨op= .neq)/\P.underlying t=some .bool:=by
    unfold ag5 at hb
    split at hb
    ·rename_i h;exact⟨.inl rfl,h⟩
    ·rename_i h;exact⟨.inr rfl,h⟩
    ·cases hb
   obtain⟨hop,ht⟩:=key;refine fu.same hi hk (.v _ rfl) ?_;simp only[execOp,h1,h2]
   have he:(Op.equal t (.bool p) (.bool q)).run P w= .ok (p==q) w:=by
    have e1:Op.equal t (.bool p) (.bool q)=Op.equalIn (9999+1) t (.bool p) (.bool q):=rfl;rw[e1,Op.equalIn];simp[run_underlying ht]
   rcases hop with rfl|rfl
   ·simp[eqGuard,Go.binOp,he,j3]
   ·simp[eqGuard,Go.binOp,he,j3]
  ·exact hk.elim
 split at hc
 ·rename_i _ hp;simp only[aki,and_eq_true]at hp;obtain⟨hop,yI⟩:=hp;obtain⟨el,inf,ht,ji,ta⟩:=xR yI;simp only[bind_eq_bind,bind_eq_some_iff,Option.some.injEq]at hc;obtain⟨ax,hx,ay,hy,rfl⟩:=hc;have rx:=ar hx he;have ry:=ar hy he;simp only[wpOp]at hk
  split at hk
  ·rename_i n m hn hm;rw[hn]at rx;rw[hm]at ry;obtain⟨k1,k2,hk⟩:=hk;have h1:=tQ k1 rx;have h2:=tQ k2 ry;have heq:=adz (P:=P) (w:=w) ht ji ta (agZ (P:=P) hi k1 k2);refine fu.same hi hk (.v _ rfl) ?_;have ho:op= .eql∨op= .neq:=by cases op<;>first|exact .inl rfl|exact .inr rfl|(simp[nZ]at hop;done)
   rcases ho with rfl|rfl
   ·simp[execOp,h1,h2,eqGuard,Go.binOp,heq,j3]
   ·simp[execOp,h1,h2,eqGuard,Go.binOp,heq,j3]
  ·exact hk.elim
 simp only[bind_eq_bind,bind_eq_some_iff,Option.some.injEq]at hc;obtain⟨ax,hx,ay,hy,rfl⟩:=hc;have rx:=ar hx he;have ry:=ar hy he;simp only[wpOp]at hk;generalize ax.ev e=A at rx hk;generalize ay.ev e=B at ry hk;cases A<;>cases B<;>simp only at hk
 rename_i p q;cases hz:mD op p q with
 |none=>simp only[hz]at hk
 |some z=>
  simp only[hz]at hk;have h1:=rx.exact;have h2:=ry.exact;obtain⟨hr,ho⟩:=anr (P:=P) hz t x y w;refine fu.same hi hk (.v z ho) ?_;simp only[execOp,h1,h2];rw[Sem.run_bind,hr]
  rfl
theorem atY(hi:Inv I L O w)(he:∀t,R I L O (e t) (a.tmps.getD t undef)){op:UnOp}{t:TypeId}{x:Operand}(hc:bL P ty (.unOp op t x)=some ao)(hk:wpOp P ao e O K):
  fu P I L O w (execOp a.eval ⟨d,.unOp op t x,ty,pos,af,g⟩) K:=by
 simp only[bL,bind_eq_bind,bind_eq_some_iff,Option.some.injEq]at hc;obtain⟨ax,hx,rfl⟩:=hc;have rx:=ar hx he;simp only[wpOp]at hk;generalize ax.ev e=A at rx hk;cases A<;>simp only at hk
 rename_i p;cases hz:sun op p with
 |none=>simp only[hz]at hk
 |some z=>
  simp only[hz]at hk;have h1:=rx.exact;obtain⟨hr,ho⟩:=aqA (P:=P) hz w;refine fu.same hi hk (.v z ho) ?_;simp only[execOp,h1];rw[Sem.run_bind,hr]
  rfl
theorem agx(hi:Inv I L O w)(he:∀t,R I L O (e t) (a.tmps.getD t undef)){s t:TypeId}{x:Operand}(hc:bL P ty (.convert s t x)=some ao)(hk:wpOp P ao e O K):
  fu P I L O w (execOp a.eval ⟨d,.convert s t x,ty,pos,af,g⟩) K:=by
 simp only[bL]at hc
 split at hc
 ·rename_i k1 k2 hs ht;simp only[bind_eq_bind,bind_eq_some_iff,Option.some.injEq]at hc;obtain⟨ax,hx,rfl⟩:=hc;have rx:=ar hx he;simp only[wpOp]at hk;generalize ax.ev e=A at rx hk;cases A
  case v p=>
   cases p
   case int k n=>
    have h1:=rx.exact;refine fu.same hi hk (.v _ rfl) ?_;simp only[execOp,h1];simp[convert,run_underlying hs,run_underlying ht,Conv.intToInt]
   all_goals exact hk.elim
  all_goals exact hk.elim
 ·rename_i el hs ht
  split at hc
  ·rename_i hu;simp only[bind_eq_bind,bind_eq_some_iff,Option.some.injEq]at hc;obtain⟨ax,hx,rfl⟩:=hc;exact aqS hi hs ht hu he hx hk
  ·cases hc
 ·rename_i el0 el hs ht
  split at hc
  ·rename_i hu;simp only[bind_eq_bind,bind_eq_some_iff,Option.some.injEq]at hc;obtain⟨ax,hx,rfl⟩:=hc;obtain⟨hu,rfl⟩:=hu;exact ald hi ht hu he hx hk
  ·cases hc
 ·cases hc
theorem alg(hi:Inv I L O w)(he:∀t,R I L O (e t) (a.tmps.getD t undef)){t:TypeId}{x:Operand}{f:Nat}(hc:bL P ty (.fieldAddr t x f)=some ao)(hk:wpOp P ao e O K):
  fu P I L O w (execOp a.eval ⟨d,.fieldAddr t x f,ty,pos,af,g⟩) K:=by
 simp only[bL]at hc
 split at hc
 ·rename_i fs hs;simp only[bind_eq_bind,bind_eq_some_iff]at hc;obtain⟨fd,hf,i,hfi,hc⟩:=hc
  split at hc
  ·rename_i vE;simp only[bind_eq_some_iff,Option.some.injEq]at hc;obtain⟨ax,hx,rfl⟩:=hc;have rx:=ar hx he;simp only[wpOp]at hk;generalize ax.ev e=A at rx hk;generalize hX:a.eval x=X at rx
   have bc:∀b o,(Instr.fieldAt t (.pointer (some ⟨b,o,none⟩)) f).run P w= .ok (.pointer (some ⟨b,o+fd.offset,none⟩)) w:=by
    intro b o;simp[Instr.fieldAt,run_underlying hs,hf,Instr.sureAddr,fieldPlace,sizeOf,typeInfo,hfi,Nat.ne_of_gt vE,add_lit]
   cases A
   case bV y q=>
    cases rx with
    |bV _ _ aZ base bd hv hr=>
     refine fu.same hi hk (.bV y (q+fd.offset) aZ base bd hv hr) ?_;simp only[execOp,hX];simp[bc,add_assoc]
   case ptr n len j q=>
    cases hO:O[n]? with
    |none=>simp only[hO]at hk
    |some ob=>
     cases ob with
     |dead=>simp only[hO]at hk
     |own a=>simp only[hO]at hk
     |cE g=>simp only[hO]at hk
     |nil t' s'=>simp only[hO]at hk
     |live t' s xs=>
      simp only[hO]at hk;have:=rx.g9 hO hk.1;subst this;refine fu.same hi hk.2 (.dm n len j (q+fd.offset) t' s xs hO hk.1) ?_;simp only[execOp,hX];simp[bc,add_assoc]
   all_goals exact hk.elim
  ·cases hc
 ·cases hc
theorem aqV(hi:Inv I L O w)(he:∀t,R I L O (e t) (a.tmps.getD t undef)){t:TypeId}{x:Operand}{f:Nat}(hc:bL P ty (.field t x f)=some ao)(hk:wpOp P ao e O K):
  fu P I L O w (execOp a.eval ⟨d,.field t x f,ty,pos,af,g⟩) K:=by
 simp only[bL]at hc
 split at hc
 ·rename_i fs hs;simp only[bind_eq_bind,bind_eq_some_iff,Option.some.injEq]at hc;obtain⟨fd,hf,n,hn,ax,hx,rfl⟩:=hc;have rx:=ar hx he;obtain⟨h1,h2,h3⟩:=hk;generalize ax.ev e=A at rx h1 h2 h3;generalize hX:a.eval x=X at rx;rw[AV.yn h1]at rx;cases rx with
  |agg _ vs hl hr=>
   have mH:fd.offset+n.getD 1<=vs.size:=by omega
   refine fu.same hi h3 (y:=wx n λ j=>vs.getD (fd.offset+j) undef) (pk h2 λ j c hj aw=>hr _ c _ hj (by simp[Array.getD,show fd.offset+j<vs.size by omega])) ?_;unfold yj at hn;simp only[bind_eq_bind,bind_eq_some_iff]at hn;obtain⟨dd,hd,i,hii,hn⟩:=hn;simp only[execOp,hX];cases n with
   |none=>
    have hag:acm dd=false:=by
     by_cases h:acm dd=true
     ·rw[if_pos h]at hn;split at hn<;>simp at hn
     ·simpa using h
    have aw:fd.offset<vs.size:=by simp only[getD_none]at mH;omega
    have h0:vs[fd.offset]? =some (vs.getD fd.offset undef):=by rw[Array.getElem?_eq_getElem aw];simp[Array.getD,aw]
    generalize vs.getD fd.offset undef=q at h0;simp[Instr.field,run_underlying hs,hf,asAgg,part,tF hd,hag,h0,wx]
   |some m=>
    have hag:acm dd=true/\i.size=m:=by
     by_cases h:acm dd=true
     ·rw[if_pos h]at hn;split at hn<;>simp at hn;exact⟨h,hn⟩
     ·rw[if_neg h]at hn;simp at hn
    have hex:vs.extract fd.offset (fd.offset+m)=((List.range m).map λ j=>vs.getD (fd.offset+j) undef).toArray:=by
     apply Array.ext
     ·simp only[getD_some]at mH;simp;omega
     ·intro j hj1 hj2;simp only[getD_some]at mH;simp at hj1 hj2;simp[Array.getD,show fd.offset+j<vs.size by omega]
    simp[Instr.field,run_underlying hs,hf,asAgg,part,tF hd,hag.1,sizeOf,typeInfo,hii,hag.2,hex,wx]
 ·cases hc
theorem anD(hi:Inv I L O w)(he:∀t,R I L O (e t) (a.tmps.getD t undef)){x:Operand}(hc:bL P ty (.nilCheck x)=some ao)(hk:wpOp P ao e O K):
  fu P I L O w (execOp a.eval ⟨d,.nilCheck x,ty,pos,af,g⟩) K:=by
 simp only[bL,bind_eq_bind,bind_eq_some_iff,Option.some.injEq]at hc;obtain⟨ax,hx,rfl⟩:=hc;have rx:=ar hx he;simp only[wpOp]at hk;generalize ax.ev e=A at rx hk;generalize hX:a.eval x=X at rx;cases A
 case bV y q=>
  cases rx with
  |bV _ _ aZ base bd hv hr=>
   exact fu.same hi hk (.bV y q aZ base bd hv hr) (by simp only[execOp,hX];simp)
 case fn f aV=>
  cases rx with
  |fn _ _ vs h1 h2=>
   exact fu.same hi hk (.fn f aV vs h1 h2) (by simp only[execOp,hX];simp)
 case ptr n len j q=>
  cases hO:O[n]? with
  |none=>simp only[hO]at hk
  |some ob=>
   cases ob with
   |dead=>simp only[hO]at hk
   |own a=>simp only[hO]at hk
   |cE g=>simp only[hO]at hk
   |nil t' s'=>simp only[hO]at hk
   |live t' s xs=>
    simp only[hO]at hk;have:=rx.g9 hO hk.1;subst this;exact fu.same hi hk.2 rx (by simp only[execOp,hX];simp)
 all_goals exact hk.elim
theorem aqW(hi:Inv I L O w)(he:∀t,R I L O (e t) (a.tmps.getD t undef)){x:Operand}{i:Nat}(hc:bL P ty (.extract x i)=some ao)(hk:wpOp P ao e O K):
  fu P I L O w (execOp a.eval ⟨d,.extract x i,ty,pos,af,g⟩) K:=by
 simp only[bL,bind_eq_bind,bind_eq_some_iff,Option.some.injEq]at hc;obtain⟨ax,hx,rfl⟩:=hc;have rx:=ar hx he;simp only[wpOp]at hk;generalize ax.ev e=A at rx hk;generalize hX:a.eval x=X at rx;cases A<;>simp only at hk
 rename_i vs;obtain⟨aw,hk⟩:=hk;cases rx with
 |a9 _ us h1 h2=>
  have hu:us[i]? =some (us[i]'(by omega)):=by simp
  refine fu.same hi hk (h2 i _ _ (by simp[List.getD,aw]) hu) ?_;generalize us[i]'(by omega)=q at hu;simp only[execOp,hX];simp[Instr.extract,hu]
theorem anE(hi:Inv I L O w)(he:∀t,R I L O (e t) (a.tmps.getD t undef)){fn:Fn}{first aV:Array Operand}(hc:bL P ty (.makeFunc fn first aV)=some ao)(hk:wpOp P ao e O K):
  fu P I L O w (execOp a.eval ⟨d,.makeFunc fn first aV,ty,pos,af,g⟩) K:=by
 cases fn<;>simp only[bL]at hc
 case func f=>
  split at hc
  ·rename_i hfe;simp only[bind_eq_bind,bind_eq_some_iff,Option.some.injEq]at hc;obtain⟨as,has,rfl⟩:=hc;obtain rfl:first= #[]:=by simpa using hfe
   obtain⟨h1,h2⟩:=yU has he;refine fu.same hi hk (y:= .func (.func f) #[] (aV.map a.eval)) (.fn f _ _ (by simpa using h1) λ i c x hc hx=>h2 i c x hc (by simpa using hx)) ?_;simp[execOp,Instr.makeFunc]
  ·cases hc
 all_goals cases hc
end
end Go.Ab
namespace Go.Ab
section
variable {P:Program} {I:cZ} {L:Nat->Loc} {O:List aa} {w:World} {K:AV->List aa->Prop} {e:Env} {a:Act}
variable {d:Option Tmp} {ty:TypeId} {pos:String} {af:Array Edge} {g:Option (Nat×Bool)} {ao:dY}
theorem gv{t el:TypeId}(h:rI P t=some el):P.underlying t=some (.slice el):=by
 unfold rI at h
 split at h
 ·rename_i x hx;cases h;exact hx
 ·cases h
theorem alh(hi:Inv I L O w)(he:∀t,R I L O (e t) (a.tmps.getD t undef)){t:TypeId}{parts:Array (Nat×Operand)}(hc:bL P ty (.build t parts)=some ao)(hk:wpOp P ao e O K):
  fu P I L O w (execOp a.eval ⟨d,.build t parts,ty,pos,af,g⟩) K:=by
 simp only[bL]at hc
 split at hc
 ·rename_i fs hs;simp only[bind_eq_bind,bind_eq_some_iff,Option.some.injEq]at hc;obtain⟨⟨s,b,z⟩,hz,aiE,sn,ps,hps,rfl⟩:=hc;obtain⟨i,z0,h1,h2,h3,rfl,rfl,h4,h5,h6,h7⟩:=eR hz;have rz:=(eD (I:=I) (L:=L) (O:=O) h3).cells (nL h7);have hz0:RCs I L O z.cells z0.cells:=⟨rz.1,λ j c y hj hy=>by obtain⟨y',mR,hr⟩:=rz.2 j c hj;rw[hy]at mR;cases mR;exact hr⟩;obtain⟨zs,vs',m1,m2,m3⟩:=xc he parts.toList ps z.cells z0.cells hz0 hps hk
  have ayT:=m3 (λ i=>aiE.toArray[i]?) (λ j f n hj hn=>by
   obtain⟨q1,q2⟩:=mapM_some sn;have aw:j<aiE.length:=by rw[q1];simpa using(Array.getElem?_eq_some_iff.1 hj).1
   have:=q2 j f aiE[j] (by simpa using hj) (by simp);rw[hn]at this;simp at this;simp[aw,this])
  have hb:P.built t (parts.map λ (i,x)=>(i,a.eval x)).toList=some vs':=by
   simp only[Program.built,h1,hs,h2,sn];simpa using ayT
  refine fu.same hi m1 (y:= .agg vs') (.agg _ _ m2.1 m2.2) ?_;simp only[execOp];rw[Sem.run_bind,run_build w t _ vs' hb]
  rfl
 ·rename_i m el hs
  split at hc
  ·rename_i aB0;simp only[bind_eq_bind,bind_eq_some_iff,Option.some.injEq]at hc;obtain⟨⟨s,b,z⟩,hz,ie,hie,rfl⟩:=hc;obtain⟨i,z0,h1,h2,h3,rfl,rfl,h4,h5,h6,h7⟩:=eR hz;have rz:=(eD (I:=I) (L:=L) (O:=O) h3).cells (nL h7);have hp:parts= #[]:=by simpa using aB0
   subst hp
   have hb:P.built t (Array.map (λ (i,x)=>(i,a.eval x)) #[]).toList=some z0.cells:=by
    simp only[Program.built,h1,hs,h2,hie];simp[Instr.fill]
   simp only[wpOp,jP]at hk;refine fu.same hi hk (y:= .agg z0.cells) (.agg _ _ rz.1 λ j c y hj hy=>by obtain⟨y',mR,hr⟩:=rz.2 j c hj;rw[hy]at mR;cases mR;exact hr) ?_;simp only[execOp];rw[Sem.run_bind,run_build w t _ z0.cells hb]
   rfl
  ·cases hc
 ·cases hc
theorem aaF(hi:Inv I L O w)(he:∀t,R I L O (e t) (a.tmps.getD t undef)){t:TypeId}{len:Nat}{parts:Array (Nat×Operand)}(hc:bL P ty (.buildSlice t len parts)=some ao)(hk:wpOp P ao e O K):
  fu P I L O w (execOp a.eval ⟨d,.buildSlice t len parts,ty,pos,af,g⟩) K:=by
 simp only[bL,bind_eq_bind,bind_eq_some_iff]at hc;obtain⟨el,ji,⟨s,b,z⟩,hz,ps,hps,hc⟩:=hc
 split at hc
 ·rename_i abS;simp only[Option.some.injEq]at hc;subst hc;have ht:=gv ji;obtain⟨i,z0,h1,h2,h3,rfl,rfl,h4,h5,h6,h7⟩:=eR hz;have abL:=ff.made (I:=I) (L:=L) (O:=O) (cap:=len) (n:=len) (eD h3) h7 h4 h5 (le_refl _);obtain⟨fI,c',m1,m2,m3,m4,m5⟩:=vi he parts.toList ps _ _ abL (by simp) hps hk
  have ay1:len<=maxLen:=by
   have h8:len*1<=len*i.size:=Nat.mul_le_mul_left _ h5;simp only at abS;simp only[maxLen];omega
  have dK:=hi.new (e:=el) (s:=i.size) (xs:=fI) c' len (by rw[m4];simp) (by simpa using(Nat.le_of_eq m3)) ay1 h5 m2;have hr:=R.bN (I:=I) (L:=λ k=>if k=O.length then Loc.at w.heap.size (len)else L k) (O:=O++ [.live el i.size fI]) O.length len el i.size fI (by simp) (by simpa using m3);refine⟨_,_,.slice (some ⟨w.heap.size,0,none⟩) len len,_,_,_,m1,dK,by simpa using hr,.inl ?_⟩;have hns:¬(len*i.size>2^24):=by simpa using abS
  simp only[execOp];by_cases h0:len*i.size=0
  ·have zQ:len=0:=by rcases Nat.mul_eq_zero.1 h0 with h|h<;>omega
   subst zQ;simp[Array.range_zero']at m5;simp[Instr.buildSlice,run_underlying ht,sizeOf,typeInfo,h1,m5,newRow,Array.range_zero']
  ·simp[Instr.buildSlice,run_underlying ht,sizeOf,typeInfo,h1,hns,h0,zeroValue,h2,m5,newRow]
 ·cases hc
theorem Inv.axG(h:Inv I L O w){el s:Nat}{xs:List AV}(c:Array Value)(cap:Nat)(hx:xs.length<=cap)(hn:∀(i:Nat) x,xs[i]? =some x->∀(j:Nat) a,x.cells[j]? =some a->∀{I':cZ} {L':Nat->Loc} {O':List aa} {v:Value},(∀b o x,I b o=some x->I' b o=some x)->R I L O a v->R I' L' O' a v)
  (hr:∀(i:Nat) x,xs[i]? =some x->x.cells.length=s/\∀(j:Nat) a,x.cells[j]? =some a->∃y,c[i*s+j]? =some y/\y.oneCell'=true/\R I L O a y):
  ∃I',Good I L O w I' L O (w.alloc (.cells c el))/\R I' L O (.sl xs) (.slice (some ⟨w.heap.size,0,none⟩) xs.length cap):=by
 have dE:(w.alloc (.cells c el)).heap[w.heap.size]? =some (.cells c el (0,0)):=heap_alloc_new w _;have hold:∀b,b<w.heap.size->(w.alloc (.cells c el)).heap[b]? =w.heap[b]? :=λ b hb=>heap_alloc_old w _ b hb
 have aw:∀{b o x},I b o=some x->b<w.heap.size:=λ hx=>jO (h.gN _ _ _ hx)
 have cH:∀b o x,I b o=some x->(λ b o=>if b=w.heap.size then(w.alloc (.cells c el)).cell? ⟨b,o,none⟩else I b o) b o=some x:=by
  intro b o x hx;have:=aw hx
  show(if b=w.heap.size then _ else I b o)=_;rw[if_neg (by omega)];exact hx
 have kU:∀{b o},b<w.heap.size->(w.alloc (.cells c el)).cell? ⟨b,o,none⟩=w.cell? ⟨b,o,none⟩:=by
  intro b o hb;simp only[World.cell?];rw[hold b hb]
 have hE:Ext I L O (λ b o=>if b=w.heap.size then(w.alloc (.cells c el)).cell? ⟨b,o,none⟩else I b o) L O:=
  ⟨cH,le_refl _,λ n hn e k ys hy=> .inl ⟨ys,hy,le_refl _,λ _=>rfl⟩,λ _ _ _ _ h=>h,λ _ _ a h=>⟨⟨a,h⟩,rfl⟩,λ _ _ a h=>⟨⟨a,h,rfl⟩,rfl⟩⟩
 have oi:∀{n e k ys},O[n]? =some (.live e k ys)->(L n).aZ<w.heap.size:=by
  intro n e k ys hn;obtain⟨c',⟨_,h1,_⟩,_⟩:=h.obj n e k ys hn;exact(Array.getElem?_eq_some_iff.1 h1).1
 refine⟨λ b o=>if b=w.heap.size then(w.alloc (.cells c el)).cell? ⟨b,o,none⟩else I b o,⟨⟨λ b o x hx=> ?_,λ n e k ys hn=> ?_,h.sep,λ n e k ys o hn=> ?_,λ p hp=>cH _ _ _ (h.fix p hp),h.uo (λ b hb _=>hold b hb) cH,h.ow.step (λ _ _ h=>⟨h,rfl⟩) (λ b o v hv=> ?_) (λ m e s xs hm=> .inl ⟨m,e,s,xs,hm,rfl⟩) (λ b hb _=>hold b hb),h.gh.step (λ _ _ h=>⟨h,rfl⟩) (λ _ _ hr=>hr.mono hE) λ b hb=>hold b hb.1⟩,hE,⟨rfl,rfl,rfl,by simp,λ b hb _=>hold b hb⟩,λ _ hb=> .inl hb,λ b o x hx=> ?_⟩,?_⟩
 ·by_cases hb:b=w.heap.size
  ·rw[if_pos hb]at hx;exact hx
  ·rw[if_neg hb]at hx;rw[kU (aw hx)];exact h.gN b o x hx
 ·exact(h.obj n e k ys hn).congr (hold _ (oi hn)) λ _ _ hr=>hr.mono hE
 ·have:=oi hn
  show(if(L n).aZ=w.heap.size then _ else I (L n).aZ o)=_;rw[if_neg (by omega)];exact h.cT n e k ys o hn
 ·by_cases hb:b=w.heap.size
  ·exact .inr (.inr (by omega))
  ·rw[if_neg hb]at hv;exact .inl ⟨o,v,hv⟩
 ·by_cases hb:b=w.heap.size
  ·exact .inr (.inr (by omega))
  ·rw[if_neg hb]at hx;exact .inl hx
 ·by_cases rh:xs= []
  ·subst rh;exact .nP _ _
  ·refine(.sl xs w.heap.size 0 cap s (λ i j=>(c[i*s+j]?).getD undef) hx rh (λ i x hx=>(hr i x hx).1) (λ i x j d hx hj=> ?_) λ i x j d hx hj=> ?_)
   ·obtain⟨y,hy,ho,_⟩:=(hr i x hx).2 j d hj
    show(if w.heap.size=w.heap.size then _ else _)=_/\_;rw[if_pos rfl,Nat.zero_add,eC dE,hy];exact⟨rfl,ho⟩
   ·obtain⟨y,hy,ho,pF⟩:=(hr i x hx).2 j d hj;rw[hy];exact hn i x hx j d hj cH pF
end
end Go.Ab
namespace Go.Ab
section
variable {P:Program} {I:cZ} {L:Nat->Loc} {O:List aa} {w:World} {K:AV->List aa->Prop} {e:Env} {a:Act}
variable {d:Option Tmp} {ty:TypeId} {pos:String} {af:Array Edge} {g:Option (Nat×Bool)} {ao:dY}
theorem alf(hi:Inv I L O w)(he:∀t,R I L O (e t) (a.tmps.getD t undef)){t:TypeId}{x y:Operand}(hc:bL P ty (.indexAddr t x y)=some ao)(hk:wpOp P ao e O K):
  fu P I L O w (execOp a.eval ⟨d,.indexAddr t x y,ty,pos,af,g⟩) K:=by
 simp only[bL]at hc
 split at hc
 ·rename_i m el ht;simp only[bind_eq_bind,bind_eq_some_iff,Option.some.injEq]at hc;obtain⟨inf,wP,ax,hx,ay,hy,rfl⟩:=hc;have rx:=ar hx he;have ry:=ar hy he;simp only[wpOp]at hk;generalize ax.ev e=A at rx hk;generalize ay.ev e=B at ry hk;generalize hX:a.eval x=X at rx;generalize hY:a.eval y=Y at ry
  have bc:∀(kk:IntKind) (b o:Nat) (j:Int),0<=j->j<m->(Instr.indexAt t (.pointer (some ⟨b,o,none⟩)) (.int kk j)).run P w= .ok (.pointer (some ⟨b,o+j.toNat*inf.size,none⟩)) w:=by
   intro kk b o j h0 h1;simp[Instr.indexAt,Instr.sureAddr,asIntOf,run_underlying ht,sizeOf,typeInfo,wP,h0,h1,add_lit]
  cases A
  case bV z q=>
   cases B
   case v p=>
    cases p
    case int kk j=>
     obtain⟨h0,h1,hk⟩:=hk;have:=ry.exact;subst this;cases rx with
     |bV _ _ aZ base bd hv hr=>
      refine fu.same hi hk (.bV z (q+j.toNat*inf.size) aZ base bd hv hr) ?_;simp only[execOp,hX,hY];simp[bc _ _ _ _ h0 h1,add_assoc]
    all_goals exact hk.elim
   all_goals exact hk.elim
  case ptr n len i q=>
   cases B
   case v p=>
    cases p
    case int kk j=>
     have:=ry.exact;subst this;cases hO:O[n]? with
     |none=>simp only[hO]at hk
     |some ob=>
      cases ob with
      |dead=>simp only[hO]at hk
      |own a=>simp only[hO]at hk
      |cE g=>simp only[hO]at hk
      |nil t' s'=>simp only[hO]at hk
      |live t' s xs=>
       simp only[hO]at hk;obtain⟨hl,h0,h1,hk⟩:=hk;have:=rx.g9 hO hl;subst this;refine fu.same hi hk (.dm n len i (q+j.toNat*inf.size) t' s xs hO hl) ?_;simp only[execOp,hX,hY];simp[bc _ _ _ _ h0 h1,add_assoc]
    all_goals exact hk.elim
   all_goals exact hk.elim
  all_goals exact hk.elim
 simp only[bind_eq_bind,bind_eq_some_iff,Option.some.injEq]at hc;obtain⟨el,ji,inf,wP,ax,hx,ay,hy,rfl⟩:=hc;have ht:=gv ji;have rx:=ar hx he;have ry:=ar hy he;simp only[wpOp]at hk;generalize ax.ev e=A at rx hk;generalize ay.ev e=B at ry hk;generalize hX:a.eval x=X at rx;generalize hY:a.eval y=Y at ry
 have bc:∀(kk:IntKind) (b o n c:Nat) (j:Int),0<=j->j<n->(Instr.indexAt t (.slice (some ⟨b,o,none⟩) n c) (.int kk j)).run P w= .ok (.pointer (some ⟨b,o+j.toNat*inf.size,none⟩)) w:=by
  intro kk b o n c j h0 h1;simp[Instr.indexAt,asIntOf,run_underlying ht,sizeOf,typeInfo,wP,h0,h1,add_lit]
 cases A
 case sl xs=>
  cases B
  case v p=>
   cases p
   case int kk j=>
    obtain⟨h0,h1,h2,hk⟩:=hk;have:=ry.exact;subst this;have aw:j.toNat<xs.length:=by omega
    have iy:xs[j.toNat]? =some (xs.getD j.toNat .top):=by simp[List.getD,aw]
    cases rx with
    |nP=>simp at h1;omega
    |sl _ aZ off cap s bd q1 q2 q3 q4 q5=>
     have hs:s=inf.size:=by rw[←q3 _ _ iy,h2]
     subst hs;refine fu.same hi hk (y:= .pointer (some ⟨aZ,off+j.toNat*inf.size+0,none⟩)) (.bV _ 0 aZ (off+j.toNat*inf.size) (bd j.toNat) (λ k c hc=>q4 _ _ k c iy hc) (λ k c hc=>q5 _ _ k c iy hc)) ?_;simp only[execOp,hX,hY];simp[bc _ _ _ _ _ _ h0 h1]
   all_goals exact hk.elim
  all_goals exact hk.elim
 case row n len=>
  cases B
  case v p=>
   cases p
   case int kk j=>
    have:=ry.exact;subst this;cases hO:O[n]? with
    |none=>simp only[hO]at hk
    |some ob=>
     cases ob with
     |dead=>simp only[hO]at hk
     |own a=>simp only[hO]at hk
     |cE g=>simp only[hO]at hk
     |nil t' s'=>simp only[hO]at hk
     |live t' s xs=>
      simp only[hO]at hk;obtain⟨rfl,hl,h0,h1,hk⟩:=hk;have:=rx.dA hO hl;subst this;refine fu.same hi hk (.dm n len j.toNat 0 t' inf.size xs hO hl) ?_;simp only[execOp,hX,hY];simp[bc _ _ _ _ _ _ h0 h1]
   all_goals exact hk.elim
  all_goals exact hk.elim
 all_goals exact hk.elim
theorem ale(hi:Inv I L O w)(he:∀t,R I L O (e t) (a.tmps.getD t undef)){t:TypeId}{x y:Operand}(hc:bL P ty (.index t x y)=some ao)(hk:wpOp P ao e O K):
  fu P I L O w (execOp a.eval ⟨d,.index t x y,ty,pos,af,g⟩) K:=by
 simp only[bL]at hc
 split at hc
 ·rename_i ht;simp only[bind_eq_bind,bind_eq_some_iff,Option.some.injEq]at hc;obtain⟨ax,hx,ay,hy,rfl⟩:=hc;have rx:=ar hx he;have ry:=ar hy he;simp only[wpOp]at hk;generalize ax.ev e=A at rx hk;generalize ay.ev e=B at ry hk;generalize hX:a.eval x=X at rx;generalize hY:a.eval y=Y at ry;cases A
  case v p=>
   cases p
   case string s=>
    cases B
    case v q=>
     cases q
     case int kk j=>
      obtain⟨h0,h1,hk⟩:=hk;have e1:=rx.exact;have e2:=ry.exact;subst e1;subst e2;have aw:j.toNat<s.size:=by omega
      have hb:s[j.toNat]? =some (s.data.toList.getD j.toNat 0):=by
       rw[getElem?_pos s j.toNat aw];have hl2:j.toNat<s.data.toList.length:=by simpa using aw
       simp only[List.getD,List.getElem?_eq_getElem hl2,getD_some,Option.some.injEq]
       rfl
      refine fu.same hi hk (.v _ rfl) ?_;simp only[execOp,hX,hY];generalize s.data.toList.getD j.toNat 0=q at hb;simp[Instr.index,asIntOf,run_underlying ht,h0,hb]
     all_goals exact hk.elim
    all_goals exact hk.elim
   all_goals exact hk.elim
  all_goals exact hk.elim
 ·cases hc
theorem anH(hi:Inv I L O w)(he:∀t,R I L O (e t) (a.tmps.getD t undef)){t:TypeId}{x:Operand}(ht:P.underlying t=some .string){ax:aC}(hx:bu x=some ax)(hk:wpOp P (.mn ax) e O K):
  ∃x' y,K x' O/\R I L O x' y/\(Builtin.len_ #[t] ty #[a.eval x]).run P w= .ok y w:=by
 have rx:=ar hx he;simp only[wpOp]at hk;generalize ax.ev e=A at rx hk;generalize a.eval x=X at rx;cases A
 case v p=>
  cases p
  case string s=>
   have e1:=rx.exact;subst e1;exact⟨_,.int .i64 s.size,hk,.v _ rfl,by simp[Builtin.len_,run_underlying ht,goInt]⟩
  all_goals exact hk.elim
 all_goals exact hk.elim
theorem anI(hi:Inv I L O w)(he:∀t,R I L O (e t) (a.tmps.getD t undef)){t el:TypeId}{x:Operand}(ht:P.underlying t=some (.slice el)){ax:aC}(hx:bu x=some ax)(hk:wpOp P (.bl ax) e O K):
  ∃x' y,K x' O/\R I L O x' y/\(Builtin.len_ #[t] ty #[a.eval x]).run P w= .ok y w:=by
 have rx:=ar hx he;simp only[wpOp]at hk;generalize ax.ev e=A at rx hk;generalize a.eval x=X at rx
 have hs:∀b n c,(Builtin.len_ #[t] ty #[.slice b n c]).run P w= .ok (.int .i64 n) w:=by
  intro b n c;simp[Builtin.len_,run_underlying ht,goInt]
 cases A
 case aA=>cases rx;exact⟨_,.int .i64 0,hk,.v _ rfl,hs none 0 0⟩
 case sl xs=>
  cases rx with
  |nP b c=>exact⟨_,.int .i64 0,hk,.v _ rfl,hs b 0 c⟩
  |sl _ aZ off cap s bd=>exact⟨_,.int .i64 xs.length,hk,.v _ rfl,hs _ _ _⟩
 case row n len=>
  cases hO:O[n]? with
  |none=>simp only[hO]at hk
  |some ob=>
   cases ob with
   |dead=>simp only[hO]at hk
   |own a=>simp only[hO]at hk
   |cE g=>simp only[hO]at hk
   |nil t' s'=>
    simp only[hO]at hk;obtain⟨rfl,hk⟩:=hk;obtain⟨rfl,_⟩:=rx.lU hO;exact⟨_,.int .i64 0,hk,.v _ rfl,hs _ _ _⟩
   |live t' s xs=>
    simp only[hO]at hk;have:=rx.dA hO hk.1;subst this;exact⟨_,.int .i64 len,hk.2,.v _ rfl,hs _ _ _⟩
 all_goals exact hk.elim
theorem acM(hi:Inv I L O w)(he:∀t,R I L O (e t) (a.tmps.getD t undef)){t:TypeId}{x y:Operand}(hc:bL P ty (.makeSlice t x y)=some ao)(hk:wpOp P ao e O K):
  fu P I L O w (execOp a.eval ⟨d,.makeSlice t x y,ty,pos,af,g⟩) K:=by
 simp only[bL,bind_eq_bind,bind_eq_some_iff,Option.some.injEq]at hc;obtain⟨el,ji,⟨s,b,z⟩,hz,ax,hx,ay,hy,rfl⟩:=hc;have ht:=gv ji;obtain⟨i,z0,h1,h2,h3,rfl,rfl,h4,h5,h6,h7⟩:=eR hz;have rx:=ar hx he;have ry:=ar hy he;simp only[wpOp]at hk;generalize ax.ev e=A at rx hk;generalize ay.ev e=B at ry hk;generalize hX:a.eval x=X at rx;generalize hY:a.eval y=Y at ry
 split at hk
 ·rename_i n c;obtain⟨q1,q2,q3,q4,hk⟩:=hk;have e1:=rx.exact;have e2:=ry.exact;subst e1;subst e2;have hm:c<=9223372036854775807:=by simpa [maxLen]using q4
  have bc:=run_make (P:=P) w t el i z0 ht h1 h2 .i64 .i64 n c q1 q2 (by omega) hm;have abL:=ff.made (I:=I) (L:=L) (O:=O) (cap:=c.toNat) (n:=n.toNat) (eD h3) h7 h4 h5 (by omega);have dK:=hi.new (e:=el) (s:=i.size) (xs:=List.replicate n.toNat z) (madeCells z0.cells (c.toNat*i.size)) c.toNat (size_madeCells _ _) (by simp;omega) (by simp only[maxLen]at q4⊢;omega) h5 abL;have hr:=R.bN (I:=I) (L:=λ k=>if k=O.length then Loc.at w.heap.size (c.toNat)else L k) (O:=O++ [.live el i.size (List.replicate n.toNat z)]) O.length n.toNat el i.size (List.replicate n.toNat z) (by simp) (by simp);refine⟨_,_,_,_,_,_,hk,dK,hr,.inl ?_⟩;simp only[execOp,hX,hY];rw[Sem.run_bind,bc];simp
 ·exact hk.elim
theorem j9{x:Option Operand}{ax:Option aC}(hx:x.mapM bu=some ax)(he:∀t,R I L O (e t) (a.tmps.getD t undef)){avW:Int}{M:Int->Prop}(h:fq avW e ax M):
  ∃i:Int,M i/\((x=none/\i=avW)∨∃o k,x=some o/\a.eval o= .int k i):=by
 cases x with
 |none=>simp at hx;subst hx;exact⟨avW,h,.inl ⟨rfl,rfl⟩⟩
 |some o=>
  simp only[Option.mapM_some,Option.map_eq_map,map_eq_some_iff]at hx;obtain⟨ao,hao,rfl⟩:=hx;have r:=ar hao he;simp only[fq]at h;generalize ao.ev e=A at r h;cases A
  case v p=>
   cases p
   case int k i=>exact⟨i,h,.inr ⟨o,k,rfl,r.exact⟩⟩
   all_goals exact h.elim
  all_goals exact h.elim
theorem run_sliceBound{k:IntKind}{i:Int}{y:Nat}{code:BoundsCode}(h0:0<=i)(h1:i<=y)(w:World):(Instr.sliceBound (.int k i) y code).run P w= .ok i.toNat w:=by
 simp[Instr.sliceBound,asIntOf,h0,h1]
theorem gz{sl:Bool}{len cap:Nat}{lo hi:Option Operand}{l h:Int}(hlc:len<=cap)
  (hlo:(lo=none/\l=0)∨∃o k,lo=some o/\a.eval o= .int k l) (hhi:(hi=none/\h=len)∨∃o k,hi=some o/\a.eval o= .int k h)
  (h0:0<=l) (h1:l<=h) (h2:h<=len) (w:World):
  (Instr.sliceBounds sl len cap (lo.map a.eval) (hi.map a.eval) none).run P w= .ok (l.toNat,h.toNat,cap) w:=by
 rcases hhi with⟨rfl,rfl⟩|⟨o,k,rfl,ho⟩<;>rcases hlo with⟨rfl,rfl⟩|⟨o',k',rfl,ho'⟩
 ·simp[Instr.sliceBounds]
 ·simp[Instr.sliceBounds,ho',run_sliceBound (P:=P) (k:=k') (i:=l) (y:=len) h0 (by omega) w]
 ·simp[Instr.sliceBounds,ho,run_sliceBound (P:=P) (k:=k) (i:=h) (y:=cap) (by omega) (by omega) w]
 ·simp[Instr.sliceBounds,ho,ho',run_sliceBound (P:=P) (k:=k) (i:=h) (y:=cap) (by omega) (by omega) w,run_sliceBound (P:=P) (k:=k') (i:=l) (y:=h.toNat) h0 (by omega) w]
theorem alb(hi:Inv I L O w)(he:∀t,R I L O (e t) (a.tmps.getD t undef)){t:TypeId}{x:Operand}{lo ei mx:Option Operand}(hc:bL P ty (.slice t x lo ei mx)=some ao)(hk:wpOp P ao e O K):
  fu P I L O w (execOp a.eval ⟨d,.slice t x lo ei mx,ty,pos,af,g⟩) K:=by
 simp only[bL]at hc
 split at hc
 ·cases hc
 ·rename_i kA;obtain rfl:mx=none:=by cases mx<;>simp at kA⊢
  split at hc
  ·rename_i ht;simp only[bind_eq_bind,bind_eq_some_iff,Option.some.injEq]at hc;obtain⟨ax,hx,al,hl,ah,hh,rfl⟩:=hc;have rx:=ar hx he;simp only[wpOp]at hk;generalize ax.ev e=A at rx hk;generalize hX:a.eval x=X at rx;cases A
   case v p=>
    cases p
    case string s=>
     have e1:=rx.exact;subst e1;obtain⟨l,hk,hlo⟩:=j9 hl he hk;obtain⟨h,hk,hhi⟩:=j9 hh he hk;obtain⟨q1,q2,q3,hk⟩:=hk;have hb:=gz (P:=P) (sl:=false) (cap:=s.size) (le_refl _) hlo hhi q1 q2 q3 w;refine fu.same hi hk (.v _ rfl) ?_;simp only[execOp,hX];simp[Instr.sliceAt,Instr.slice,run_underlying ht,hb]
    all_goals exact hk.elim
   all_goals exact hk.elim
  ·rename_i el ht;simp only[bind_eq_bind,bind_eq_some_iff,Option.some.injEq]at hc;obtain⟨inf,wP,ax,hx,al,hl,ah,hh,rfl⟩:=hc;have rx:=ar hx he;simp only[wpOp]at hk;generalize ax.ev e=A at rx hk;generalize hX:a.eval x=X at rx;cases A
   case sl xs=>
    obtain⟨l,hk,hlo⟩:=j9 hl he hk;obtain⟨h,hk,hhi⟩:=j9 hh he hk;obtain⟨q1,q2,q3,q4,hk⟩:=hk;cases rx with
    |nP b cap=>
     simp at q3 hhi;obtain rfl:l=0:=by omega
     obtain rfl:h=0:=by omega
     have hb:=gz (P:=P) (sl:=true) (len:=0) (cap:=cap) (zero_le _) hlo (by simpa using hhi) q1 q2 (by simp) w;refine fu.same hi hk (y:= .slice (if cap=0 then b else b.map (·.add (0*inf.size))) 0 (cap- 0)) (.nP _ _) ?_;simp only[execOp,hX];simp at hb;simp[Instr.sliceAt,Instr.slice,run_underlying ht,hb,sizeOf,typeInfo,wP]
    |sl _ aZ off cap s bd r1 r2 r3 r4 r5=>
     have hb:=gz (P:=P) (sl:=true) (len:=xs.length) (cap:=cap) r1 hlo hhi q1 q2 q3 w
     have hs:s=inf.size:=by
      obtain⟨y,hy⟩:=List.exists_mem_of_ne_nil _ r2;obtain⟨j,hj⟩:=getElem?_of_mem hy;rw[←r3 j y hj,q4 y hy]
     subst hs;by_cases hlen:l=h
     ·subst hlen;have zt:(xs.take l.toNat).drop l.toNat= []:=by simp
      rw[zt]at hk;refine fu.same hi hk (y:= .slice (if cap=l.toNat then some ⟨aZ,off,none⟩else some ⟨aZ,off+l.toNat*inf.size,none⟩) 0 (cap- l.toNat)) (.nP _ _) ?_;simp only[execOp,hX];simp[Instr.sliceAt,Instr.slice,run_underlying ht,hb,sizeOf,typeInfo,wP,add_lit]
     ·have hlh:l.toNat<h.toNat:=by omega
      have mS:¬(cap=l.toNat):=by omega
      have akp:((xs.take h.toNat).drop l.toNat).length=h.toNat- l.toNat:=by simp;omega
      have auW:∀(i:Nat) y,((xs.take h.toNat).drop l.toNat)[i]? =some y->xs[l.toNat+i]? =some y:=by
       intro i y hy;rw[List.getElem?_drop,List.getElem?_take]at hy
       split at hy
       ·exact hy
       ·cases hy
      have bk:(xs.take h.toNat).drop l.toNat≠[]:=by
       intro h0;have:=congrArg List.length h0;rw[akp]at this;simp at this;omega
      have hr:=R.sl (I:=I) (L:=L) (O:=O) ((xs.take h.toNat).drop l.toNat) aZ (off+l.toNat*inf.size) (cap- l.toNat) inf.size (λ i=>bd (l.toNat+i)) (by omega) bk
       (λ i y hy=>r3 _ y (auW i y hy))
       (λ i y j c hy hj=>by have:=r4 _ y j c (auW i y hy) hj;rwa [Nat.add_mul,←add_assoc]at this)
       (λ i y j c hy hj=>r5 _ y j c (auW i y hy) hj)
      rw[akp]at hr;refine fu.same hi hk hr ?_;simp only[execOp,hX];simp[Instr.sliceAt,Instr.slice,run_underlying ht,hb,sizeOf,typeInfo,wP,add_lit,mS]
   all_goals exact hk.elim
  ·cases hc
end
end Go.Ab
namespace Go.Ab
theorem aW{xs:List AV}(h:AV.ae xs=true):∀x∈xs,x.ag=true:=by
 induction xs with
 |nil=>simp
 |cons y ys ih=>
  simp only[AV.ae,and_eq_true]at h;intro x hx;rcases List.mem_cons.1 hx with rfl|hx
  ·exact h.1
  ·exact ih h.2 x hx
theorem ej{x:AV}(h:x.ag=true):∀c∈x.cells,c.ag=true:=by
 cases x<;>simp only[AV.cells]<;>try (intro c hc;simp at hc;subst hc;exact h)
 simp only[AV.ag]at h;exact aW h
theorem R.ag{I I':cZ}{L L':Nat->Loc}{O O':List aa}(hI:∀b o x,I b o=some x->I' b o=some x){a:AV}{x:Value}(hr:R I L O a x)(h:a.ag=true):R I' L' O' a x:=by
 induction hr with
 |top x=>exact .top x
 |v x hx=>exact .v x hx
 |aA=>exact .aA
 |wO t x=>exact .wO t x
 |nP a cap=>exact .nP a cap
 |sl xs aZ off cap s bd h1 h2 h3 h4 _ ih=>
  refine .sl xs aZ off cap s bd h1 h2 h3 (λ i x j c hi hj=>⟨hI _ _ _ (h4 i x j c hi hj).1,(h4 i x j c hi hj).2⟩) λ i x j c hi hj=>ih i x j c hi hj ?_
  exact ej (aW (by simpa [AV.ag]using h) x (mem_of_getElem? hi)) c (mem_of_getElem? hj)
 |bV x f aZ base bd h1 _ ih=>
  refine .bV x f aZ base bd (λ j c hj=>⟨hI _ _ _ (h1 j c hj).1,(h1 j c hj).2⟩) λ j c hj=>ih j c hj ?_
  exact ej (by simpa [AV.ag]using h) c (mem_of_getElem? hj)
 |bN=>simp[AV.ag]at h
 |fj=>simp[AV.ag]at h
 |dG=>simp[AV.ag]at h
 |dm=>simp[AV.ag]at h
 |eZ=>simp[AV.ag]at h
 |fn f aV vs h1 _ ih=>exact .fn f aV vs h1 λ i c x hi hx=>ih i c x hi hx (aW (by simpa [AV.ag]using h) c (mem_of_getElem? hi))
 |agg cs vs h1 _ ih=>exact .agg cs vs h1 λ i c x hi hx=>ih i c x hi hx (aW (by simpa [AV.ag]using h) c (mem_of_getElem? hi))
 |a9 cs vs h1 _ ih=>exact .a9 cs vs h1 λ i c x hi hx=>ih i c x hi hx (aW (by simpa [AV.ag]using h) c (mem_of_getElem? hi))
 |cJ=>simp[AV.ag]at h
 |fx=>simp[AV.ag]at h
 |dH=>simp[AV.ag]at h
theorem R.of_nil{I:cZ}{L L':Nat->Loc}{O':List aa}{a:AV}{x:Value}(hr:R I L [] a x):R I L' O' a x:=by
 generalize hO:([]:List aa)=O at hr
 induction hr with
 |top x=>exact .top x
 |v x hx=>exact .v x hx
 |aA=>exact .aA
 |wO t x=>exact .wO t x
 |nP a cap=>exact .nP a cap
 |sl xs aZ off cap s bd h1 h2 h3 h4 _ ih=>exact .sl xs aZ off cap s bd h1 h2 h3 h4 λ i x j c hi hj=>ih i x j c hi hj
 |bV x f aZ base bd h1 _ ih=>exact .bV x f aZ base bd h1 λ j c hj=>ih j c hj
 |bN n len e s xs hn=>subst hO;simp at hn
 |fj n e s hn=>subst hO;simp at hn
 |dG n len x hn=>subst hO;simp at hn
 |dm n len i f e s xs hn=>subst hO;simp at hn
 |eZ n len i f x hn=>subst hO;simp at hn
 |fn f aV vs h1 _ ih=>exact .fn f aV vs h1 λ i c x hi hx=>ih i c x hi hx
 |agg cs vs h1 _ ih=>exact .agg cs vs h1 λ i c x hi hx=>ih i c x hi hx
 |a9 cs vs h1 _ ih=>exact .a9 cs vs h1 λ i c x hi hx=>ih i c x hi hx
 |cJ n a hn=>subst hO;simp at hn
 |fx n a hn=>subst hO;simp at hn
 |dH n x hn=>subst hO;simp at hn
theorem R.flat{I I':cZ}{L L':Nat->Loc}{O O':List aa}{a:AV}{x:Value}(hr:R I L O a x)(h:a.flat=true):R I' L' O' a x:=by
 cases hr<;>simp only[AV.flat]at h<;>first|(simp at h;done)|skip
 ·exact .v _ (by assumption)
 ·rename_i cs vs h1 h2;refine .a9 _ _ h1 λ i c x hc hx=> ?_
  have hm:=List.all_eq_true.1 h c (mem_of_getElem? hc);have hr:=h2 i c x hc hx;cases c<;>simp at hm
  cases hr;exact .v _ (by assumption)
theorem abk(O:List aa)(a:AV):(ec O a).length=O.length:=by
 cases a<;>simp[ec]
theorem agX(as:List AV)(O:List aa):(as.foldl ec O).length=O.length:=by
 induction as generalizing O with
 |nil=>rfl
 |cons a as ih=>simp[ih,abk]
theorem lA(as:List AV)(O:List aa){n e s:Nat}{xs:List AV}(h:(as.foldl ec O)[n]? =some (.live e s xs)):
  O[n]? =some (.live e s xs)/\∀len,AV.row n len∉as:=by
 induction as generalizing O with
 |nil=>exact⟨h,by simp⟩
 |cons a as ih=>
  obtain⟨h1,h2⟩:=ih (ec O a) h;cases a with
  |row m ml=>
   simp only[ec,getElem?_set]at h1;by_cases hm:m=n
   ·subst hm;simp at h1
   ·rw[if_neg hm]at h1;refine⟨h1,λ len iP=> ?_⟩;rcases List.mem_cons.1 iP with h3|h3
    ·cases h3;exact hm rfl
    ·exact h2 len h3
  |own m=>
   simp only[ec,getElem?_set]at h1;by_cases hm:m=n
   ·subst hm;simp at h1
   ·rw[if_neg hm]at h1;refine⟨h1,λ len iP=> ?_⟩;rcases List.mem_cons.1 iP with h3|h3
    ·cases h3
    ·exact h2 len h3
  |_=>exact⟨h1,λ len hm=>by rcases List.mem_cons.1 hm with h3|h3;cases h3;exact h2 len h3⟩
section
variable {P:Program} {I:cZ} {L:Nat->Loc} {O:List aa} {w:World}
open Classical in
noncomputable def xL (I:cZ) (L:Nat->Loc) (O:List aa) (w:World) (as:List AV):cZ:=λ b o=>
 if(∃(n len e s:Nat) (xs:List AV),AV.row n len∈as/\O[n]? =some (.live e s xs)/\xs.length=len/\(L n).aZ=b)∨(∃(n:Nat) (a:AV) (o:Nat) (v:Value),AV.own n∈as/\O[n]? =some (.own a)/\(L n).mem b o=some v)then w.cell? ⟨b,o,none⟩else I b o
theorem aoq(as:List AV)(O:List aa){n e s:Nat}(h:(as.foldl ec O)[n]? =some (.nil e s)):O[n]? =some (.nil e s):=by
 induction as generalizing O with
 |nil=>exact h
 |cons a as ih=>
  have h0:=ih _ h;cases a<;>try exact h0
  all_goals
   simp only[ec,getElem?_set]at h0
   split at h0
   ·split at h0<;>cases h0
   ·exact h0
theorem wE(as:List AV)(O:List aa){n:Nat}{a:AV}(h:(as.foldl ec O)[n]? =some (.own a)):O[n]? =some (.own a):=by
 induction as generalizing O with
 |nil=>exact h
 |cons a as ih=>
  have h0:=ih _ h;cases a<;>try exact h0
  all_goals
   simp only[ec,getElem?_set]at h0
   split at h0
   ·split at h0<;>cases h0
   ·exact h0
theorem abj(as:List AV)(O:List aa){n:Nat}{a:fH}(h:(as.foldl ec O)[n]? =some (.cE a)):O[n]? =some (.cE a):=by
 induction as generalizing O with
 |nil=>exact h
 |cons a as ih=>
  have h0:=ih _ h;cases a<;>try exact h0
  all_goals
   simp only[ec,getElem?_set]at h0
   split at h0
   ·split at h0<;>cases h0
   ·exact h0
theorem alN(as:List AV)(O:List aa){n:Nat}{c:AV}(h:(as.foldl ec O)[n]? =some (.own c)):AV.own n∉as:=by
 induction as generalizing O with
 |nil=>simp
 |cons a as ih=>
  intro hm;rcases List.mem_cons.1 hm with h3|h3
  ·subst h3;have h1:=wE as _ h;simp only[ec,getElem?_set]at h1
   split at h1
   ·split at h1<;>cases h1
   ·rename_i bk;exact(bk trivial).elim
  ·exact ih _ h h3
theorem zO(hi:Inv I L O w)(as:List AV):∀b o x,I b o=some x->xL I L O w as b o=some x:=by
 intro b o x hx;unfold xL
 split
 ·exact hi.gN b o x hx
 ·exact hx
theorem aoe(hi:Inv I L O w){as:List AV}{n len:Nat}(hm:AV.row n len∈as){e s:Nat}{xs:List AV}(hO:O[n]? =some (.live e s xs))(hl:xs.length=len)(o:Nat):
  xL I L O w as (L n).aZ o=w.cell? ⟨(L n).aZ,o,none⟩:=by
 unfold xL;rw[if_pos (.inl ⟨n,len,e,s,xs,hm,hO,hl,rfl⟩)]
theorem ad1(hi:Inv I L O w){as:List AV}{a:AV}(ha:a∈as){x:Value}(hr:R I L O a x)(hn:(jL O a).ag=true):R (xL I L O w as) L [] (jL O a) x:=by
 have hle:=zO hi as;cases a
 case row n len=>
  simp only[jL]at hn⊢;cases hO:O[n]? with
  |none=>simp only[hO]at hn;simp[AV.ag]at hn
  |some ob=>
   cases ob with
   |dead=>simp only[hO]at hn;simp[AV.ag]at hn
   |own a=>simp only[hO]at hn;simp[AV.ag]at hn
   |cE g=>simp only[hO]at hn;simp[AV.ag]at hn
   |nil e s=>
    simp only[hO]at hn⊢;obtain⟨rfl,rfl⟩:=hr.lU hO;rw[if_pos rfl];exact .nP _ _
   |live e s xs=>
    simp only[hO]at hn⊢;by_cases hl:xs.length=len
    ·rw[if_pos hl]at hn⊢;have:=hr.dA hO hl;subst this;obtain⟨c,⟨kS,h1,cL⟩,h2,h3,h4,h5,h6⟩:=hi.obj n e s xs hO;by_cases hx:xs= []
     ·subst hx;simp at hl;subst hl;exact .nP _ _
     ·subst hl;refine(.sl xs (L n).aZ 0 (L n).cap s (λ i j=>(c[i*s+j]?).getD undef) h3 hx (λ i x hx=>(h6 i x hx).1) (λ i x j d hx hj=> ?_) λ i x j d hx hj=> ?_)
      ·obtain⟨y,hy,ho,_⟩:=(h6 i x hx).2 j d hj;rw[aoe hi ha hO rfl,Nat.zero_add,eC h1,hy];exact⟨rfl,ho⟩
      ·obtain⟨y,hy,ho,pF⟩:=(h6 i x hx).2 j d hj;rw[hy];exact pF.ag hle (ej (aW (by simpa [AV.ag]using hn) x (mem_of_getElem? hx)) d (mem_of_getElem? hj))
    ·rw[if_neg hl]at hn;simp[AV.ag]at hn
 case own n=>
  simp only[jL]at hn⊢;cases hr with
  |cJ _ b hO=>
   simp only[hO]at hn⊢;refine(hi.ow.tree n b hO L []).ag (λ p o v hv=> ?_) hn;unfold xL;rw[if_pos (.inr ⟨n,b,o,v,ha,hO,hv⟩)];exact hi.ow.cell n b hO p o v hv
  |fx _ g hO=>simp only[hO]at hn;simp[AV.ag]at hn
  |dH _ _ aw b8=>
   cases hO:O[n]? with
   |none=>simp only[hO]at hn;simp[AV.ag]at hn
   |some ob=>
    cases ob with
    |own b=>exact(b8 b hO).elim
    |_=>simp only[hO]at hn;simp[AV.ag]at hn
 all_goals exact hr.ag hle hn
theorem jV{f:FuncId}{as aV:List AV}{vs:Array Value}{res:AV}(hi:Inv I L O w)(hr:RL I L O (as++aV) vs)(hn:AV.ae (as.map (jL O)++aV)=true)(hc:a7 P f (as.map (jL O)++aV) res):
  Calls P f vs w λ e w'=>∃y I' L',e= .returned y/\R I' L' (zD O as res) res y/\Good I L O w I' L' (zD O as res) w':=by
 have hle:=zO hi as
 have hinv:Inv (xL I L O w as) L [] w:=by
  refine⟨λ b o x hx=> ?_,by simp,by simp,by simp,λ p hp=>hle _ _ _ (hi.fix p hp),hi.xe hle,.no (by simp),.no (by simp)⟩;unfold xL at hx
  split at hx
  ·exact hx
  ·exact hi.gN b o x hx
 have kV:RL (xL I L O w as) L [] (as.map (jL O)++aV) vs:=by
  refine⟨by have:=hr.1;simpa using this,λ i a x ha hx=> ?_⟩;have hna:=aW hn a (mem_of_getElem? ha);by_cases aw:i<as.length
  ·rw[getElem?_append_left (by simpa using aw)]at ha;simp only[getElem?_map,map_eq_some_iff]at ha;obtain⟨a0,ha0,rfl⟩:=ha;exact ad1 hi (mem_of_getElem? ha0) (hr.2 i a0 x (by rw[getElem?_append_left aw];exact ha0) hx) hna
  ·rw[getElem?_append_right (by simp;omega)]at ha;simp only[length_map]at ha;exact(hr.2 i a x (by rw[getElem?_append_right (by omega)];exact ha) hx).ag hle hna
 refine(hc.2 _ _ _ _ hinv kV).mono ?_;rintro e w' ⟨y,I',L',rfl,hry,hg⟩;have oi:∀b,b<w.heap.size->w'.heap[b]? =w.heap[b]? :=λ b hb=>hg.lK.block b hb tt
 have hold:∀{n e s xs},O[n]? =some (.live e s xs)->(L n).aZ<w.heap.size:=by
  intro n e s xs h;obtain⟨c,⟨kS,h1,cL⟩,_⟩:=hi.obj n e s xs h;exact(Array.getElem?_eq_some_iff.1 h1).1
 by_cases hf:res.flat=true
 ·rw[zD,if_pos hf];refine⟨y,I,L,rfl,hry.flat hf,⟨⟨λ b o x hx=> ?_,λ n e s xs hn=> ?_,hi.sep,hi.cT,hi.fix,hi.uo (λ b hb _=>oi b hb) (λ _ _ _ h=>h),hi.ow.ai λ b hb _=>oi b hb,hi.gh.step (λ _ _ h=>⟨h,rfl⟩) (λ _ _ h=>h) λ b hb=>oi b hb.1⟩,.refl _ _ _,⟨hg.lK.os,hg.lK.tape,hg.lK.output,hg.lK.size,λ b hb _=>oi b hb⟩,λ _ h=> .inl h,λ _ _ _ h=> .inl h⟩⟩
  ·have:=hi.gN b o x hx;rw[←this];exact World.cell?_of_block (a:=⟨b,o,none⟩) (oi b (jO this))
  ·exact(hi.obj n e s xs hn).congr (oi _ (hold hn)) λ _ _ h=>h
 ·rw[zD,if_neg hf];have au5:∀b o x,I b o=some x->I' b o=some x:=λ b o x h=>hg.ext.gN _ _ _ (hle b o x h)
  have cH:Ext I L O I' L (as.foldl ec O):=⟨au5,by rw[agX];exact le_refl _,λ n _ e s xs h=> .inl ⟨xs,(lA as O h).1,le_refl _,λ _=>rfl⟩,λ n _ e s h=>aoq as O h,λ n _ a h=>⟨⟨a,wE as O h⟩,rfl⟩,λ n _ a h=>⟨⟨a,abj as O h,rfl⟩,rfl⟩⟩
  have dE:∀b o x,I' b o=some x->I b o=some x∨(∃(n len e s:Nat) (xs:List AV),AV.row n len∈as/\O[n]? =some (.live e s xs)/\xs.length=len/\(L n).aZ=b)∨w.heap.size<=b∨(∃(n:Nat) (a:AV) (o:Nat) (v:Value),AV.own n∈as/\O[n]? =some (.own a)/\(L n).mem b o=some v):=by
   intro b o x h;rcases hg.eK b o x h with h1|h1|h1
   ·unfold xL at h1
    split at h1
    ·rename_i hh;rcases hh with hh|hh
     ·exact .inr (.inl hh)
     ·exact .inr (.inr (.inr hh))
    ·exact .inl h1
   ·exact(tt h1).elim
   ·exact .inr (.inr (.inl h1))
  refine⟨y,I',L,rfl,hry.of_nil,⟨⟨hg.inv.gN,λ n e s xs hn=> ?_,λ n m e s xs e' s' ys h1 h2=>hi.sep n m _ _ _ _ _ _ (lA as O h1).1 (lA as O h2).1,λ n e s xs o h=> ?_,hg.inv.fix,hg.inv.aZ,hi.ow.asI (λ n a h=>⟨wE as O h,rfl⟩) (λ b o v hv=> ?_) (λ m e s xs hm=> .inl ⟨m,e,s,xs,(lA as O hm).1,rfl⟩) (λ b hb _=>oi b hb),hi.gh.step (λ n a h=>⟨abj as O h,rfl⟩) (λ _ _ h=>h.mono cH) λ b hb=>oi b hb.1⟩,cH,⟨hg.lK.os,hg.lK.tape,hg.lK.output,hg.lK.size,λ b hb _=>oi b hb⟩,?_,?_⟩⟩
  ·have h0:=(lA as O hn).1;exact(hi.obj n e s xs h0).congr (oi _ (hold h0)) λ _ _ h=>h.mono cH
  ·obtain⟨h0,h1⟩:=lA as O h;cases hx:I' (L n).aZ o with
   |none=>rfl
   |some x=>
    rcases dE _ _ _ hx with h2|⟨m,len,e',s',fI,h2,h3,h4,h5⟩|h2|⟨m,c,o2,v2,h2,h3,h4⟩
    ·rw[hi.cT n e s xs o h0]at h2;cases h2
    ·have:=hi.sep m n _ _ _ _ _ _ h3 h0 h5;subst this;exact(h1 len h2).elim
    ·have:=hold h0;omega
    ·exact(hi.ow.live m c h3 _ o2 v2 h4 n _ _ _ h0 rfl).elim
  ·rcases dE b o v hv with h1|⟨n,len,e,s,xs,_,h2,_,h3⟩|h1|⟨m,c,o2,v2,h2,h3,h4⟩
   ·exact .inl ⟨o,v,h1⟩
   ·exact .inr (.inl ⟨n,e,s,xs,h2,h3⟩)
   ·exact .inr (.inr (.inl h1))
   ·exact .inr (.inr (.inr ⟨m,c,o2,v2,h3,h4,λ d hd=>alN as O hd h2⟩))
  ·rintro b (⟨n,e,s,xs,h,hb⟩|⟨n,a,o,v,h,hb⟩|⟨n,a,h,hb⟩)
   ·exact .inl (.inl ⟨n,e,s,xs,(lA as O h).1,hb⟩)
   ·exact .inl (.inr (.inl ⟨n,a,o,v,wE as O h,hb⟩))
   ·exact .inl (.inr (.inr ⟨n,a,abj as O h,hb⟩))
  ·intro b o x h;rcases dE b o x h with h1|⟨n,len,e,s,xs,_,h2,_,h3⟩|h1|⟨m,c,o2,v2,h2,h3,h4⟩
   ·exact .inl h1
   ·exact .inr (.inl (.inl ⟨n,e,s,xs,h2,h3⟩))
   ·exact .inr (.inr h1)
   ·exact .inr (.inl (.inr (.inl ⟨m,c,o2,v2,h3,h4⟩)))
end
section
variable {P:Program} {I:cZ} {L:Nat->Loc} {O:List aa} {w:World} {K:AV->List aa->Prop} {e:Env} {a:Act}
variable {d:Option Tmp} {ty:TypeId} {pos:String} {af:Array Edge} {g:Option (Nat×Bool)}
theorem aiu(hi:Inv I L O w)(he:∀t,R I L O (e t) (a.tmps.getD t undef)){t:TypeId}{len:Nat}{parts:Array (Nat×Operand)}{el' s' l':Nat}{z':AV}{ps':List (Nat×aC)}
  (hc:bL P ty (.buildSlice t len parts)=some (.buildSlice el' s' l' z' ps')) (hk:wpOp P (.jf el' s' l' z' ps') e O K):
  fu P I L O w (execOp a.eval ⟨d,.buildSlice t len parts,ty,pos,af,g⟩) K:=by
 simp only[bL,bind_eq_bind,bind_eq_some_iff]at hc;obtain⟨el,ji,⟨s,b,z⟩,hz,ps,hps,hc⟩:=hc
 split at hc
 ·rename_i abS;simp only[Option.some.injEq,dY.buildSlice.injEq]at hc;obtain⟨rfl,rfl,rfl,rfl,rfl⟩:=hc;have ht:=gv ji;obtain⟨i,z0,h1,h2,h3,rfl,rfl,h4,h5,h6,h7⟩:=eR hz;have abL:=ff.made (I:=I) (L:=L) (O:=O) (cap:=len) (n:=len) (eD h3) h7 h4 h5 (le_refl _);obtain⟨fI,c',⟨b8,m1⟩,m2,m3,m4,m5⟩:=vi he parts.toList ps _ _ abL (by simp) hps hk;have hlx:fI.length=len:=by simpa using m3
  obtain⟨I',hg,hr⟩:=hi.axG (el:=el) (s:=i.size) (xs:=fI) c' len (by omega) (λ k x hx j c hj I' L' O' v hI hv=>hv.ag hI (ej (aW b8 x (mem_of_getElem? hx)) c (mem_of_getElem? hj))) m2;rw[hlx]at hr;refine⟨_,_,.slice (some ⟨w.heap.size,0,none⟩) len len,_,_,_,m1,hg,hr,.inl ?_⟩;have hns:¬(len*i.size>2^24):=by simpa using abS
  simp only[execOp];by_cases h0:len*i.size=0
  ·have zQ:len=0:=by rcases Nat.mul_eq_zero.1 h0 with h|h<;>omega
   subst zQ;simp[Array.range_zero']at m5;simp[Instr.buildSlice,run_underlying ht,sizeOf,typeInfo,h1,m5,newRow,Array.range_zero']
  ·simp[Instr.buildSlice,run_underlying ht,sizeOf,typeInfo,h1,hns,h0,zeroValue,h2,m5,newRow]
 ·cases hc
end
end Go.Ab
namespace Go.Ab
mutual
def AV.inScope(k:Nat):AV->Bool
 | .top| .v _| .aA| .wO=>true
 | .sl xs=>AV.cD k xs
 | .bV x _=>x.inScope k
 | .row n _=>n<k
 | .ptr n _ _ _=>n<k
 | .fn _ cs=>AV.cD k cs
 | .agg cs=>AV.cD k cs
 | .a9 vs=>AV.cD k vs
 | .own n=>n<k
def AV.cD(k:Nat):List AV->Bool
 | []=>true
 |x::xs=>x.inScope k&&AV.cD k xs
end
theorem bG{k:Nat}{xs:List AV}(h:AV.cD k xs=true):∀x∈xs,x.inScope k=true:=by
 induction xs with
 |nil=>simp
 |cons y ys ih=>
  simp only[AV.cD,and_eq_true]at h;intro x hx;rcases List.mem_cons.1 hx with rfl|hx
  ·exact h.1
  ·exact ih h.2 x hx
mutual
theorem bU{k:Nat}:∀(x:AV),x.ag=true->x.inScope k=true
 | .top,_| .v _,_| .aA,_| .wO,_=>rfl
 | .sl xs,h=>by simp only[AV.ag,AV.inScope]at*;exact cP xs h
 | .bV x _,h=>by simp only[AV.ag,AV.inScope]at*;exact bU x h
 | .row _ _,h=>by simp[AV.ag]at h
 | .ptr _ _ _ _,h=>by simp[AV.ag]at h
 | .fn _ cs,h=>by simp only[AV.ag,AV.inScope]at*;exact cP cs h
 | .agg cs,h=>by simp only[AV.ag,AV.inScope]at*;exact cP cs h
 | .a9 cs,h=>by simp only[AV.ag,AV.inScope]at*;exact cP cs h
 | .own _,h=>by simp[AV.ag]at h
theorem cP{k:Nat}:∀(xs:List AV),AV.ae xs=true->AV.cD k xs=true
 | [],_=>rfl
 |x::xs,h=>by
  simp only[AV.ae,AV.cD,and_eq_true]at*;exact⟨bU x h.1,cP xs h.2⟩
end
theorem bT{k:Nat}{x:AV}(h:x.inScope k=true):∀c∈x.cells,c.inScope k=true:=by
 cases x<;>simp only[AV.cells]<;>try (intro c hc;simp at hc;subst hc;exact h)
 simp only[AV.inScope]at h;exact bG h
def aa.inScope(k:Nat):aa->Bool
 | .dead=>true
 | .own _=>true
 | .nil _ _=>true
 | .live _ _ xs=>AV.cD k xs
 | .cE (.mp es)=>es.all λ p=>p.1.inScope k&&p.2.inScope k
 | .cE (.it _ _)=>true
theorem eF(s:Nat->Nat)(xs:List AV):AV.sa s xs=xs.map (AV.bj s):=by
 induction xs with
 |nil=>rfl
 |cons x xs ih=>simp[AV.sa,ih]
mutual
theorem dI{s:Nat->Nat}:∀(a:AV),a.ag=true->a.bj s=a
 | .top,_| .v _,_| .aA,_| .wO,_=>rfl
 | .sl xs,h=>by simp only[AV.bj];rw[e8 xs (by simpa [AV.ag]using h)]
 | .bV x _,h=>by simp only[AV.bj];rw[dI x (by simpa [AV.ag]using h)]
 | .row _ _,h=>by simp[AV.ag]at h
 | .ptr _ _ _ _,h=>by simp[AV.ag]at h
 | .fn _ cs,h=>by simp only[AV.bj];rw[e8 cs (by simpa [AV.ag]using h)]
 | .agg cs,h=>by simp only[AV.bj];rw[e8 cs (by simpa [AV.ag]using h)]
 | .a9 cs,h=>by simp only[AV.bj];rw[e8 cs (by simpa [AV.ag]using h)]
 | .own _,h=>by simp[AV.ag]at h
theorem e8{s:Nat->Nat}:∀(xs:List AV),AV.ae xs=true->AV.sa s xs=xs
 | [],_=>rfl
 |x::xs,h=>by
  simp only[AV.ae,and_eq_true]at h;simp only[AV.sa];rw[dI x h.1,e8 xs h.2]
end
theorem dq(s:Nat->Nat)(a:AV):(a.bj s).cells=a.cells.map (AV.bj s):=by
 cases a<;>simp[AV.bj,AV.cells,eF]
theorem gM{s:Nat->Nat}{xs:List AV}{i:Nat}{y:AV}(h:(xs.map (AV.bj s))[i]? =some y):∃x,xs[i]? =some x/\y=x.bj s:=by
 simp only[getElem?_map,map_eq_some_iff]at h;obtain⟨x,hx,rfl⟩:=h;exact⟨x,hx,rfl⟩
theorem R.bj{I:cZ}{L L':Nat->Loc}{O O':List aa}{s:Nat->Nat}(hn:∀n,n<O'.length->s n<O.length)
  (hg:∀n,n<O'.length->O[s n]? =(O'[n]?).map (aa.bj s)) (hL:∀n,n<O'.length->L (s n)=L' n) {a:AV} {x:Value} (hr:R I L' O' a x):R I L O (a.bj s) x:=by
 have live:∀{n e k xs},O'[n]? =some (.live e k xs)->O[s n]? =some (.live e k (xs.map (AV.bj s)))/\L (s n)=L' n:=by
  intro n e k xs h;have aw:=(List.getElem?_eq_some_iff.1 h).1;exact⟨by rw[hg n aw,h];rfl,hL n aw⟩
 have back:∀{n e k xs},n<O'.length->O[s n]? =some (.live e k xs)->∃ys,O'[n]? =some (.live e k ys)/\ys.length=xs.length:=by
  intro n e k xs aw h;rw[hg n aw,map_eq_some_iff]at h;obtain⟨ob,h1,h2⟩:=h;cases ob with
  |dead=>cases h2
  |own a=>cases h2
  |cE g=>cases h2
  |nil=>cases h2
  |live e' k' ys=>cases h2;exact⟨ys,h1,by simp⟩
 have axD:∀{n e k},n<O'.length->O'[n]? ≠some (.nil e k)->O[s n]? ≠some (.nil e k):=by
  intro n e k aw bk h;rw[hg n aw,map_eq_some_iff]at h;obtain⟨ob,h1,h2⟩:=h;cases ob with
  |dead=>cases h2
  |own a=>cases h2
  |cE g=>cases h2
  |nil=>cases h2;exact bk h1
  |live=>cases h2
 induction hr with
 |top x=>exact .top x
 |v x hx=>exact .v x hx
 |aA=>exact .aA
 |wO t x=>exact .wO t x
 |nP a cap=>exact .nP a cap
 |sl xs aZ off cap k bd h1 h2 h3 h4 _ ih=>
  simp only[AV.bj,eF];rw[show xs.length=(xs.map (AV.bj s)).length by simp];refine .sl _ aZ off cap k bd (by simpa using h1) (by simpa using h2) (λ i x hx=> ?_) (λ i x j c hx hc=> ?_) (λ i x j c hx hc=> ?_)
  ·obtain⟨y,hy,rfl⟩:=gM hx;rw[dq,length_map];exact h3 i y hy
  ·obtain⟨y,hy,rfl⟩:=gM hx;rw[dq]at hc;obtain⟨d,hd,rfl⟩:=gM hc;exact h4 i y j d hy hd
  ·obtain⟨y,hy,rfl⟩:=gM hx;rw[dq]at hc;obtain⟨d,hd,rfl⟩:=gM hc;exact ih i y j d hy hd
 |bV x f aZ base bd h1 _ ih=>
  simp only[AV.bj];refine .bV _ f aZ base bd (λ j c hc=> ?_) (λ j c hc=> ?_)
  ·rw[dq]at hc;obtain⟨d,hd,rfl⟩:=gM hc;exact h1 j d hd
  ·rw[dq]at hc;obtain⟨d,hd,rfl⟩:=gM hc;exact ih j d hd
 |bN n len e k xs hx hl=>
  obtain⟨h1,h2⟩:=live hx;simp only[AV.bj];rw[←h2];exact .bN (s n) len e k _ h1 (by simpa using hl)
 |fj n e k hx=>
  simp only[AV.bj];refine .fj (s n) e k ?_;rw[hg n (List.getElem?_eq_some_iff.1 hx).1,hx];rfl
 |dG n len x aw zP hs hx=>
  simp only[AV.bj];refine .dG (s n) len x (hn n aw) (λ e k he=>axD aw (zP e k) he) (λ e k xs rh=> ?_) hx;obtain⟨ys,hy,he⟩:=back aw rh;rw[←he];exact hs e k ys hy
 |dm n len i f e k xs hx hl=>
  obtain⟨h1,h2⟩:=live hx;simp only[AV.bj];rw[←h2];exact .dm (s n) len i f e k _ h1 (by simpa using hl)
 |eZ n len i f x aw zP hs hx=>
  simp only[AV.bj];refine .eZ (s n) len i f x (hn n aw) (λ e k he=>axD aw (zP e k) he) (λ e k xs rh=> ?_) hx;obtain⟨ys,hy,he⟩:=back aw rh;rw[←he];exact hs e k ys hy
 |fn f aV vs h1 _ ih=>
  simp only[AV.bj,eF];refine .fn f _ vs (by simpa using h1) λ i c x hc hx=> ?_
  obtain⟨d,hd,rfl⟩:=gM hc;exact ih i d x hd hx
 |agg cs vs h1 _ ih=>
  simp only[AV.bj,eF];refine .agg _ vs (by simpa using h1) λ i c x hc hx=> ?_
  obtain⟨d,hd,rfl⟩:=gM hc;exact ih i d x hd hx
 |a9 cs vs h1 _ ih=>
  simp only[AV.bj,eF];refine .a9 _ vs (by simpa using h1) λ i c x hc hx=> ?_
  obtain⟨d,hd,rfl⟩:=gM hc;exact ih i d x hd hx
 |cJ n a h h1=>
  have aw:=(List.getElem?_eq_some_iff.1 h).1;rw[←hL n aw]at h1⊢;exact .cJ (s n) a (by rw[hg n aw,h];rfl) h1
 |fx n g h=>
  have aw:=(List.getElem?_eq_some_iff.1 h).1;have:g.val (L' n).aZ=(g.bj s).val (L (s n)).aZ:=by unfold fH.val;rw[fH.aaC,hL n aw]
  rw[this];exact .fx (s n) (g.bj s) (by rw[hg n aw,h];rfl)
 |dH n x aw b8 hng h1=>
  refine .dH (s n) x (hn n aw) (λ a ha=> ?_) (λ a ha=> ?_) h1
  ·rw[hg n aw,map_eq_some_iff]at ha;obtain⟨ob,h1,h2⟩:=ha;cases ob with
   |own c=>exact b8 c h1
   |_=>cases h2
  ·rw[hg n aw,map_eq_some_iff]at ha;obtain⟨ob,h1,h2⟩:=ha;cases ob with
   |cE c=>exact hng c h1
   |_=>cases h2
theorem R.am5{I:cZ}{L L':Nat->Loc}{O O':List aa}{s:Nat->Nat}(hg:∀n,n<O'.length->O[s n]? =(O'[n]?).map (aa.bj s))(hL:∀n,n<O'.length->L (s n)=L' n)
  {b:AV} {x:Value} (hr:R I L O b x):∀a:AV,b=a.bj s->a.inScope O'.length=true->R I L' O' a x:=by
 have live:∀{n e k xs},n<O'.length->O[s n]? =some (.live e k xs)->∃ys,O'[n]? =some (.live e k ys)/\xs=ys.map (AV.bj s):=by
  intro n e k xs aw h;rw[hg n aw,map_eq_some_iff]at h;obtain⟨ob,h1,h2⟩:=h;cases ob with
  |dead=>cases h2
  |own a=>cases h2
  |cE g=>cases h2
  |nil=>cases h2
  |live e' k' ys=>cases h2;exact⟨ys,h1,rfl⟩
 have fwd:∀{n e k ys},O'[n]? =some (.live e k ys)->O[s n]? =some (.live e k (ys.map (AV.bj s))):=by
  intro n e k ys h;rw[hg n (List.getElem?_eq_some_iff.1 h).1,h];rfl
 have azi:∀{n e k},O'[n]? =some (.nil e k)->O[s n]? =some (.nil e k):=by
  intro n e k h;rw[hg n (List.getElem?_eq_some_iff.1 h).1,h];rfl
 have cm:∀{y:AV} {j:Nat} {d:AV},y.cells[j]? =some d->(y.bj s).cells[j]? =some (d.bj s):=by
  intro y j d h;rw[dq,getElem?_map,h];rfl
 have mm:∀{ys:List AV} {j:Nat} {d:AV},ys[j]? =some d->(ys.map (AV.bj s))[j]? =some (d.bj s):=by
  intro ys j d h;rw[getElem?_map,h];rfl
 induction hr with
 |top x=>intro a h;cases a<;>simp[AV.bj]at h;intro _;exact .top x
 |v x hx=>intro a h;cases a<;>simp[AV.bj]at h;intro _;subst h;exact .v x hx
 |aA=>intro a h;cases a<;>simp[AV.bj]at h;intro _;exact .aA
 |wO t x=>intro a h;cases a<;>simp[AV.bj]at h;intro _;exact .wO t x
 |nP a cap=>
  intro a h;cases a<;>simp[AV.bj,eF]at h;intro _;subst h;exact .nP _ cap
 |sl xs aZ off cap k bd h1 h2 h3 h4 _ ih=>
  intro a h;cases a<;>simp[AV.bj,eF]at h
  rename_i ys;subst h;intro hs;have hs':=bG (by simpa [AV.inScope]using hs);rw[length_map];refine .sl ys aZ off cap k bd (by simpa using h1) (by simpa using h2) (λ i x hx=> ?_) (λ i x j c hx hc=>h4 i _ j _ (mm hx) (cm hc)) (λ i x j c hx hc=> ?_)
  ·have:=h3 i _ (mm hx);rwa [dq,length_map]at this
  ·exact ih i _ j _ (mm hx) (cm hc) c rfl (bT (hs' x (mem_of_getElem? hx)) c (mem_of_getElem? hc))
 |bV x f aZ base bd h1 _ ih=>
  intro a h;cases a<;>simp[AV.bj]at h
  rename_i y g;obtain⟨rfl,rfl⟩:=h;intro hs;refine .bV y f aZ base bd (λ j c hc=>h1 j _ (cm hc)) (λ j c hc=>ih j _ (cm hc) c rfl (bT (by simpa [AV.inScope]using hs) c (mem_of_getElem? hc)))
 |bN n len e k xs hx hl=>
  intro a h;cases a<;>simp[AV.bj]at h
  rename_i n' l';obtain⟨rfl,rfl⟩:=h;intro hs;have aw:n'<O'.length:=by simpa [AV.inScope]using hs
  obtain⟨ys,hy,rfl⟩:=live aw hx;rw[hL n' aw];exact .bN n' len e k ys hy (by simpa using hl)
 |fj n e k hx=>
  intro a h;cases a<;>simp[AV.bj]at h
  rename_i n' l';obtain⟨rfl,rfl⟩:=h;intro hs;have aw:n'<O'.length:=by simpa [AV.inScope]using hs
  rw[hg n' aw,map_eq_some_iff]at hx;obtain⟨ob,h1,h2⟩:=hx;cases ob with
  |dead=>cases h2
  |own a=>cases h2
  |cE g=>cases h2
  |live=>cases h2
  |nil=>cases h2;exact .fj n' e k h1
 |dG n len x ayz zP hd hx=>
  intro a h;cases a<;>simp[AV.bj]at h
  rename_i n' l';obtain⟨rfl,rfl⟩:=h;intro hs;refine .dG n' len x (by simpa [AV.inScope]using hs) (λ e k he=>zP e k (azi he)) (λ e k ys xj=> ?_) hx;have:=hd e k _ (fwd xj);simpa using this
 |dm n len i f e k xs hx hl=>
  intro a h;cases a<;>simp[AV.bj]at h
  rename_i n' l' i' f';obtain⟨rfl,rfl,rfl,rfl⟩:=h;intro hs;have aw:n'<O'.length:=by simpa [AV.inScope]using hs
  obtain⟨ys,hy,rfl⟩:=live aw hx;rw[hL n' aw];exact .dm n' len i f e k ys hy (by simpa using hl)
 |eZ n len i f x ayz zP hd hx=>
  intro a h;cases a<;>simp[AV.bj]at h
  rename_i n' l' i' f';obtain⟨rfl,rfl,rfl,rfl⟩:=h;intro hs;refine .eZ n' len i f x (by simpa [AV.inScope]using hs) (λ e k he=>zP e k (azi he)) (λ e k ys xj=> ?_) hx;have:=hd e k _ (fwd xj);simpa using this
 |fn f aV vs h1 _ ih=>
  intro a h;cases a<;>simp[AV.bj,eF]at h
  rename_i f' ys;obtain⟨rfl,rfl⟩:=h;intro hs;exact .fn f ys vs (by simpa using h1) λ i c x hc hx=>ih i _ x (mm hc) hx c rfl (bG (by simpa [AV.inScope]using hs) c (mem_of_getElem? hc))
 |agg cs vs h1 _ ih=>
  intro a h;cases a<;>simp[AV.bj,eF]at h
  rename_i ys;subst h;intro hs;exact .agg ys vs (by simpa using h1) λ i c x hc hx=>ih i _ x (mm hc) hx c rfl (bG (by simpa [AV.inScope]using hs) c (mem_of_getElem? hc))
 |a9 cs vs h1 _ ih=>
  intro a h;cases a<;>simp[AV.bj,eF]at h
  rename_i ys;subst h;intro hs;exact .a9 ys vs (by simpa using h1) λ i c x hc hx=>ih i _ x (mm hc) hx c rfl (bG (by simpa [AV.inScope]using hs) c (mem_of_getElem? hc))
 |cJ n a hx abJ=>
  intro b h;cases b<;>simp[AV.bj]at h
  rename_i n';subst h;intro hs;have aw:n'<O'.length:=by simpa [AV.inScope]using hs
  rw[hg n' aw,map_eq_some_iff]at hx;obtain⟨ob,h1,h2⟩:=hx;rw[hL n' aw]at abJ⊢;cases ob with
  |own c=>exact .cJ n' c h1 abJ
  |_=>cases h2
 |fx n g hx=>
  intro b h;cases b<;>simp[AV.bj]at h
  rename_i n';subst h;intro hs;have aw:n'<O'.length:=by simpa [AV.inScope]using hs
  rw[hg n' aw,map_eq_some_iff]at hx;obtain⟨ob,h1,h2⟩:=hx;rw[hL n' aw];cases ob with
  |cE c=>
   cases h2;have:(c.bj s).val (L' n').aZ=c.val (L' n').aZ:=by unfold fH.val;rw[fH.aaC]
   rw[this];exact .fx n' c h1
  |_=>cases h2
 |dH n x ayz b8 hng abJ=>
  intro b h;cases b<;>simp[AV.bj]at h
  rename_i n';subst h;intro hs;have aw:n'<O'.length:=by simpa [AV.inScope]using hs
  exact .dH n' x aw (λ a ha=>b8 a (by rw[hg n' aw,ha];rfl)) (λ a ha=>hng (a.bj s) (by rw[hg n' aw,ha];rfl)) abJ
theorem uY.un{I:cZ}{L L1:Nat->Loc}{O O1:List aa}{w:World}{l:Loc}{g:fH}{s:Nat->Nat}{k:Nat}(un:∀a x,R I L O (a.bj s) x->a.inScope k=true->R I L1 O1 a x)(h:uY I L O w l (g.bj s))(hs:(aa.cE g).inScope k=true):uY I L1 O1 w l g:=by
 cases g with
 |it a b=>exact h
 |mp es=>
  obtain⟨en,c,q1,q2,q3⟩:=h;refine⟨en,c,q1,by simpa using q2,λ i k' v hx=> ?_⟩;obtain⟨e,q4,q5,q6⟩:=q3 i (k'.bj s) (v.bj s) (by rw[getElem?_map,hx];rfl);have ai9:=List.all_eq_true.1 (show es.all (λ p=>p.1.inScope k&&p.2.inScope k)=true from hs) (k',v) (mem_of_getElem? hx);simp only[and_eq_true]at ai9;exact⟨e,q4,un _ _ q5 ai9.1,un _ _ q6 ai9.2⟩
theorem cF.frame{P:Program}{f:FuncId}{args:List AV}{O1:List aa}{res:AV}{oZ:List aa}(h:cF P f args O1 res oZ){O oR:List aa}(s:Nat->Nat)
  (hs:∀i,i<O1.length->s i<O.length) (hg:∀i,i<O1.length->O[s i]? =(O1[i]?).map (aa.bj s)) (zw:∀i j,i<O1.length->j<O1.length->s i=s j->i=j)
  (dE:∀i,O1.length<=i->s i=O.length+(i- O1.length)) (hsc:∀a∈args,a.inScope O1.length=true) (hsO:∀ob∈O1,ob.inScope O1.length=true)
  (hl:oR.length=O.length+(oZ.length- O1.length)) (h1:∀i,i<oZ.length->oR[s i]? =(oZ[i]?).map (aa.bj s)) (h2:∀n,n<O.length->(∀i,i<O1.length->s i≠n)->oR[n]? =O[n]?):
  cF P f (args.map (AV.bj s)) O (res.bj s) oR:=by
 refine⟨h.1,λ I L w vs hi hr=> ?_⟩
 have inj:∀i j,s i=s j->i=j:=by
  intro i j he;by_cases hi:i<O1.length<;>by_cases hj:j<O1.length
  ·exact zw i j hi hj he
  ·have:=hs i hi;have:=dE j (by omega);omega
  ·have:=hs j hj;have:=dE i (by omega);omega
  ·have:=dE i (by omega);have:=dE j (by omega);omega
 let L1:Nat->Loc:=λ n=>L (s n)
 have gA:∀{n e k ys},O1[n]? =some (.live e k ys)->O[s n]? =some (.live e k (ys.map (AV.bj s))):=by
  intro n e k ys hn;rw[hg n (List.getElem?_eq_some_iff.1 hn).1,hn];rfl
 have un:∀{a:AV} {x:Value},R I L O (a.bj s) x->a.inScope O1.length=true->R I L1 O1 a x:=λ hr hsc=>R.am5 hg (λ _ _=>rfl) hr _ rfl hsc
 have jE:∀{n:Nat} {a:AV},O1[n]? =some (.own a)->O[s n]? =some (.own a):=by
  intro n a hn;rw[hg n (List.getElem?_eq_some_iff.1 hn).1,hn];rfl
 have rq:∀{n:Nat} {g:fH},O1[n]? =some (.cE g)->O[s n]? =some (.cE (g.bj s)):=by
  intro n a hn;rw[hg n (List.getElem?_eq_some_iff.1 hn).1,hn];rfl
 have hi1:Inv I L1 O1 w:=by
  refine⟨hi.gN,λ n e k ys hn=> ?_,λ n n' e k ys e' k' uF hn m7 hb=> ?_,λ n e k ys o hn=>hi.cT _ _ _ _ o (gA hn),hi.fix,hi.aZ,
   ⟨λ n a hn=>hi.ow.tree _ a (jE hn),λ n a hn=>hi.ow.cell _ a (jE hn),λ n a hn=>hi.ow.gN _ a (jE hn),λ n a hn b o v hv m e k xs hm=>hi.ow.live _ a (jE hn) b o v hv _ _ _ _ (gA hm),
    λ n m a c hn hm b o o' v v' hv iV=>inj _ _ (hi.ow.sep _ _ a c (jE hn) (jE hm) b o o' v v' hv iV),λ n a hn=>hi.ow.deep _ a (jE hn)⟩,⟨λ n g hn=> ?_,λ n m g g' hn hm hb=>inj _ _ (hi.gh.sep _ _ _ _ (rq hn) (rq hm) hb)⟩⟩
  rotate_right
  ·have q:=hi.gh.ok _ _ (rq hn);cases g with
   |it a b=>exact q
   |mp es=>
    obtain⟨en,c,q1,q2,q3⟩:=q;refine⟨en,c,q1,by simpa using q2,λ i k v hx=> ?_⟩;obtain⟨e,q4,q5,q6⟩:=q3 i (k.bj s) (v.bj s) (by rw[getElem?_map,hx];rfl);have hbo:=hsO _ (mem_of_getElem? hn);have ai9:=List.all_eq_true.1 (show es.all (λ p=>p.1.inScope O1.length&&p.2.inScope O1.length)=true from hbo) (k,v) (mem_of_getElem? hx);simp only[and_eq_true]at ai9;exact⟨e,q4,un q5 ai9.1,un q6 ai9.2⟩
  ·obtain⟨c,⟨kS,q1,cL⟩,q2,q3,q4,q5,q6⟩:=hi.obj _ _ _ _ (gA hn);refine⟨c,⟨kS,q1,cL⟩,q2,by simpa using q3,q4,q5,λ i x hx=> ?_⟩;have kA:(ys.map (AV.bj s))[i]? =some (x.bj s):=by rw[getElem?_map,hx];rfl
   obtain⟨r1,r2⟩:=q6 i _ kA;rw[dq,length_map]at r1;refine⟨r1,λ j a ha=> ?_⟩;obtain⟨y,hy,ho,pF⟩:=r2 j (a.bj s) (by rw[dq,getElem?_map,ha];rfl);have hbo:=hsO _ (mem_of_getElem? hn);exact⟨y,hy,ho,un pF (bT (bG hbo x (mem_of_getElem? hx)) a (mem_of_getElem? ha))⟩
  ·exact inj _ _ (hi.sep _ _ _ _ _ _ _ _ (gA hn) (gA m7) hb)
 have hr1:RL I L1 O1 args vs:=by
  refine⟨by simpa using hr.1,λ i a x ha hx=>un (hr.2 i _ x (by rw[getElem?_map,ha];rfl) hx) (hsc a (mem_of_getElem? ha))⟩
 refine(h.2 I L1 w vs hi1 hr1).mono ?_;rintro e w' ⟨y,I',L1',rfl,hy,je⟩;have hlen:=je.ext.len
 open Classical in
 let L'':Nat->Loc:=λ n=>if hx:∃i,i<oZ.length/\s i=n then L1' hx.choose else L n
 have vT:∀i,i<oZ.length->L'' (s i)=L1' i:=by
  intro i hi;have hx:∃j,j<oZ.length/\s j=s i:=⟨i,hi,rfl⟩
  show(if hx:∃j,j<oZ.length/\s j=s i then L1' hx.choose else L (s i))=_;rw[dif_pos hx];rw[inj _ _ hx.choose_spec.2]
 have uD:∀n,(∀i,i<oZ.length->s i≠n)->L'' n=L n:=by
  intro n hn;exact dif_neg (by rintro⟨i,hi,he⟩;exact hn i hi he)
 have hsl:∀i,i<oZ.length->s i<oR.length:=by
  intro i hi;by_cases hm:i<O1.length
  ·have:=hs i hm;omega
  ·have:=dE i (by omega);omega
 have cls:∀n e k xs,oR[n]? =some (.live e k xs)->(∃i ys,i<oZ.length/\s i=n/\oZ[i]? =some (.live e k ys)/\xs=ys.map (AV.bj s))∨(n<O.length/\(∀i,i<oZ.length->s i≠n)/\O[n]? =some (.live e k xs)):=by
  intro n e k xs hn;by_cases hx:∃i,i<oZ.length/\s i=n
  ·obtain⟨i,hi,rfl⟩:=hx;rw[h1 i hi,map_eq_some_iff]at hn;obtain⟨ob,q1,q2⟩:=hn;cases ob with
   |dead=>cases q2
   |own a=>cases q2
   |cE g=>cases q2
   |nil=>cases q2
   |live e' k' ys=>cases q2;exact .inl ⟨i,ys,hi,rfl,q1,rfl⟩
  ·have b8:∀i,i<oZ.length->s i≠n:=λ i hi he=>hx ⟨i,hi,he⟩
   have aw:n<O.length:=by
    have:=(List.getElem?_eq_some_iff.1 hn).1;rcases lt_or_ge n O.length with h'|h'
    ·exact h'
    ·exact absurd (dE (O1.length+(n- O.length)) (by omega)) (λ he=>b8 (O1.length+(n- O.length)) (by omega) (by omega))
   rw[h2 n aw (λ i hi=>b8 i (by omega))]at hn;exact .inr ⟨aw,b8,hn⟩
 have lb1:∀{b},LB L1 O1 b->LB L O b:=by
  rintro b (⟨n,e,k,ys,hn,hb⟩|⟨n,a,o,v,hn,hb⟩|⟨n,g,hn,hb⟩)
  ·exact .inl ⟨s n,e,k,_,gA hn,hb⟩
  ·exact .inr (.inl ⟨s n,a,o,v,jE hn,hb⟩)
  ·exact .inr (.inr ⟨s n,_,rq hn,hb⟩)
 have fk:∀{n e k xs},O[n]? =some (.live e k xs)->(∀i,i<oZ.length->s i≠n)->¬LB L1 O1 (L n).aZ/\(L n).aZ<w.heap.size:=by
  intro n e k xs hn b8;refine⟨?_,?_⟩
  ·rintro(⟨i,e',k',ys,ei,hb⟩|⟨i,a,o,v,ei,hb⟩|⟨i,g,ei,hb⟩)
   ·have:=hi.sep _ _ _ _ _ _ _ _ (gA ei) hn hb;exact b8 i (by have:=(List.getElem?_eq_some_iff.1 ei).1;omega) this
   ·exact hi.ow.live _ a (jE ei) _ o v hb _ _ _ _ hn rfl
   ·obtain⟨c,⟨kS,q1,cL⟩,_⟩:=hi.obj n e k xs hn;have hq:=(hi.gh.ok _ _ (rq ei)).no.2 c e kS;exact hq (by rw[show(L (s i)).aZ=(L n).aZ from hb];exact q1)
  ·obtain⟨c,⟨kS,q1,cL⟩,_⟩:=hi.obj n e k xs hn;exact(Array.getElem?_eq_some_iff.1 q1).1
 have alq:∀{n:Nat} {a:AV} {b o:Nat} {v:Value},O[n]? =some (.own a)->(∀i,i<oZ.length->s i≠n)->(L n).mem b o=some v->¬LB L1 O1 b/\b<w.heap.size:=by
  intro n a b o v hn b8 hv;refine⟨?_,jO (hi.ow.cell n a hn b o v hv)⟩;rintro(⟨i,e',k',ys,ei,hb⟩|⟨i,c,o',v',ei,hb⟩|⟨i,g,ei,hb⟩)
  ·exact hi.ow.live n a hn b o v hv _ _ _ _ (gA ei) hb
  ·have:=hi.ow.sep _ _ c a (jE ei) hn b o' o v' v hb hv;exact b8 i (by have:=(List.getElem?_eq_some_iff.1 ei).1;omega) this
  ·have hq:=(hi.gh.ok _ _ (rq ei)).no.cell (o:=o);rw[show(L (s i)).aZ=b from hb,hi.ow.cell n a hn b o v hv]at hq;cases hq
 have agF:∀{n:Nat} {g:fH},O[n]? =some (.cE g)->(∀i,i<oZ.length->s i≠n)->¬LB L1 O1 (L n).aZ/\(L n).aZ<w.heap.size:=by
  intro n g hn b8;have hq:=(hi.gh.ok _ _ hn).no;refine⟨?_,hq.1⟩;rintro(⟨i,e',k',ys,ei,hb⟩|⟨i,c,o',v',ei,hb⟩|⟨i,g',ei,hb⟩)
  ·obtain⟨c,⟨kS,q1,cL⟩,_⟩:=hi.obj _ _ _ _ (gA ei);exact hq.2 c e' kS (by rw[←show(L (s i)).aZ=(L n).aZ from hb];exact q1)
  ·have h0:=hq.cell (o:=o');rw[hi.ow.cell _ c (jE ei) _ o' v' hb]at h0;cases h0
  ·have:=hi.gh.sep _ _ _ _ (rq ei) hn hb;exact b8 i (by have:=(List.getElem?_eq_some_iff.1 ei).1;omega) this
 have afI:∀(n:Nat) (a:AV),oR[n]? =some (.own a)->(∃i,i<oZ.length/\s i=n/\oZ[i]? =some (.own a))∨(n<O.length/\(∀i,i<oZ.length->s i≠n)/\O[n]? =some (.own a)):=by
  intro n a hn;by_cases hx:∃i,i<oZ.length/\s i=n
  ·obtain⟨i,hi,rfl⟩:=hx;rw[h1 i hi,map_eq_some_iff]at hn;obtain⟨ob,q1,q2⟩:=hn;cases ob with
   |dead=>cases q2
   |live=>cases q2
   |nil=>cases q2
   |cE g=>cases q2
   |own c=>cases q2;exact .inl ⟨i,hi,rfl,q1⟩
  ·have b8:∀i,i<oZ.length->s i≠n:=λ i hi he=>hx ⟨i,hi,he⟩
   have aw:n<O.length:=by
    have:=(List.getElem?_eq_some_iff.1 hn).1;rcases lt_or_ge n O.length with h'|h'
    ·exact h'
    ·exact absurd (dE (O1.length+(n- O.length)) (by omega)) (λ he=>b8 (O1.length+(n- O.length)) (by omega) (by omega))
   rw[h2 n aw (λ i hi=>b8 i (by omega))]at hn;exact .inr ⟨aw,b8,hn⟩
 have apL:∀(n:Nat) (g:fH),oR[n]? =some (.cE g)->(∃i g',i<oZ.length/\s i=n/\oZ[i]? =some (.cE g')/\g=g'.bj s)∨(n<O.length/\(∀i,i<oZ.length->s i≠n)/\O[n]? =some (.cE g)):=by
  intro n a hn;by_cases hx:∃i,i<oZ.length/\s i=n
  ·obtain⟨i,hi,rfl⟩:=hx;rw[h1 i hi,map_eq_some_iff]at hn;obtain⟨ob,q1,q2⟩:=hn;cases ob with
   |dead=>cases q2
   |live=>cases q2
   |nil=>cases q2
   |own c=>cases q2
   |cE g=>cases q2;exact .inl ⟨i,g,hi,rfl,q1,rfl⟩
  ·have b8:∀i,i<oZ.length->s i≠n:=λ i hi he=>hx ⟨i,hi,he⟩
   have aw:n<O.length:=by
    have:=(List.getElem?_eq_some_iff.1 hn).1;rcases lt_or_ge n O.length with h'|h'
    ·exact h'
    ·exact absurd (dE (O1.length+(n- O.length)) (by omega)) (λ he=>b8 (O1.length+(n- O.length)) (by omega) (by omega))
   rw[h2 n aw (λ i hi=>b8 i (by omega))]at hn;exact .inr ⟨aw,b8,hn⟩
 have ext:Ext I L O I' L'' oR:=by
  refine⟨je.ext.gN,by omega,λ n hn e k xs hx=> ?_,λ n hn e k hx=> ?_,λ n hn a hx=> ?_,λ n hn g hx=> ?_⟩
  rotate_right
  ·rcases apL n g hx with⟨i,g',ei,rfl,q1,rfl⟩|⟨aw,b8,q1⟩
   ·have him:i<O1.length:=by
      rcases lt_or_ge i O1.length with h'|h'
      ·exact h'
      ·have:=dE i h';omega
    obtain⟨⟨b,hb,hk⟩,hv⟩:=je.ext.cE i him g' q1;exact⟨⟨_,rq hb,by rw[fH.aaC,fH.aaC];exact hk⟩,by rw[vT i ei];exact hv⟩
   ·exact⟨⟨g,q1,rfl⟩,by rw[uD n b8]⟩
  rotate_left 2
  ·rcases afI n a hx with⟨i,ei,rfl,q1⟩|⟨aw,b8,q1⟩
   ·have him:i<O1.length:=by
      rcases lt_or_ge i O1.length with h'|h'
      ·exact h'
      ·have:=dE i h';omega
    obtain⟨⟨b,hb⟩,hv⟩:=je.ext.own i him a q1;exact⟨⟨b,jE hb⟩,by rw[vT i ei];exact hv⟩
   ·exact⟨⟨a,q1⟩,by rw[uD n b8]⟩
  rotate_left
  ·by_cases hex:∃i,i<oZ.length/\s i=n
   ·obtain⟨i,ei,rfl⟩:=hex;rw[h1 i ei,map_eq_some_iff]at hx;obtain⟨ob,q1,q2⟩:=hx;cases ob with
    |dead=>cases q2
    |own a=>cases q2
    |cE g=>cases q2
    |live=>cases q2
    |nil=>
     cases q2
     have him:i<O1.length:=by
      rcases lt_or_ge i O1.length with h'|h'
      ·exact h'
      ·have:=dE i h';omega
     rw[hg i him,je.ext.nil i him e k q1];rfl
   ·rwa [h2 n hn (λ i ei he=>hex ⟨i,by omega,he⟩)]at hx
  rcases cls n e k xs hx with⟨i,ys,ei,rfl,q1,rfl⟩|⟨aw,b8,q1⟩
  ·have him:i<O1.length:=by
     rcases lt_or_ge i O1.length with h'|h'
     ·exact h'
     ·have:=dE i h';omega
   rcases je.ext.obj i him e k ys q1 with⟨zs,z1,z2,z3⟩|⟨z1,z2⟩
   ·refine .inl ⟨_,gA z1,by simpa using z2,λ he=> ?_⟩;rw[vT i ei,z3 (by simpa using he)]
   ·exact .inr ⟨by rw[hg i him,z1];rfl,by simpa using z2⟩
  ·exact .inl ⟨xs,q1,le_refl _,λ _=>uD n b8⟩
 have fwd:∀{a:AV} {x:Value},R I' L1' oZ a x->R I' L'' oR (a.bj s) x:=λ hr=>hr.bj hsl h1 vT
 have how:Own I' L'' oR w':=by
  have aAV:∀{n:Nat} {a:AV},O[n]? =some (.own a)->(∀i,i<oZ.length->s i≠n)->∀{b o v},(L n).mem b o=some v->∀o',I' b o'=none:=by
   intro n a hn b8 b o v hv o';obtain⟨o1,o2⟩:=alq hn b8 hv;cases hx:I' b o' with
   |none=>rfl
   |some u=>
    rcases je.eK _ _ _ hx with h'|h'|h'
    ·rw[hi.ow.gN _ _ hn b o v hv]at h';cases h'
    ·exact(o1 h').elim
    ·omega
  refine⟨λ n a hn=> ?_,λ n a hn b o v hv=> ?_,λ n a hn b o v hv o'=> ?_,λ n a hn b o v hv m e k xs hm hb=> ?_,λ n m a c hn hm b o o' v v' hv iV=> ?_,λ n a hn=> ?_⟩
  ·rcases afI n a hn with⟨i,ei,rfl,q1⟩|⟨aw,b8,q1⟩
   ·rw[vT i ei];exact je.inv.ow.tree _ _ q1
   ·rw[uD n b8];exact hi.ow.tree _ _ q1
  ·rcases afI n a hn with⟨i,ei,rfl,q1⟩|⟨aw,b8,q1⟩
   ·rw[vT i ei]at hv;exact je.inv.ow.cell _ _ q1 b o v hv
   ·rw[uD n b8]at hv;obtain⟨o1,o2⟩:=alq q1 b8 hv;rw[←hi.ow.cell _ _ q1 b o v hv];exact World.cell?_of_block (a:=⟨b,o,none⟩) (je.lK.block _ o2 o1)
  ·rcases afI n a hn with⟨i,ei,rfl,q1⟩|⟨aw,b8,q1⟩
   ·rw[vT i ei]at hv;exact je.inv.ow.gN _ _ q1 b o v hv o'
   ·rw[uD n b8]at hv;exact aAV q1 b8 hv o'
  ·rcases afI n a hn with⟨i,ei,rfl,q1⟩|⟨aw,b8,q1⟩<;>rcases cls m e k xs hm with⟨i',uF,abN,rfl,vj,rfl⟩|⟨iQ,vF,vj⟩
   ·rw[vT i' abN]at hb;rw[vT i ei]at hv;exact je.inv.ow.live _ _ q1 b o v hv _ _ _ _ vj hb
   ·rw[uD m vF]at hb;rw[vT i ei]at hv;obtain⟨o1,o2⟩:=fk vj vF;rw[hb]at o1 o2;rcases je.lb b (.inr (.inl ⟨i,a,o,v,q1,hv⟩))with h'|h'
    ·exact o1 h'
    ·omega
   ·rw[vT i' abN]at hb;rw[uD n b8]at hv;obtain⟨o1,o2⟩:=alq q1 b8 hv;rcases je.lb b (.inl ⟨i',_,_,_,vj,hb⟩)with h'|h'
    ·exact o1 h'
    ·omega
   ·rw[uD m vF]at hb;rw[uD n b8]at hv;exact hi.ow.live _ _ q1 b o v hv _ _ _ _ vj hb
  ·rcases afI n a hn with⟨i,ei,rfl,q1⟩|⟨aw,b8,q1⟩<;>rcases afI m c hm with⟨i',abN,rfl,vj⟩|⟨iQ,vF,vj⟩
   ·rw[vT i ei]at hv;rw[vT i' abN]at iV;rw[je.inv.ow.sep _ _ _ _ q1 vj b o o' v v' hv iV]
   ·rw[vT i ei]at hv;rw[uD m vF]at iV;obtain⟨o1,o2⟩:=alq vj vF iV;rcases je.lb b (.inr (.inl ⟨i,a,o,v,q1,hv⟩))with h'|h'
    ·exact(o1 h').elim
    ·omega
   ·rw[uD n b8]at hv;rw[vT i' abN]at iV;obtain⟨o1,o2⟩:=alq q1 b8 hv;rcases je.lb b (.inr (.inl ⟨i',c,o',v',vj,iV⟩))with h'|h'
    ·exact(o1 h').elim
    ·omega
   ·rw[uD n b8]at hv;rw[uD m vF]at iV;exact hi.ow.sep _ _ _ _ q1 vj b o o' v v' hv iV
  ·rcases afI n a hn with⟨i,ei,rfl,q1⟩|⟨aw,b8,q1⟩
   ·rw[vT i ei];exact je.inv.ow.deep _ _ q1
   ·rw[uD n b8];obtain⟨S,p1,p2⟩:=hi.ow.deep _ _ q1;refine⟨S,p1.congr λ b hb=> ?_,p2⟩;obtain⟨o,v,hv⟩:=(p2 b).1 hb;obtain⟨o1,o2⟩:=alq q1 b8 hv;exact je.lK.block _ o2 o1
 have hgh:Gh I' L'' oR w':=by
  refine⟨λ n g hn=> ?_,λ n m g g' hn hm hb=> ?_⟩
  ·rcases apL n g hn with⟨i,g0,ei,rfl,q1,rfl⟩|⟨aw,b8,q1⟩
   ·have q:=je.inv.gh.ok _ _ q1;rw[vT i ei];cases g0 with
    |it a b=>exact q
    |mp es=>
     obtain⟨en,c,p1,p2,p3⟩:=q;refine⟨en,c,p1,by simpa using p2,λ j k v hx=> ?_⟩;rw[getElem?_map,map_eq_some_iff]at hx;obtain⟨z,hz,hze⟩:=hx;cases hze;obtain⟨e,p4,p5,p6⟩:=p3 j z.1 z.2 hz;exact⟨e,p4,fwd p5,fwd p6⟩
   ·obtain⟨o1,o2⟩:=agF q1 b8;rw[uD n b8];exact(hi.gh.ok _ _ q1).mono rfl (λ _ _ hr=>hr.mono ext) (je.lK.block _ o2 o1)
  ·rcases apL n g hn with⟨i,g0,ei,rfl,q1,rfl⟩|⟨aw,b8,q1⟩<;>rcases apL m g' hm with⟨i',g0',abN,rfl,vj,rfl⟩|⟨iQ,vF,vj⟩
   ·rw[vT i ei,vT i' abN]at hb;rw[je.inv.gh.sep _ _ _ _ q1 vj hb]
   ·rw[vT i ei,uD m vF]at hb;obtain⟨o1,o2⟩:=agF vj vF;rcases je.lb _ (.inr (.inr ⟨i,_,q1,hb⟩))with h'|h'
    ·exact(o1 h').elim
    ·omega
   ·rw[vT i' abN,uD n b8]at hb;obtain⟨o1,o2⟩:=agF q1 b8;rcases je.lb _ (.inr (.inr ⟨i',_,vj,hb.symm⟩))with h'|h'
    ·exact(o1 h').elim
    ·omega
   ·rw[uD n b8,uD m vF]at hb;exact hi.gh.sep _ _ _ _ q1 vj hb
 refine⟨y,I',L'',rfl,fwd hy,⟨⟨je.inv.gN,λ n e k xs hn=> ?_,λ n n' e k xs e' k' fI hn m7 hb=> ?_,λ n e k xs o hn=> ?_,je.inv.fix,je.inv.aZ,how,hgh⟩,ext,⟨je.lK.os,je.lK.tape,je.lK.output,je.lK.size,λ b hb b8=>je.lK.block b hb λ hc=>b8 (lb1 hc)⟩,?_,λ b o x hx=> ?_⟩⟩
 ·rcases cls n e k xs hn with⟨i,ys,ei,rfl,q1,rfl⟩|⟨aw,b8,q1⟩
  ·obtain⟨c,⟨kS,q1,cL⟩,q2,q3,q4,q5,q6⟩:=je.inv.obj _ _ _ _ q1;rw[vT i ei];refine⟨c,⟨kS,q1,cL⟩,q2,by simpa using q3,q4,q5,λ j x hx=> ?_⟩;obtain⟨z,hz,rfl⟩:=gM hx;rw[dq];refine⟨by rw[length_map];exact(q6 j z hz).1,λ l a ha=> ?_⟩;obtain⟨b,hb,rfl⟩:=gM ha;obtain⟨v,hv,ho,pF⟩:=(q6 j z hz).2 l b hb;exact⟨v,hv,ho,fwd pF⟩
  ·obtain⟨o1,o2⟩:=fk q1 b8;rw[uD n b8];obtain⟨c,⟨kS,q1,cL⟩,q2,q3,q4,q5,q6⟩:=hi.obj _ _ _ _ q1;refine⟨c,⟨kS,by rw[je.lK.block _ o2 o1];exact q1,cL⟩,q2,q3,q4,q5,λ j x hx=>⟨(q6 j x hx).1,λ l a ha=> ?_⟩⟩;obtain⟨v,hv,ho,pF⟩:=(q6 j x hx).2 l a ha;exact⟨v,hv,ho,pF.mono ext⟩
 ·rcases cls n e k xs hn with⟨i,ys,ei,rfl,q1,rfl⟩|⟨aw,b8,q1⟩<;>rcases cls n' e' k' fI m7 with⟨i',uF,abN,rfl,vj,rfl⟩|⟨iQ,vF,vj⟩
  ·rw[vT i ei,vT i' abN]at hb;rw[je.inv.sep _ _ _ _ _ _ _ _ q1 vj hb]
  ·rw[vT i ei,uD n' vF]at hb;obtain⟨o1,o2⟩:=fk vj vF;rcases je.lb _ (.inl ⟨i,_,_,_,q1,hb⟩)with h'|h'
   ·exact(o1 h').elim
   ·omega
  ·rw[vT i' abN,uD n b8]at hb;obtain⟨o1,o2⟩:=fk q1 b8;rcases je.lb _ (.inl ⟨i',_,_,_,vj,hb.symm⟩)with h'|h'
   ·exact(o1 h').elim
   ·omega
  ·rw[uD n b8,uD n' vF]at hb;exact hi.sep _ _ _ _ _ _ _ _ q1 vj hb
 ·rcases cls n e k xs hn with⟨i,ys,ei,rfl,q1,rfl⟩|⟨aw,b8,q1⟩
  ·rw[vT i ei];exact je.inv.cT _ _ _ _ o q1
  ·rw[uD n b8];obtain⟨o1,o2⟩:=fk q1 b8;cases hx:I' (L n).aZ o with
   |none=>rfl
   |some x=>
    rcases je.eK _ _ _ hx with h'|h'|h'
    ·rw[hi.cT _ _ _ _ o q1]at h';cases h'
    ·exact(o1 h').elim
    ·omega
 ·rintro b (⟨n,e,k,xs,hn,hb⟩|⟨n,a,o,v,hn,hb⟩|⟨n,g,hn,hb⟩)
  rotate_right
  ·rcases apL n g hn with⟨i,g',ei,rfl,q1,rfl⟩|⟨aw,b8,q1⟩
   ·rw[vT i ei]at hb;rcases je.lb b (.inr (.inr ⟨i,_,q1,hb⟩))with h'|h'
    ·exact .inl (lb1 h')
    ·exact .inr h'
   ·rw[uD n b8]at hb;exact .inl (.inr (.inr ⟨n,_,q1,hb⟩))
  ·rcases cls n e k xs hn with⟨i,ys,ei,rfl,q1,rfl⟩|⟨aw,b8,q1⟩
   ·rw[vT i ei]at hb;rcases je.lb b (.inl ⟨i,_,_,_,q1,hb⟩)with h'|h'
    ·exact .inl (lb1 h')
    ·exact .inr h'
   ·rw[uD n b8]at hb;exact .inl (.inl ⟨n,_,_,_,q1,hb⟩)
  ·rcases afI n a hn with⟨i,ei,rfl,q1⟩|⟨aw,b8,q1⟩
   ·rw[vT i ei]at hb;rcases je.lb b (.inr (.inl ⟨i,a,o,v,q1,hb⟩))with h'|h'
    ·exact .inl (lb1 h')
    ·exact .inr h'
   ·rw[uD n b8]at hb;exact .inl (.inr (.inl ⟨n,a,o,v,q1,hb⟩))
 ·rcases je.eK b o x hx with h'|h'|h'
  ·exact .inl h'
  ·exact .inr (.inl (lb1 h'))
  ·exact .inr (.inr h')
theorem cF.fresh{P:Program}{f:FuncId}{args:List AV}{res:AV}{oZ:List aa}(h:cF P f args [] res oZ)(hn:AV.ae args=true)(O:List aa):
  cF P f args O (res.bj λ n=>O.length+n) (O++oZ.map (aa.bj λ n=>O.length+n)):=by
 have:=h.frame (O:=O) (oR:=O++oZ.map (aa.bj λ n=>O.length+n)) (λ n=>O.length+n) (by simp) (by simp) (by simp) (by simp) (λ a ha=>bU a (aW hn a ha)) (by simp) (by simp)
  (λ i hi=>by rw[getElem?_append_right (by omega),getElem?_map,show O.length+i- O.length=i by omega]) (λ n hn _=>by rw[getElem?_append_left hn])
 rwa [←eF,e8 args hn]at this
theorem akb{n:Nat}{s:Nat->Nat}(h:s 0=n){a:AV}(ha:a.one=true):a.bj s=a.bj λ _=>n:=by
 cases a<;>simp only[AV.one]at ha
 case row m l=>have:m=0:=by simpa using ha
               subst this;simp only[AV.bj,h]
 case ptr m l i f=>have:m=0:=by simpa using ha
                   subst this;simp only[AV.bj,h]
 case own m=>have:m=0:=by simpa using ha
             subst this;simp only[AV.bj,h]
 all_goals rw[dI _ ha,dI _ ha]
theorem aiI{a:AV}(ha:a.one=true):a.inScope 1=true:=by
 cases a<;>simp only[AV.one]at ha
 case row m l=>have:m=0:=by simpa using ha
               subst this;rfl
 case ptr m l i f=>have:m=0:=by simpa using ha
                   subst this;rfl
 case own m=>have:m=0:=by simpa using ha
             subst this;rfl
 all_goals exact bU _ ha
theorem fy{s:Nat->Nat}{ob:aa}(h:ob.ae=true):ob.bj s=ob:=by
 cases ob<;>try rfl
 ·simp only[aa.ae]at h;simp only[aa.bj];rw[←eF,e8 _ h]
 ·rename_i g;cases g with
  |it a b=>rfl
  |mp es=>
   simp only[aa.ae,all_eq_true,and_eq_true]at h;simp only[aa.bj,fH.bj]
   have:(es.map λ p=>(p.1.bj s,p.2.bj s))=es.map id:=map_congr_left λ p hp=>by
    obtain⟨a,b⟩:=p;have:=h _ hp;rw[dI _ this.1,dI _ this.2];rfl
   rw[this,List.map_id]
theorem pd{k:Nat}{ob:aa}(h:ob.ae=true):ob.inScope k=true:=by
 cases ob<;>try rfl
 ·exact cP _ h
 ·rename_i g;cases g with
  |it a b=>rfl
  |mp es=>
   simp only[aa.ae,all_eq_true,and_eq_true]at h;simp only[aa.inScope,all_eq_true,and_eq_true];exact λ p hp=>⟨bU _ (h p hp).1,bU _ (h p hp).2⟩
theorem cF.auf{P:Program}{f:FuncId}{a0:List AV}{res:AV}{ob ob':aa}(h:cF P f a0 [ob] res [ob'])(ha:a0.all AV.one=true)(hx:ob.ae=true)(hy:ob'.ae=true)(hr:res.ag=true)
  {O:List aa} (k:Nat) (hk:O[k]? =some ob):cF P f (a0.map (AV.bj λ _=>k)) O res (O.set k ob'):=by
 have aw:k<O.length:=(List.getElem?_eq_some_iff.1 hk).1
 have:=h.frame (O:=O) (oR:=O.set k ob') (λ n=>if n=0 then k else O.length+(n- 1))
  (by intro i hi;simp at hi;subst hi;simpa using aw) (by intro i hi;simp at hi;subst hi;simp[hk,fy hx]) (by intro i j hi hj _;simp at hi hj;omega)
  (by intro i hi;simp at hi;simp;omega) (λ a h'=>aiI (List.all_eq_true.1 ha a h')) (by intro b ho;simp at ho;subst ho;exact pd hx) (by simp)
  (by intro i hi;simp at hi;subst hi;simp[aw,fy hy]) (by intro n hn b8;have:=b8 0 (by simp);simp at this;rw[getElem?_set_ne this])
 rw[dI _ hr]at this;have he:a0.map (AV.bj λ n=>if n=0 then k else O.length+(n- 1))=a0.map (AV.bj λ _=>k):=map_congr_left λ a h'=>akb (by simp) (List.all_eq_true.1 ha a h')
 rwa [he]at this
mutual
theorem rR{k:Nat}:∀(x:AV),(∀c∈x.cells,c.inScope k=true)->x.inScope k=true
 | .agg cs,h=>by simp only[AV.inScope];exact qO cs h
 | .top,_| .v _,_| .aA,_| .wO,_=>rfl
 | .sl xs,h=>h (.sl xs) (by simp[AV.cells])
 | .bV x f,h=>h (.bV x f) (by simp[AV.cells])
 | .row n l,h=>h (.row n l) (by simp[AV.cells])
 | .ptr n l i f,h=>h (.ptr n l i f) (by simp[AV.cells])
 | .fn f cs,h=>h (.fn f cs) (by simp[AV.cells])
 | .a9 vs,h=>h (.a9 vs) (by simp[AV.cells])
 | .own x,h=>h (.own x) (by simp[AV.cells])
theorem qO{k:Nat}:∀(xs:List AV),(∀c∈xs,c.inScope k=true)->AV.cD k xs=true
 | [],_=>rfl
 |x::xs,h=>by simp only[AV.cD,h x (by simp),qO xs λ c hc=>h c (by simp[hc])];rfl
end
theorem R.inScope{I:cZ}{L:Nat->Loc}{O:List aa}{a:AV}{x:Value}(hr:R I L O a x):a.inScope O.length=true:=by
 have ix:∀{xs:List AV} {vs:Array Value},xs.length=vs.size->(∀(i:Nat) c x,xs[i]? =some c->vs[i]? =some x->c.inScope O.length=true)->AV.cD O.length xs=true:=by
  intro xs vs hl h;refine qO xs λ c hc=> ?_
  obtain⟨i,hi⟩:=getElem?_of_mem hc;have aw:=(List.getElem?_eq_some_iff.1 hi).1;exact h i c _ hi (by rw[Array.getElem?_eq_getElem (show i<vs.size by omega)])
 induction hr with
 |top x=>rfl
 |v x _=>rfl
 |aA=>rfl
 |wO=>rfl
 |nP a cap=>rfl
 |sl xs aZ off cap s bd h1 h2 h3 h4 _ ih=>
  refine qO xs λ x hx=>rR x λ c hc=> ?_
  obtain⟨i,hi⟩:=getElem?_of_mem hx;obtain⟨j,hj⟩:=getElem?_of_mem hc;exact ih i x j c hi hj
 |bV x f aZ base bd h1 _ ih=>
  refine rR x λ c hc=> ?_
  obtain⟨j,hj⟩:=getElem?_of_mem hc;exact ih j c hj
 |bN n len e s xs hn hl=>exact decide_eq_true (List.getElem?_eq_some_iff.1 hn).1
 |fj n e s hn=>exact decide_eq_true (List.getElem?_eq_some_iff.1 hn).1
 |dG n len x hn=>exact decide_eq_true hn
 |dm n len i f e s xs hn hl=>exact decide_eq_true (List.getElem?_eq_some_iff.1 hn).1
 |eZ n len i f x hn=>exact decide_eq_true hn
 |fn f aV vs h1 _ ih=>exact ix h1 ih
 |agg cs vs h1 _ ih=>exact ix h1 ih
 |a9 cs vs h1 _ ih=>exact ix h1 ih
 |cJ n a hn=>exact decide_eq_true (List.getElem?_eq_some_iff.1 hn).1
 |fx n a hn=>exact decide_eq_true (List.getElem?_eq_some_iff.1 hn).1
 |dH n x hn=>exact decide_eq_true hn
section
variable {I I':cZ} {L L':Nat->Loc} {O:List aa} {w w':World} {t s k:Nat} {xs:List AV}
def mQ(L:Nat->Loc)(k N:Nat):Nat->Loc:=λ n=>if n=k then L N else L n
theorem R.move(hk:O[k]? =some (.nil t s))(bk:xs≠[]){a:AV}{x:Value}(hr:R I' L' (O++ [.live t s xs]) a x)(h:a.inScope O.length=true):R I' (mQ L' k O.length) (O.set k (.live t s xs)) a x:=by
 have hkl:=(List.getElem?_eq_some_iff.1 hk).1;have fk:∀{n:Nat},n<O.length->(O++ [aa.live t s xs])[n]? =O[n]? :=λ {n} hn=>getElem?_append_left hn
 have oth:∀{n:Nat},n≠k->(O.set k (.live t s xs))[n]? =O[n]? :=λ {n} hn=>getElem?_set_ne (λ he=>hn he.symm)
 have self:(O.set k (.live t s xs))[k]? =some (.live t s xs):=getElem?_set_self hkl;have hL:∀{n:Nat},n≠k->mQ L' k O.length n=L' n:=λ {n} hn=>if_neg hn
 induction hr with
 |top x=>exact .top x
 |v x hx=>exact .v x hx
 |aA=>exact .aA
 |wO t x=>exact .wO t x
 |nP a cap=>exact .nP a cap
 |sl xs aZ off cap s bd h1 h2 h3 h4 _ ih=>
  refine .sl xs aZ off cap s bd h1 h2 h3 h4 λ i x j c hi hj=>ih i x j c hi hj ?_
  exact bT (bG (by simpa [AV.inScope]using h) x (mem_of_getElem? hi)) c (mem_of_getElem? hj)
 |bV x f aZ base bd h1 _ ih=>
  refine .bV x f aZ base bd h1 λ j c hj=>ih j c hj ?_
  exact bT (by simpa [AV.inScope]using h) c (mem_of_getElem? hj)
 |bN n len e s' ys hn hl=>
  have aw:n<O.length:=by simpa [AV.inScope]using h
  rw[fk aw]at hn;have bk:n≠k:=by rintro rfl;rw[hk]at hn;cases hn
  rw[←hL bk];exact .bN n len e s' ys (by rw[oth bk];exact hn) hl
 |fj n e s' hn=>
  have aw:n<O.length:=by simpa [AV.inScope]using h
  rw[fk aw]at hn;by_cases rU:n=k
  ·subst rU;exact .dG n 0 _ (by simpa using aw) (λ e s he=>by rw[self]at he;cases he) (λ e s ys hy=>by rw[self]at hy;cases hy;exact List.length_pos_iff.2 bk) rfl
  ·exact .fj n e s' (by rw[oth rU];exact hn)
 |dG n len x iQ zP hs hx=>
  have aw:n<O.length:=by simpa [AV.inScope]using h
  have rU:n≠k:=by rintro rfl;exact zP t s (by rw[fk aw];exact hk)
  exact .dG n len x (by simpa using aw) (λ e s' he=>zP e s' (by rw[fk aw];rwa [oth rU]at he)) (λ e s' ys hy=>hs e s' ys (by rw[fk aw];rwa [oth rU]at hy)) hx
 |dm n len i f e s' ys hn hl=>
  have aw:n<O.length:=by simpa [AV.inScope]using h
  rw[fk aw]at hn;have bk:n≠k:=by rintro rfl;rw[hk]at hn;cases hn
  rw[←hL bk];exact .dm n len i f e s' ys (by rw[oth bk];exact hn) hl
 |eZ n len i f x iQ zP hs hx=>
  have aw:n<O.length:=by simpa [AV.inScope]using h
  have rU:n≠k:=by rintro rfl;exact zP t s (by rw[fk aw];exact hk)
  exact .eZ n len i f x (by simpa using aw) (λ e s' he=>zP e s' (by rw[fk aw];rwa [oth rU]at he)) (λ e s' ys hy=>hs e s' ys (by rw[fk aw];rwa [oth rU]at hy)) hx
 |fn f aV vs h1 _ ih=>exact .fn f aV vs h1 λ i c x hi hx=>ih i c x hi hx (bG (by simpa [AV.inScope]using h) c (mem_of_getElem? hi))
 |agg cs vs h1 _ ih=>exact .agg cs vs h1 λ i c x hi hx=>ih i c x hi hx (bG (by simpa [AV.inScope]using h) c (mem_of_getElem? hi))
 |a9 cs vs h1 _ ih=>exact .a9 cs vs h1 λ i c x hi hx=>ih i c x hi hx (bG (by simpa [AV.inScope]using h) c (mem_of_getElem? hi))
 |cJ n a hn h1=>
  have aw:n<O.length:=by simpa [AV.inScope]using h
  rw[fk aw]at hn;have bk:n≠k:=by rintro rfl;rw[hk]at hn;cases hn
  rw[←hL bk]at h1⊢;exact .cJ n a (by rw[oth bk];exact hn) h1
 |fx n a hn=>
  have aw:n<O.length:=by simpa [AV.inScope]using h
  rw[fk aw]at hn;have bk:n≠k:=by rintro rfl;rw[hk]at hn;cases hn
  rw[←hL bk];exact .fx n a (by rw[oth bk];exact hn)
 |dH n x iQ b8 hng h1=>
  have aw:n<O.length:=by simpa [AV.inScope]using h
  refine .dH n x (by simpa using aw) (λ a ha=> ?_) (λ a ha=> ?_) h1
  ·by_cases rU:n=k
   ·subst rU;rw[self]at ha;cases ha
   ·exact b8 a (by rw[fk aw];rwa [oth rU]at ha)
  ·by_cases rU:n=k
   ·subst rU;rw[self]at ha;cases ha
   ·exact hng a (by rw[fk aw];rwa [oth rU]at ha)
theorem Good.move(hi:Inv I L O w)(hk:O[k]? =some (.nil t s))(bk:xs≠[])(hsc:∀x∈xs,∀c∈x.cells,c.inScope O.length=true)(hg:Good I L O w I' L' (O++ [.live t s xs]) w'):
  Good I L O w I' (mQ L' k O.length) (O.set k (.live t s xs)) w':=by
 have hkl:=(List.getElem?_eq_some_iff.1 hk).1;have fk:∀{n:Nat},n<O.length->(O++ [aa.live t s xs])[n]? =O[n]? :=λ {n} hn=>getElem?_append_left hn
 have oth:∀{n:Nat},n≠k->(O.set k (.live t s xs))[n]? =O[n]? :=λ {n} hn=>getElem?_set_ne (λ he=>hn he.symm)
 have self:(O.set k (.live t s xs))[k]? =some (.live t s xs):=getElem?_set_self hkl;have dE:(O++ [aa.live t s xs])[O.length]? =some (.live t s xs):=by simp
 have src:∀{n e k' ys},(O.set k (.live t s xs))[n]? =some (.live e k' ys)->∃m,(O++ [aa.live t s xs])[m]? =some (.live e k' ys)/\mQ L' k O.length n=L' m/\(∀x∈ys,∀c∈x.cells,c.inScope O.length=true)/\((n=k/\m=O.length)∨(n≠k/\m=n/\n<O.length)):=by
  intro n e k' ys hn;by_cases rU:n=k
  ·subst rU;rw[self]at hn;cases hn;exact⟨O.length,dE,if_pos rfl,hsc,.inl ⟨rfl,rfl⟩⟩
  ·rw[oth rU]at hn;have aw:=(List.getElem?_eq_some_iff.1 hn).1;refine⟨n,by rw[fk aw];exact hn,if_neg rU,λ x hx c hc=> ?_,.inr ⟨rU,rfl,aw⟩⟩;obtain⟨_,⟨kS,_,cL⟩,_,_,_,_,q⟩:=hi.obj n e k' ys hn;obtain⟨i,hix⟩:=getElem?_of_mem hx;obtain⟨j,hjc⟩:=getElem?_of_mem hc;obtain⟨_,_,_,hr⟩:=(q i x hix).2 j c hjc;exact hr.inScope
 have atS:∀{n:Nat} {a:AV},(O.set k (.live t s xs))[n]? =some (.own a)->(O++ [aa.live t s xs])[n]? =some (.own a)/\mQ L' k O.length n=L' n:=by
  intro n a hn;by_cases rU:n=k
  ·subst rU;rw[self]at hn;cases hn
  ·rw[oth rU]at hn;rw[fk (List.getElem?_eq_some_iff.1 hn).1];exact⟨hn,if_neg rU⟩
 have ani:∀{n:Nat} {a:fH},(O.set k (.live t s xs))[n]? =some (.cE a)->(O++ [aa.live t s xs])[n]? =some (.cE a)/\mQ L' k O.length n=L' n/\O[n]? =some (.cE a):=by
  intro n a hn;by_cases rU:n=k
  ·subst rU;rw[self]at hn;cases hn
  ·rw[oth rU]at hn;rw[fk (List.getElem?_eq_some_iff.1 hn).1];exact⟨hn,if_neg rU,hn⟩
 have hgh:Gh I' (mQ L' k O.length) (O.set k (.live t s xs)) w':=by
  refine⟨λ n g hn=> ?_,λ n m g g' hn hm hb=> ?_⟩
  ·obtain⟨q1,q2,q3⟩:=ani hn;have h1:=hg.inv.gh.ok n g q1;have h2:=hi.gh.ok n g q3;rw[q2];cases g with
   |it a b=>exact h1
   |mp es=>
    obtain⟨en,c,r1,r2,r3⟩:=h1;obtain⟨en0,c0,s1,s2,s3⟩:=h2;refine⟨en,c,r1,r2,λ i a v hx=> ?_⟩;obtain⟨e,r4,r5,r6⟩:=r3 i a v hx;obtain⟨e0,s4,s5,s6⟩:=s3 i a v hx;exact⟨e,r4,r5.move hk bk s5.inScope,r6.move hk bk s6.inScope⟩
  ·obtain⟨q1,q2,_⟩:=ani hn;obtain⟨p1,p2,_⟩:=ani hm;rw[q2,p2]at hb;exact hg.inv.gh.sep _ _ _ _ q1 p1 hb
 refine⟨⟨hg.inv.gN,λ n e k' ys hn=> ?_,λ n m e k' ys e' k'' uF hn hm hb=> ?_,λ n e k' ys o hn=> ?_,hg.inv.fix,hg.inv.aZ,hg.inv.ow.same (λ n a hn=>atS hn) (λ b o v hv=> .inl ⟨o,v,hv⟩) (λ m e k' ys hm=>by obtain⟨m1,h1,h2,_⟩:=src hm;rw[h2];exact .inl ⟨m1,_,_,_,h1,rfl⟩) rfl,hgh⟩,⟨hg.ext.gN,by simp,λ n hn e k' ys hx=> ?_,λ n hn e k' hx=> ?_,λ n hn a hx=>by obtain⟨q1,q2⟩:=atS hx;rw[q2];exact hg.ext.own n hn a q1,λ n hn a hx=>by obtain⟨q1,q2,_⟩:=ani hx;rw[q2];exact hg.ext.cE n hn a q1⟩,hg.lK,?_,hg.eK⟩
 ·obtain⟨m,h1,h2,h3,_⟩:=src hn;rw[h2];obtain⟨c,⟨kS,q1,cL⟩,q2,q3,q4,q5,q6⟩:=hg.inv.obj m e k' ys h1;refine⟨c,⟨kS,q1,cL⟩,q2,q3,q4,q5,λ i x hx=>⟨(q6 i x hx).1,λ j a ha=> ?_⟩⟩;obtain⟨y,hy,ho,hr⟩:=(q6 i x hx).2 j a ha;exact⟨y,hy,ho,hr.move hk bk (h3 x (mem_of_getElem? hx) a (mem_of_getElem? ha))⟩
 ·obtain⟨m1,h1,h2,_,h4⟩:=src hn;obtain⟨m2,k1,k2,_,k4⟩:=src hm;rw[h2,k2]at hb;have:=hg.inv.sep m1 m2 _ _ _ _ _ _ h1 k1 hb;rcases h4 with⟨a1,a2⟩|⟨a1,a2,a3⟩<;>rcases k4 with⟨b1,b2⟩|⟨b1,b2,b3⟩<;>omega
 ·obtain⟨m,h1,h2,_⟩:=src hn;rw[h2];exact hg.inv.cT m e k' ys o h1
 ·by_cases rU:n=k
  ·subst rU;rw[self]at hx;cases hx;exact .inr ⟨hk,bk⟩
  ·rw[oth rU]at hx;rcases hg.ext.obj n hn e k' ys (by rw[fk hn];exact hx)with⟨zs,z1,z2,z3⟩|h
   ·exact .inl ⟨zs,z1,z2,λ he=>by rw[show mQ L' k O.length n=L' n from if_neg rU];exact z3 he⟩
   ·exact .inr h
 ·by_cases rU:n=k
  ·subst rU;rw[self]at hx;cases hx
  ·rwa [oth rU]at hx
 ·rintro b (⟨n,e,k',ys,hn,hb⟩|⟨n,a,o,v,hn,hb⟩|⟨n,a,hn,hb⟩)
  rotate_right
  ·obtain⟨q1,q2,_⟩:=ani hn;rw[q2]at hb;exact hg.lb b (.inr (.inr ⟨n,a,q1,hb⟩))
  ·obtain⟨m,h1,h2,_⟩:=src hn;rw[h2]at hb;exact hg.lb b (.inl ⟨m,e,k',ys,h1,hb⟩)
  ·obtain⟨q1,q2⟩:=atS hn;rw[q2]at hb;exact hg.lb b (.inr (.inl ⟨n,a,o,v,q1,hb⟩))
end
end Go.Ab
namespace Go.Ab
def dY.strip:dY->dY
 | .pb f args=> .call f args
 | .kx x args=> .eI x args
 | .mN f args=> .call f args
 | .jc x args=> .eI x args
 | .nR f args=> .call f args
 | .fc _ _ _ f args=> .call f args
 | .gy _ f args=> .call f args
 | .ko _ f args=> .call f args
 | .uM _ f args=> .call f args
 | .uO _ f args=> .call f args
 | .o7 _ f args=> .call f args
 | .gx _ t s z=> .alloc t s z
 | .oz _ t s x=> .box t s x
 | .gw _ t s l z ps=> .buildSlice t s l z ps
 | .jf t s l z ps=> .buildSlice t s l z ps
 | .cut s x l h=> .cO s x l h
 | .y8 neg x=> .pu (.re neg) [x]
 | .mkF e s b z l c=> .mk e s b z l c
 | .aa0 _ e s b z l c=> .mk e s b z l c
 |o=>o
section
variable {P:Program} {I:cZ} {L:Nat->Loc} {O:List aa} {w:World} {K:AV->List aa->Prop} {e:Env} {a:Act}
theorem fu.wp{o:Oper}(h:fu P I L O w (execOp a.eval o) K){next:Act->World->Prop}{Q:Exit->Act->World->Prop}
  (hn:∀x O' y I' L' w',K x O'->Good I L O w I' L' O' w'->R I' L' O' x y->next (a.put o.dst y) w'):o.wp P a w next Q:=by
 obtain⟨x,O',y,I',L',w',hk,hg,hr,h|⟨h,rfl⟩⟩:=h
 ·unfold Oper.wp;rw[h];exact hn _ _ _ _ _ _ hk hg hr
 ·unfold Oper.wp;rw[h];exact hn _ _ _ _ _ _ hk hg hr
theorem iT{o:Oper}{f:FuncId}{vs:Array Value}{next:Act->World->Prop}{Q:Exit->Act->World->Prop}{M:Value->World->Prop}
  (bc:(execOp a.eval o).run P w= .ok (.enter f vs) w) (hc:Calls P f vs w λ e w'=>∃y,e= .returned y/\M y w') (hn:∀y w',M y w'->next (a.put o.dst y) w'):o.wp P a w next Q:=by
 unfold Oper.wp;rw[bc]
 show Calls P f vs w _;refine hc.mono λ e w' ⟨y,he,hm⟩=> ?_
 subst he;exact hn y w' hm
theorem aeL{f:FuncId}(h:ajH P f)(vs:Array Value)(w:World):(callFunc f vs).run P w= .ok (.enter f vs) w:=by
 obtain⟨fn,h1,h2,h3⟩:=h;obtain⟨b,hb⟩:=Option.isSome_iff_exists.1 h2;have h4:¬fn.name= "runtime.NumGoroutine" :=by simpa using h3
 simp[callFunc,h1,h4,hb]
theorem dn{c:Call}{fv:Operand}(kC:c.callee= .value fv){f:FuncId}{aV:Array Value}(hfv:a.eval fv= .func (.func f) #[] aV)(he:ajH P f){d:Option Tmp}{ty:TypeId}{pos:String}{af:Array Edge}{g:Option (Nat×Bool)}:
  (execOp a.eval ⟨d,.call c,ty,pos,af,g⟩).run P w= .ok (.enter f (c.args.map a.eval++aV)) w:=by
 simp only[execOp,resolve,kC,hfv,Deferred.ofValue];simp[invoke,aeL he]
def dY.acV:dY->Bool
 | .gx _ _ _ _| .oz _ _ _ _| .gw _ _ _ _ _ _| .cut _ _ _ _| .y8 _ _| .mkF _ _ _ _ _ _| .aa0 _ _ _ _ _ _ _=>true
 |_=>false
theorem sB{ao b:dY}(ha:ao.acV=false)(h:b=ao.strip)(hb:b.abo=false)(hs:∀t s l z ps,b≠ .buildSlice t s l z ps):ao=b:=by
 subst h;cases ao<;>first|rfl|(simp[dY.strip,dY.abo]at hb;done)|(simp[dY.acV]at ha;done)|(exact(hs _ _ _ _ _ rfl).elim)
theorem aj9{d:Option Tmp}{op:Op}{ty:TypeId}{pos:String}{af:Array Edge}{g:Option (Nat×Bool)}{ao:dY}(hc:bL P ty op=some ao)(hi:Inv I L O w)(he:∀t,R I L O (e t) (a.tmps.getD t undef))(hk:wpOp P ao e O K):
  fu P I L O w (execOp a.eval ⟨d,op,ty,pos,af,g⟩) K:=by
 cases op
 case move=>exact aqT hi he hc hk
 case assign=>exact aiv hi he hc hk
 case pick=>exact anB hi he hc hk
 case alloc=>exact ali hi hc hk
 case box=>exact aqY hi he hc hk
 case build=>exact alh hi he hc hk
 case buildSlice=>exact aaF hi he hc hk
 case load=>exact anG hi he hc hk
 case store=>exact ak9 hi he hc hk
 case nilCheck=>exact anD hi he hc hk
 case binOp=>exact aqZ hi he hc hk
 case unOp=>exact atY hi he hc hk
 case convert=>exact agx hi he hc hk
 case fieldAddr=>exact alg hi he hc hk
 case field=>exact aqV hi he hc hk
 case indexAddr=>exact alf hi he hc hk
 case index=>exact ale hi he hc hk
 case slice=>exact alb hi he hc hk
 case makeSlice=>exact acM hi he hc hk
 case extract=>exact aqW hi he hc hk
 case makeMap=>exact alc hi hc hk
 case lookup=>exact anF hi he hc hk
 case mapUpdate=>exact agw hi he hc hk
 case insert=>exact ait hi he hc hk
 case range=>exact ak8 hi he hc hk
 case next=>exact ala hi he hc hk
 case makeFunc=>exact anE hi he hc hk
 all_goals cases hc
theorem akL(O:List aa)(res:AV):zD O [] res=O:=by simp[zD]
theorem afK{c:Call}{ao:dY}{d:Option Tmp}{ty:TypeId}{pos:String}{af:Array Edge}{g:Option (Nat×Bool)}(hc:yV P c=some ao.strip)(hi:Inv I L O w)(he:∀t,R I L O (e t) (a.tmps.getD t undef))(hk:wpOp P ao e O K){next:Act->World->Prop}{Q:Exit->Act->World->Prop}
  (hn:∀x O' y I' L' w',K x O'->Good I L O w I' L' O' w'->R I' L' O' x y->next (a.put d y) w'):Oper.wp P ⟨d,.call c,ty,pos,af,g⟩ a w next Q:=by
 unfold yV at hc
 split at hc
 ·rename_i fv kC
  have dV:∀{args},apT c.args=some args->RL I L O (args.map (aC.ev e)) (c.args.map a.eval):=by
   intro args h;have:=yU (I:=I) (L:=L) (O:=O) (e:=e) (a:=a) h he;have h2:(List.map a.eval c.args.toList).toArray=Array.map a.eval c.args:=by apply Array.ext';simp
   rwa [h2]at this
  split at hc
  ·rename_i f args hf kV;have rf:=ar hf he
   have hv:a.eval fv= .func (.func f) #[] #[]:=by
    generalize a.eval fv=X at rf;cases rf with
    |fn _ _ vs h1 h2=>congr 1;exact(Array.eq_empty_of_size_eq_zero h1.symm)
   have yH:=dV kV;simp only[Option.some.injEq]at hc;cases ao<;>simp only[dY.strip]at hc<;>first|(cases hc;done)|skip
   case call f' rZ=>
    cases hc;obtain⟨res,O',eL,hk⟩:=hk;refine iT (a:=a) (dn kC hv eL.1) (M:=λ y w'=>∃I' L',R I' L' O' res y/\Good I L O w I' L' O' w') ?_ λ y w' ⟨I',L',h1,h2⟩=>hn _ _ _ _ _ _ hk h2 h1
    refine(eL.2 I L w _ hi (by simpa using yH)).mono ?_;rintro e' w' ⟨y,I',L',rfl,h1,h2⟩;exact⟨y,rfl,I',L',h1,h2⟩
   case pb f' rZ=>
    cases hc;obtain⟨res,hnr,eL,hk⟩:=hk;have:=jV (as:=args.map (aC.ev e)) (aV:=[]) (vs:=c.args.map a.eval) hi (by simpa using yH) (by simpa [Function.comp_def]using hnr) (by simpa [Function.comp_def]using eL);refine iT (a:=a) (dn kC hv eL.1) (M:=λ y w'=>∃I' L',R I' L' (zD O (args.map (aC.ev e)) res) res y/\Good I L O w I' L' (zD O (args.map (aC.ev e)) res) w') ?_ λ y w' ⟨I',L',h1,h2⟩=>hn _ _ _ _ _ _ hk h2 h1
    simp only[Array.append_empty];refine this.mono ?_;rintro e' w' ⟨y,I',L',rfl,h1,h2⟩;exact⟨y,rfl,I',L',h1,h2⟩
   case mN f' rZ=>
    cases hc;obtain⟨res,hnr,eL,hk⟩:=hk;have:=jV (as:=[]) (aV:=args.map (aC.ev e)) (vs:=c.args.map a.eval) hi (by simpa using yH) (by simpa using hnr) (by simpa using eL);rw[akL]at this;refine iT (a:=a) (dn kC hv eL.1) (M:=λ y w'=>∃I' L',R I' L' O res y/\Good I L O w I' L' O w') ?_ λ y w' ⟨I',L',h1,h2⟩=>hn _ _ _ _ _ _ hk h2 h1
    simp only[Array.append_empty];refine this.mono ?_;rintro e' w' ⟨y,I',L',rfl,h1,h2⟩;exact⟨y,rfl,I',L',h1,h2⟩
   case gy gs f' rZ=>
    cases hc;obtain⟨res,O',eL,hk⟩:=hk;refine iT (a:=a) (dn kC hv eL.1) (M:=λ y w'=>∃I' L',R I' L' O' res y/\Good I L O w I' L' O' w') ?_ λ y w' ⟨I',L',h1,h2⟩=>hn _ _ _ _ _ _ hk h2 h1
    refine(eL.2 I L w _ hi (by simpa using yH)).mono ?_;rintro e' w' ⟨y,I',L',rfl,h1,h2⟩;exact⟨y,rfl,I',L',h1,h2⟩
   case ko gs f' rZ=>
    cases hc;obtain⟨n,a0,ob,res,ob',q1,q2,q3,q4,q5,q6,q7,q8,hk⟩:=hk;have eL:=q8.auf q2 q5 q7 q6 n q4;rw[←q1]at eL;refine iT (a:=a) (dn kC hv eL.1) (M:=λ y w'=>∃I' L',R I' L' (O.set n ob') res y/\Good I L O w I' L' (O.set n ob') w') ?_ λ y w' ⟨I',L',h1,h2⟩=>hn _ _ _ _ _ _ hk h2 h1
    refine(eL.2 I L w _ hi (by simpa using yH)).mono ?_;rintro e' w' ⟨y,I',L',rfl,h1,h2⟩;exact⟨y,rfl,I',L',h1,h2⟩
   case uM rd' f' rZ=>
    cases hc;obtain⟨res,ob,ahp,hk⟩:=hk;have eL:=ahp O rfl λ _ _=>rfl
    refine iT (a:=a) (dn kC hv eL.1) (M:=λ y w'=>∃I' L',R I' L' (O++ [ob]) res y/\Good I L O w I' L' (O++ [ob]) w') ?_ λ y w' ⟨I',L',h1,h2⟩=>hn _ _ _ _ _ _ hk h2 h1
    refine(eL.2 I L w _ hi (by simpa using yH)).mono ?_;rintro e' w' ⟨y,I',L',rfl,h1,h2⟩;exact⟨y,rfl,I',L',h1,h2⟩
   case o7 rd' f' rZ=>
    cases hc;obtain⟨res,O',eL,_,hk⟩:=hk;refine iT (a:=a) (dn kC hv eL.1) (M:=λ y w'=>∃I' L',R I' L' O' res y/\Good I L O w I' L' O' w') ?_ λ y w' ⟨I',L',h1,h2⟩=>hn _ _ _ _ _ _ hk h2 h1
    refine(eL.2 I L w _ hi (by simpa using yH)).mono ?_;rintro e' w' ⟨y,I',L',rfl,h1,h2⟩;exact⟨y,rfl,I',L',h1,h2⟩
   case uO rd' f' rZ=>
    cases hc;obtain⟨res,ahp,hk⟩:=hk;have eL:=ahp O λ _ _=>rfl
    refine iT (a:=a) (dn kC hv eL.1) (M:=λ y w'=>∃I' L',R I' L' O res y/\Good I L O w I' L' O w') ?_ λ y w' ⟨I',L',h1,h2⟩=>hn _ _ _ _ _ _ hk h2 h1
    refine(eL.2 I L w _ hi (by simpa using yH)).mono ?_;rintro e' w' ⟨y,I',L',rfl,h1,h2⟩;exact⟨y,rfl,I',L',h1,h2⟩
   case fc nl' t' s' f' rZ=>
    cases hc;obtain⟨res,ob,b8,ahp,hk⟩:=hk;have eL:=ahp.fresh b8 O;refine iT (a:=a) (dn kC hv eL.1) (M:=λ y w'=>∃I' L',R I' L' (O++ [ob.bj λ n=>O.length+n]) (res.bj λ n=>O.length+n) y/\Good I L O w I' L' (O++ [ob.bj λ n=>O.length+n]) w') ?_ λ y w' ⟨I',L',h1,h2⟩=>hn _ _ _ _ _ _ hk h2 h1
    refine(eL.2 I L w _ hi (by simpa using yH)).mono ?_;rintro e' w' ⟨y,I',L',rfl,h1,h2⟩;exact⟨y,rfl,I',L',h1,h2⟩
   case nR f' rZ=>
    cases hc;obtain⟨res,hfl,hnr,eL,hk⟩:=hk;have avm:zD O (args.map (aC.ev e)) res=O:=if_pos hfl;have:=jV (as:=args.map (aC.ev e)) (aV:=[]) (vs:=c.args.map a.eval) hi (by simpa using yH) (by simpa [Function.comp_def]using hnr) (by simpa [Function.comp_def]using eL);rw[avm]at this;refine iT (a:=a) (dn kC hv eL.1) (M:=λ y w'=>∃I' L',R I' L' O res y/\Good I L O w I' L' O w') ?_ λ y w' ⟨I',L',h1,h2⟩=>hn _ _ _ _ _ _ hk h2 h1
    simp only[Array.append_empty];refine this.mono ?_;rintro e' w' ⟨y,I',L',rfl,h1,h2⟩;exact⟨y,rfl,I',L',h1,h2⟩
  ·rename_i x args bk hf kV;have rf:=ar hf he;have yH:=dV kV;simp only[Option.some.injEq]at hc;cases ao<;>simp only[dY.strip]at hc<;>first|(cases hc;done)|skip
   case eI x' rZ=>
    cases hc;simp only[wpOp]at hk;generalize hA:x.ev e=A at rf hk;cases A<;>simp only at hk
    rename_i f aV;obtain⟨res,O',eL,hk⟩:=hk;generalize hX:a.eval fv=X at rf;cases rf with
    |fn _ _ vs h1 h2=>
     refine iT (a:=a) (dn kC hX eL.1) (M:=λ y w'=>∃I' L',R I' L' O' res y/\Good I L O w I' L' O' w') ?_ λ y w' ⟨I',L',h1,h2⟩=>hn _ _ _ _ _ _ hk h2 h1
     refine(eL.2 I L w _ hi ?_).mono ?_
     ·refine⟨by simp only[List.length_append,Array.size_append,h1,yH.1],λ i b y hb hy=> ?_⟩;by_cases aw:i<(args.map (aC.ev e)).length
      ·rw[getElem?_append_left aw]at hb;rw[Array.getElem?_append_left (by rw[←yH.1];exact aw)]at hy;exact yH.2 i b y hb hy
      ·rw[getElem?_append_right (by omega)]at hb;rw[Array.getElem?_append_right (by rw[←yH.1];omega),←yH.1]at hy;exact h2 _ b y hb hy
     ·rintro e' w' ⟨y,I',L',rfl,h1,h2⟩;exact⟨y,rfl,I',L',h1,h2⟩
   case kx x' rZ=>
    cases hc;simp only[wpOp]at hk;generalize hA:x.ev e=A at rf hk;cases A<;>simp only at hk
    rename_i f aV;obtain⟨res,hnr,eL,hk⟩:=hk;generalize hX:a.eval fv=X at rf;cases rf with
    |fn _ _ vs h1 h2=>
     have:=jV (as:=args.map (aC.ev e)) (aV:=aV) (vs:=c.args.map a.eval++vs) hi (by
      refine⟨by simp only[List.length_append,Array.size_append,h1,yH.1],λ i b y hb hy=> ?_⟩;by_cases aw:i<(args.map (aC.ev e)).length
      ·rw[getElem?_append_left aw]at hb;rw[Array.getElem?_append_left (by rw[←yH.1];exact aw)]at hy;exact yH.2 i b y hb hy
      ·rw[getElem?_append_right (by omega)]at hb;rw[Array.getElem?_append_right (by rw[←yH.1];omega),←yH.1]at hy;exact h2 _ b y hb hy) (by simpa [Function.comp_def]using hnr) (by simpa [Function.comp_def]using eL)
     refine iT (a:=a) (dn kC hX eL.1) (M:=λ y w'=>∃I' L',R I' L' (zD O (args.map (aC.ev e)) res) res y/\Good I L O w I' L' (zD O (args.map (aC.ev e)) res) w') ?_ λ y w' ⟨I',L',h1,h2⟩=>hn _ _ _ _ _ _ hk h2 h1
     refine this.mono ?_;rintro e' w' ⟨y,I',L',rfl,h1,h2⟩;exact⟨y,rfl,I',L',h1,h2⟩
   case jc x' rZ=>
    cases hc;simp only[wpOp]at hk;generalize hA:x.ev e=A at rf hk;cases A<;>simp only at hk
    rename_i f aV;obtain⟨res,hnr,eL,hk⟩:=hk;generalize hX:a.eval fv=X at rf;cases rf with
    |fn _ _ vs h1 h2=>
     have:=jV (as:=[]) (aV:=args.map (aC.ev e)++aV) (vs:=c.args.map a.eval++vs) hi (by
      refine⟨by simp only[List.nil_append,List.length_append,Array.size_append,h1,yH.1],λ i b y hb hy=> ?_⟩;rw[List.nil_append]at hb;by_cases aw:i<(args.map (aC.ev e)).length
      ·rw[getElem?_append_left aw]at hb;rw[Array.getElem?_append_left (by rw[←yH.1];exact aw)]at hy;exact yH.2 i b y hb hy
      ·rw[getElem?_append_right (by omega)]at hb;rw[Array.getElem?_append_right (by rw[←yH.1];omega),←yH.1]at hy;exact h2 _ b y hb hy) (by simpa using hnr) (by simpa using eL)
     rw[akL]at this;refine iT (a:=a) (dn kC hX eL.1) (M:=λ y w'=>∃I' L',R I' L' O res y/\Good I L O w I' L' O w') ?_ λ y w' ⟨I',L',h1,h2⟩=>hn _ _ _ _ _ _ hk h2 h1
     refine this.mono ?_;rintro e' w' ⟨y,I',L',rfl,h1,h2⟩;exact⟨y,rfl,I',L',h1,h2⟩
  ·cases hc
 ·rename_i kC
  split at hc
  ·rename_i t x uB has;have yJ:c.argTypes= #[t]:=by apply Array.ext';simpa using uB
   have haa:c.args= #[x]:=by apply Array.ext';simpa using has
   split at hc
   ·rename_i ht;simp only[map_eq_some_iff]at hc;obtain⟨ax,hx,hc⟩:=hc;have:=sB (by cases ao<;>first|rfl|(simp[dY.strip]at hc;done)) hc rfl (by simp);subst this;obtain⟨x',y,h1,h2,h3⟩:=anH (ty:=ty) hi he ht hx hk;refine fu.wp (fu.same hi h1 h2 ?_) hn;simp only[execOp,resolve,kC,yJ,haa];simp[invoke,builtin,h3]
   ·rename_i el ht;simp only[map_eq_some_iff]at hc;obtain⟨ax,hx,hc⟩:=hc;have:=sB (by cases ao<;>first|rfl|(simp[dY.strip]at hc;done)) hc rfl (by simp);subst this;obtain⟨x',y,h1,h2,h3⟩:=anI (ty:=ty) hi he ht hx hk;refine fu.wp (fu.same hi h1 h2 ?_) hn;simp only[execOp,resolve,kC,yJ,haa];simp[invoke,builtin,h3]
   ·cases hc
  ·cases hc
 ·rename_i kC
  split at hc
  ·rename_i t u x y uB has
   split at hc
   ·rename_i htu;subst htu;have yJ:c.argTypes= #[t,t]:=by apply Array.ext';simpa using uB
    have haa:c.args= #[x,y]:=by apply Array.ext';simpa using has
    simp only[bind_eq_bind,bind_eq_some_iff,Option.some.injEq]at hc;obtain⟨el,ji,⟨s,b,z⟩,hz,ax,hx,ay,hy,hc⟩:=hc;have:=sB (by cases ao<;>first|rfl|(simp[dY.strip]at hc;done)) hc rfl (by simp);subst this;obtain⟨x',O',y',I',L',w',h1,h2,h3,h4⟩:=asu (ty:=ty) (gv ji) hz hi (ar hx he) (ar hy he) hk;refine fu.wp ⟨x',O',y',I',L',w',h1,h2,h3,.inl ?_⟩ hn;simp only[execOp,resolve,kC,yJ,haa];simp[invoke,builtin,h4]
   ·cases hc
  ·cases hc
 ·cases hc
theorem zA{ty:TypeId}{op:Op}{t s l:Nat}{z:AV}{ps:List (Nat×aC)}(h:bL P ty op=some (.buildSlice t s l z ps)):∃t len parts,op= .buildSlice t len parts:=by
 cases op<;>simp only[bL]at h
 case buildSlice t len parts=>exact⟨t,len,parts,rfl⟩
 all_goals (repeat' split at h)
 all_goals first
  |(simp[bind_eq_some_iff]at h;done)
  |(rename_i heq;cases heq;done)
  |(exfalso;simp_all;done)
theorem aof(hi:Inv I L O w)(as:List AV):Inv (xL I L O w as) L [] w:=by
 refine⟨λ b o x hx=> ?_,by simp,by simp,by simp,λ p hp=>zO hi as _ _ _ (hi.fix p hp),hi.xe (zO hi as),.no (by simp),.no (by simp)⟩;unfold xL at hx
 split at hx
 ·exact hx
 ·exact hi.gN b o x hx
theorem ag4{t:TypeId}(h:arB P t=true):∃el,P.underlying t=some (.slice el):=by
 unfold arB at h;split at h
 ·rename_i x hx;exact⟨_,hx⟩
 ·cases h
theorem adW{t:TypeId}(h:akj P t=true):∃el,P.underlying t=some (.pointer el):=by
 unfold akj at h;split at h
 ·rename_i x hx;exact⟨_,hx⟩
 ·cases h
theorem alS{t:TypeId}(h:aoy P t=true):∃el,P.underlying t=some (.interface el):=by
 unfold aoy at h;split at h
 ·rename_i x hx;exact⟨_,hx⟩
 ·cases h
theorem aow{t:TypeId}(h:acU P t=true):P.underlying t=some (.int .u8):=by
 unfold acU at h;split at h
 ·rename_i hx;exact hx
 ·cases h
theorem alR{t:TypeId}(h:isInt P t=true):∃k,P.underlying t=some (.int k):=by
 unfold isInt at h;split at h
 ·rename_i k hx;exact⟨k,hx⟩
 ·cases h
theorem adV{t:TypeId}(h:isStr P t=true):P.underlying t=some .string:=by
 unfold isStr at h;split at h
 ·rename_i hx;exact hx
 ·cases h
theorem mX(hi:Inv I L O w){v:AV}{x:Value}(hr:R I L O v x)(hn:(jL O v).ag=true)(as:List AV)(hm:v∈as):R (xL I L O w as) L [] (jL O v) x:=ad1 hi hm hr hn
theorem agb:∀{xs:List AV} {l:List UInt8},u8s xs=some l->∃ns:List Int,xs=ns.map (λ n=> .v (.int .u8 n))/\l=ns.map λ n=>UInt8.ofNat n.toNat
 | [],l,h=>by simp[u8s]at h;subst h;exact⟨[],rfl,rfl⟩
 |x::r,l,h=>by
  unfold u8s at h
  split at h
  ·rename_i hx;cases hx
  ·rename_i n r' hx;cases hx;simp only[map_eq_some_iff]at h;obtain⟨l',h1,rfl⟩:=h;obtain⟨ns,rfl,rfl⟩:=agb h1;exact⟨n::ns,rfl,rfl⟩
  ·cases h
theorem ass{s d el:TypeId}(hs:P.underlying s=some (.slice el))(he:P.underlying el=some (.int .u8))(hd:P.underlying d=some .string){I':cZ}{L':Nat->Loc}(hinv:Inv I' L' [] w){v:AV}{x:Value}{y:AV}(hr:R I' L' [] v x)(hp:puF .b2s [v]=some y):
  ∃z,y= .v z/\z.oneCell'=true/\(convert s d x).run P w= .ok z w:=by
 unfold puF at hp
 split at hp<;>first|(rename_i ho hv;cases ho;done)|(rename_i ho;cases ho;done)|skip
 ·rename_i ys ho hv;cases hv;simp only[map_eq_some_iff]at hp;obtain⟨l,hl,rfl⟩:=hp;obtain⟨ns,rfl,rfl⟩:=agb hl;generalize hX:(ns.map λ n=>AV.v (.int .u8 n))=X at hr;cases hr with
  |nP a cap=>
   have hn:ns= []:=by simpa using hX
   subst hn;refine⟨_,rfl,rfl,?_⟩;rw[run_convert_bytes_string w s d el a 0 cap hs he hd];cases a with
   |none=>simp[Conv.bytesToString];rfl
   |some a=>simp[Conv.bytesToString,loadCells,loadCellsFrom];rfl
  |sl xs aZ off cap s' bd h1 h2 h3 h4 h5=>
   subst hX;refine⟨_,rfl,rfl,?_⟩;have hlen:ns.length=(ns.map λ n=>AV.v (.int .u8 n)).length:=by simp
   have:=run_convert_bytes_arg (P:=P) w s el hs he aZ off (ns.map λ n=>AV.v (.int .u8 n)).length cap ns hlen (λ i hi=> ?_) d hd
   ·rw[this];rfl
   ·have ei:i<ns.length:=by simpa using hi
    have hx:(ns.map λ n=>AV.v (.int .u8 n))[i]? =some (.v (.int .u8 ns[i])):=by simp[ei]
    have zr:s'=1:=by have:=h3 i _ hx;simpa [AV.cells]using this.symm
    subst zr;have hc0:(AV.v (.int .u8 ns[i])).cells[0]? =some (.v (.int .u8 ns[i])):=rfl;have kU:=(h4 i _ 0 _ hx hc0).1;have qn:=(h5 i _ 0 _ hx hc0).exact;rw[qn]at kU;have:=hinv.gN _ _ _ kU;simp only[Nat.mul_one,Nat.add_zero]at this;rw[this];simp[List.getD,ei]
 ·rename_i ho hv;cases hv;simp only[Option.some.injEq]at hp;subst hp;cases hr;refine⟨_,rfl,rfl,?_⟩;rw[run_convert_bytes_string w s d el none 0 0 hs he hd];simp[Conv.bytesToString];rfl
 ·cases hp
theorem afE{op:BinOp}(h:nZ op=true):op= .eql∨op= .neq:=by
 cases op<;>simp[nZ]at h<;>simp
theorem nB{t:TypeId}{x y:Value}{b:Bool}{op:BinOp}(ho:op= .eql∨op= .neq)(ht:(Op.equalIn (9999+1) t x y).run P w= .ok b w)(ox oy:Operand)
  (hb:∀op:BinOp,op= .eql∨op= .neq->(eqGuard op t ox oy x y).run P w= .ok () w) (h2:∀op:BinOp,op= .eql->binOp op t x y=do pure (.bool (←Op.equal t x y))) (h3:∀op:BinOp,op= .neq->binOp op t x y=do pure (.bool (!(←Op.equal t x y)))):
  (do eqGuard op t ox oy x y;binOp op t x y:Sem Value).run P w= .ok (.bool (j3 op !=b)) w:=by
 have e1:(Op.equal t x y).run P w= .ok b w:=ht;rcases ho with rfl|rfl
 ·rw[Sem.run_bind,hb _ (.inl rfl),h2 _ rfl];simp[e1,j3]
 ·rw[Sem.run_bind,hb _ (.inr rfl),h3 _ rfl];simp[e1,j3]
theorem aiY{t el:TypeId}(ht:P.underlying t=some (.slice el)){op:BinOp}(ho:nZ op=true){I':cZ}{L':Nat->Loc}{v:AV}{x:Value}{y:AV}(hr:R I' L' [] v x)(hp:puF (.xP (j3 op)) [v]=some y)(ox oy:Operand):
  ∃z,y= .v z/\z.oneCell'=true/\(do eqGuard op t ox oy x (.slice none 0 0);binOp op t x (.slice none 0 0):Sem Value).run P w= .ok z w:=by
 have ho:=afE ho;unfold puF at hp
 split at hp<;>first|(rename_i h1 h2;cases h1;done)|(rename_i h1;cases h1;done)|skip
 ·rename_i neg h1 h2;cases h1;cases h2;cases hr;simp only[Option.some.injEq]at hp;subst hp;refine⟨_,rfl,rfl,nB (b:=true) ho ?_ ox oy (λ op ho=> ?_) (λ op ho=> ?_) (λ op ho=> ?_)⟩
  ·rw[Op.equalIn];simp[run_underlying ht]
  ·rcases ho with rfl|rfl<;>simp[eqGuard]
  ·subst ho;rfl
  ·subst ho;rfl
 ·rename_i neg a l h1 h2;cases h1;cases h2;simp only[Option.some.injEq]at hp;subst hp;cases hr with
  |sl xs aZ off cap s' bd h1 h2 h3 h4 h5=>
   refine⟨_,rfl,rfl,nB (b:=false) ho ?_ ox oy (λ op ho=> ?_) (λ op ho=> ?_) (λ op ho=> ?_)⟩
   ·rw[Op.equalIn];simp[run_underlying ht]
   ·rcases ho with rfl|rfl<;>simp[eqGuard]
   ·subst ho;rfl
   ·subst ho;rfl
 ·cases hp
theorem aiZ{t el:TypeId}(ht:P.underlying t=some (.pointer el)){op:BinOp}(ho:nZ op=true){I':cZ}{L':Nat->Loc}{v:AV}{x:Value}{y:AV}(hr:R I' L' [] v x)(hp:puF (.re (j3 op)) [v]=some y)(ox oy:Operand):
  ∃z,y= .v z/\z.oneCell'=true/\(do eqGuard op t ox oy x (.pointer none);binOp op t x (.pointer none):Sem Value).run P w= .ok z w:=by
 have ho:=afE ho;unfold puF at hp
 split at hp<;>first|(rename_i h1 h2;cases h1;done)|(rename_i h1;cases h1;done)|skip
 ·rename_i neg h1 h2;cases h1;cases h2;have:=hr.exact;subst this;simp only[Option.some.injEq]at hp;subst hp;refine⟨_,rfl,rfl,nB (b:=true) ho ?_ ox oy (λ op ho=> ?_) (λ op ho=> ?_) (λ op ho=> ?_)⟩
  ·rw[Op.equalIn];simp[run_underlying ht]
  ·rcases ho with rfl|rfl<;>simp[eqGuard]
  ·subst ho;rfl
  ·subst ho;rfl
 ·rename_i neg a l h1 h2;cases h1;cases h2;simp only[Option.some.injEq]at hp;subst hp;cases hr;refine⟨_,rfl,rfl,nB (b:=false) ho ?_ ox oy (λ op ho=> ?_) (λ op ho=> ?_) (λ op ho=> ?_)⟩
  ·rw[Op.equalIn];simp[run_underlying ht]
  ·rcases ho with rfl|rfl<;>simp[eqGuard]
  ·subst ho;rfl
  ·subst ho;rfl
 ·cases hp
theorem ai0{t:TypeId}{el:Array (String×TypeId)}(ht:P.underlying t=some (.interface el)){op:BinOp}(ho:nZ op=true){I':cZ}{L':Nat->Loc}{v:AV}{x:Value}{y:AV}(hr:R I' L' [] v x)(hp:puF (.xQ (j3 op)) [v]=some y)(ox:Operand):
  ∃z,y= .v z/\z.oneCell'=true/\(do eqGuard op t ox (.const .nilIface) x .nilIface;binOp op t x .nilIface:Sem Value).run P w= .ok z w:=by
 have ho:=afE ho;unfold puF at hp
 split at hp<;>first|(rename_i h1 h2;cases h1;done)|(rename_i h1;cases h1;done)|skip
 ·rename_i neg h1 h2;cases h1;cases h2;have:=hr.exact;subst this;simp only[Option.some.injEq]at hp;subst hp;refine⟨_,rfl,rfl,nB (b:=true) ho ?_ ox (.const .nilIface) (λ op ho=> ?_) (λ op ho=> ?_) (λ op ho=> ?_)⟩
  ·rw[Op.equalIn];simp[run_underlying ht]
  ·rcases ho with rfl|rfl<;>simp[eqGuard]
  ·subst ho;rfl
  ·subst ho;rfl
 ·rename_i neg h1 h2;cases h1;cases h2;simp only[Option.some.injEq]at hp;subst hp;cases hr;refine⟨_,rfl,rfl,nB (b:=false) ho ?_ ox (.const .nilIface) (λ op ho=> ?_) (λ op ho=> ?_) (λ op ho=> ?_)⟩
  ·rw[Op.equalIn];simp[run_underlying ht]
  ·rcases ho with rfl|rfl<;>simp[eqGuard]
  ·subst ho;rfl
  ·subst ho;rfl
 ·cases hp
theorem ars{I':cZ}{L':Nat->Loc}{u v:AV}{x x':Value}{y:AV}(hr:R I' L' [] u x)(pF:R I' L' [] v x')(hp:puF .min [u,v]=some y)(ts:Array TypeId)(ty:TypeId):
  ∃z,y= .v z/\z.oneCell'=true/\(Builtin.min_ ts ty #[x,x']).run P w= .ok z w:=by
 unfold puF at hp
 split at hp<;>first|(rename_i h1 h2;cases h1;done)|(rename_i h1;cases h1;done)|skip
 ·rename_i k a k' b h1 h2;cases h2;have e1:=hr.exact;have e2:=pF.exact;subst e1;subst e2
  split at hp
  ·rename_i hk;subst hk;simp only[Option.some.injEq]at hp;subst hp;exact⟨_,rfl,rfl,by simp[Builtin.min_,Builtin.min2]⟩
  ·cases hp
 ·cases hp
theorem art{I':cZ}{L':Nat->Loc}{u v:AV}{x x':Value}{y:AV}(hr:R I' L' [] u x)(pF:R I' L' [] v x')(hp:puF .max [u,v]=some y)(ts:Array TypeId)(ty:TypeId):
  ∃z,y= .v z/\z.oneCell'=true/\(Builtin.max_ ts ty #[x,x']).run P w= .ok z w:=by
 unfold puF at hp
 split at hp<;>first|(rename_i h1 h2;cases h1;done)|(rename_i h1;cases h1;done)|skip
 ·rename_i k a k' b h1 h2;cases h2;have e1:=hr.exact;have e2:=pF.exact;subst e1;subst e2
  split at hp
  ·rename_i hk;subst hk;simp only[Option.some.injEq]at hp;subst hp;exact⟨_,rfl,rfl,by simp[Builtin.max_,Builtin.max2]⟩
  ·cases hp
 ·cases hp
theorem apM{I':cZ}{L':Nat->Loc}{v:AV}{x:Value}{y:AV}(hr:R I' L' [] v x)(hp:puF .dT [v]=some y):
  ∃z,y= .v z/\z.oneCell'=true/\x= .slice none 0 0/\z= .int .i64 0:=by
 unfold puF at hp
 split at hp<;>first|(rename_i h1 h2;cases h1;done)|(rename_i h1;cases h1;done)|skip
 ·rename_i h1 h2;cases h2;cases hr;simp only[Option.some.injEq]at hp;subst hp;exact⟨_,rfl,rfl,rfl,rfl⟩
 ·cases hp
theorem qR{o:PU}{xs:List AV}{M:AV->Prop}(h:puK o xs M):∃y,puF o xs=some y/\M y:=by
 unfold puK at h;split at h
 ·rename_i v hv;exact⟨v,hv,h⟩
 ·exact h.elim
theorem ara{d:Option Tmp}{op:Op}{ty:TypeId}{pos:String}{af:Array Edge}{g:Option (Nat×Bool)}{ao:dY}(hc:ams P op=some ao)(hi:Inv I L O w)(he:∀t,R I L O (e t) (a.tmps.getD t undef))(hk:wpOp P ao e O K):
  fu P I L O w (execOp a.eval ⟨d,op,ty,pos,af,g⟩) K:=by
 unfold ams at hc
 split at hc
 ·rename_i op t x u
  split at hc
  ·rename_i hb;simp only[bind_eq_bind,bind_eq_some_iff,Option.some.injEq]at hc;obtain⟨ax,hx,rfl⟩:=hc;obtain⟨el,ht⟩:=ag4 hb.2;obtain⟨hn,hk⟩:=hk;simp only[map_cons,map_nil]at hn hk;obtain⟨y,hy,hk⟩:=qR hk;have rx:=mX hi (ar hx he) (by simpa [AV.ae]using hn) [ax.ev e] (by simp);obtain⟨z,rfl,hz,bc⟩:=aiY (P:=P) (w:=w) ht hb.1 rx hy x (.const (.slice none 0 0));refine fu.same hi hk (.v z hz) ?_;simp only[execOp];have:a.eval (.const (.slice none 0 0))= .slice none 0 0:=rfl;rw[this,Sem.run_bind,bc];rfl
  ·cases hc
 ·rename_i op t x u
  split at hc
  ·rename_i hb;simp only[bind_eq_bind,bind_eq_some_iff,Option.some.injEq]at hc;obtain⟨ax,hx,rfl⟩:=hc;obtain⟨el,ht⟩:=adW hb.2;obtain⟨hn,hk⟩:=hk;simp only[map_cons,map_nil]at hn hk;obtain⟨y,hy,hk⟩:=qR hk;have rx:=mX hi (ar hx he) (by simpa [AV.ae]using hn) [ax.ev e] (by simp);obtain⟨z,rfl,hz,bc⟩:=aiZ (P:=P) (w:=w) ht hb.1 rx hy x (.const (.pointer none));refine fu.same hi hk (.v z hz) ?_;simp only[execOp];have:a.eval (.const (.pointer none))= .pointer none:=rfl;rw[this,Sem.run_bind,bc];rfl
  ·cases hc
 ·rename_i op t x u
  split at hc
  ·rename_i hb;simp only[bind_eq_bind,bind_eq_some_iff,Option.some.injEq]at hc;obtain⟨ax,hx,rfl⟩:=hc;obtain⟨el,ht⟩:=alS hb.2;obtain⟨hn,hk⟩:=hk;simp only[map_cons,map_nil]at hn hk;obtain⟨y,hy,hk⟩:=qR hk;have rx:=mX hi (ar hx he) (by simpa [AV.ae]using hn) [ax.ev e] (by simp);obtain⟨z,rfl,hz,bc⟩:=ai0 (P:=P) (w:=w) ht hb.1 rx hy x;refine fu.same hi hk (.v z hz) ?_;simp only[execOp];have:a.eval (.const .nilIface)= .nilIface:=rfl;rw[this,Sem.run_bind,bc];rfl
  ·cases hc
 ·rename_i s d' x;simp only[bind_eq_bind,bind_eq_some_iff]at hc;obtain⟨el,ji,hc⟩:=hc
  split at hc
  ·rename_i hb;simp only[bind_eq_some_iff,Option.some.injEq]at hc;obtain⟨ax,hx,rfl⟩:=hc;obtain⟨hn,hk⟩:=hk;simp only[map_cons,map_nil]at hn hk;obtain⟨y,hy,hk⟩:=qR hk;have rx:=mX hi (ar hx he) (by simpa [AV.ae]using hn) [ax.ev e] (by simp);obtain⟨z,rfl,hz,bc⟩:=ass (P:=P) (gv ji) (aow hb.1) (adV hb.2) (aof hi [ax.ev e]) rx hy;refine fu.same hi hk (.v z hz) ?_;simp only[execOp];rw[Sem.run_bind,bc];rfl
  ·cases hc
 ·rename_i c
  split at hc
  ·rename_i t u x y kC uB has;have yJ:c.argTypes= #[t,u]:=by apply Array.ext';simpa using uB
   have haa:c.args= #[x,y]:=by apply Array.ext';simpa using has
   split at hc
   ·rename_i hu;simp only[bind_eq_bind,bind_eq_some_iff]at hc;obtain⟨el,ji,⟨s,b,z⟩,hz,hc⟩:=hc
    split at hc
    ·simp only[bind_eq_some_iff,Option.some.injEq]at hc;obtain⟨ax,hx,ay,hy,rfl⟩:=hc;simp only[wpOp]at hk
     split at hk
     ·rename_i sb hsb;have ry:=ar (I:=I) (L:=L) (O:=O) hy he;rw[hsb]at ry;have hv:=ry.exact;obtain⟨x',O',y',I',L',w',h1,h2,h3,h4⟩:=ap2 (ty:=ty) (gv ji) (adV hu) hz hi (ar hx he) hk.1 hk.2;refine⟨x',O',y',I',L',w',h1,h2,h3,.inl ?_⟩;simp only[execOp,resolve,kC,yJ,haa];simp[invoke,builtin,hv,h4]
     ·exact hk.elim
    ·cases hc
   ·split at hc
    ·rename_i hin;obtain⟨ki,hu⟩:=alR hin;simp only[bind_eq_bind,bind_eq_some_iff,Option.some.injEq]at hc;obtain⟨el,ji,⟨s,b,z⟩,hz,ax,hx,ay,hy,rfl⟩:=hc;simp only[wpOp]at hk;have rx:=ar (I:=I) (L:=L) (O:=O) hx he;have ry:=ar (I:=I) (L:=L) (O:=O) hy he
     split at hk
     ·rename_i k hA hB;rw[hA]at rx;rw[hB]at ry;have e2:=ry.exact;obtain⟨k0,k1,k2,hk⟩:=hk;obtain⟨n,rfl⟩:∃n:Nat,k=n:=⟨k.toNat,by omega⟩;obtain⟨i,z0,h1,h2,h3,rfl,rfl,h4,h5,h6,h7⟩:=eR hz
      have k1':n*i.bytes<=281474976710656:=by
       have:((i.bytes*n:Nat):Int)<=281474976710656:=by rw[Int.natCast_mul];omega
       rw[Nat.mul_comm];omega
      obtain⟨y',I',L',w',g1,g2,g3⟩:=ap1 (P:=P) (w:=w) (t:=t) (u:=u) (ty:=ty) (gv ji) hu h1 h2 h3 h5 h6 h7 h4 hi (by omega) k1' (by omega);simp only[Int.toNat_natCast]at hk;refine⟨_,_,y',I',L',w',hk,g1,g2,.inl ?_⟩;have e1:a.eval x= .slice none 0 0:=by generalize a.eval x=X at rx;cases rx;rfl
      simp only[execOp,resolve,kC,yJ,haa];simp[invoke,builtin,e1,e2,g3]
     ·exact hk.elim
    ·cases hc
  ·rename_i t x kC uB has;have yJ:c.argTypes= #[t]:=by apply Array.ext';simpa using uB
   have haa:c.args= #[x]:=by apply Array.ext';simpa using has
   split at hc
   ·rename_i hsl;obtain⟨el,ht⟩:=ag4 hsl;simp only[bind_eq_bind,bind_eq_some_iff,Option.some.injEq]at hc;obtain⟨ax,hx,rfl⟩:=hc;obtain⟨hn,hk⟩:=hk;simp only[map_cons,map_nil]at hn hk;simp only[AV.ae,Bool.and_true]at hn;obtain⟨v,hv,hk⟩:=qR hk;have rx:=mX hi (ar hx he) hn [ax.ev e] (by simp);obtain⟨z,rfl,hz,hX,rfl⟩:=apM rx hv;refine fu.same hi hk (.v _ hz) ?_;simp only[execOp,resolve,kC,yJ,haa];simp[invoke,builtin,hX,Builtin.cap_,run_underlying ht]
    rfl
   ·cases hc
  ·rename_i t u x y kC uB has;have yJ:c.argTypes= #[t,u]:=by apply Array.ext';simpa using uB
   have haa:c.args= #[x,y]:=by apply Array.ext';simpa using has
   simp only[bind_eq_bind,bind_eq_some_iff,Option.some.injEq]at hc;obtain⟨ax,hx,ay,hy,rfl⟩:=hc;obtain⟨hn,hk⟩:=hk;simp only[map_cons,map_nil]at hn hk;simp only[AV.ae,Bool.and_true,and_eq_true]at hn;obtain⟨v,hv,hk⟩:=qR hk;have rx:=mX hi (ar hx he) hn.1 [ax.ev e,ay.ev e] (by simp);have ry:=mX hi (ar hy he) hn.2 [ax.ev e,ay.ev e] (by simp);obtain⟨z,rfl,hz,bc⟩:=ars (P:=P) (w:=w) rx ry hv #[t,u] ty;refine fu.same hi hk (.v z hz) ?_;simp only[execOp,resolve,kC,yJ,haa];simp[invoke,builtin,bc]
  ·rename_i t u x y kC uB has;have yJ:c.argTypes= #[t,u]:=by apply Array.ext';simpa using uB
   have haa:c.args= #[x,y]:=by apply Array.ext';simpa using has
   simp only[bind_eq_bind,bind_eq_some_iff,Option.some.injEq]at hc;obtain⟨ax,hx,ay,hy,rfl⟩:=hc;obtain⟨hn,hk⟩:=hk;simp only[map_cons,map_nil]at hn hk;simp only[AV.ae,Bool.and_true,and_eq_true]at hn;obtain⟨v,hv,hk⟩:=qR hk;have rx:=mX hi (ar hx he) hn.1 [ax.ev e,ay.ev e] (by simp);have ry:=mX hi (ar hy he) hn.2 [ax.ev e,ay.ev e] (by simp);obtain⟨z,rfl,hz,bc⟩:=art (P:=P) (w:=w) rx ry hv #[t,u] ty;refine fu.same hi hk (.v z hz) ?_;simp only[execOp,resolve,kC,yJ,haa];simp[invoke,builtin,bc]
  ·cases hc
 ·cases hc
theorem alp{o:Oper}{b ao:dY}(yJ:ao.acV=false)(hc:zB P o.type o.op=some b)(tW:b=ao.strip)(hi:Inv I L O w)(he:∀t,R I L O (e t) (a.tmps.getD t undef))(hk:wpOp P ao e O K){next:Act->World->Prop}{Q:Exit->Act->World->Prop}
  (hn:∀x O' y I' L' w',K x O'->Good I L O w I' L' O' w'->R I' L' O' x y->next (a.put o.dst y) w'):o.wp P a w next Q:=by
 obtain⟨dst,op,ty,pos,af,g⟩:=o;subst tW;unfold zB at hc;simp only at hc
 split at hc
 ·exact afK hc hi he hk hn
 ·simp only[bind_eq_some_iff]at hc;obtain⟨b,hb,hc⟩:=hc
  split at hc
  ·cases hc
  ·rename_i gj;simp only[Option.some.injEq]at hc;by_cases hbs:∃t s l z ps,b= .buildSlice t s l z ps
   ·obtain⟨t,s,l,z,ps,rfl⟩:=hbs;obtain⟨t',len,parts,rfl⟩:=zA hb;cases ao<;>simp only[dY.strip]at hc<;>first|(cases hc;done)|(simp[dY.acV]at yJ;done)|skip
    case buildSlice=>cases hc;exact(aj9 hb hi he hk).wp hn
    case jf=>cases hc;exact(aiu hi he hb hk).wp hn
   ·have:=sB yJ hc (by simpa using gj) (λ t s l z ps h=>hbs ⟨t,s,l,z,ps,h⟩);subst this;exact(aj9 hb hi he hk).wp hn
theorem rJ{op:Op}{b:dY}(h:ams P op=some b):(∃o as,b= .pu o as)∨(∃t s by_ x y,b= .mz t s by_ x y)∨∃t s by_ z x y,b= .afO t s by_ z x y:=by
 unfold ams at h
 split at h
 ·split at h
  ·simp only[bind_eq_bind,bind_eq_some_iff,Option.some.injEq]at h;obtain⟨_,_,rfl⟩:=h;exact .inl ⟨_,_,rfl⟩
  ·cases h
 ·split at h
  ·simp only[bind_eq_bind,bind_eq_some_iff,Option.some.injEq]at h;obtain⟨_,_,rfl⟩:=h;exact .inl ⟨_,_,rfl⟩
  ·cases h
 ·split at h
  ·simp only[bind_eq_bind,bind_eq_some_iff,Option.some.injEq]at h;obtain⟨_,_,rfl⟩:=h;exact .inl ⟨_,_,rfl⟩
  ·cases h
 ·simp only[bind_eq_bind,bind_eq_some_iff]at h;obtain⟨_,_,h⟩:=h
  split at h
  ·simp only[bind_eq_some_iff,Option.some.injEq]at h;obtain⟨_,_,rfl⟩:=h;exact .inl ⟨_,_,rfl⟩
  ·cases h
 ·split at h
  ·split at h
   ·simp only[bind_eq_bind,bind_eq_some_iff]at h;obtain⟨_,_,_,_,h⟩:=h
    split at h
    ·simp only[bind_eq_some_iff,Option.some.injEq]at h;obtain⟨_,_,_,_,rfl⟩:=h;exact .inr (.inl ⟨_,_,_,_,_,rfl⟩)
    ·cases h
   ·split at h
    ·simp only[bind_eq_bind,bind_eq_some_iff,Option.some.injEq]at h;obtain⟨_,_,_,_,_,_,_,_,rfl⟩:=h;exact .inr (.inr ⟨_,_,_,_,_,_,rfl⟩)
    ·cases h
  ·split at h
   ·simp only[bind_eq_bind,bind_eq_some_iff,Option.some.injEq]at h;obtain⟨_,_,rfl⟩:=h;exact .inl ⟨_,_,rfl⟩
   ·cases h
  ·simp only[bind_eq_bind,bind_eq_some_iff,Option.some.injEq]at h;obtain⟨_,_,_,_,rfl⟩:=h;exact .inl ⟨_,_,rfl⟩
  ·simp only[bind_eq_bind,bind_eq_some_iff,Option.some.injEq]at h;obtain⟨_,_,_,_,rfl⟩:=h;exact .inl ⟨_,_,rfl⟩
  ·cases h
 ·cases h
theorem qd{o:Oper}{ao:dY}(yJ:ao.acV=false)(hc:cOp P o.type o.op=some ao.strip)(hi:Inv I L O w)(he:∀t,R I L O (e t) (a.tmps.getD t undef))(hk:wpOp P ao e O K){next:Act->World->Prop}{Q:Exit->Act->World->Prop}
  (hn:∀x O' y I' L' w',K x O'->Good I L O w I' L' O' w'->R I' L' O' x y->next (a.put o.dst y) w'):o.wp P a w next Q:=by
 unfold cOp amt at hc;simp only[Option.some.injEq]at hc
 split at hc
 ·rename_i b hb;have hx:=rJ hb
  have tW:ao=b:=by
   refine sB yJ hc ?_ ?_
   ·rcases hx with⟨_,_,rfl⟩|⟨_,_,_,_,_,rfl⟩|⟨_,_,_,_,_,_,rfl⟩<;>rfl
   ·rcases hx with⟨_,_,rfl⟩|⟨_,_,_,_,_,rfl⟩|⟨_,_,_,_,_,_,rfl⟩<;>simp
  subst tW;obtain⟨dst,op,ty,pos,af,g⟩:=o;exact(ara hb hi he hk).wp hn
 ·cases h0:zB P o.type o.op with
  |some b=>rw[h0]at hc;exact alp yJ h0 hc hi he hk hn
  |none=>
   rw[h0]at hc;simp only[getD_none]at hc;cases ao<;>simp only[dY.strip]at hc<;>first|(cases hc;done)|(simp[dY.acV]at yJ;done)|exact hk.elim
theorem aC.adr(he:∀t,R I L O (e t) (a.tmps.getD t undef)){x:aC}(h:x.okc=true):(x.ev e).inScope O.length=true:=by
 cases x with
 |t n=>exact(he n).inScope
 |c y=>exact bU y h
theorem yr(he:∀t,R I L O (e t) (a.tmps.getD t undef)){s:Nat}:∀(ps:List (Nat×aC)) (zs:List AV) {M:List AV->Prop},ps.all (λ p=>p.2.okc)=true->(∀x∈zs,∀c∈x.cells,c.inScope O.length=true)->pA e s zs ps M->
  pA e s zs ps λ xs=>(∀x∈xs,∀c∈x.cells,c.inScope O.length=true)/\M xs
 | [],zs,M,_,hz,h=>⟨hz,h⟩
 |(i,x)::ps,zs,M,hp,hz,h=>by
  simp only[List.all_cons,and_eq_true]at hp;obtain⟨h1,h2,h3,h4⟩:=h;refine⟨h1,h2,h3,yr he ps _ hp.2 (λ y hy c hc=> ?_) h4⟩;rcases List.mem_or_eq_of_mem_set hy with hy|rfl
  ·exact hz y hy c hc
  ·exact bT (aC.adr he hp.1) c hc
theorem Good.cut(hi:Inv I L O w){n t s:Nat}{xs:List AV}(hO:O[n]? =some (.live t s xs)):
  Good I L O w I (λ k=>if k=O.length then L n else L k) (O.set n .dead++ [.live t s []]) w/\R I (λ k=>if k=O.length then L n else L k) (O.set n .dead++ [.live t s []]) (.row O.length 0) (.slice (some ⟨(L n).aZ,0,none⟩) 0 (L n).cap):=by
 have aw:=(List.getElem?_eq_some_iff.1 hO).1
 have bX:∀{m e k ys},(O.set n .dead++ [aa.live t s []])[m]? =some (.live e k ys)->(m=O.length/\e=t/\k=s/\ys= [])∨(m<O.length/\m≠n/\O[m]? =some (.live e k ys)):=by
  intro m e k ys hm;by_cases oW:m<O.length
  ·rw[getElem?_append_left (by simpa using oW)]at hm;by_cases rl:m=n
   ·subst rl;rw[getElem?_set_self aw]at hm;cases hm
   ·rw[getElem?_set_ne (λ h=>rl h.symm)]at hm;exact .inr ⟨oW,rl,hm⟩
  ·rw[getElem?_append_right (by simp;omega),List.length_set]at hm
   have:m- O.length=0:=by
    rcases Nat.eq_zero_or_pos (m- O.length)with h|h
    ·exact h
    ·rw[List.getElem?_eq_none (by simp;omega)]at hm;cases hm
   rw[this]at hm;simp at hm;obtain⟨rfl,rfl,rfl⟩:=hm;exact .inl ⟨by omega,rfl,rfl,rfl⟩
 have abP:∀{m:Nat} {a:AV},(O.set n .dead++ [aa.live t s []])[m]? =some (.own a)->O[m]? =some (.own a)/\(if m=O.length then L n else L m)=L m:=by
  intro m a hm;by_cases oW:m<O.length
  ·rw[getElem?_append_left (by simpa using oW)]at hm;by_cases rl:m=n
   ·subst rl;rw[getElem?_set_self oW]at hm;cases hm
   ·rw[getElem?_set_ne (λ h=>rl h.symm)]at hm;exact⟨hm,if_neg (by omega)⟩
  ·rw[getElem?_append_right (by simp;omega)]at hm;cases hq:m- (O.set n .dead).length with
   |zero=>rw[hq]at hm;cases hm
   |succ q=>rw[hq]at hm;simp at hm
 have uS:∀{m:Nat} {a:fH},(O.set n .dead++ [aa.live t s []])[m]? =some (.cE a)->O[m]? =some (.cE a)/\(if m=O.length then L n else L m)=L m:=by
  intro m a hm;by_cases oW:m<O.length
  ·rw[getElem?_append_left (by simpa using oW)]at hm;by_cases rl:m=n
   ·subst rl;rw[getElem?_set_self oW]at hm;cases hm
   ·rw[getElem?_set_ne (λ h=>rl h.symm)]at hm;exact⟨hm,if_neg (by omega)⟩
  ·rw[getElem?_append_right (by simp;omega)]at hm;cases hq:m- (O.set n .dead).length with
   |zero=>rw[hq]at hm;cases hm
   |succ q=>rw[hq]at hm;simp at hm
 have dE:(O.set n .dead++ [aa.live t s []])[O.length]? =some (.live t s []):=by
  rw[getElem?_append_right (by simp)];simp
 have hL:∀{m},m<O.length->(if m=O.length then L n else L m)=L m:=λ {m} hm=>if_neg (by omega)
 have cH:Ext I L O I (λ k=>if k=O.length then L n else L k) (O.set n .dead++ [.live t s []]):=by
  refine⟨λ _ _ _ h=>h,by simp,λ m hm e k ys hx=> ?_,λ m hm e k hx=> ?_,λ m hm a hx=>by obtain⟨q1,q2⟩:=abP hx;exact⟨⟨a,q1⟩,by rw[q2]⟩,λ m hm a hx=>by obtain⟨q1,q2⟩:=uS hx;exact⟨⟨a,q1,rfl⟩,by rw[q2]⟩⟩
  ·rcases bX hx with⟨h1,_⟩|⟨_,_,h3⟩
   ·omega
   ·exact .inl ⟨ys,h3,le_refl _,λ _=>hL hm⟩
  ·rw[getElem?_append_left (by simpa using hm)]at hx;by_cases rl:m=n
   ·subst rl;rw[getElem?_set_self aw]at hx;cases hx
   ·rwa [getElem?_set_ne (λ h=>rl h.symm)]at hx
 refine⟨⟨⟨hi.gN,λ m e k ys hm=> ?_,λ m m' e k ys e' k' uF hm hm' hb=> ?_,λ m e k ys o hm=> ?_,hi.fix,hi.aZ,hi.ow.same (λ m a hm=>abP hm) (λ b o v hv=> .inl ⟨o,v,hv⟩) (λ m e k ys hm=> ?_) rfl,hi.gh.step (λ m a hm=>⟨(uS hm).1,by rw[(uS hm).2]⟩) (λ _ _ hr=>hr.mono cH) λ _ _=>rfl⟩,cH,Frm.refl _ _,?_,λ _ _ _ h=> .inl h⟩,?_⟩
 ·rcases bX hm with⟨rfl,rfl,rfl,rfl⟩|⟨h1,h2,h3⟩
  ·obtain⟨c,⟨kS,q1,cL⟩,q2,q3,q4,q5,q6⟩:=hi.obj n _ _ _ hO;simp only[if_true];exact⟨c,⟨_,q1,cL⟩,q2,zero_le _,q4,q5,by simp⟩
  ·simp only[hL h1];exact(hi.obj m _ _ _ h3).congr rfl λ _ _ h=>h.mono cH
 ·rcases bX hm with⟨rfl,rfl,rfl,rfl⟩|⟨h1,h2,h3⟩<;>rcases bX hm' with⟨h4,_,_,_⟩|⟨h4,h5,h6⟩
  ·exact h4.symm
  ·simp only[if_true,hL h4]at hb;exact(h5 (hi.sep _ _ _ _ _ _ _ _ h6 hO hb.symm)).elim
  ·subst h4;simp only[if_true,hL h1]at hb;exact(h2 (hi.sep _ _ _ _ _ _ _ _ h3 hO hb)).elim
  ·simp only[hL h1,hL h4]at hb;exact hi.sep _ _ _ _ _ _ _ _ h3 h6 hb
 ·rcases bX hm with⟨rfl,rfl,rfl,rfl⟩|⟨h1,h2,h3⟩
  ·simp only[if_true];exact hi.cT n _ _ _ o hO
  ·simp only[hL h1];exact hi.cT m _ _ _ o h3
 ·rcases bX hm with⟨rfl,rfl,rfl,rfl⟩|⟨h1,h2,h3⟩
  ·simp only[if_true];exact .inl ⟨n,_,_,_,hO,rfl⟩
  ·simp only[hL h1];exact .inl ⟨m,_,_,_,h3,rfl⟩
 ·rintro b (⟨m,e,k,ys,hm,hb⟩|⟨m,a,o,v,hm,hb⟩|⟨m,a,hm,hb⟩)
  rotate_right
  ·obtain⟨q1,q2⟩:=uS hm;simp only[q2]at hb;exact .inl (.inr (.inr ⟨m,a,q1,hb⟩))
  ·rcases bX hm with⟨rfl,rfl,rfl,rfl⟩|⟨h1,h2,h3⟩
   ·simp only[if_true]at hb;exact .inl (.inl ⟨n,_,_,_,hO,hb⟩)
   ·simp only[hL h1]at hb;exact .inl (.inl ⟨m,_,_,_,h3,hb⟩)
  ·obtain⟨q1,q2⟩:=abP hm;simp only[q2]at hb;exact .inl (.inr (.inl ⟨m,a,o,v,q1,hb⟩))
 ·have:=R.bN (I:=I) (L:=λ k=>if k=O.length then L n else L k) (O:=O.set n .dead++ [.live t s []]) O.length 0 t s [] dE rfl;simpa using this
theorem ahI{ty:TypeId}{op:Op}{s:Nat}{x:aC}{lo hi:Option aC}(h:bL P ty op=some (.cO s x lo hi)):
  ∃t el ox olo ohi,op= .slice t ox olo ohi none/\P.underlying t=some (.slice el)/\bu ox=some x/\olo.mapM bu=some lo/\ohi.mapM bu=some hi/\(∃inf,P.info? el=some inf/\inf.size=s):=by
 cases op<;>simp only[bL]at h
 case slice t ox olo ohi mx=>
  split at h
  ·cases h
  ·rename_i kA;obtain rfl:mx=none:=by cases mx<;>simp at kA⊢
   split at h
   ·simp only[bind_eq_bind,bind_eq_some_iff,Option.some.injEq]at h;obtain⟨_,_,_,_,_,_,h⟩:=h;cases h
   ·rename_i el ht;simp only[bind_eq_bind,bind_eq_some_iff,Option.some.injEq]at h;obtain⟨inf,wP,ax,hx,al,hl,ah,hh,h⟩:=h;cases h;exact⟨t,el,ox,olo,ohi,rfl,ht,hx,hl,hh,inf,wP,rfl⟩
   ·cases h
 all_goals (repeat' split at h)
 all_goals first
  |(simp[bind_eq_some_iff]at h;done)
  |(exfalso;simp_all;done)
theorem ajt{ty:TypeId}{op:Op}{s:Nat}{x:aC}{lo hi:Option aC}(h:cOp P ty op=some (.cO s x lo hi)):bL P ty op=some (.cO s x lo hi):=by
 unfold cOp amt at h;simp only[Option.some.injEq]at h
 split at h
 ·rename_i b hb;rcases rJ hb with⟨_,_,rfl⟩|⟨_,_,_,_,_,rfl⟩|⟨_,_,_,_,_,_,rfl⟩<;>cases h
 ·cases h0:zB P ty op with
  |none=>rw[h0]at h;cases h
  |some b=>
   rw[h0]at h;simp only[getD_some]at h;subst h;unfold zB at h0
   split at h0
   ·rename_i c;exfalso;unfold yV at h0
    split at h0
    ·split at h0
     ·cases h0
     ·cases h0
     ·cases h0
    ·split at h0
     ·split at h0
      ·simp only[map_eq_some_iff]at h0;obtain⟨_,_,h⟩:=h0;cases h
      ·simp only[map_eq_some_iff]at h0;obtain⟨_,_,h⟩:=h0;cases h
      ·cases h0
     ·cases h0
    ·split at h0
     ·split at h0
      ·simp only[bind_eq_bind,bind_eq_some_iff,Option.some.injEq]at h0;obtain⟨_,_,_,_,_,_,_,_,h⟩:=h0;cases h
      ·cases h0
     ·cases h0
    ·cases h0
   ·rw[bind_eq_some_iff]at h0;obtain⟨b',hb,kD⟩:=h0
    split at kD
    ·cases kD
    ·cases kD;exact hb
theorem av5{ty:TypeId}{op:Op}{el s b:Nat}{z:AV}{x y:aC}(h:cOp P ty op=some (.mk el s b z x y)):bL P ty op=some (.mk el s b z x y):=by
 unfold cOp amt at h;simp only[Option.some.injEq]at h
 split at h
 ·rename_i b hb;rcases rJ hb with⟨_,_,rfl⟩|⟨_,_,_,_,_,rfl⟩|⟨_,_,_,_,_,_,rfl⟩<;>cases h
 ·cases h0:zB P ty op with
  |none=>rw[h0]at h;cases h
  |some bb=>
   rw[h0]at h;simp only[getD_some]at h;subst h;unfold zB at h0
   split at h0
   ·rename_i c;exfalso;unfold yV at h0
    split at h0
    ·split at h0
     ·cases h0
     ·cases h0
     ·cases h0
    ·split at h0
     ·split at h0
      ·simp only[map_eq_some_iff]at h0;obtain⟨_,_,h⟩:=h0;cases h
      ·simp only[map_eq_some_iff]at h0;obtain⟨_,_,h⟩:=h0;cases h
      ·cases h0
     ·cases h0
    ·split at h0
     ·split at h0
      ·simp only[bind_eq_bind,bind_eq_some_iff,Option.some.injEq]at h0;obtain⟨_,_,_,_,_,_,_,_,h⟩:=h0;cases h
      ·cases h0
     ·cases h0
    ·cases h0
   ·rw[bind_eq_some_iff]at h0;obtain⟨b',hb,kD⟩:=h0
    split at kD
    ·cases kD
    ·cases kD;exact hb
theorem vv{z:AV}(h:z.ag=true):∀n:Nat,AV.ae (List.replicate n z)=true
 |0=>rfl
 |n+1=>by simp only[List.replicate_succ,AV.ae,h,vv h n,Bool.and_self]
theorem aso{ty:TypeId}{op:Op}{el s b:Nat}{z:AV}{x y:aC}(h:bL P ty op=some (.mk el s b z x y)):∃t ox oy,op= .makeSlice t ox oy:=by
 cases op<;>simp only[bL]at h
 case makeSlice t ox oy=>exact⟨t,ox,oy,rfl⟩
 all_goals (repeat' split at h)
 all_goals first
  |(cases h;done)
  |(simp[bind_eq_some_iff]at h;done)
  |(exfalso;simp_all;done)
theorem aqU(hi:Inv I L O w)(he:∀t,R I L O (e t) (a.tmps.getD t undef)){ty:TypeId}{op:Op}{d:Option Tmp}{pos:String}{af:Array Edge}{g:Option (Nat×Bool)}{el s b:Nat}{z:AV}{x y:aC}(hc:bL P ty op=some (.mk el s b z x y))(hk:wpOp P (.mkF el s b z x y) e O K):
  fu P I L O w (execOp a.eval ⟨d,op,ty,pos,af,g⟩) K:=by
 obtain⟨t,ox,oy,rfl⟩:=aso hc;simp only[bL,bind_eq_bind,bind_eq_some_iff,Option.some.injEq,dY.mk.injEq]at hc;obtain⟨el',ji,⟨s',b',z'⟩,hz,ax,hx,ay,hy,hq⟩:=hc;obtain⟨rfl,rfl,rfl,rfl,rfl,rfl⟩:=hq;have ht:=gv ji;obtain⟨i,z0,h1,h2,h3,rfl,rfl,h4,h5,h6,h7⟩:=eR hz;have rx:=ar hx he;have ry:=ar hy he;simp only[wpOp]at hk;generalize ax.ev e=A at rx hk;generalize ay.ev e=B at ry hk;generalize hX:a.eval ox=X at rx;generalize hY:a.eval oy=Y at ry
 split at hk
 ·rename_i n c;obtain⟨q1,q2,q3,q4,q5,hk⟩:=hk;have e1:=rx.exact;have e2:=ry.exact;subst e1;subst e2;have hm:c<=9223372036854775807:=by simpa [maxLen]using q4
  have bc:=run_make (P:=P) w t el' i z0 ht h1 h2 .i64 .i64 n c q1 q2 (by omega) hm;have abL:=ff.made (I:=I) (L:=L) (O:=O) (cap:=c.toNat) (n:=n.toNat) (eD h3) h7 h4 h5 (by omega);have b8:AV.ae (List.replicate n.toNat z')=true:=vv q5 _;obtain⟨I',hg,hr⟩:=hi.axG (el:=el') (s:=i.size) (xs:=List.replicate n.toNat z') (madeCells z0.cells (c.toNat*i.size)) c.toNat (by simp;omega) (λ k x hx j c hj I' L' O' v hI hv=>hv.ag hI (ej (aW b8 x (mem_of_getElem? hx)) c (mem_of_getElem? hj))) abL;rw[List.length_replicate]at hr;refine⟨_,_,_,_,_,_,hk,hg,hr,.inl ?_⟩;simp only[execOp,hX,hY];rw[Sem.run_bind,bc];simp
 ·exact hk.elim
theorem aju{ty:TypeId}{op:Op}{neg:Bool}{x:aC}(h:cOp P ty op=some (.pu (.re neg) [x])):
  ∃o t y u,op= .binOp o t y (.const (.pointer none)) u/\nZ o=true/\akj P t=true/\bu y=some x/\neg=j3 o:=by
 unfold cOp amt at h;simp only[Option.some.injEq]at h
 split at h
 ·rename_i b hb;subst h;unfold ams at hb
  split at hb
  case h_2 o t y u=>
   split at hb
   ·rename_i hq;simp only[bind_eq_bind,bind_eq_some_iff,Option.some.injEq]at hb;obtain⟨ax,hx,hb⟩:=hb;cases hb;exact⟨o,t,y,u,rfl,hq.1,hq.2,hx,rfl⟩
   ·cases hb
  all_goals (repeat' split at hb)
  all_goals first
   |(cases hb;done)
   |(simp[bind_eq_some_iff]at hb;done)
   |(exfalso;simp only[bind_eq_bind,bind_eq_some_iff,Option.some.injEq]at hb;obtain⟨_,_,hb⟩:=hb;cases hb;done)
   |(exfalso;simp only[bind_eq_bind,bind_eq_some_iff,Option.some.injEq]at hb;obtain⟨_,_,hb⟩:=hb;split at hb<;>simp[bind_eq_some_iff]at hb;done)
 ·exfalso;cases h0:zB P ty op with
  |none=>rw[h0]at h;cases h
  |some b=>
   rw[h0]at h;simp only[getD_some]at h;subst h;unfold zB at h0
   split at h0
   ·rename_i c;unfold yV at h0
    split at h0
    ·split at h0
     ·cases h0
     ·cases h0
     ·cases h0
    ·split at h0
     ·split at h0
      ·simp only[map_eq_some_iff]at h0;obtain⟨_,_,h⟩:=h0;cases h
      ·simp only[map_eq_some_iff]at h0;obtain⟨_,_,h⟩:=h0;cases h
      ·cases h0
     ·cases h0
    ·split at h0
     ·split at h0
      ·simp only[bind_eq_bind,bind_eq_some_iff,Option.some.injEq]at h0;obtain⟨_,_,_,_,_,_,_,_,h⟩:=h0;cases h
      ·cases h0
     ·cases h0
    ·cases h0
   ·rw[bind_eq_some_iff]at h0;obtain⟨b',hb,kD⟩:=h0
    split at kD
    ·cases kD
    ·cases kD;cases op<;>simp only[bL]at hb
     all_goals (repeat' split at hb)
     all_goals first
      |(cases hb;done)
      |(simp[bind_eq_some_iff]at hb;done)
      |(exfalso;simp_all;done)
theorem anA(hi:Inv I L O w)(he:∀t,R I L O (e t) (a.tmps.getD t undef)){ty:TypeId}{op:Op}{d:Option Tmp}{pos:String}{af:Array Edge}{g:Option (Nat×Bool)}{neg:Bool}{x:aC}(hc:cOp P ty op=some (.pu (.re neg) [x]))(hk:wpOp P (.y8 neg x) e O K):
  fu P I L O w (execOp a.eval ⟨d,op,ty,pos,af,g⟩) K:=by
 obtain⟨o,t,y,u,rfl,ho,ht,hy,rfl⟩:=aju hc;obtain⟨el,ht⟩:=adW ht;have rx:=ar (I:=I) (L:=L) (O:=O) hy he
 have key:∀(b:Bool) (v:Option Addr),a.eval y= .pointer v->v.isNone=b->fu P I L O w (execOp a.eval ⟨d,.binOp o t y (.const (.pointer none)) u,ty,pos,af,g⟩) K∨¬K (.v (.bool (j3 o !=b))) O:=by
  intro b v hv hb;by_cases hK:K (.v (.bool (j3 o !=b))) O
  ·left;refine fu.same hi hK (.v _ rfl) ?_;have he0:a.eval (.const (.pointer none))= .pointer none:=rfl
   have heq:(Op.equal t (.pointer v) (.pointer none)).run P w= .ok b w:=by
    have e1:Op.equal t (.pointer v) (.pointer none)=Op.equalIn (9999+1) t (.pointer v) (.pointer none):=rfl;rw[e1,Op.equalIn];cases v<;>simp at hb<;>subst hb<;>simp[run_underlying ht]
   rcases afE ho with rfl|rfl
   ·simp[execOp,he0,hv,eqGuard,Go.binOp,heq,j3]
   ·simp[execOp,he0,hv,eqGuard,Go.binOp,heq,j3]
  ·exact .inr hK
 simp only[wpOp]at hk
 split at hk
 ·rename_i hx;rw[hx]at rx;have hv:=rx.exact;rcases key true none hv rfl with h|h
  ·exact h
  ·exact(h hk).elim
 ·rename_i n len i f hx;rw[hx]at rx
  split at hk
  ·rename_i t' s xs hO;have hv:=rx.g9 hO hk.1;rcases key false _ hv rfl with h|h
   ·exact h
   ·exact(h hk.2).elim
  ·exact hk.elim
 ·exact hk.elim
theorem aqX(hi:Inv I L O w)(he:∀t,R I L O (e t) (a.tmps.getD t undef)){ty:TypeId}{op:Op}{d:Option Tmp}{pos:String}{af:Array Edge}{g:Option (Nat×Bool)}{s:Nat}{x:aC}{lo ei:Option aC}(hc:bL P ty op=some (.cO s x lo ei))(hk:wpOp P (.cut s x lo ei) e O K):
  fu P I L O w (execOp a.eval ⟨d,op,ty,pos,af,g⟩) K:=by
 obtain⟨t,el,ox,olo,ohi,rfl,ht,hx,hl,hh,inf,wP,rfl⟩:=ahI hc;have rx:=ar hx he;simp only[wpOp]at hk;generalize x.ev e=A at rx hk;generalize hX:a.eval ox=X at rx;cases A
 case aA=>
  obtain⟨l,hk,hlo⟩:=j9 hl he hk;obtain⟨h,hk,hhi⟩:=j9 hh he hk;obtain⟨rfl,rfl,hk⟩:=hk;cases rx;have hb:=gz (P:=P) (sl:=true) (len:=0) (cap:=0) (zero_le _) hlo (by simpa using hhi) (Int.le_refl _) (Int.le_refl _) (by simp) w;refine fu.same hi hk (y:= .slice none 0 0) .aA ?_;simp only[execOp,hX];simp at hb;simp[Instr.sliceAt,Instr.slice,run_underlying ht,hb,sizeOf,typeInfo,wP]
 case row n len=>
  simp only at hk
  split at hk
  ·rename_i t' s' xs hO;obtain⟨hlen,rfl,hk⟩:=hk;obtain⟨l,hk,hlo⟩:=j9 hl he hk;obtain⟨h,hk,hhi⟩:=j9 hh he hk;obtain⟨rfl,rfl,hk⟩:=hk;have hv:=rx.dA hO hlen;subst hv;obtain⟨c,⟨kS,q1,cL⟩,q2,q3,q4,q5,q6⟩:=hi.obj n _ _ _ hO;have hb:=gz (P:=P) (sl:=true) (len:=len) (cap:=(L n).cap) (by omega) hlo hhi (Int.le_refl _) (Int.le_refl _) (by omega) w;obtain⟨hg,hr⟩:=Good.cut hi hO;refine⟨_,_,_,_,_,_,hk,hg,hr,.inl ?_⟩;simp only[execOp,hX];simp at hb;simp[Instr.sliceAt,Instr.slice,run_underlying ht,hb,sizeOf,typeInfo,wP,add_lit]
  ·exact hk.elim
 all_goals exact hk.elim
theorem aaR{o:Oper}{ao:dY}(hc:cOp P o.type o.op=some ao.strip)(hi:Inv I L O w)(he:∀t,R I L O (e t) (a.tmps.getD t undef))(hk:wpOp P ao e O K){next:Act->World->Prop}{Q:Exit->Act->World->Prop}
  (hn:∀x O' y I' L' w',K x O'->Good I L O w I' L' O' w'->R I' L' O' x y->next (a.put o.dst y) w'):o.wp P a w next Q:=by
 cases yJ:ao.acV with
 |false=>exact qd yJ hc hi he hk hn
 |true=>
  cases ao<;>first|(simp[dY.acV]at yJ;done)|skip
  case cut s x lo ei=>
   obtain⟨dst,op,ty,pos,af,g⟩:=o;exact(aqX hi he (ajt hc) hk).wp hn
  case mkF el s b z x y=>
   obtain⟨dst,op,ty,pos,af,g⟩:=o;exact(aqU hi he (av5 hc) hk).wp hn
  case aa0 k t s b z x y=>
   simp only[wpOp]at hk
   split at hk
   ·rename_i n c hx hy;obtain⟨q1,q2,q3,q4,q5,hO,hK⟩:=hk;have b8:AV.ae (List.replicate n.toNat z)=true:=vv q5 _;refine qd (ao:= .mk t s b z x y) rfl hc hi he (K:=λ v O'=>v= .row O.length n.toNat/\O'=O++ [.live t s (List.replicate n.toNat z)]) (by simp only[wpOp,hx,hy];exact⟨by omega,q2,q3,q4,by simp⟩) ?_;rintro x' O' y' I' L' w' ⟨rfl,rfl⟩ hg hr;have hv:=hr.dA (show _=_ from by rw[getElem?_append_right (le_refl _),sub_self];rfl) (by simp);refine hn _ _ y' _ _ w' hK (hg.move hi hO (by simp;omega) (λ z' hz' c hcc=> ?_)) ?_
    ·rw[(List.mem_replicate.1 hz').2]at hcc;exact bT (bU _ q5) c hcc
    ·rw[hv];have:=R.bN (I:=I') (L:=mQ L' k O.length) (O:=O.set k (.live t s (List.replicate n.toNat z))) k n.toNat t s (List.replicate n.toNat z) (getElem?_set_self (List.getElem?_eq_some_iff.1 hO).1) (by simp);simpa [mQ]using this
   ·exact hk.elim
  case y8 neg x=>
   obtain⟨dst,op,ty,pos,af,g⟩:=o;exact(anA hi he hc hk).wp hn
  case gx k t s z=>
   obtain⟨hz,hO,hK⟩:=hk;refine qd (ao:= .alloc t s z) rfl hc hi he (K:=λ x O'=>x= .ptr O.length 1 0 0/\O'=O++ [.live t s [z]]) ⟨rfl,rfl⟩ ?_;rintro x O' y I' L' w' ⟨rfl,rfl⟩ hg hr;have hv:=hr.g9 (show _=_ from by rw[getElem?_append_right (le_refl _),sub_self];rfl) rfl;refine hn _ _ y _ _ w' hK (hg.move hi hO (by simp) (λ x hx c hcc=> ?_)) ?_
   ·simp at hx;subst hx;exact bT (bU _ hz) c hcc
   ·rw[hv];have:=R.dm (I:=I') (L:=mQ L' k O.length) (O:=O.set k (.live t s [z])) k 1 0 0 t s [z] (getElem?_set_self (List.getElem?_eq_some_iff.1 hO).1) rfl;simpa [mQ]using this
  case oz k t s x=>
   obtain⟨hx,hO,h1,h2,hK⟩:=hk;refine qd (ao:= .box t s x) rfl hc hi he (K:=λ y O'=>y= .ptr O.length 1 0 0/\O'=O++ [.live t s [x.ev e]]) ⟨h1,h2,rfl,rfl⟩ ?_;rintro x' O' y I' L' w' ⟨rfl,rfl⟩ hg hr;have hv:=hr.g9 (show _=_ from by rw[getElem?_append_right (le_refl _),sub_self];rfl) rfl;refine hn _ _ y _ _ w' hK (hg.move hi hO (by simp) (λ z hz c hcc=> ?_)) ?_
   ·simp at hz;subst hz;exact bT (aC.adr he hx) c hcc
   ·rw[hv];have:=R.dm (I:=I') (L:=mQ L' k O.length) (O:=O.set k (.live t s [x.ev e])) k 1 0 0 t s [x.ev e] (getElem?_set_self (List.getElem?_eq_some_iff.1 hO).1) rfl;simpa [mQ]using this
  case gw k t s len z ps=>
   obtain⟨hz,hp,cU⟩:=hk
   have cU:=yr he ps _ hp (λ x hx c hc=>by
    rw[List.mem_replicate]at hx;rw[hx.2]at hc;exact bT (bU _ hz) c hc) cU
   have hlen:∀(ps:List (Nat×aC)) (zs:List AV) {M:List AV->Prop},pA e s zs ps M->pA e s zs ps λ xs=>xs.length=zs.length/\M xs:=by
    intro ps
    induction ps with
    |nil=>intro zs M h;exact⟨rfl,h⟩
    |cons p ps ih=>
     intro zs M h;obtain⟨h1,h2,h3,h4⟩:=h;have:=ih _ h4;rw[List.length_set]at this;exact⟨h1,h2,h3,this⟩
   have cU:=hlen ps _ cU;rw[List.length_replicate]at cU;refine qd (ao:= .buildSlice t s len z ps) rfl hc hi he (K:=λ y O'=>∃xs,(xs.length=len/\(∀x∈xs,∀c∈x.cells,c.inScope O.length=true)/\O[k]? =some (.nil t s)/\xs≠[]/\K (.row k len) (O.set k (.live t s xs)))/\y= .row O.length len/\O'=O++ [.live t s xs]) ?_ ?_
   ·have ayy:∀(ps:List (Nat×aC)) (zs:List AV) {M M':List AV->Prop},(∀xs,M xs->M' xs)->pA e s zs ps M->pA e s zs ps M':=by
      intro ps
      induction ps with
      |nil=>intro zs M M' hm h;exact hm _ h
      |cons p ps ih=>intro zs M M' hm h;obtain⟨h1,h2,h3,h4⟩:=h;exact⟨h1,h2,h3,ih _ hm h4⟩
    exact ayy ps _ (λ xs h=>⟨xs,h,rfl,rfl⟩) cU
   ·rintro x' O' y I' L' w' ⟨xs,⟨hl,hsc,hO,bk,hK⟩,rfl,rfl⟩ hg hr;have hv:=hr.dA (show _=_ from by rw[getElem?_append_right (le_refl _),sub_self];rfl) hl;refine hn _ _ y _ _ w' hK (hg.move hi hO bk hsc) ?_;rw[hv];have:=R.bN (I:=I') (L:=mQ L' k O.length) (O:=O.set k (.live t s xs)) k len t s xs (getElem?_set_self (List.getElem?_eq_some_iff.1 hO).1) hl;simpa [mQ]using this
end
end Go.Ab
namespace Go.Ab
structure aH where
 guard:Option (Nat×Bool)
 dst:Option Nat
 op:dY
def aH.strip(o:aH):aH:={o with op:=o.op.strip}
def bB(e:Env)(d:Option Nat)(a:AV):Env:=
 match d with
 |some t=>e.set t a
 |none=>e
def wpOps(P:Program):List aH->Env->List aa->(Env->List aa->Prop)->Prop
 | [],e,O,K=>K e O
 |o::r,e,O,K=>
  match o.guard with
  |none=>wpOp P o.op e O λ x O'=>wpOps P r (bB e o.dst x) O' K
  |some (t,want)=>
   match e t with
   | .v (.bool b)=>
     (b=want->wpOp P o.op (e.set t (.v (.bool want))) O λ x O'=>wpOps P r (bB (e.set t (.v (.bool want))) o.dst x) O' K)/\
     (b= !want->wpOps P r (bB (e.set t (.v (.bool (!want)))) o.dst (.a9 [])) O K)
   | .a9 []=>wpOps P r (bB e o.dst (.a9 [])) O K
   |_=>False
inductive EK where
 |cu
 |set (n:Nat)
 |push (n:Nat)
 |any
 |zC (kp:List Nat)
structure iD where
 rd:List Nat
 k:EK
instance:Inhabited iD:=⟨⟨[],.any⟩⟩
def mZ(o:dY)(rf:aC->List Nat)(N:Nat):iD:=
 match o with
 | .mkF _ _ _ _ _ _| .jf _ _ _ _ _| .aq _| .pick _ _ _| .build _ _| .bin _ _ _| .beq _ _ _| .un _ _| .kG _ _| .yK _ _ _| .m6 _ _| .fW _ _ _| .cO _ _ _ _| .ext _ _| .vw _ _| .mn _| .mN _ _| .jc _ _=>⟨[],.cu⟩
 | .load _ x| .aB _ x| .bQ x| .bl x=>⟨rf x,.cu⟩
 | .bg _ x _| .yX _ _ x _=>⟨rf x,.cu⟩
 | .pu _ as| .nR _ as=>⟨as.flatMap rf,.cu⟩
 | .alloc _ _ _| .box _ _ _| .buildSlice _ _ _ _ _| .mk _ _ _ _ _ _| .fc _ _ _ _ _=>⟨[],.push N⟩
 | .aa0 k _ _ _ _ _ _| .gx k _ _ _| .oz k _ _ _| .gw k _ _ _ _ _=>⟨[k],.set k⟩
 | .uM rd _ _=>⟨rd,.push N⟩
 | .uO rd _ _=>⟨rd,.cu⟩
 | .o7 kp _ _=>⟨[],.zC kp⟩
 | .ko _ _ as=>match as.flatMap rf with
   | [n]=>⟨[n],.set n⟩
   |_=>⟨[],.any⟩
 | .store _ x _=>match rf x with
   | [n]=>⟨[n],.set n⟩
   |_=>⟨[],.any⟩
 | .app _ _ _ x y=>match rf x with
   | [n]=>⟨n::rf y,.set n⟩
   |_=>⟨[],.any⟩
 | .mz _ _ _ x y=>match rf x with
   | [n]=>⟨n::rf y,.set n⟩
   |_=>⟨[],.any⟩
 |_=>⟨[],.any⟩
def ch(o:dY)(e:Env)(N:Nat):iD:=mZ o (λ x=>refs (x.ev e)) N
def EK.keeps:EK->List Nat
 | .zC kp=>kp
 |_=>[]
def iD.pure(kp:List Nat)(l:iD):Bool:=l.rd.all (λ n=>kp.contains n)&&(match l.k with| .cu=>true|_=>false)
def EK.tb:EK->List Nat->Bool
 | .cu,_=>false
 | .set n,rd=>rd.contains n
 | .push n,rd=>rd.contains n
 | .any,_=>true
 | .zC _,_=>true
def EK.isAny:EK->Bool
 | .any=>true
 | .zC _=>true
 |_=>false
def EK.gf:EK->Bool
 | .push _=>true
 |_=>false
def xF(p i:iD):Bool:=
 if p.k.isAny=true then i.pure p.k.keeps else if i.k.isAny=true then p.pure i.k.keeps else
  !(p.k.tb i.rd)&& !(i.k.tb p.rd)&& !(p.k.gf&&i.k.gf)
def aC.rd:aC->List Nat
 | .t n=>[n]
 | .c _=>[]
def anZ:Option aC->List Nat
 |some x=>x.rd
 |none=>[]
def dY.reads:dY->List Nat
 | .aaZ=>[]
 | .alC _ _ _ m k=>m.rd++k.rd
 | .se _ m k v=>m.rd++k.rd++v.rd
 | .acN _ _ m k=>m.rd++k.rd
 | .lh m k v=>m.rd++k.rd++v.rd
 | .adm x| .adp x| .aa5 _ x| .s2b _ x| .y8 _ x=>x.rd
 | .peq _ x y=>x.rd++y.rd
 | .stuck=>[]
 | .jf _ _ _ _ ps=>ps.flatMap λ p=>p.2.rd
 | .pu _ as=>as.flatMap aC.rd
 | .aq x| .box _ _ x| .load _ x| .un _ x| .kG _ x| .aB _ x| .yK _ _ x| .mn x| .bl x| .ext x _| .bQ x=>x.rd
 | .alloc _ _ _| .gx _ _ _ _=>[]
 | .oz _ _ _ x=>x.rd
 | .gw _ _ _ _ _ ps=>ps.flatMap λ p=>p.2.rd
 | .pick c a b=>c.rd++a.rd++b.rd
 | .build _ ps=>ps.flatMap λ p=>p.2.2.rd
 | .buildSlice _ _ _ _ ps=>ps.flatMap λ p=>p.2.rd
 | .store _ x y| .bin _ x y| .beq _ x y| .bg _ x y| .yX _ _ x y| .m6 x y| .app _ _ _ x y| .mz _ _ _ x y| .afO _ _ _ _ x y| .mk _ _ _ _ x y| .mkF _ _ _ _ x y| .aa0 _ _ _ _ _ x y=>x.rd++y.rd
 | .fW x l h| .cO _ x l h| .cut _ x l h=>x.rd++anZ l++anZ h
 | .vw _ cs=>cs.flatMap aC.rd
 | .call _ as| .pb _ as| .mN _ as| .nR _ as| .fc _ _ _ _ as| .gy _ _ as| .ko _ _ as| .uM _ _ as| .uO _ _ as| .o7 _ _ as=>as.flatMap aC.rd
 | .eI x as| .kx x as| .jc x as=>x.rd++as.flatMap aC.rd
def aH.reads(o:aH):List Nat:=(match o.guard with|some (t,_)=>[t]|none=>[])++o.op.reads
def n9(p i:aH×iD):Bool:=
 (match p.1.dst with
  |some t=> !(i.1.reads.contains t)&& !(i.1.dst==some t)
  |none=>true)&&
 (match i.1.dst with
  |some t=> !(p.1.reads.contains t)
  |none=>true)&&xF p.2 i.2
def zz(rows:List (List Nat)):Nat->List Nat
 |0=>[]
 |n+1=>let acc:=zz rows n;acc++ [(rows.getD n []).foldl (λ s j=>s|||(2^j|||acc.getD j 0)) 0]
def iR(rows:List (List Nat))(al:List (aH×iD)):Bool:=
 let c:=zz rows al.length
 (List.range al.length).all λ i=>(rows.getD i []).all (·<i)&&
  (List.range i).all λ p=>(c.getD i 0).testBit p||(match al[p]?,al[i]? with|some x,some y=>n9 x y|_,_=>false)
def cd(P:Program):List aH->List iD->Env->List aa->(List iD->Env->List aa->Prop)->Prop
 | [],acc,e,O,K=>K acc e O
 |o::r,acc,e,O,K=>
  match o.guard with
  |none=>wpOp P o.op e O λ x O'=>cd P r (acc++ [ch o.op e O.length]) (bB e o.dst x) O' K
  |some (t,want)=>
   match e t with
   | .v (.bool b)=>
     (b=want->wpOp P o.op (e.set t (.v (.bool want))) O λ x O'=>cd P r (acc++ [ch o.op (e.set t (.v (.bool want))) O.length]) (bB (e.set t (.v (.bool want))) o.dst x) O' K)/\
     (b= !want->cd P r (acc++ [⟨[],.cu⟩]) (bB (e.set t (.v (.bool (!want)))) o.dst (.a9 [])) O K)
   | .a9 []=>cd P r (acc++ [⟨[],.cu⟩]) (bB e o.dst (.a9 [])) O K
   |_=>False
inductive AX where
 |normal
 |exit (id:Nat)
 |ret
inductive aK where
 |skip
 |region (rows:Option (List (List Nat))) (ops:List aH)
 |seq (a b:aK)
 |cond (c:aC) (t f:aK)
 |block (id:Nat) (b:aK)
 |loop (b:aK)
 |exit (id:Nat)
 |ret
 |ai (live:List Nat) (c:aK)
 |mb (c:aK)
 |gK (ops:List aH)
def aK.strip:aK->aK
 | .region d ops=> .region d (ops.map aH.strip)
 | .seq a b=> .seq a.strip b.strip
 | .cond c t f=> .cond c t.strip f.strip
 | .block id b=> .block id b.strip
 | .loop b=> .loop b.strip
 | .ai _ c=>c.strip
 | .mb c=>c.strip
 | .gK ops=> .region none (ops.map aH.strip)
 |c=>c
def wG(live:List Nat)(e:Env):Env:=λ t=>if live.contains t then e t else .top
def WK(n0:Nat)(e:Env)(O:List aa)(e':Env)(O':List aa):Prop:=
 ∀(I0:cZ) (L0:Nat->Loc) (O0:List aa) (w0:World) (I:cZ) (L:Nat->Loc) (w:World) (f:Nat->Value),O0.length=n0->Good I0 L0 O0 w0 I L O w->(∀t,R I L O (e t) (f t))->
  ∃I' L',Good I0 L0 O0 w0 I' L' O' w/\∀t,R I' L' O' (e' t) (f t)
theorem WK.refl(n0:Nat)(e:Env)(O:List aa):WK n0 e O e O:=λ _ _ _ _ I L _ _ _ h k=>⟨I,L,h,k⟩
theorem WK.trans{n0:Nat}{e e' e'':Env}{O O' oR:List aa}(h:WK n0 e O e' O')(k:WK n0 e' O' e'' oR):WK n0 e O e'' oR:=by
 intro I0 L0 O0 w0 I L w f h0 hg hr;obtain⟨I1,L1,g1,r1⟩:=h I0 L0 O0 w0 I L w f h0 hg hr;exact k I0 L0 O0 w0 I1 L1 w f h0 g1 r1
def gF(P:Program)(n0:Nat):List aH->Env->List aa->(Env->List aa->Prop)->Prop
 | [],e,O,K=>∃e' O',WK n0 e O e' O'/\K e' O'
 |o::r,e0,O0,K=>∃e O,WK n0 e0 O0 e O/\
  match o.guard with
  |none=>wpOp P o.op e O λ x O'=>gF P n0 r (bB e o.dst x) O' K
  |some (t,want)=>
   match e t with
   | .v (.bool b)=>
     (b=want->wpOp P o.op (e.set t (.v (.bool want))) O λ x O'=>gF P n0 r (bB (e.set t (.v (.bool want))) o.dst x) O' K)/\
     (b= !want->gF P n0 r (bB (e.set t (.v (.bool (!want)))) o.dst (.a9 [])) O K)
   | .a9 []=>gF P n0 r (bB e o.dst (.a9 [])) O K
   |_=>False
def kZ(P:Program)(n0:Nat):aK->(AX->Env->List aa->Prop)->Env->List aa->Prop
 | .skip,Q,e,O=>Q .normal e O
 | .region none ops,Q,e,O=>wpOps P ops e O (Q .normal)
 | .region (some rows) ops,Q,e,O=>∃al,al.map aH.strip=ops.map aH.strip/\cd P al [] e O λ iM e O=>iR rows (al.zip iM)=true/\Q .normal e O
 | .seq a b,Q,e,O=>kZ P n0 a (λ x e O=>match x with| .normal=>kZ P n0 b Q e O|x=>Q x e O) e O
 | .cond c t f,Q,e,O=>match c.ev e with
   | .v (.bool b)=>(b=true->kZ P n0 t Q e O)/\(b=false->kZ P n0 f Q e O)
   |_=>False
 | .block id b,Q,e,O=>kZ P n0 b (λ x e O=>match x with| .exit i=>if i=id then Q .normal e O else Q (.exit i) e O|x=>Q x e O) e O
 | .loop b,Q,e,O=>∃(J:Nat->Env->List aa->Prop) (n:Nat),(∃e' O',WK n0 e O e' O'/\J n e' O')/\
  ∀n e O,J n e O->kZ P n0 b (λ x e O=>match x with| .normal=>∃m e' O',m<n/\WK n0 e O e' O'/\J m e' O'|x=>Q x e O) e O
 | .exit id,Q,e,O=>Q (.exit id) e O
 | .ret,Q,e,O=>Q .ret e O
 | .ai live c,Q,e,O=>kZ P n0 c (λ x e O=>match x with| .normal=>Q .normal (wG live e) O|x=>Q x e O) e O
 | .mb c,Q,e,O=>∃e' O',WK n0 e O e' O'/\kZ P n0 c Q e' O'
 | .gK ops,Q,e,O=>gF P n0 ops e O (Q .normal)
inductive dg where
 |tmp (t:Nat)
 |cell (t:Nat) (n:Option Nat)
def dg.get(e:Env)(O:List aa)(r:dg)(K:AV->Prop):Prop:=
 match r with
 | .tmp t=>K (e t)
 | .cell t n=>match e t with
   | .ptr k 1 0 0=>match O[k]? with
     |some (.live _ _ [x])=>n.getD 1<=x.cells.length/\K (dt n x 0)
     |_=>False
   |_=>False
def cK(e:Env)(O:List aa):List dg->List AV->(List AV->Prop)->Prop
 | [],acc,K=>K acc.reverse
 |r::rs,acc,K=>r.get e O λ x=>cK e O rs (x::acc) K
def bn:List AV->AV
 | [x]=>x
 |xs=> .a9 xs
def mW(n0:Nat)(rs:List dg)(res:AV)(O':List aa)(x:AX)(e:Env)(O:List aa):Prop:=
 match x with
 | .exit _=>False
 |_=>cK e O rs [] λ xs=>∃e',WK n0 (λ t=>if t=0 then bn xs else .top) O e' O'/\e' 0=res
def tl(ops:Array Oper)(nt:Nat)(g:Option (Nat×Bool)):Option (Option (Nat×Bool)):=
 match g with
 |none=>some none
 |some (j,b)=>match(ops[j]?).bind (·.dst)with
  |some t=>if t<nt then some (some (t,b))else none
  |none=>none
def rowsOf(ops:Array Oper):List (List Nat):=ops.toList.map λ o=>(o.after.toList.filter (Region.binds .any)).map (·.on)
def rY(P:Program)(nt:Nat)(ops:Array Oper)(o:Oper):Option aH:=
 match cOp P o.type o.op,tl ops nt o.guard with
 |some op,some g=>if o.dst.all (·<nt)=true then some ⟨g,o.dst,op⟩else none
 |_,_=>none
def fE(P:Program)(nt:Nat):Code->Option aK
 | .skip=>some .skip
 | .region _ ops false=>(ops.toList.mapM (rY P nt ops)).map (.region none)
 | .region _ ops true=>if Region.departs ops=true/\P.follows .mixedOrders=false then none else(ops.toList.mapM (rY P nt ops)).map (.region (some (rowsOf ops)))
 | .seq a b=>match fE P nt a,fE P nt b with
   |some a,some b=>some (.seq a b)
   |_,_=>none
 | .cond c t f=>match bu c,fE P nt t,fE P nt f with
   |some c,some t,some f=>some (.cond c t f)
   |_,_,_=>none
 | .block id b=>(fE P nt b).map (.block id)
 | .loop b=>(fE P nt b).map .loop
 | .exit id=>some (.exit id)
 | .ret=>some .ret
 |_=>none
def amq(P:Program)(r:ResultVar):Option dg:=
 match r with
 | .tmp t=>some (.tmp t)
 | .cell t ty=>(yj P ty).map (.cell t)
structure lZ where
 cg:Nat
 nt:Nat
 code:aK
 res:List dg
def oj(args:List AV):Env:=λ t=>args.getD t (.a9 [])
end Go.Ab
namespace Go.Ab
def dY.cls:dY->Nat
 | .mkF _ _ _ _ _ _| .jf _ _ _ _ _| .aq _| .pick _ _ _| .build _ _| .bin _ _ _| .beq _ _ _| .un _ _| .kG _ _| .yK _ _ _| .m6 _ _| .fW _ _ _| .cO _ _ _ _| .ext _ _| .vw _ _| .mn _| .mN _ _| .jc _ _=>0
 | .load _ _| .aB _ _| .bQ _| .bg _ _ _| .yX _ _ _ _| .bl _| .pu _ _| .nR _ _=>1
 | .alloc _ _ _| .box _ _ _| .buildSlice _ _ _ _ _| .mk _ _ _ _ _ _| .fc _ _ _ _ _=>2
 |_=>3
def r7(l:List Nat)(e e':Env):Prop:=∀t∈l,e t=e' t
theorem r7.ev{x:aC}{e e':Env}{l:List Nat}(h:r7 l e e')(hx:∀t∈x.rd,t∈l):x.ev e=x.ev e':=by
 cases x with
 |t n=>exact h n (hx n (by simp[aC.rd]))
 |c a=>rfl
theorem r7.aX{xs:List aC}{e e':Env}{l:List Nat}(h:r7 l e e')(hx:∀t∈xs.flatMap aC.rd,t∈l):xs.map (aC.ev e)=xs.map (aC.ev e'):=by
 apply map_congr_left;intro x hm;exact h.ev λ t ht=>hx t (List.mem_flatMap.2 ⟨x,hm,ht⟩)
theorem iU{d:Int}{e e':Env}{x:Option aC}{l:List Nat}(h:r7 l e e')(hx:∀t∈anZ x,t∈l)(K:Int->Prop):fq d e x K=fq d e' x K:=by
 cases x with
 |none=>rfl
 |some o=>simp only[fq];rw[h.ev hx]
theorem xd{e e':Env}{l:List Nat}(h:r7 l e e'):∀(ps:List (Nat×Nat×aC)) (z:List AV) (K:AV->Prop),(∀t∈ps.flatMap (λ p=>p.2.2.rd),t∈l)->jP e z ps K=jP e' z ps K
 | [],_,_,_=>rfl
 |(off,size,x)::r,z,K,hx=>by
  simp only[jP];rw[h.ev (x:=x) λ t ht=>hx t (by simp[ht]),xd h r _ K λ t ht=>hx t (by simp only[List.flatMap_cons,mem_append];exact .inr ht)]
theorem qP{e e':Env}{l:List Nat}(h:r7 l e e')(s:Nat):∀(ps:List (Nat×aC)) (z:List AV) (K:List AV->Prop),(∀t∈ps.flatMap (λ p=>p.2.rd),t∈l)->pA e s z ps K=pA e' s z ps K
 | [],_,_,_=>rfl
 |(i,x)::r,z,K,hx=>by
  simp only[pA];rw[h.ev (x:=x) λ t ht=>hx t (by simp[ht]),qP h s r _ K λ t ht=>hx t (by simp only[List.flatMap_cons,mem_append];exact .inr ht)]
theorem aid{P:Program}{o:dY}{e e':Env}(h:r7 o.reads e e')(O:List aa)(K:AV->List aa->Prop):wpOp P o e O K=wpOp P o e' O K:=by
 cases o<;>simp only[dY.reads]at h<;>simp only[wpOp]
 case aq x=>rw[h.ev λ t ht=>ht]
 case pick c a b=>rw[h.ev (x:=c) (by simp+contextual),h.ev (x:=a) (by simp+contextual),h.ev (x:=b) (by simp+contextual)]
 case box t s x=>rw[h.ev λ t ht=>ht]
 case build z ps=>exact xd h ps z _ λ t ht=>ht
 case buildSlice t s len z ps=>exact qP h s ps _ _ λ t ht=>ht
 case jf t s len z ps=>exact qP h s ps _ _ λ t ht=>ht
 case pu o as=>
  have hm:(as.map λ x=>jL O (x.ev e))=as.map λ x=>jL O (x.ev e'):=map_congr_left λ x hx=>by rw[h.ev (x:=x) λ t ht=>List.mem_flatMap.2 ⟨x,hx,ht⟩]
  rw[hm]
 case mz t s b x y=>rw[h.ev (x:=x) (by simp+contextual),h.ev (x:=y) (by simp+contextual)]
 case load n x=>rw[h.ev λ t ht=>ht]
 case store m x y=>rw[h.ev (x:=x) (by simp+contextual),h.ev (x:=y) (by simp+contextual)]
 case bin op x y=>rw[h.ev (x:=x) (by simp+contextual),h.ev (x:=y) (by simp+contextual)]
 case beq neg x y=>rw[h.ev (x:=x) (by simp+contextual),h.ev (x:=y) (by simp+contextual)]
 case un op x=>rw[h.ev λ t ht=>ht]
 case kG k x=>rw[h.ev λ t ht=>ht]
 case aB k x=>rw[h.ev λ t ht=>ht]
 case yK k n x=>rw[h.ev λ t ht=>ht]
 case bg s x y=>rw[h.ev (x:=x) (by simp+contextual),h.ev (x:=y) (by simp+contextual)]
 case yX m s x y=>rw[h.ev (x:=x) (by simp+contextual),h.ev (x:=y) (by simp+contextual)]
 case m6 x y=>rw[h.ev (x:=x) (by simp+contextual),h.ev (x:=y) (by simp+contextual)]
 case fW x lo hi=>
  have e1:=λ d K=>iU (d:=d) (x:=lo) h (by simp+contextual) K
  have e2:=λ d K=>iU (d:=d) (x:=hi) h (by simp+contextual) K
  rw[h.ev (x:=x) (by simp+contextual)];simp only[e1,e2]
 case cO s x lo hi=>
  have e1:=λ d K=>iU (d:=d) (x:=lo) h (by simp+contextual) K
  have e2:=λ d K=>iU (d:=d) (x:=hi) h (by simp+contextual) K
  rw[h.ev (x:=x) (by simp+contextual)];simp only[e1,e2]
 case afO t s b z x y=>rw[h.ev (x:=x) (by simp+contextual),h.ev (x:=y) (by simp+contextual)]
 case cut s x lo hi=>
  have e1:=λ d K=>iU (d:=d) (x:=lo) h (by simp+contextual) K
  have e2:=λ d K=>iU (d:=d) (x:=hi) h (by simp+contextual) K
  rw[h.ev (x:=x) (by simp+contextual)];simp only[e1,e2]
 case mkF t s b z x y=>rw[h.ev (x:=x) (by simp+contextual),h.ev (x:=y) (by simp+contextual)]
 case aa0 k t s b z x y=>rw[h.ev (x:=x) (by simp+contextual),h.ev (x:=y) (by simp+contextual)]
 case mk t s b z x y=>rw[h.ev (x:=x) (by simp+contextual),h.ev (x:=y) (by simp+contextual)]
 case mn x=>rw[h.ev λ t ht=>ht]
 case bl x=>rw[h.ev λ t ht=>ht]
 case app t s b x y=>rw[h.ev (x:=x) (by simp+contextual),h.ev (x:=y) (by simp+contextual)]
 case ext x i=>rw[h.ev λ t ht=>ht]
 case bQ x=>rw[h.ev λ t ht=>ht]
 case vw f cs=>rw[h.aX λ t ht=>ht]
 case call f as=>rw[h.aX λ t ht=>ht]
 case eI x as=>rw[h.ev (x:=x) (by simp+contextual),h.aX (xs:=as) (by simp+contextual)]
 case pb f as=>
  have hm:(as.map λ x=>jL O (x.ev e))=as.map λ x=>jL O (x.ev e'):=map_congr_left λ x hx=>by rw[h.ev (x:=x) λ t ht=>List.mem_flatMap.2 ⟨x,hx,ht⟩]
  rw[hm,h.aX λ t ht=>ht]
 case kx x as=>
  have hm:(as.map λ x=>jL O (x.ev e))=as.map λ x=>jL O (x.ev e'):=map_congr_left λ x hx=>by rw[h.ev (x:=x) λ t ht=>List.mem_append_right _ (List.mem_flatMap.2 ⟨x,hx,ht⟩)]
  rw[hm,h.ev (x:=x) (by simp+contextual),h.aX (xs:=as) (by simp+contextual)]
 case mN f as=>rw[h.aX λ t ht=>ht]
 case nR f as=>
  have hm:(as.map λ x=>jL O (x.ev e))=as.map λ x=>jL O (x.ev e'):=map_congr_left λ x hx=>by rw[h.ev (x:=x) λ t ht=>List.mem_flatMap.2 ⟨x,hx,ht⟩]
  rw[hm]
 case fc nl t s f as=>rw[h.aX λ t ht=>ht]
 case alC ok d z m k=>rw[h.ev (x:=m) (by simp+contextual),h.ev (x:=k) (by simp+contextual)]
 case acN ok z m k=>rw[h.ev (x:=m) (by simp+contextual),h.ev (x:=k) (by simp+contextual)]
 case lh m k v=>rw[h.ev (x:=m) (by simp+contextual),h.ev (x:=k) (by simp+contextual),h.ev (x:=v) (by simp+contextual)]
 case adm x=>rw[h.ev λ t ht=>ht]
 case adp x=>rw[h.ev λ t ht=>ht]
 case aa5 t x=>rw[h.ev λ t ht=>ht]
 case s2b t x=>rw[h.ev λ t ht=>ht]
 case y8 neg x=>rw[h.ev λ t ht=>ht]
 case peq neg x y=>rw[h.ev (x:=x) (by simp+contextual),h.ev (x:=y) (by simp+contextual)]
 case se d m k v=>rw[h.ev (x:=m) (by simp+contextual),h.ev (x:=k) (by simp+contextual),h.ev (x:=v) (by simp+contextual)]
 case uM rd f as=>rw[h.aX λ t ht=>ht]
 case uO rd f as=>rw[h.aX λ t ht=>ht]
 case o7 rd f as=>rw[h.aX λ t ht=>ht]
 case oz k t s x=>rw[h.ev λ t ht=>ht]
 case gw k t s len z ps=>
  have:=qP h s ps (List.replicate len z) (λ xs=>O[k]? =some (.nil t s)/\xs≠[]/\K (.row k len) (O.set k (.live t s xs))) λ t ht=>ht
  rw[this]
 case gy gs f as=>rw[h.aX λ t ht=>ht]
 case ko gs f as=>
  have hm:(as.flatMap λ x=>refs (x.ev e))=as.flatMap λ x=>refs (x.ev e'):=by
   simp only[←List.flatMap_map (aC.ev e) refs,←List.flatMap_map (aC.ev e') refs];rw[h.aX λ t ht=>ht]
  rw[h.aX λ t ht=>ht,hm]
 case jc x as=>rw[h.ev (x:=x) (by simp+contextual),h.aX (xs:=as) (by simp+contextual)]
def Ex(P:Program)(o:dY)(e:Env)(O:List aa)(x:AV)(O':List aa):Prop:=∀K:AV->List aa->Prop,K x O'->wpOp P o e O K
theorem aeh{e:Env}:∀(ps:List (Nat×Nat×aC)) (z:List AV) {K:AV->Prop},jP e z ps K->∃x,K x/\∀K':AV->Prop,K' x->jP e z ps K'
 | [],_,_,h=>⟨_,h,λ _ h=>h⟩
 |(off,size,x)::r,z,K,h=>by
  obtain⟨h1,h2,h3,h4⟩:=h;obtain⟨y,h5,h6⟩:=aeh r _ h4;exact⟨y,h5,λ K' h=>⟨h1,h2,h3,h6 K' h⟩⟩
theorem v9{e:Env}{s:Nat}:∀(ps:List (Nat×aC)) (z:List AV) {K:List AV->Prop},pA e s z ps K->∃x,K x/\∀K':List AV->Prop,K' x->pA e s z ps K'
 | [],_,_,h=>⟨_,h,λ _ h=>h⟩
 |(i,x)::r,z,K,h=>by
  obtain⟨h1,h2,h3,h4⟩:=h;obtain⟨y,h5,h6⟩:=v9 r _ h4;exact⟨y,h5,λ K' h=>⟨h1,h2,h3,h6 K' h⟩⟩
theorem ka{d:Int}{e:Env}{x:Option aC}{K:Int->Prop}(h:fq d e x K):∃i,K i/\∀K':Int->Prop,K' i->fq d e x K':=by
 cases x with
 |none=>exact⟨_,h,λ _ h=>h⟩
 |some o=>
  simp only[fq]at h⊢
  split at h
  ·exact⟨_,h,λ _ h=>h⟩
  ·exact h.elim
theorem ex0{P:Program}{o:dY}(hc:o.cls=0){e:Env}{O:List aa}{K:AV->List aa->Prop}(h:wpOp P o e O K):
  ∃x,K x O/\∀O',Ex P o e O' x O':=by
 cases o<;>simp only[dY.cls]at hc<;>first|(cases hc;done)|skip
 case aq x=>exact⟨_,h,λ O' K' h'=>h'⟩
 case pick c a b=>
  simp only[wpOp]at h
  split at h
  ·rename_i t ht;exact⟨_,h,λ O' K' h'=>by simp only[wpOp,ht];exact h'⟩
  ·exact h.elim
 case build z ps=>
  obtain⟨x,h1,h2⟩:=aeh ps z h;exact⟨x,h1,λ O' K' h'=>h2 (λ a=>K' a O') h'⟩
 case mkF t s b z x y=>
  simp only[wpOp]at h
  split at h
  ·rename_i n c hx hy;obtain⟨h1,h2,h3,h4,h5,h6⟩:=h;exact⟨_,h6,λ O' K' h'=>by simp only[wpOp,hx,hy];exact⟨h1,h2,h3,h4,h5,h'⟩⟩
  ·exact h.elim
 case jf t s len z ps=>
  obtain⟨xs,⟨b8,h1⟩,h2⟩:=v9 ps _ h;exact⟨_,h1,λ O' K' h'=>h2 (λ xs=>AV.ae xs=true/\K' (.sl xs) O') ⟨b8,h'⟩⟩
 case beq neg x y=>
  simp only[wpOp]at h
  split at h
  ·rename_i a b ha hb;exact⟨_,h,λ O' K' h'=>by simp only[wpOp,ha,hb];exact h'⟩
  ·exact h.elim
 case bin op x y=>
  simp only[wpOp]at h
  split at h
  ·rename_i a b ha hb
   split at h
   ·rename_i z hz;exact⟨_,h,λ O' K' h'=>by simp only[wpOp,ha,hb,hz];exact h'⟩
   ·exact h.elim
  ·exact h.elim
 case un op x=>
  simp only[wpOp]at h
  split at h
  ·rename_i a ha
   split at h
   ·rename_i z hz;exact⟨_,h,λ O' K' h'=>by simp only[wpOp,ha,hz];exact h'⟩
   ·exact h.elim
  ·exact h.elim
 case kG k x=>
  simp only[wpOp]at h
  split at h
  ·rename_i k' n ha;exact⟨_,h,λ O' K' h'=>by simp only[wpOp,ha];exact h'⟩
  ·exact h.elim
 case yK off n x=>exact⟨_,h.2.2,λ O' K' h'=>⟨h.1,h.2.1,h'⟩⟩
 case m6 x i=>
  simp only[wpOp]at h
  split at h
  ·rename_i s k j ha hb;exact⟨_,h.2.2,λ O' K' h'=>by simp only[wpOp,ha,hb];exact⟨h.1,h.2.1,h'⟩⟩
  ·exact h.elim
 case fW x lo hi=>
  simp only[wpOp]at h
  split at h
  ·rename_i s ha;obtain⟨l,h1,h2⟩:=ka h;obtain⟨u,h3,h4⟩:=ka h1;exact⟨_,h3.2.2.2,λ O' K' h'=>by simp only[wpOp,ha];exact h2 _ (h4 _ ⟨h3.1,h3.2.1,h3.2.2.1,h'⟩)⟩
  ·exact h.elim
 case cO s x lo hi=>
  simp only[wpOp]at h
  split at h
  ·rename_i s ha;obtain⟨l,h1,h2⟩:=ka h;obtain⟨u,h3,h4⟩:=ka h1;exact⟨_,h3.2.2.2.2,λ O' K' h'=>by simp only[wpOp,ha];exact h2 _ (h4 _ ⟨h3.1,h3.2.1,h3.2.2.1,h3.2.2.2.1,h'⟩)⟩
  ·exact h.elim
 case mn x=>
  simp only[wpOp]at h
  split at h
  ·rename_i s ha;exact⟨_,h,λ O' K' h'=>by simp only[wpOp,ha];exact h'⟩
  ·exact h.elim
 case ext x i=>
  simp only[wpOp]at h
  split at h
  ·rename_i vs ha;exact⟨_,h.2,λ O' K' h'=>by simp only[wpOp,ha];exact⟨h.1,h'⟩⟩
  ·exact h.elim
 case vw f cs=>exact⟨_,h,λ O' K' h'=>h'⟩
 case mN f as=>
  obtain⟨r,h1,h2,h3⟩:=h;exact⟨r,h3,λ O' K' h'=>⟨r,h1,h2,h'⟩⟩
 case jc x as=>
  simp only[wpOp]at h
  split at h
  ·rename_i f aV ha;obtain⟨r,h1,h2,h3⟩:=h;exact⟨r,h3,λ O' K' h'=>by simp only[wpOp,ha];exact⟨r,h1,h2,h'⟩⟩
  ·exact h.elim
def rO(rd:List Nat)(O O':List aa):Prop:=∀n∈rd,O'[n]? =O[n]?
theorem al7{O O':List aa}{a:AV}(h:rO (refs a) O O'):jL O' a=jL O a:=by
 cases a with
 |row n len=>simp only[jL,h n (by simp[refs])]
 |own n=>simp only[jL,h n (by simp[refs])]
 |_=>rfl
theorem abX{O O':List aa}{e:Env}{as:List aC}(h:rO (as.flatMap λ x=>refs (x.ev e)) O O'):(as.map λ x=>jL O' (x.ev e))=as.map λ x=>jL O (x.ev e):=
 map_congr_left λ x hx=>al7 λ n hn=>h n (List.mem_flatMap.2 ⟨x,hx,hn⟩)
theorem ex1{P:Program}{o:dY}(hc:o.cls=1){e:Env}{O:List aa}{K:AV->List aa->Prop}(h:wpOp P o e O K):
  ∃x,K x O/\∀O' N,rO (ch o e N).rd O O'->Ex P o e O' x O':=by
 cases o<;>simp only[dY.cls]at hc<;>first|(cases hc;done)|skip
 case pu o as=>
  obtain⟨hn,hk⟩:=h;unfold puK at hk
  split at hk
  ·rename_i v hv;refine⟨v,hk,λ O' N ha K' h'=> ?_⟩;have hm:=abX (O:=O) (O':=O') (e:=e) (as:=as) ha;exact⟨by rw[hm];exact hn,by rw[hm];unfold puK;rw[hv];exact h'⟩
  ·exact hk.elim
 case nR f as=>
  obtain⟨r,h1,h2,h3,h4⟩:=h;refine⟨r,h4,λ O' N ha K' h'=> ?_⟩;have hm:=abX (O:=O) (O':=O') (e:=e) (as:=as) ha;exact⟨r,h1,by rw[hm];exact h2,by rw[hm];exact h3,h'⟩
 case load n x=>
  simp only[wpOp]at h
  split at h
  ·rename_i y f ha;exact⟨_,h.2,λ O' N hg K' h'=>by simp only[wpOp,ha];exact⟨h.1,h'⟩⟩
  ·rename_i k len i f ha
   split at h
   ·rename_i t s xs hO;obtain⟨h1,h2,h3,h4⟩:=h
    exact⟨_,h4,λ O' N hg K' h'=>by
     have sj:=hg k (by simp[ch,mZ,ha,refs]);simp only[wpOp,ha,sj,hO];exact⟨h1,h2,h3,h'⟩⟩
   ·exact h.elim
  ·exact h.elim
 case aB off x=>
  simp only[wpOp]at h
  split at h
  ·rename_i y f ha;exact⟨_,h,λ O' N hg K' h'=>by simp only[wpOp,ha];exact h'⟩
  ·rename_i k len i f ha
   split at h
   ·rename_i t s xs hO
    exact⟨_,h.2,λ O' N hg K' h'=>by
     have sj:=hg k (by simp[ch,mZ,ha,refs]);simp only[wpOp,ha,sj,hO];exact⟨h.1,h'⟩⟩
   ·exact h.elim
  ·exact h.elim
 case bQ x=>
  simp only[wpOp]at h
  split at h
  ·rename_i y f ha;exact⟨_,h,λ O' N hg K' h'=>by simp only[wpOp,ha];exact h'⟩
  ·rename_i y f ha;exact⟨_,h,λ O' N hg K' h'=>by simp only[wpOp,ha];exact h'⟩
  ·rename_i k len i f ha
   split at h
   ·rename_i t s xs hO
    exact⟨_,h.2,λ O' N hg K' h'=>by
     have sj:=hg k (by simp[ch,mZ,ha,refs]);simp only[wpOp,ha,sj,hO];exact⟨h.1,h'⟩⟩
   ·exact h.elim
  ·exact h.elim
 case bg s x y=>
  simp only[wpOp]at h
  split at h
  ·rename_i xs k i ha hb;obtain⟨h1,h2,h3,h4⟩:=h;exact⟨_,h4,λ O' N hg K' h'=>by simp only[wpOp,ha,hb];exact⟨h1,h2,h3,h'⟩⟩
  ·rename_i n len k i ha hb
   split at h
   ·rename_i t s' xs hO;obtain⟨h1,h2,h3,h4,h5⟩:=h
    exact⟨_,h5,λ O' N hg K' h'=>by
     have sj:=hg n (by simp[ch,mZ,ha,refs]);simp only[wpOp,ha,hb,sj,hO];exact⟨h1,h2,h3,h4,h'⟩⟩
   ·exact h.elim
  ·exact h.elim
 case yX m s x y=>
  simp only[wpOp]at h
  split at h
  ·rename_i b f k i ha hb;obtain⟨h1,h2,h3⟩:=h;exact⟨_,h3,λ O' N hg K' h'=>by simp only[wpOp,ha,hb];exact⟨h1,h2,h'⟩⟩
  ·rename_i n len j f k i ha hb
   split at h
   ·rename_i t s' xs hO;obtain⟨h1,h2,h3,h4⟩:=h
    exact⟨_,h4,λ O' N hg K' h'=>by
     have sj:=hg n (by simp[ch,mZ,ha,refs]);simp only[wpOp,ha,hb,sj,hO];exact⟨h1,h2,h3,h'⟩⟩
   ·exact h.elim
  ·exact h.elim
 case bl x=>
  simp only[wpOp]at h
  split at h
  ·rename_i ha;exact⟨_,h,λ O' N hg K' h'=>by simp only[wpOp,ha];exact h'⟩
  ·rename_i xs ha;exact⟨_,h,λ O' N hg K' h'=>by simp only[wpOp,ha];exact h'⟩
  ·rename_i k len ha;have sj:∀O' N,rO (ch (.bl x) e N).rd O O'->O'[k]? =O[k]? :=λ O' N hg=>hg k (by simp[ch,mZ,ha,refs])
   split at h
   ·rename_i t s xs hO;exact⟨_,h.2,λ O' N hg K' h'=>by simp only[wpOp,ha,sj O' N hg,hO];exact⟨h.1,h'⟩⟩
   ·rename_i t s hO;exact⟨_,h.2,λ O' N hg K' h'=>by simp only[wpOp,ha,sj O' N hg,hO];exact⟨h.1,h'⟩⟩
   ·exact h.elim
  ·exact h.elim
theorem ex2{P:Program}{o:dY}(hc:o.cls=2){e:Env}{O:List aa}{K:AV->List aa->Prop}(h:wpOp P o e O K):
  ∃x b,K x (O++ [b])/\∀O',O'.length=O.length->Ex P o e O' x (O'++ [b]):=by
 cases o<;>simp only[dY.cls]at hc<;>first|(cases hc;done)|skip
 case alloc t s z=>exact⟨_,_,h,λ O' hl K' h'=>by simp only[wpOp,hl];exact h'⟩
 case box t s x=>exact⟨_,_,h.2.2,λ O' hl K' h'=>by simp only[wpOp,hl];exact⟨h.1,h.2.1,h'⟩⟩
 case buildSlice t s len z ps=>
  obtain⟨xs,h1,h2⟩:=v9 ps _ h;exact⟨.row O.length len,.live t s xs,h1,λ O' hl K' h'=>by simp only[wpOp];exact h2 (λ ys=>K' (.row O'.length len) (O'++ [aa.live t s ys])) (by rw[hl];exact h')⟩
 case fc nl t s f as=>
  obtain⟨res,ob,h1,h2,h3⟩:=h;exact⟨_,_,h3,λ O' hl K' h'=>⟨res,ob,h1,h2,by rw[hl];exact h'⟩⟩
 case mk t s b z x y=>
  simp only[wpOp]at h
  split at h
  ·rename_i n c ha hb;obtain⟨h1,h2,h3,h4,h5⟩:=h;exact⟨_,_,h5,λ O' hl K' h'=>by simp only[wpOp,ha,hb,hl];exact⟨h1,h2,h3,h4,h'⟩⟩
  ·exact h.elim
theorem aqD{O:List aa}{y:AV}{K:List AV->Prop}(h:vc O y K):∃ys,K ys/\∀K':List AV->Prop,K' ys->vc O y K':=by
 unfold vc at h
 split at h
 ·exact⟨_,h,λ K' h'=>h'⟩
 ·exact⟨_,h,λ K' h'=>h'⟩
 ·rename_i n len
  split at h
  ·rename_i t s xs hO;exact⟨_,h.2,λ K' h'=>by simp only[vc,hO];exact⟨h.1,h'⟩⟩
  ·rename_i t s hO;exact⟨_,h.2,λ K' h'=>by simp only[vc,hO];exact⟨h.1,h'⟩⟩
  ·exact h.elim
 ·exact h.elim
theorem akI{O:List aa}{x:AV}{t s b:Nat}{ys:List AV}{K:AV->List aa->Prop}(h:iB O x t s b ys K):∃r O',K r O'/\∀K':AV->List aa->Prop,K' r O'->iB O x t s b ys K':=by
 unfold iB at h
 split at h
 ·obtain⟨h1,h2,h3,h4⟩:=h;by_cases hy:ys= []
  ·exact⟨_,_,h3 hy,λ K' h'=>⟨h1,h2,λ _=>h',λ hn=>(hn hy).elim⟩⟩
  ·exact⟨_,_,h4 hy,λ K' h'=>⟨h1,h2,λ hn=>(hy hn).elim,λ _=>h'⟩⟩
 ·rename_i n len
  split at h
  ·rename_i t' s' xs hO;obtain⟨h1,h2,h3,h4,h5,h6⟩:=h;exact⟨_,_,h6,λ K' h'=>by simp only[iB,hO];exact⟨h1,h2,h3,h4,h5,h'⟩⟩
  ·rename_i t' s' hO;obtain⟨h1,h2,h3,h4,h5,h6,h7⟩:=h;by_cases hy:ys= []
   ·exact⟨_,_,h6 hy,λ K' h'=>by simp only[iB,hO];exact⟨h1,h2,h3,h4,h5,λ _=>h',λ hn=>(hn hy).elim⟩⟩
   ·exact⟨_,_,h7 hy,λ K' h'=>by simp only[iB,hO];exact⟨h1,h2,h3,h4,h5,λ hn=>(hy hn).elim,λ _=>h'⟩⟩
  ·exact h.elim
 ·exact h.elim
theorem yO{P:Program}{o:dY}{e:Env}{O:List aa}{K:AV->List aa->Prop}(h:wpOp P o e O K):∃x O',K x O'/\Ex P o e O x O':=by
 by_cases h0:o.cls=0
 ·obtain⟨x,h1,h2⟩:=ex0 h0 h;exact⟨x,O,h1,h2 O⟩
 by_cases h1:o.cls=1
 ·obtain⟨x,h1,h2⟩:=ex1 h1 h;exact⟨x,O,h1,h2 O 0 λ _ _=>rfl⟩
 by_cases h2:o.cls=2
 ·obtain⟨x,b,h1,h2⟩:=ex2 h2 h;exact⟨x,_,h1,h2 O rfl⟩
 cases o<;>first|(exact(h0 rfl).elim)|(exact(h1 rfl).elim)|(exact(h2 rfl).elim)|skip
 case stuck=>exact h.elim
 case afO t s b z x y=>
  simp only[wpOp]at h
  split at h
  ·rename_i k ha hb;exact⟨_,_,h.2.2.2,λ K' h'=>by simp only[wpOp,ha,hb];exact⟨h.1,h.2.1,h.2.2.1,h'⟩⟩
  ·exact h.elim
 case cut s x lo hi=>
  simp only[wpOp]at h
  split at h
  ·rename_i ha;obtain⟨l,h1,h2⟩:=ka h;obtain⟨u,h3,h4⟩:=ka h1;exact⟨_,_,h3.2.2,λ K' h'=>by simp only[wpOp,ha];exact h2 _ (h4 _ ⟨h3.1,h3.2.1,h'⟩)⟩
  ·rename_i n len ha
   split at h
   ·rename_i t s' xs hO;obtain⟨q1,q2,h⟩:=h;obtain⟨l,h1,h2⟩:=ka h;obtain⟨u,h3,h4⟩:=ka h1;exact⟨_,_,h3.2.2,λ K' h'=>by simp only[wpOp,ha,hO];exact⟨q1,q2,h2 _ (h4 _ ⟨h3.1,h3.2.1,h'⟩)⟩⟩
   ·exact h.elim
  ·exact h.elim
 case mz t s b x y=>
  simp only[wpOp]at h
  split at h
  ·rename_i sb hsb;obtain⟨r,O',h1,h2⟩:=akI h.2;exact⟨r,O',h1,λ K' h'=>by simp only[wpOp,hsb];exact⟨h.1,h2 K' h'⟩⟩
  ·exact h.elim
 case store m x y=>
  simp only[wpOp]at h
  split at h
  ·rename_i k len i f ha
   split at h
   ·rename_i t s xs hO;obtain⟨q1,q2,q3,q4,q5,q6⟩:=h;exact⟨_,_,q6,λ K' h'=>by simp only[wpOp,ha,hO];exact⟨q1,q2,q3,q4,q5,h'⟩⟩
   ·exact h.elim
  ·exact h.elim
 case app t s b x y=>
  simp only[wpOp]at h;obtain⟨ys,q1,q2⟩:=aqD h;obtain⟨r,O',q3,q4⟩:=akI q1.2;exact⟨r,O',q3,λ K' h'=>by simp only[wpOp];exact q2 _ ⟨q1.1,q4 K' h'⟩⟩
 case call f as=>
  obtain⟨r,O',q1,q2⟩:=h;exact⟨r,O',q2,λ K' h'=>⟨r,O',q1,h'⟩⟩
 case gx k t s z=>exact⟨_,_,h.2.2,λ K' h'=>⟨h.1,h.2.1,h'⟩⟩
 case aa0 k t s b z x y=>
  simp only[wpOp]at h
  split at h
  ·rename_i n c hx hy;obtain⟨h1,h2,h3,h4,h5,h6,h7⟩:=h;exact⟨_,_,h7,λ K' h'=>by simp only[wpOp,hx,hy];exact⟨h1,h2,h3,h4,h5,h6,h'⟩⟩
  ·exact h.elim
 case oz k t s x=>exact⟨_,_,h.2.2.2.2,λ K' h'=>⟨h.1,h.2.1,h.2.2.1,h.2.2.2.1,h'⟩⟩
 case gw k t s len z ps=>
  obtain⟨xs,⟨h1,h2,h3⟩,h4⟩:=v9 ps _ h.2.2;exact⟨_,_,h3,λ K' h'=>⟨h.1,h.2.1,h4 (λ xs=>O[k]? =some (.nil t s)/\xs≠[]/\K' (.row k len) (O.set k (aa.live t s xs))) ⟨h1,h2,h'⟩⟩⟩
 case gy gs f as=>
  obtain⟨r,O',q1,q2⟩:=h;exact⟨r,O',q2,λ K' h'=>⟨r,O',q1,h'⟩⟩
 case aaZ=>exact⟨_,_,h,λ K' h'=>h'⟩
 case alC ok d z m k=>
  simp only[wpOp]at h
  split at h
  ·rename_i n kv hm hk
   split at h
   ·rename_i es hO;obtain⟨h1,h2,h3⟩:=h;exact⟨_,_,h3,λ K' h'=>by simp only[wpOp,hm,hk,hO];exact⟨h1,h2,h'⟩⟩
   ·exact h.elim
  ·exact h.elim
 case se d m k v=>
  simp only[wpOp]at h
  split at h
  ·rename_i n kv hm hk
   split at h
   ·rename_i es hO;obtain⟨h1,h2,h3⟩:=h;exact⟨_,_,h3,λ K' h'=>by simp only[wpOp,hm,hk,hO];exact⟨h1,h2,h'⟩⟩
   ·exact h.elim
  ·exact h.elim
 case acN ok z m k=>
  simp only[wpOp]at h
  split at h
  ·rename_i n j hm hk
   split at h
   ·rename_i es hO;obtain⟨h1,h2,h3⟩:=h;exact⟨_,_,h3,λ K' h'=>by simp only[wpOp,hm,hk,hO];exact⟨h1,h2,h'⟩⟩
   ·exact h.elim
  ·exact h.elim
 case lh m k v=>
  simp only[wpOp]at h
  split at h
  ·rename_i n j hm hk
   split at h
   ·rename_i es hO;obtain⟨h1,h2,h3⟩:=h;exact⟨_,_,h3,λ K' h'=>by simp only[wpOp,hm,hk,hO];exact⟨h1,h2,h'⟩⟩
   ·exact h.elim
  ·exact h.elim
 case adm x=>
  simp only[wpOp]at h
  split at h
  ·rename_i s hx;exact⟨_,_,h,λ K' h'=>by simp only[wpOp,hx];exact h'⟩
  ·exact h.elim
 case adp x=>
  simp only[wpOp]at h
  split at h
  ·rename_i n hx
   split at h
   ·rename_i s pos hO;by_cases hp:pos<s.size
    ·exact⟨_,_,h.1 hp,λ K' h'=>by simp only[wpOp,hx,hO];exact⟨λ _=>h',λ q=>(q hp).elim⟩⟩
    ·exact⟨_,_,h.2 hp,λ K' h'=>by simp only[wpOp,hx,hO];exact⟨λ q=>(hp q).elim,λ _=>h'⟩⟩
   ·exact h.elim
  ·exact h.elim
 case s2b t x=>
  simp only[wpOp]at h
  split at h
  ·rename_i s hx;exact⟨_,_,h.2,λ K' h'=>by simp only[wpOp,hx];exact⟨h.1,h'⟩⟩
  ·exact h.elim
 case aa5 t x=>
  simp only[wpOp]at h
  split at h
  ·rename_i n len hx
   split at h
   ·rename_i t' s xs hO;obtain⟨h1,h2,h3,h4⟩:=h;exact⟨_,_,h4,λ K' h'=>by simp only[wpOp,hx,hO];exact⟨h1,h2,h3,h'⟩⟩
   ·exact h.elim
  ·exact h.elim
 case y8 neg x=>
  simp only[wpOp]at h
  split at h
  ·rename_i hx;exact⟨_,_,h,λ K' h'=>by simp only[wpOp,hx];exact h'⟩
  ·rename_i n len i f hx
   split at h
   ·rename_i t s xs hO;exact⟨_,_,h.2,λ K' h'=>by simp only[wpOp,hx,hO];exact⟨h.1,h'⟩⟩
   ·exact h.elim
  ·exact h.elim
 case peq neg x y=>
  simp only[wpOp]at h
  split at h
  ·rename_i n m hx hy;exact⟨_,_,h.2.2,λ K' h'=>by simp only[wpOp,hx,hy];exact⟨h.1,h.2.1,h'⟩⟩
  ·exact h.elim
 case uM rd f as=>
  obtain⟨r,ob,q1,q2⟩:=h;exact⟨r,_,q2,λ K' h'=>⟨r,ob,q1,h'⟩⟩
 case uO rd f as=>
  obtain⟨r,q1,q2⟩:=h;exact⟨r,_,q2,λ K' h'=>⟨r,q1,h'⟩⟩
 case o7 rd f as=>
  obtain⟨r,O',q1,q2,q3⟩:=h;exact⟨r,O',q3,λ K' h'=>⟨r,O',q1,q2,h'⟩⟩
 case ko gs f as=>
  obtain⟨n,a0,ob,r,ob',q1,q2,q3,q4,q5,q6,q7,q8,q9⟩:=h;exact⟨r,_,q9,λ K' h'=>⟨n,a0,ob,r,ob',q1,q2,q3,q4,q5,q6,q7,q8,h'⟩⟩
 case eI x as=>
  simp only[wpOp]at h
  split at h
  ·rename_i f aV ha;obtain⟨r,O',q1,q2⟩:=h;exact⟨r,O',q2,λ K' h'=>by simp only[wpOp,ha];exact⟨r,O',q1,h'⟩⟩
  ·exact h.elim
 case pb f as=>
  obtain⟨r,q1,q2,q3⟩:=h;exact⟨r,_,q3,λ K' h'=>⟨r,q1,q2,h'⟩⟩
 case kx x as=>
  simp only[wpOp]at h
  split at h
  ·rename_i f aV ha;obtain⟨r,q1,q2,q3⟩:=h;exact⟨r,_,q3,λ K' h'=>by simp only[wpOp,ha];exact⟨r,q1,q2,h'⟩⟩
  ·exact h.elim
theorem alO{o:dY}(h:∀kp f as,o≠ .o7 kp f as)(e:Env)(N:Nat):(ch o e N).k.keeps= []:=by
 cases o<;>first|rfl|(exact(h _ _ _ rfl).elim)|(simp only[ch,mZ];split<;>rfl)
theorem avS{P:Program}{o:dY}{e:Env}{O:List aa}{K:AV->List aa->Prop}(h:wpOp P o e O K):∃x O',K x O'/\Ex P o e O x O'/\∀n∈(ch o e O.length).k.keeps,O'[n]? =O[n]? :=by
 by_cases hu:∃kp f as,o= .o7 kp f as
 ·obtain⟨kp,f,as,rfl⟩:=hu;obtain⟨r,O',q1,q2,q3⟩:=h;exact⟨r,O',q3,λ K' h'=>⟨r,O',q1,q2,h'⟩,q2⟩
 ·obtain⟨x,O',h1,h2⟩:=yO h;refine⟨x,O',h1,h2,λ n hn=> ?_⟩;rw[alO λ kp f as he=>hu ⟨kp,f,as,he⟩]at hn;simp at hn
theorem anj{O:List aa}{y:AV}{K:List AV->Prop}(h:vc O y K):∃ys,K ys/\∀O',rO (refs y) O O'->∀K':List AV->Prop,K' ys->vc O' y K':=by
 unfold vc at h
 split at h
 ·exact⟨_,h,λ O' _ K' h'=>h'⟩
 ·exact⟨_,h,λ O' _ K' h'=>h'⟩
 ·rename_i n len;have hg:∀O',rO (refs (.row n len)) O O'->O'[n]? =O[n]? :=λ O' hg=>hg n (by simp[refs])
  split at h
  ·rename_i t s xs hO;exact⟨_,h.2,λ O' ha K' h'=>by simp only[vc,hg O' ha,hO];exact⟨h.1,h'⟩⟩
  ·rename_i t s hO;exact⟨_,h.2,λ O' ha K' h'=>by simp only[vc,hg O' ha,hO];exact⟨h.1,h'⟩⟩
  ·exact h.elim
 ·exact h.elim
inductive Eff where
 |cu
 |set (n:Nat) (b:aa)
 |push (b:aa)
def Eff.app:Eff->List aa->List aa
 | .cu,O=>O
 | .set n b,O=>O.set n b
 | .push b,O=>O++ [b]
def Fit:EK->Eff->List aa->Prop
 | .cu,.cu,_=>True
 | .set _,.cu,_=>True
 | .set n,.set m _,O=>m=n/\n<O.length
 | .push N,.push _,O=>O.length=N
 |_,_,_=>False
theorem ahR{O:List aa}{n len:Nat}{t s b:Nat}{ys:List AV}{K:AV->List aa->Prop}(h:iB O (.row n len) t s b ys K):
  ∃r vK,Fit (.set n) vK O/\K r (vK.app O)/\∀O',O'[n]? =O[n]? ->∀K':AV->List aa->Prop,K' r (vK.app O')->iB O' (.row n len) t s b ys K':=by
 simp only[iB]at h
 split at h
 ·rename_i t' s' xs hO;obtain⟨h1,h2,h3,h4,h5,h6⟩:=h;exact⟨_,.set n _,⟨rfl,(List.getElem?_eq_some_iff.1 hO).1⟩,h6,λ O' ho K' h'=>by simp only[iB,ho,hO];exact⟨h1,h2,h3,h4,h5,h'⟩⟩
 ·rename_i t' s' hO;obtain⟨h1,h2,h3,h4,h5,h6,h7⟩:=h;by_cases hy:ys= []
  ·exact⟨_,.cu,trivial,h6 hy,λ O' ho K' h'=>by simp only[iB,ho,hO];exact⟨h1,h2,h3,h4,h5,λ _=>h',λ hn=>(hn hy).elim⟩⟩
  ·exact⟨_,.set n _,⟨rfl,(List.getElem?_eq_some_iff.1 hO).1⟩,h7 hy,λ O' ho K' h'=>by simp only[iB,ho,hO];exact⟨h1,h2,h3,h4,h5,λ hn=>(hy hn).elim,λ _=>h'⟩⟩
 ·exact h.elim
theorem aaD{a:AV}{n:Nat}(h:refs a= [n]):(∃len,a= .row n len)∨(∃len i f,a= .ptr n len i f)∨a= .own n:=by
 cases a<;>simp[refs]at h
 ·subst h;exact .inl ⟨_,rfl⟩
 ·subst h;exact .inr (.inl ⟨_,_,_,rfl⟩)
 ·subst h;exact .inr (.inr rfl)
theorem alK{P:Program}{o:dY}{e:Env}{O:List aa}{K:AV->List aa->Prop}(hk:(ch o e O.length).k.isAny=false)(h:wpOp P o e O K):
  ∃x vK,Fit (ch o e O.length).k vK O/\(∀n,(ch o e O.length).k= .set n->n∈(ch o e O.length).rd)/\K x (vK.app O)/\
   ∀O',rO (ch o e O.length).rd O O'->((ch o e O.length).k.gf=true->O'.length=O.length)->Ex P o e O' x (vK.app O'):=by
 by_cases h0:o.cls=0
 ·have hl:ch o e O.length=⟨[],.cu⟩:=by cases o<;>first|(simp[dY.cls]at h0;done)|rfl
  obtain⟨x,h1,h2⟩:=ex0 h0 h;exact⟨x,.cu,by rw[hl];trivial,by rw[hl];simp,h1,λ O' _ _=>h2 O'⟩
 by_cases h1:o.cls=1
 ·have hl:(ch o e O.length).k= .cu:=by cases o<;>first|(simp[dY.cls]at h1;done)|rfl
  obtain⟨x,h2,h3⟩:=ex1 h1 h;exact⟨x,.cu,by rw[hl];trivial,by rw[hl];simp,h2,λ O' ha _=>h3 O' _ ha⟩
 by_cases h2:o.cls=2
 ·have hl:ch o e O.length=⟨[],.push O.length⟩:=by cases o<;>first|(simp[dY.cls]at h2;done)|rfl
  obtain⟨x,b,h3,h4⟩:=ex2 h2 h;exact⟨x,.push b,by rw[hl];exact rfl,by rw[hl];simp,h3,λ O' _ hp=>h4 O' (hp (by rw[hl];rfl))⟩
 cases o<;>first|(exact(h0 rfl).elim)|(exact(h1 rfl).elim)|(exact(h2 rfl).elim)|(simp[ch,mZ,EK.isAny]at hk;done)|skip
 case gx k t s z=>
  obtain⟨h1,h2,h3⟩:=h;exact⟨_,.set k _,⟨rfl,(List.getElem?_eq_some_iff.1 h2).1⟩,by simp[ch,mZ],h3,λ O' ha _ K' h'=>⟨h1,by rw[ha k (by simp[ch,mZ])];exact h2,h'⟩⟩
 case aa0 k t s b z x y=>
  simp only[wpOp]at h
  split at h
  ·rename_i n c hx hy;obtain⟨h1,h2,h3,h4,h5,h6,h7⟩:=h;exact⟨_,.set k _,⟨rfl,(List.getElem?_eq_some_iff.1 h6).1⟩,by simp[ch,mZ],h7,λ O' ha _ K' h'=>by simp only[wpOp,hx,hy];exact⟨h1,h2,h3,h4,h5,by rw[ha k (by simp[ch,mZ])];exact h6,h'⟩⟩
  ·exact h.elim
 case oz k t s x=>
  obtain⟨h0,h2,h3,h4,h5⟩:=h;exact⟨_,.set k _,⟨rfl,(List.getElem?_eq_some_iff.1 h2).1⟩,by simp[ch,mZ],h5,λ O' ha _ K' h'=>⟨h0,by rw[ha k (by simp[ch,mZ])];exact h2,h3,h4,h'⟩⟩
 case gw k t s len z ps=>
  obtain⟨h0,hp,h⟩:=h;obtain⟨xs,⟨h1,h2,h3⟩,h4⟩:=v9 ps _ h;exact⟨_,.set k (.live t s xs),⟨rfl,(List.getElem?_eq_some_iff.1 h1).1⟩,by simp[ch,mZ],h3,λ O' ha _ K' h'=>⟨h0,hp,h4 (λ xs=>O'[k]? =some (.nil t s)/\xs≠[]/\K' (.row k len) (O'.set k (aa.live t s xs))) ⟨by rw[ha k (by simp[ch,mZ])];exact h1,h2,h'⟩⟩⟩
 case uM rd f as=>
  obtain⟨res,ob,h1,h2⟩:=h;exact⟨res,.push ob,rfl,by simp[ch,mZ],h2,λ O' ha hp K' h'=>⟨res,ob,λ oR hl hr=>h1 oR (hl.trans (hp rfl)) λ n hn=>(hr n hn).trans (ha n hn),h'⟩⟩
 case uO rd f as=>
  obtain⟨res,h1,h2⟩:=h;exact⟨res,.cu,trivial,by simp[ch,mZ],h2,λ O' ha _ K' h'=>⟨res,λ oR hr=>h1 oR λ n hn=>(hr n hn).trans (ha n hn),h'⟩⟩
 case ko gs f as=>
  simp only[ch,mZ]at hk⊢;obtain⟨n,a0,ob,r,ob',q1,q2,q3,q4,q5,q6,q7,q8,q9⟩:=h;simp only[q3];exact⟨r,.set n ob',⟨rfl,(List.getElem?_eq_some_iff.1 q4).1⟩,by simp,q9,λ O' ha _ K' h'=>⟨n,a0,ob,r,ob',q1,q2,q3,by rw[ha n (by simp)];exact q4,q5,q6,q7,q8,h'⟩⟩
 case store m x y=>
  simp only[ch,mZ]at hk⊢
  split at hk
  ·rename_i n hn;simp only[hn];rcases aaD hn with⟨len,hx⟩|⟨len,i,f,hx⟩|hx;rotate_left 2
   ·simp only[wpOp,hx]at h
   ·simp only[wpOp,hx]at h
   ·simp only[wpOp,hx]at h
    split at h
    ·rename_i t s xs hO;obtain⟨q1,q2,q3,q4,q5,q6⟩:=h
     exact⟨_,.set n _,⟨rfl,(List.getElem?_eq_some_iff.1 hO).1⟩,by simp,q6,λ O' ha _ K' h'=>by
      simp only[wpOp,hx,ha n (by simp),hO];exact⟨q1,q2,q3,q4,q5,h'⟩⟩
    ·exact h.elim
  ·simp[EK.isAny]at hk
 case app t s b x y=>
  simp only[ch,mZ]at hk⊢
  split at hk
  ·rename_i n hn;simp only[hn];simp only[wpOp]at h;obtain⟨ys,⟨q0,q1⟩,q2⟩:=anj h;rcases aaD hn with⟨len,hx⟩|⟨len,i,f,hx⟩|hx
   ·rw[hx]at q1;obtain⟨r,vK,q3,q4,q5⟩:=ahR q1
    exact⟨r,vK,q3,by simp,q4,λ O' ha _ K' h'=>by
     simp only[wpOp,hx];exact q2 O' (λ m hm=>ha m (by simp[hm])) _ ⟨q0,q5 O' (ha n (by simp)) K' h'⟩⟩
   ·rw[hx]at q1;exact q1.elim
   ·rw[hx]at q1;exact q1.elim
  ·simp[EK.isAny]at hk
 case mz t s b x y=>
  simp only[ch,mZ]at hk⊢
  split at hk
  ·rename_i n hn;simp only[hn];simp only[wpOp]at h
   split at h
   ·rename_i sb hsb;obtain⟨q0,q1⟩:=h;rcases aaD hn with⟨len,hx⟩|⟨len,i,f,hx⟩|hx
    ·rw[hx]at q1;obtain⟨r,vK,q3,q4,q5⟩:=ahR q1
     exact⟨r,vK,q3,by simp,q4,λ O' ha _ K' h'=>by
      simp only[wpOp,hsb,hx];exact⟨q0,q5 O' (ha n (by simp)) K' h'⟩⟩
    ·rw[hx]at q1;exact q1.elim
    ·rw[hx]at q1;exact q1.elim
   ·exact h.elim
  ·simp[EK.isAny]at hk
end Go.Ab
namespace Go.Ab
inductive Step(P:Program)(o:aH)(e:Env)(O:List aa):Env->List aa->Prop
 |run (x:AV) (O':List aa):(∀t want,o.guard=some (t,want)->e t= .v (.bool want))->Ex P o.op e O x O'->Step P o e O (bB e o.dst x) O'
 |skip (t:Nat) (want:Bool):o.guard=some (t,want)->(e t= .v (.bool (!want))∨e t= .a9 [])->Step P o e O (bB e o.dst (.a9 [])) O
inductive Run(P:Program):List aH->Env->List aa->Env->List aa->Prop
 |nil (e:Env) (O:List aa):Run P [] e O e O
 |cons {o:aH} {l:List aH} {e e1 e2:Env} {O O1 O2:List aa}:Step P o e O e1 O1->Run P l e1 O1 e2 O2->Run P (o::l) e O e2 O2
theorem aat{e:Env}{t:Nat}{a:AV}(h:e t=a):e.set t a=e:=by
 funext k;unfold Env.set;split
 ·rename_i hk;subst hk;exact h.symm
 ·rfl
theorem jU{e:Env}{d d':Option Nat}{a b:AV}(h:d=none∨d≠d'):bB (bB e d a) d' b=bB (bB e d' b) d a:=by
 cases d<;>cases d'<;>simp only[bB]
 rename_i t t'
 have bk:t≠t':=by
  rcases h with h|h
  ·cases h
  ·intro he;exact h (by rw[he])
 funext k
 simp only[Env.set];by_cases h1:k=t
 ·subst h1;rw[if_neg bk,if_pos rfl,if_pos rfl]
 ·rw[if_neg h1,if_neg h1]
theorem rN{l:List Nat}{e:Env}{d:Option Nat}{a:AV}(h:∀t,d=some t->t∉l):r7 l (bB e d a) e:=by
 intro t ht;cases d with
 |none=>rfl
 |some d=>
  simp only[bB,Env.set];rw[if_neg];intro he;subst he;exact h _ rfl ht
theorem Ex.congr{P:Program}{o:dY}{e e':Env}{O O':List aa}{x:AV}(h:Ex P o e O x O')(ha:r7 o.reads e' e):Ex P o e' O x O':=by
 intro K hk;rw[aid ha];exact h K hk
inductive qF(P:Program)(o:aH)(l:iD)(e:Env)(O:List aa):Env->List aa->Prop
 |any (x:AV) (O':List aa):l.k.isAny=true->(∀n∈l.k.keeps,O'[n]? =O[n]?)->(∀t want,o.guard=some (t,want)->e t= .v (.bool want))->Ex P o.op e O x O'->qF P o l e O (bB e o.dst x) O'
 |lab (x:AV) (vK:Eff):l.k.isAny=false->Fit l.k vK O->(∀n,l.k= .set n->n∈l.rd)->(∀t want,o.guard=some (t,want)->e t= .v (.bool want))->
  (∀O',rO l.rd O O'->(l.k.gf=true->O'.length=O.length)->Ex P o.op e O' x (vK.app O'))->qF P o l e O (bB e o.dst x) (vK.app O)
 |skip (t:Nat) (want:Bool):o.guard=some (t,want)->(e t= .v (.bool (!want))∨e t= .a9 [])->qF P o l e O (bB e o.dst (.a9 [])) O
theorem qF.step{P:Program}{o:aH}{l:iD}{e e':Env}{O O':List aa}(h:qF P o l e O e' O'):Step P o e O e' O':=by
 cases h with
 |any x _ _ _ hg hx=>exact .run x _ hg hx
 |lab x vK _ _ _ hg hx=>exact .run x _ hg (hx O (λ _ _=>rfl) λ _=>rfl)
 |skip t want hg hb=>exact .skip t want hg hb
inductive zF(P:Program):List (aH×iD)->Env->List aa->Env->List aa->Prop
 |nil (e:Env) (O:List aa):zF P [] e O e O
 |cons {o:aH×iD} {l:List (aH×iD)} {e e1 e2:Env} {O O1 O2:List aa}:qF P o.1 o.2 e O e1 O1->zF P l e1 O1 e2 O2->zF P (o::l) e O e2 O2
theorem zF.run{P:Program}{l:List (aH×iD)}{e e':Env}{O O':List aa}(h:zF P l e O e' O'):Run P (l.map (·.1)) e O e' O':=by
 induction h with
 |nil=>exact .nil _ _
 |cons hs _ ih=>exact .cons hs.step ih
theorem agk{P:Program}{o:aH}{e:Env}{O:List aa}{K:AV->List aa->Prop}(hg:∀t want,o.guard=some (t,want)->e t= .v (.bool want))(h:wpOp P o.op e O K):
  ∃x O',K x O'/\qF P o (ch o.op e O.length) e O (bB e o.dst x) O':=by
 cases hk:(ch o.op e O.length).k.isAny with
 |true=>
  obtain⟨x,O',h1,h2,h3⟩:=avS h;exact⟨x,O',h1,.any x O' hk h3 hg h2⟩
 |false=>
  obtain⟨x,vK,h1,h2,h3,h4⟩:=alK hk h;exact⟨x,_,h3,.lab x vK hk h1 h2 hg h4⟩
theorem nQ{P:Program}:∀(l:List aH) {acc:List iD} {e:Env} {O:List aa} {K:List iD->Env->List aa->Prop},cd P l acc e O K->∃iM e' O',iM.length=l.length/\zF P (l.zip iM) e O e' O'/\K (acc++iM) e' O'
 | [],acc,e,O,K,h=>⟨[],e,O,rfl,.nil e O,by rw[List.append_nil];exact h⟩
 |o::l,acc,e,O,K,h=>by
  simp only[cd]at h;cases hg:o.guard with
  |none=>
   rw[hg]at h;obtain⟨x,O',h1,h2⟩:=agk (λ t want h=>by rw[hg]at h;cases h) h;obtain⟨iM,e2,O2,h0,h3,h4⟩:=nQ l h1;exact⟨ch o.op e O.length::iM,e2,O2,by simp[h0],.cons h2 h3,by rw[append_assoc]at h4;exact h4⟩
  |some g=>
   obtain⟨t,want⟩:=g;rw[hg]at h;simp only at h
   split at h
   ·rename_i b hb;by_cases m8:b=want
    ·have hs:e.set t (.v (.bool want))=e:=aat (by rw[hb,m8]);rw[hs]at h;obtain⟨x,O',h1,h2⟩:=agk (λ t' mL h=>by rw[hg]at h;cases h;rw[hb,m8]) (h.1 m8);obtain⟨iM,e2,O2,h0,h3,h4⟩:=nQ l h1;exact⟨ch o.op e O.length::iM,e2,O2,by simp[h0],.cons h2 h3,by rw[append_assoc]at h4;exact h4⟩
    ·have mI:b= !want:=by cases b<;>cases want<;>simp_all
     have hs:e.set t (.v (.bool (!want)))=e:=aat (by rw[hb,mI]);rw[hs]at h;obtain⟨iM,e2,O2,h0,h3,h4⟩:=nQ l (h.2 mI);exact⟨⟨[],.cu⟩::iM,e2,O2,by simp[h0],.cons (.skip t want hg (.inl (by rw[hb,mI]))) h3,by rw[append_assoc]at h4;exact h4⟩
   ·rename_i hb;obtain⟨iM,e2,O2,h0,h3,h4⟩:=nQ l h;exact⟨⟨[],.cu⟩::iM,e2,O2,by simp[h0],.cons (.skip t want hg (.inr hb)) h3,by rw[append_assoc]at h4;exact h4⟩
   ·exact h.elim
theorem ai3{p i:aH×iD}(h:n9 p i=true):
  (∀t,p.1.dst=some t->t∉i.1.reads)/\(p.1.dst=none∨p.1.dst≠i.1.dst)/\(∀t,i.1.dst=some t->t∉p.1.reads)/\xF p.2 i.2=true:=by
 unfold n9 at h;simp only[and_eq_true]at h;obtain⟨⟨h1,h2⟩,h3⟩:=h;refine⟨λ t ht=> ?_,?_,λ t ht=> ?_,h3⟩
 ·rw[ht]at h1;simp at h1;exact h1.1
 ·cases hp:p.1.dst with
  |none=>exact .inl rfl
  |some t=>rw[hp]at h1;simp at h1;exact .inr λ he=>h1.2 he.symm
 ·rw[ht]at h2;simpa using h2
theorem agz{kp:List Nat}{l:iD}(h:l.pure kp=true):(∀n∈l.rd,n∈kp)/\l.k= .cu:=by
 unfold iD.pure at h;simp only[and_eq_true,all_eq_true]at h;refine⟨λ n hn=>by simpa using h.1 n hn,?_⟩;have:=h.2
 split at this
 ·assumption
 ·cases this
theorem ad9{k:EK}{vK:Eff}{O:List aa}(hf:Fit k vK O){rd:List Nat}(h:k.tb rd=false):rO rd O (vK.app O):=by
 intro n hn;cases k<;>cases vK<;>simp only[Fit]at hf<;>simp only[EK.tb]at h<;>simp only[Eff.app]
 ·rename_i k m b;obtain⟨rfl,aw⟩:=hf;have:n≠m:=by rintro rfl;simp at h;exact h hn
  rw[getElem?_set_ne (λ he=>this he.symm)]
 ·rename_i N b;have:n≠N:=by rintro rfl;simp at h;exact h hn
  by_cases aw:n<O.length
  ·rw[getElem?_append_left aw]
  ·rw[List.getElem?_eq_none (l:=O++ [b]) (by simp;omega),List.getElem?_eq_none (by omega)]
theorem akA{k:EK}{vK:Eff}{O:List aa}(hf:Fit k vK O)(h:k.gf=false):∀O':List aa,(vK.app O').length=O'.length:=by
 intro O';cases k<;>cases vK<;>simp only[Fit]at hf<;>simp[Eff.app]
 simp[EK.gf]at h
theorem apF{kp ki:EK}{p i:Eff}{O:List aa}(hp:Fit kp p O)(hi:Fit ki i (p.app O))(ayp:(kp.gf&&ki.gf)=false)(rj:∀n m,kp= .set n->ki= .set m->n≠m)(hps:∀n m,kp= .push n->ki= .set m->n≠m):
  Fit ki i O/\Fit kp p (i.app O)/\i.app (p.app O)=p.app (i.app O):=by
 cases kp<;>cases p<;>simp only[Fit]at hp<;>cases ki<;>cases i<;>simp only[Fit]at hi<;>simp only[Fit,Eff.app,true_and,and_true]<;>(try simp only[Eff.app]at hi)<;>try trivial
 case set.set.set.set n _ b m _ c=>
  obtain⟨rfl,h1⟩:=hp;obtain⟨rfl,h2⟩:=hi;have:=rj _ _ rfl rfl;refine⟨⟨rfl,by simpa using h2⟩,⟨rfl,by simpa using h1⟩,List.set_comm _ _ (λ he=>this he)⟩
 case set.set.push.push n _ b m c=>
  obtain⟨rfl,h1⟩:=hp;refine⟨by simpa using hi,⟨rfl,by simp;omega⟩,?_⟩;rw[List.set_append_left _ _ h1]
 case push.push.set.set=>
  obtain⟨rfl,h2⟩:=hi;have:=hps _ _ rfl rfl;have aw:_<O.length:=Nat.lt_of_le_of_ne (by simp at h2;omega) (λ he=>this (hp.symm.trans he.symm));refine⟨⟨rfl,aw⟩,by simpa using hp,?_⟩;rw[List.set_append_left _ _ aw]
 all_goals simp[EK.gf]at ayp
theorem aik{P:Program}{p i:aH×iD}(hd:n9 p i=true){e e1 e2:Env}{O O1 O2:List aa}(h1:qF P p.1 p.2 e O e1 O1)(h2:qF P i.1 i.2 e1 O1 e2 O2):
  ∃e1' oZ,qF P i.1 i.2 e O e1' oZ/\qF P p.1 p.2 e1' oZ e2 O2:=by
 obtain⟨p,lp⟩:=p;obtain⟨i,li⟩:=i;obtain⟨d1,d2,d3,d4⟩:=ai3 hd;simp only at d1 d2 d3 d4 h1 h2⊢
 have gi:∀{t want a},i.guard=some (t,want)->bB e p.dst a t=e t:=by
  intro t want a hg;exact rN (l:=i.reads) d1 t (by simp[aH.reads,hg])
 have gp:∀{t want} {e':Env} {a},p.guard=some (t,want)->bB e' i.dst a t=e' t:=by
  intro t want e' a hg;exact rN (l:=p.reads) d3 t (by simp[aH.reads,hg])
 have ri:∀{a},r7 i.op.reads e (bB e p.dst a):=λ {a} t ht=>(rN (l:=i.reads) d1 t (by simp[aH.reads,ht])).symm
 have rp:∀{e' a},r7 p.op.reads (bB e' i.dst a) e':=λ {e' a} t ht=>rN (l:=p.reads) d3 t (by simp[aH.reads,ht])
 have ahg:(lp.k.isAny=true/\li.pure lp.k.keeps=true)∨(lp.k.isAny=false/\li.k.isAny=true/\lp.pure li.k.keeps=true)∨(lp.k.isAny=false/\li.k.isAny=false/\lp.k.tb li.rd=false/\li.k.tb lp.rd=false/\(lp.k.gf&&li.k.gf)=false):=by
  unfold xF at d4
  split at d4
  ·rename_i h;exact .inl ⟨h,d4⟩
  ·rename_i h
   split at d4
   ·rename_i h';exact .inr (.inl ⟨by simpa using h,h',d4⟩)
   ·rename_i h';simp only[and_eq_true,Bool.not_eq_true']at d4;exact .inr (.inr ⟨by simpa using h,by simpa using h',d4.1.1,d4.1.2,d4.2⟩)
 cases h1 with
 |skip t want hg hb=>
  have hp':∀{e':Env} {O':List aa} {y:AV},e'=bB e i.dst y->qF P p lp e' O' (bB e' p.dst (.a9 [])) O':=by
   rintro e' O' y rfl;exact .skip t want hg (by rw[gp hg];exact hb)
  cases h2 with
  |skip t' mL wQ kD=>
   rw[gi wQ]at kD;refine⟨_,_,.skip t' mL wQ kD,?_⟩;rw[jU d2];exact hp' rfl
  |any y _ ha hkp hq hy=>
   refine⟨_,_,.any y O2 ha hkp (λ t' mL wQ=>by rw[←gi wQ];exact hq t' mL wQ) (hy.congr ri),?_⟩;rw[jU d2];exact hp' rfl
  |lab y vK ha hf hm hq hy=>
   refine⟨_,_,.lab y vK ha hf hm (λ t' mL wQ=>by rw[←gi wQ];exact hq t' mL wQ) (λ O' h1 h2=>(hy O' h1 h2).congr ri),?_⟩;rw[jU d2];exact hp' rfl
 |any x _ hap hkp hqp hx=>
  have hp':∀{e':Env} {y:AV},e'=bB e i.dst y->qF P p lp e' O (bB e' p.dst x) O1:=by
   rintro e' y rfl;exact .any x O1 hap hkp (λ t want hg=>by rw[gp hg];exact hqp t want hg) (hx.congr rp)
  have hpu:li.pure lp.k.keeps=true:=by
   rcases ahg with⟨_,h⟩|⟨h,_⟩|⟨h,_⟩
   ·exact h
   ·rw[hap]at h;cases h
   ·rw[hap]at h;cases h
  obtain⟨hrd,eu⟩:=agz hpu;cases h2 with
  |skip t' mL wQ kD=>
   rw[gi wQ]at kD;refine⟨_,_,.skip t' mL wQ kD,?_⟩;rw[jU d2];exact hp' rfl
  |any y _ ha _ hq hy=>rw[eu]at ha;cases ha
  |lab y vK ha hf hm hq hy=>
   have he:vK= .cu:=by rw[eu]at hf;cases vK<;>simp[Fit]at hf;rfl
   subst he;refine⟨_,_,.lab y .cu ha (by rw[eu];trivial) hm (λ t' mL wQ=>by rw[←gi wQ];exact hq t' mL wQ) (λ O' h1 h2=>(hy O' (λ n hn=>(h1 n hn).trans (hkp n (hrd n hn)).symm) (by rw[eu];simp[EK.gf])).congr ri),?_⟩;rw[jU d2];exact hp' rfl
 |lab x ase hap hfp hmp hqp hx=>
  cases h2 with
  |skip t' mL wQ kD=>
   rw[gi wQ]at kD;refine⟨_,_,.skip t' mL wQ kD,?_⟩;rw[jU d2];exact .lab x ase hap hfp hmp (λ t want hg=>by rw[gp hg];exact hqp t want hg) (λ O' h1 h2=>(hx O' h1 h2).congr rp)
  |any y _ ha hkp hq hy=>
   have hpu:lp.pure li.k.keeps=true:=by
    rcases ahg with⟨h,_⟩|⟨_,_,h⟩|⟨_,h,_⟩
    ·rw[hap]at h;cases h
    ·exact h
    ·rw[ha]at h;cases h
   obtain⟨hrd,eu⟩:=agz hpu;have he:ase= .cu:=by rw[eu]at hfp;cases ase<;>simp[Fit]at hfp;rfl
   subst he;refine⟨_,_,.any y O2 ha hkp (λ t' mL wQ=>by rw[←gi wQ];exact hq t' mL wQ) (hy.congr ri),?_⟩;rw[jU d2];exact .lab x .cu hap (by rw[eu];trivial) hmp (λ t want hg=>by rw[gp hg];exact hqp t want hg) (λ O' h1 h2=>(hx O' (λ n hn=>(h1 n hn).trans (hkp n (hrd n hn))) (by rw[eu];simp[EK.gf])).congr rp)
  |lab y aCF ha hf hm hq hy=>
   have hh:lp.k.tb li.rd=false/\li.k.tb lp.rd=false/\(lp.k.gf&&li.k.gf)=false:=by
    rcases ahg with⟨h,_⟩|⟨_,h,_⟩|⟨_,_,h⟩
    ·rw[hap]at h;cases h
    ·rw[ha]at h;cases h
    ·exact h
   obtain⟨hh1,hh2,hh3⟩:=hh
   have rj:∀n m,lp.k= .set n->li.k= .set m->n≠m:=by
    rintro n m hn hm' rfl;have:=hm n hm';rw[hn]at hh1;simp[EK.tb]at hh1;exact hh1 this
   have hps:∀n m,lp.k= .push n->li.k= .set m->n≠m:=by
    rintro n m hn hm' rfl;have:=hm n hm';rw[hn]at hh1;simp[EK.tb]at hh1;exact hh1 this
   obtain⟨c1,c2,c3⟩:=apF hfp hf hh3 rj hps;have a1:=ad9 hfp hh1;have a2:=ad9 c1 hh2;refine⟨_,_,.lab y aCF ha c1 hm (λ t' mL wQ=>by rw[←gi wQ];exact hq t' mL wQ) (λ O' h1 h2=>(hy O' (λ n hn=>(h1 n hn).trans (a1 n hn).symm) λ hpu=> ?_).congr ri),?_⟩
   ·rw[h2 hpu,akA hfp (by cases hlp:lp.k.gf with|false=>rfl|true=>rw[hlp,hpu]at hh3;cases hh3)]
   ·rw[jU d2,c3];refine .lab x ase hap c2 hmp (λ t want hg=>by rw[gp hg];exact hqp t want hg) (λ O' h1 h2=>(hx O' (λ n hn=>(h1 n hn).trans (a2 n hn)) λ hpu=> ?_).congr rp);rw[h2 hpu,akA c1 (by cases hli:li.k.gf with|false=>rfl|true=>rw[hli,hpu]at hh3;cases hh3)]
theorem aaw{P:Program}{i:aH×iD}{post:List (aH×iD)}:∀(pre:List (aH×iD)),(∀p∈pre,n9 p i=true)->∀{e e2:Env} {O O2:List aa},zF P (pre++i::post) e O e2 O2->zF P (i::(pre++post)) e O e2 O2
 | [],_,_,_,_,_,h=>h
 |p::pre,hp,e,e2,O,O2,h=>by
  cases h with
  |cons hs hr=>
   have:=aaw pre (λ q hq=>hp q (by simp[hq])) hr;cases this with
   |cons hi pF=>
    obtain⟨e1',oZ,s1,s2⟩:=aik (hp p (by simp)) hs hi;exact .cons s1 (.cons s2 pF)
end Go.Ab
namespace Go.Ab
theorem tj(rows:List (List Nat))(n:Nat):(zz rows n).length=n:=by
 induction n with
 |zero=>rfl
 |succ n ih=>simp[zz,ih]
theorem ace(rows:List (List Nat)){i n:Nat}(h:i<n):(zz rows n).getD i 0=(rows.getD i []).foldl (λ s j=>s|||(2^j|||(zz rows i).getD j 0)) 0:=by
 induction n with
 |zero=>omega
 |succ n ih=>
  simp only[zz];by_cases hi:i<n
  ·rw[List.getD,getElem?_append_left (by rw[tj];exact hi)];exact ih hi
  ·obtain rfl:i=n:=by omega
   rw[List.getD,getElem?_append_right (by rw[tj];exact le_refl _)];simp[tj]
theorem ahD(rows:List (List Nat)){i n m:Nat}(h:i<n)(h':i<m):(zz rows n).getD i 0=(zz rows m).getD i 0:=by
 rw[ace rows h,ace rows h']
theorem vU(f:Nat->Nat)(p:Nat):∀(l:List Nat) (s:Nat),(l.foldl (λ s j=>s|||(2^j|||f j)) s).testBit p=true->s.testBit p=true∨∃j∈l,p=j∨(f j).testBit p=true
 | [],s,h=> .inl h
 |j::l,s,h=>by
  rcases vU f p l _ h with h1|⟨k,hk,h1⟩
  ·rw[Nat.testBit_or,Nat.testBit_or]at h1;simp only[or_eq_true]at h1;rcases h1 with h1|h1|h1
   ·exact .inl h1
   ·rw[Nat.testBit_two_pow]at h1;exact .inr ⟨j,by simp,.inl (by simpa using(of_decide_eq_true h1).symm)⟩
   ·exact .inr ⟨j,by simp,.inr h1⟩
  ·exact .inr ⟨k,by simp[hk],h1⟩
theorem av0{rows:List (List Nat)}{n:Nat}{S:Nat->Prop}(ayi:∀i,i<n->∀d∈rows.getD i [],d<i)(hS:∀j,j<n->S j->∀d∈rows.getD j [],S d):
  ∀i,i<n->(∀d∈rows.getD i [],S d)->∀p,((zz rows n).getD i 0).testBit p=true->S p:=by
 intro i
 induction i using Nat.strongRecOn with
 |_ i ih=>
  intro hi hd p hp;rw[ace rows hi]at hp;rcases vU _ p _ _ hp with h|⟨j,hj,h⟩
  ·simp at h
  ·have uR:=ayi i hi j hj;rcases h with rfl|h
   ·exact hd p hj
   ·exact ih j uR (by omega) (hS j (by omega) (hd j hj)) p (by rw[ahD rows (show j<n by omega) uR];exact h)
section
variable {P:Program} {ops:Array Oper} {al:List (aH×iD)}
theorem agr{i:Nat}{o:Oper}(h:ops[i]? =some o):(rowsOf ops).getD i []=(o.after.toList.filter (Region.binds .any)).map (·.on):=by
 have:ops.toList[i]? =some o:=by simpa using h
 simp[rowsOf,List.getD,this]
theorem avE(hlen:al.length=ops.size)(oS:iR (rowsOf ops) al=true){e2:Env}{O2:List aa}:
  ∀(fuel t:Nat) (gH:Array Bool) (acc rem:List Nat) (e:Env) (O:List aa),gH.size=ops.size->rem.length<=fuel->rem.Pairwise (·<·)->(∀j,j∈rem↔j<ops.size/\gH.getD j true=false)->
   (∀j,j<ops.size->gH.getD j true=true->∀d∈(rowsOf ops).getD j [],gH.getD d true=true)->
   zF P (rem.map λ i=>al.getD i (⟨none,none,.aq (.c .top)⟩,⟨[],.any⟩)) e O e2 O2->
   ∃l,Region.linearise.go .any ops fuel t gH acc=acc.reverse++l/\zF P (l.map λ i=>al.getD i (⟨none,none,.aq (.c .top)⟩,⟨[],.any⟩)) e O e2 O2/\∀i∈l,i<ops.size:=by
 have au2:∀i,i<ops.size->(∀d∈(rowsOf ops).getD i [],d<i)/\∀p,p<i->((zz (rowsOf ops) ops.size).getD i 0).testBit p=true∨n9 (al.getD p (⟨none,none,.aq (.c .top)⟩,⟨[],.any⟩)) (al.getD i (⟨none,none,.aq (.c .top)⟩,⟨[],.any⟩))=true:=by
  intro i hi;unfold iR at oS;simp only[all_eq_true,List.mem_range,and_eq_true,or_eq_true,decide_eq_true_eq,hlen]at oS;obtain⟨h1,h2⟩:=oS i hi;refine⟨h1,λ p hp=> ?_⟩;rcases h2 p hp with h|h
  ·exact .inl h
  ·refine .inr ?_;have e1:al[p]? =some (al.getD p (⟨none,none,.aq (.c .top)⟩,⟨[],.any⟩)):=by simp[List.getD,show p<al.length by omega]
   have e2:al[i]? =some (al.getD i (⟨none,none,.aq (.c .top)⟩,⟨[],.any⟩)):=by simp[List.getD,show i<al.length by omega]
   rw[e1,e2]at h;exact h
 intro fuel
 induction fuel with
 |zero=>
  intro t gH acc rem e O ta hf hpw iP mS hr;obtain rfl:rem= []:=List.eq_nil_of_length_eq_zero (by omega);exact⟨[],by simp[Region.linearise.go],hr,by simp⟩
 |succ fuel ih=>
  intro t gH acc rem e O ta hf hpw iP mS hr;simp only[Region.linearise.go];generalize hrs:(List.range ops.size).filter (λ i=> !gH.getD i true&&((ops[i]?).map (·.after.all λ e=> !Region.binds .any e||gH.getD e.on false)).getD false)=rs;cases hg:rs[t%rs.length]? with
  |none=>
   have avi:rs= []:=by
    by_cases h0:rs.length=0
    ·exact List.eq_nil_of_length_eq_zero h0
    ·have:=Nat.mod_lt t (Nat.pos_of_ne_zero h0);rw[List.getElem?_eq_getElem this]at hg;cases hg
   have aBn:rem= []:=by
    cases rem with
    |nil=>rfl
    |cons i r=>
     exfalso;obtain⟨hi,hli⟩:=(iP i).1 (by simp)
     have aBB:∀d,d<i->gH.getD d true=true:=by
      intro d hdi;cases hld:gH.getD d true with
      |true=>rfl
      |false=>
       have hm:=(iP d).2 ⟨by omega,hld⟩;rcases List.mem_cons.1 hm with rfl|hm
       ·omega
       ·have:=List.rel_of_pairwise_cons hpw hm;omega
     have:i∈rs:=by
      rw[←hrs,List.mem_filter];refine⟨List.mem_range.2 hi,?_⟩;have ho:ops[i]? =some ops[i]:=by simp[hi]
      simp only[hli,Bool.not_false,Bool.true_and,ho,map_some,getD_some,Array.all_eq_true,or_eq_true];intro j hj;by_cases hbj:Region.binds .any (ops[i].after[j])=true;rotate_left
      ·exact .inl (by simpa using hbj)
      refine .inr ?_;have hdi:(ops[i].after[j]).on<i:=(au2 i hi).1 _ (by rw[agr ho];exact List.mem_map.2 ⟨_,List.mem_filter.2 ⟨Array.getElem_mem_toList hj,hbj⟩,rfl⟩);have:=aBB _ hdi;have aw:(ops[i].after[j]).on<gH.size:=by omega
      simp[Array.getD,aw]at this⊢;exact this
     rw[avi]at this;cases this
   subst aBn;exact⟨[],by simp,hr,by simp⟩
  |some i=>
   have hmi:i∈rs:=mem_of_getElem? hg;rw[←hrs,List.mem_filter]at hmi;obtain⟨hi,as8⟩:=hmi;have hi:i<ops.size:=List.mem_range.1 hi;have ho:ops[i]? =some ops[i]:=by simp[hi]
   simp only[ho,map_some,getD_some,and_eq_true,Bool.not_eq_true',Array.all_eq_true,or_eq_true]at as8;obtain⟨hli,m9⟩:=as8
   have ate:∀d∈(rowsOf ops).getD i [],gH.getD d true=true:=by
    intro d hdm;rw[agr ho]at hdm;obtain⟨ed,aB1,rfl⟩:=List.mem_map.1 hdm;obtain⟨hed,hbe⟩:=List.mem_filter.1 aB1;obtain⟨j,hj⟩:=getElem?_of_mem hed;obtain⟨hjl,hje⟩:=List.getElem?_eq_some_iff.1 hj;have aBO:j<ops[i].after.size:=by simpa using hjl
    have ayH:ops[i].after[j]=ed:=by simpa using hje
    rcases m9 j aBO with h|h
    ·rw[ayH,hbe]at h;simp at h
    ·rw[ayH]at h;by_cases aw:ed.on<gH.size
     ·simp[Array.getD,aw]at h⊢;exact h
     ·simp[Array.getD,aw]at h
   have ayL:i∈rem:=(iP i).2 ⟨hi,hli⟩;obtain⟨pre,post,rfl⟩:=List.append_of_mem ayL;have aoQ:=List.pairwise_append.1 hpw;have ajd:∀p∈pre,p<i:=λ p hp=>aoQ.2.2 p hp i (by simp)
   have ayq:∀p∈post,i<p:=λ p hp=>List.rel_of_pairwise_cons aoQ.2.1 hp
   have avd:=aaw (P:=P) (i:=al.getD i (⟨none,none,.aq (.c .top)⟩,⟨[],.any⟩)) (post:=post.map λ i=>al.getD i (⟨none,none,.aq (.c .top)⟩,⟨[],.any⟩)) (pre.map λ i=>al.getD i (⟨none,none,.aq (.c .top)⟩,⟨[],.any⟩)) (by
    intro q hq;obtain⟨p,hp,rfl⟩:=List.mem_map.1 hq;rcases(au2 i hi).2 p (ajd p hp)with h|h
    ·exfalso;have:=av0 (S:=λ j=>gH.getD j true=true) (λ j hj=>(au2 j hj).1) mS i hi ate p h;have hpm:=((iP p).1 (by simp[hp])).2;rw[hpm]at this;cases this
    ·exact h) (by simpa using hr)
   cases avd with
   |cons hs qo=>
    have bk:∀j,j∈pre++post->j≠i:=by
     intro j hj he;subst he;rcases List.mem_append.1 hj with h|h
     ·have:=ajd j h;omega
     ·have:=ayq j h;omega
    have rj:∀j,(gH.setIfInBounds i true).getD j true=if j=i then true else gH.getD j true:=by
     intro j;simp only[Array.getD_eq_getD_getElem?,Array.getElem?_setIfInBounds];by_cases uR:i=j
     ·subst uR;simp[ta,hi]
     ·rw[if_neg uR,if_neg (λ h=>uR h.symm)]
    obtain⟨l,h1,h2,h3⟩:=ih (t/rs.length) (gH.setIfInBounds i true) (i::acc) (pre++post) _ _ (by simp[ta]) (by simp at hf⊢;omega)
     (List.pairwise_append.2 ⟨aoQ.1,(List.pairwise_cons.1 aoQ.2.1).2,λ x hx y hy=>aoQ.2.2 x hx y (by simp[hy])⟩)
     (by
      intro j;rw[rj];constructor
      ·intro hj;rw[if_neg (bk j hj)];exact(iP j).1 (by rcases List.mem_append.1 hj with h|h<;>simp[h])
      ·rintro⟨hj1,hj2⟩;by_cases uR:j=i
       ·rw[if_pos uR]at hj2;cases hj2
       ·rw[if_neg uR]at hj2;have:=(iP j).2 ⟨hj1,hj2⟩;simp only[mem_append,List.mem_cons]at this⊢;rcases this with h|h|h
        ·exact .inl h
        ·exact(uR h).elim
        ·exact .inr h)
     (by
      intro j hj hlj d hd;rw[rj]at hlj⊢
      split
      ·rfl
      ·by_cases uR:j=i
       ·subst uR;exact ate d hd
       ·rw[if_neg uR]at hlj;exact mS j hj hlj d hd)
     (by simpa using qo)
    refine⟨i::l,by simp[h1],?_,λ j hj=> ?_⟩
    ·exact .cons hs h2
    ·rcases List.mem_cons.1 hj with rfl|h
     ·exact hi
     ·exact h3 j h
theorem aeK{mixed:Bool}(hd:Region.departs ops=false∨mixed=true)(hlen:al.length=ops.size)(oS:iR (rowsOf ops) al=true){e e2:Env}{O O2:List aa}(hr:zF P al e O e2 O2)(t:Nat):
  zF P ((Region.schedule mixed ops t).map λ i=>al.getD i (⟨none,none,.aq (.c .top)⟩,⟨[],.any⟩)) e O e2 O2/\∀i∈Region.schedule mixed ops t,i<ops.size:=by
 have hs:Region.schedule mixed ops t=Region.linearise .any ops t:=by rcases hd with hd|hd<;>simp[Region.schedule,hd]
 rw[hs]
 have m9:(List.range ops.size).map (λ i=>al.getD i (⟨none,none,.aq (.c .top)⟩,⟨[],.any⟩))=al:=by
  apply List.ext_getElem
  ·simp[hlen]
  ·intro i h1 h2;simp[List.getD,h2]
 obtain⟨l,h1,h2,h3⟩:=avE (P:=P) hlen oS ops.size t (Array.replicate ops.size false) [] (List.range ops.size) e O (by simp) (by simp) List.pairwise_lt_range
  (λ j=>by
   rw[List.mem_range];constructor
   ·intro h;exact⟨h,by simp[Array.getD,h]⟩
   ·exact λ h=>h.1)
  (λ j hj h=>by simp[Array.getD,hj]at h)
  (by rw[m9];exact hr)
 simp only[Region.linearise];rw[h1];simpa using⟨h2,h3⟩
end
end Go.Ab
