/- Part of a proof: the functions that the law reaches, walked by the abstract logic of the texts Ab. -/
import Derived.Test.YtdbbmffachgajaaGreatAbM1
import Derived.Laws.BytesArg
open Nat(le_refl zero_le lt_or_ge)
open Bool(and_eq_true not_eq_true' or_eq_true)
open Option(bind_eq_bind bind_eq_some_iff getD_none getD_some map_eq_some_iff map_none map_some)
open List(getElem?_of_mem mem_of_getElem? getElem?_set getElem?_append_left getElem?_map getElem?_append_right length_map all_eq_true map_congr_left getElem?_set_ne getElem?_set_self map_cons map_nil mem_append append_assoc mem_range mem_filter ext_getElem)
set_option linter.unusedVariables false
set_option linter.unusedSimpArgs false
namespace Go.Ab
section
variable {P:Program} {I:eW} {L:Nat->Loc} {O:List aj} {w:World} {K:AV->List aj->Prop} {e:Env} {a:Act}
variable {d:Option Tmp} {ty:TypeId} {pos:String} {af:Array Edge} {g:Option (Nat×Bool)} {ao:gj}
theorem aBp(hi:Inv I L O w)(he:∀t,R I L O (e t) (a.tmps.getD t undef)){op:BinOp}{t u:TypeId}{x y:Operand}(hc:eY P ty (.binOp op t x y u)=some ao)(hk:wpOp P ao e O K):
  kC P I L O w (execOp a.eval ⟨d,.binOp op t x y u,ty,pos,af,g⟩) K:=by
 simp only[eY]at hc
 split at hc
 ·rename_i hb;simp only[bind_eq_bind,bind_eq_some_iff,Option.some.injEq]at hc;obtain⟨ax,hx,ay,hy,rfl⟩:=hc;have rx:=aO hx he;have ry:=aO hy he;simp only[wpOp]at hk
  split at hk
  ·rename_i p q hp hq;rw[hp]at rx;rw[hq]at ry;have h1:=rx.bool;have h2:=ry.bool
   have key:(op= .eql∨op= .neq)/\P.underlying t=some .bool:=by
    unfold ann at hb
    split at hb
    ·rename_i h;exact⟨.inl rfl,h⟩
    ·rename_i h;exact⟨.inr rfl,h⟩
    ·cases hb
   obtain⟨hop,ht⟩:=key;refine kC.same hi hk (.v _ rfl) ?_;simp only[execOp,h1,h2]
   have he:(Op.equal t (.bool p) (.bool q)).run P w= .ok (p==q) w:=by
    have e1:Op.equal t (.bool p) (.bool q)=Op.equalIn (9999+1) t (.bool p) (.bool q):=rfl;rw[e1,Op.equalIn];simp[run_underlying ht]
   rcases hop with rfl|rfl
   ·simp[eqGuard,Go.binOp,he,tO]
   ·simp[eqGuard,Go.binOp,he,tO]
  ·exact hk.elim
 simp only[bind_eq_bind,bind_eq_some_iff,Option.some.injEq]at hc;obtain⟨ax,hx,ay,hy,rfl⟩:=hc;have rx:=aO hx he;have ry:=aO hy he;simp only[wpOp]at hk;generalize ax.ev e=A at rx hk;generalize ay.ev e=B at ry hk;cases A<;>cases B<;>simp only at hk
 rename_i p q;cases hz:oj op p q with
 |none=>simp only[hz]at hk
 |some z=>
  simp only[hz]at hk;have h1:=rx.exact;have h2:=ry.exact;obtain⟨hr,ho⟩:=axm (P:=P) hz t x y w;refine kC.same hi hk (.v z ho) ?_;simp only[execOp,h1,h2];rw[Sem.run_bind,hr]
  rfl
theorem aGz(hi:Inv I L O w)(he:∀t,R I L O (e t) (a.tmps.getD t undef)){op:UnOp}{t:TypeId}{x:Operand}(hc:eY P ty (.unOp op t x)=some ao)(hk:wpOp P ao e O K):
  kC P I L O w (execOp a.eval ⟨d,.unOp op t x,ty,pos,af,g⟩) K:=by
 simp only[eY,bind_eq_bind,bind_eq_some_iff,Option.some.injEq]at hc;obtain⟨ax,hx,rfl⟩:=hc;have rx:=aO hx he;simp only[wpOp]at hk;generalize ax.ev e=A at rx hk;cases A<;>simp only at hk
 rename_i p;cases hz:sun op p with
 |none=>simp only[hz]at hk
 |some z=>
  simp only[hz]at hk;have h1:=rx.exact;obtain⟨hr,ho⟩:=aA7 (P:=P) hz w;refine kC.same hi hk (.v z ho) ?_;simp only[execOp,h1];rw[Sem.run_bind,hr]
  rfl
theorem amP(hi:Inv I L O w)(he:∀t,R I L O (e t) (a.tmps.getD t undef)){s t:TypeId}{x:Operand}(hc:eY P ty (.convert s t x)=some ao)(hk:wpOp P ao e O K):
  kC P I L O w (execOp a.eval ⟨d,.convert s t x,ty,pos,af,g⟩) K:=by
 simp only[eY]at hc
 split at hc
 ·rename_i k1 k2 hs ht;simp only[bind_eq_bind,bind_eq_some_iff,Option.some.injEq]at hc;obtain⟨ax,hx,rfl⟩:=hc;have rx:=aO hx he;simp only[wpOp]at hk;generalize ax.ev e=A at rx hk;cases A
  case v p=>
   cases p
   case int k n=>
    have h1:=rx.exact;refine kC.same hi hk (.v _ rfl) ?_;simp only[execOp,h1];simp[convert,run_underlying hs,run_underlying ht,Conv.intToInt]
   all_goals exact hk.elim
  all_goals exact hk.elim
 ·cases hc
theorem atj(hi:Inv I L O w)(he:∀t,R I L O (e t) (a.tmps.getD t undef)){t:TypeId}{x:Operand}{f:Nat}(hc:eY P ty (.fieldAddr t x f)=some ao)(hk:wpOp P ao e O K):
  kC P I L O w (execOp a.eval ⟨d,.fieldAddr t x f,ty,pos,af,g⟩) K:=by
 simp only[eY]at hc
 split at hc
 ·rename_i fs hs;simp only[bind_eq_bind,bind_eq_some_iff]at hc;obtain⟨fd,hf,i,hfi,hc⟩:=hc
  split at hc
  ·rename_i ahx;simp only[bind_eq_some_iff,Option.some.injEq]at hc;obtain⟨ax,hx,rfl⟩:=hc;have rx:=aO hx he;simp only[wpOp]at hk;generalize ax.ev e=A at rx hk;generalize hX:a.eval x=X at rx
   have gC:∀b o,(Instr.fieldAt t (.pointer (some ⟨b,o,none⟩)) f).run P w= .ok (.pointer (some ⟨b,o+fd.offset,none⟩)) w:=by
    intro b o;simp[Instr.fieldAt,run_underlying hs,hf,Instr.sureAddr,fieldPlace,sizeOf,typeInfo,hfi,Nat.ne_of_gt ahx,add_lit]
   cases A
   case bW y q=>
    cases rx with
    |bW _ _ bO base cg hv hr=>
     refine kC.same hi hk (.bW y (q+fd.offset) bO base cg hv hr) ?_;simp only[execOp,hX];simp[gC,Nat.add_assoc]
   case ptr n len j q=>
    cases hO:O[n]? with
    |none=>simp only[hO]at hk
    |some ob=>
     cases ob with
     |dead=>simp only[hO]at hk
     |own a=>simp only[hO]at hk
     |jq g=>simp only[hO]at hk
     |nil t' s'=>simp only[hO]at hk
     |live t' s xs=>
      simp only[hO]at hk;have:=rx.qc hO hk.1;subst this;refine kC.same hi hk.2 (.fB n len j (q+fd.offset) t' s xs hO hk.1) ?_;simp only[execOp,hX];simp[gC,Nat.add_assoc]
   all_goals exact hk.elim
  ·cases hc
 ·cases hc
theorem aBl(hi:Inv I L O w)(he:∀t,R I L O (e t) (a.tmps.getD t undef)){t:TypeId}{x:Operand}{f:Nat}(hc:eY P ty (.field t x f)=some ao)(hk:wpOp P ao e O K):
  kC P I L O w (execOp a.eval ⟨d,.field t x f,ty,pos,af,g⟩) K:=by
 simp only[eY]at hc
 split at hc
 ·rename_i fs hs;simp only[bind_eq_bind,bind_eq_some_iff,Option.some.injEq]at hc;obtain⟨fd,hf,n,hn,ax,hx,rfl⟩:=hc;have rx:=aO hx he;obtain⟨h1,h2,h3⟩:=hk;generalize ax.ev e=A at rx h1 h2 h3;generalize hX:a.eval x=X at rx;rw[AV.vt h1]at rx;cases rx with
  |agg _ vs hl hr=>
   have cV:fd.offset+n.getD 1<=vs.size:=by omega
   refine kC.same hi h3 (y:=yO n λ j=>vs.getD (fd.offset+j) undef) (qU h2 λ j c hj aK=>hr _ c _ hj (by simp[Array.getD,show fd.offset+j<vs.size by omega])) ?_;unfold aa4 at hn;simp only[bind_eq_bind,bind_eq_some_iff]at hn;obtain⟨dd,hd,i,hii,hn⟩:=hn;simp only[execOp,hX];cases n with
   |none=>
    have hag:agd dd=false:=by
     by_cases h:agd dd=true
     ·rw[if_pos h]at hn;split at hn<;>simp at hn
     ·simpa using h
    have aK:fd.offset<vs.size:=by simp only[getD_none]at cV;omega
    have h0:vs[fd.offset]? =some (vs.getD fd.offset undef):=by rw[Array.getElem?_eq_getElem aK];simp[Array.getD,aK]
    generalize vs.getD fd.offset undef=q at h0;simp[Instr.field,run_underlying hs,hf,asAgg,part,vD hd,hag,h0,yO]
   |some m=>
    have hag:agd dd=true/\i.size=m:=by
     by_cases h:agd dd=true
     ·rw[if_pos h]at hn;split at hn<;>simp at hn;exact⟨h,hn⟩
     ·rw[if_neg h]at hn;simp at hn
    have hex:vs.extract fd.offset (fd.offset+m)=((List.range m).map λ j=>vs.getD (fd.offset+j) undef).toArray:=by
     apply Array.ext
     ·simp only[getD_some]at cV;simp;omega
     ·intro j hj1 hj2;simp only[getD_some]at cV;simp at hj1 hj2;simp[Array.getD,show fd.offset+j<vs.size by omega]
    simp[Instr.field,run_underlying hs,hf,asAgg,part,vD hd,hag.1,sizeOf,typeInfo,hii,hag.2,hex,yO]
 ·cases hc
theorem axx(hi:Inv I L O w)(he:∀t,R I L O (e t) (a.tmps.getD t undef)){x:Operand}(hc:eY P ty (.nilCheck x)=some ao)(hk:wpOp P ao e O K):
  kC P I L O w (execOp a.eval ⟨d,.nilCheck x,ty,pos,af,g⟩) K:=by
 simp only[eY,bind_eq_bind,bind_eq_some_iff,Option.some.injEq]at hc;obtain⟨ax,hx,rfl⟩:=hc;have rx:=aO hx he;simp only[wpOp]at hk;generalize ax.ev e=A at rx hk;generalize hX:a.eval x=X at rx;cases A
 case bW y q=>
  cases rx with
  |bW _ _ bO base cg hv hr=>
   exact kC.same hi hk (.bW y q bO base cg hv hr) (by simp only[execOp,hX];simp)
 case fn f bl=>
  cases rx with
  |fn _ _ vs h1 h2=>
   exact kC.same hi hk (.fn f bl vs h1 h2) (by simp only[execOp,hX];simp)
 case ptr n len j q=>
  cases hO:O[n]? with
  |none=>simp only[hO]at hk
  |some ob=>
   cases ob with
   |dead=>simp only[hO]at hk
   |own a=>simp only[hO]at hk
   |jq g=>simp only[hO]at hk
   |nil t' s'=>simp only[hO]at hk
   |live t' s xs=>
    simp only[hO]at hk;have:=rx.qc hO hk.1;subst this;exact kC.same hi hk.2 rx (by simp only[execOp,hX];simp)
 all_goals exact hk.elim
theorem aBm(hi:Inv I L O w)(he:∀t,R I L O (e t) (a.tmps.getD t undef)){x:Operand}{i:Nat}(hc:eY P ty (.extract x i)=some ao)(hk:wpOp P ao e O K):
  kC P I L O w (execOp a.eval ⟨d,.extract x i,ty,pos,af,g⟩) K:=by
 simp only[eY,bind_eq_bind,bind_eq_some_iff,Option.some.injEq]at hc;obtain⟨ax,hx,rfl⟩:=hc;have rx:=aO hx he;simp only[wpOp]at hk;generalize ax.ev e=A at rx hk;generalize hX:a.eval x=X at rx;cases A<;>simp only at hk
 rename_i vs;obtain⟨aK,hk⟩:=hk;cases rx with
 |aZ _ us h1 h2=>
  have hu:us[i]? =some (us[i]'(by omega)):=by simp
  refine kC.same hi hk (h2 i _ _ (by simp[List.getD,aK]) hu) ?_;generalize us[i]'(by omega)=q at hu;simp only[execOp,hX];simp[Instr.extract,hu]
theorem axy(hi:Inv I L O w)(he:∀t,R I L O (e t) (a.tmps.getD t undef)){fn:Fn}{first bl:Array Operand}(hc:eY P ty (.makeFunc fn first bl)=some ao)(hk:wpOp P ao e O K):
  kC P I L O w (execOp a.eval ⟨d,.makeFunc fn first bl,ty,pos,af,g⟩) K:=by
 cases fn<;>simp only[eY]at hc
 case func f=>
  split at hc
  ·rename_i hfe;simp only[bind_eq_bind,bind_eq_some_iff,Option.some.injEq]at hc;obtain⟨as,has,rfl⟩:=hc;obtain rfl:first= #[]:=by simpa using hfe
   obtain⟨h1,h2⟩:=abX has he;refine kC.same hi hk (y:= .func (.func f) #[] (bl.map a.eval)) (.fn f _ _ (by simpa using h1) λ i c x hc hx=>h2 i c x hc (by simpa using hx)) ?_;simp[execOp,Instr.makeFunc]
  ·cases hc
 all_goals cases hc
end
section
variable {P:Program} {I:eW} {L:Nat->Loc} {O:List aj} {w:World} {K:AV->List aj->Prop} {e:Env} {a:Act}
variable {d:Option Tmp} {ty:TypeId} {pos:String} {af:Array Edge} {g:Option (Nat×Bool)} {ao:gj}
theorem nH{t el:TypeId}(h:xW P t=some el):P.underlying t=some (.slice el):=by
 unfold xW at h
 split at h
 ·rename_i x hx;cases h;exact hx
 ·cases h
theorem atk(hi:Inv I L O w)(he:∀t,R I L O (e t) (a.tmps.getD t undef)){t:TypeId}{parts:Array (Nat×Operand)}(hc:eY P ty (.build t parts)=some ao)(hk:wpOp P ao e O K):
  kC P I L O w (execOp a.eval ⟨d,.build t parts,ty,pos,af,g⟩) K:=by
 simp only[eY]at hc
 split at hc
 ·rename_i fs hs;simp only[bind_eq_bind,bind_eq_some_iff,Option.some.injEq]at hc;obtain⟨⟨s,b,z⟩,hz,apk,hpl,ps,hps,rfl⟩:=hc;obtain⟨i,z0,h1,h2,h3,rfl,rfl,h4,h5,h6,h7⟩:=nI hz;have rz:=(lX (I:=I) (L:=L) (O:=O) h3).cells (pV h7);have hz0:RCs I L O z.cells z0.cells:=⟨rz.1,λ j c y hj hy=>by obtain⟨y',wS,hr⟩:=rz.2 j c hj;rw[hy]at wS;cases wS;exact hr⟩;obtain⟨zs,rJ,m1,m2,m3⟩:=zC he parts.toList ps z.cells z0.cells hz0 hps hk
  have aNG:=m3 (λ i=>apk.toArray[i]?) (λ j f n hj hn=>by
   obtain⟨q1,q2⟩:=mapM_some hpl;have aK:j<apk.length:=by rw[q1];simpa using(Array.getElem?_eq_some_iff.1 hj).1
   have:=q2 j f apk[j] (by simpa using hj) (by simp);rw[hn]at this;simp at this;simp[aK,this])
  have hb:P.built t (parts.map λ (i,x)=>(i,a.eval x)).toList=some rJ:=by
   simp only[Program.built,h1,hs,h2,hpl];simpa using aNG
  refine kC.same hi m1 (y:= .agg rJ) (.agg _ _ m2.1 m2.2) ?_;simp only[execOp];rw[Sem.run_bind,run_build w t _ rJ hb]
  rfl
 ·rename_i m el hs
  split at hc
  ·rename_i aQZ;simp only[bind_eq_bind,bind_eq_some_iff,Option.some.injEq]at hc;obtain⟨⟨s,b,z⟩,hz,ie,hie,rfl⟩:=hc;obtain⟨i,z0,h1,h2,h3,rfl,rfl,h4,h5,h6,h7⟩:=nI hz;have rz:=(lX (I:=I) (L:=L) (O:=O) h3).cells (pV h7);have hp:parts= #[]:=by simpa using aQZ
   subst hp
   have hb:P.built t (Array.map (λ (i,x)=>(i,a.eval x)) #[]).toList=some z0.cells:=by
    simp only[Program.built,h1,hs,h2,hie];simp[Instr.fill]
   simp only[wpOp,lW]at hk;refine kC.same hi hk (y:= .agg z0.cells) (.agg _ _ rz.1 λ j c y hj hy=>by obtain⟨y',wS,hr⟩:=rz.2 j c hj;rw[hy]at wS;cases wS;exact hr) ?_;simp only[execOp];rw[Sem.run_bind,run_build w t _ z0.cells hb]
   rfl
  ·cases hc
 ·cases hc
theorem aeB(hi:Inv I L O w)(he:∀t,R I L O (e t) (a.tmps.getD t undef)){t:TypeId}{len:Nat}{parts:Array (Nat×Operand)}(hc:eY P ty (.buildSlice t len parts)=some ao)(hk:wpOp P ao e O K):
  kC P I L O w (execOp a.eval ⟨d,.buildSlice t len parts,ty,pos,af,g⟩) K:=by
 simp only[eY,bind_eq_bind,bind_eq_some_iff]at hc;obtain⟨el,ez,⟨s,b,z⟩,hz,ps,hps,hc⟩:=hc
 split at hc
 ·rename_i auh;simp only[Option.some.injEq]at hc;subst hc;have ht:=nH ez;obtain⟨i,z0,h1,h2,h3,rfl,rfl,h4,h5,h6,h7⟩:=nI hz;have ay1:=lY.made (I:=I) (L:=L) (O:=O) (cap:=len) (n:=len) (lX h3) h7 h4 h5 (le_refl _);obtain⟨mW,c',m1,m2,m3,m4,m5⟩:=xr he parts.toList ps _ _ ay1 (by simp) hps hk
  have aug:len<=maxLen:=by
   have h8:len*1<=len*i.size:=Nat.mul_le_mul_left _ h5;simp only at auh;simp only[maxLen];omega
  have oZ:=hi.new (e:=el) (s:=i.size) (xs:=mW) c' len (by rw[m4];simp) (by simpa using(Nat.le_of_eq m3)) aug h5 m2;have hr:=R.dX (I:=I) (L:=λ k=>if k=O.length then Loc.at w.heap.size (len)else L k) (O:=O++ [.live el i.size mW]) O.length len el i.size mW (by simp) (by simpa using m3);refine⟨_,_,.slice (some ⟨w.heap.size,0,none⟩) len len,_,_,_,m1,oZ,by simpa using hr,.inl ?_⟩;have hns:¬(len*i.size>2^24):=by simpa using auh
  simp only[execOp];by_cases h0:len*i.size=0
  ·have hl0:len=0:=by rcases Nat.mul_eq_zero.1 h0 with h|h<;>omega
   subst hl0;simp[Array.range_zero']at m5;simp[Instr.buildSlice,run_underlying ht,sizeOf,typeInfo,h1,m5,newRow,Array.range_zero']
  ·simp[Instr.buildSlice,run_underlying ht,sizeOf,typeInfo,h1,hns,h0,zeroValue,h2,m5,newRow]
 ·cases hc
theorem Inv.aPX(h:Inv I L O w){el s:Nat}{xs:List AV}(c:Array Value)(cap:Nat)(hx:xs.length<=cap)(hn:∀(i:Nat) x,xs[i]? =some x->∀(j:Nat) a,x.cells[j]? =some a->∀{I':eW} {L':Nat->Loc} {O':List aj} {v:Value},(∀b o x,I b o=some x->I' b o=some x)->R I L O a v->R I' L' O' a v)
  (hr:∀(i:Nat) x,xs[i]? =some x->x.cells.length=s/\∀(j:Nat) a,x.cells[j]? =some a->∃y,c[i*s+j]? =some y/\y.oneCell'=true/\R I L O a y):
  ∃I',Good I L O w I' L O (w.alloc (.cells c el))/\R I' L O (.sl xs) (.slice (some ⟨w.heap.size,0,none⟩) xs.length cap):=by
 have jB:(w.alloc (.cells c el)).heap[w.heap.size]? =some (.cells c el (0,0)):=heap_alloc_new w _;have hold:∀b,b<w.heap.size->(w.alloc (.cells c el)).heap[b]? =w.heap[b]? :=λ b hb=>heap_alloc_old w _ b hb
 have aK:∀{b o x},I b o=some x->b<w.heap.size:=λ hx=>nG (h.ni _ _ _ hx)
 have iu:∀b o x,I b o=some x->(λ b o=>if b=w.heap.size then(w.alloc (.cells c el)).cell? ⟨b,o,none⟩else I b o) b o=some x:=by
  intro b o x hx;have:=aK hx
  show(if b=w.heap.size then _ else I b o)=_;rw[if_neg (by omega)];exact hx
 have tR:∀{b o},b<w.heap.size->(w.alloc (.cells c el)).cell? ⟨b,o,none⟩=w.cell? ⟨b,o,none⟩:=by
  intro b o hb;simp only[World.cell?];rw[hold b hb]
 have hE:Ext I L O (λ b o=>if b=w.heap.size then(w.alloc (.cells c el)).cell? ⟨b,o,none⟩else I b o) L O:=
  ⟨iu,le_refl _,λ n hn e k ys hy=> .inl ⟨ys,hy,le_refl _,λ _=>rfl⟩,λ _ _ _ _ h=>h,λ _ _ a h=>⟨⟨a,h⟩,rfl⟩,λ _ _ a h=>⟨⟨a,h,rfl⟩,rfl⟩⟩
 have oN:∀{n e k ys},O[n]? =some (.live e k ys)->(L n).bO<w.heap.size:=by
  intro n e k ys hn;obtain⟨c',⟨_,h1,_⟩,_⟩:=h.obj n e k ys hn;exact(Array.getElem?_eq_some_iff.1 h1).1
 refine⟨λ b o=>if b=w.heap.size then(w.alloc (.cells c el)).cell? ⟨b,o,none⟩else I b o,⟨⟨λ b o x hx=> ?_,λ n e k ys hn=> ?_,h.sep,λ n e k ys o hn=> ?_,λ p hp=>iu _ _ _ (h.fix p hp),h.zF (λ b hb _=>hold b hb) iu,h.ow.step (λ _ _ h=>⟨h,rfl⟩) (λ b o v hv=> ?_) (λ m e s xs hm=> .inl ⟨m,e,s,xs,hm,rfl⟩) (λ b hb _=>hold b hb),h.gh.step (λ _ _ h=>⟨h,rfl⟩) (λ _ _ hr=>hr.mono hE) λ b hb=>hold b hb.1⟩,hE,⟨rfl,rfl,rfl,by simp,λ b hb _=>hold b hb⟩,λ _ hb=> .inl hb,λ b o x hx=> ?_⟩,?_⟩
 ·by_cases hb:b=w.heap.size
  ·rw[if_pos hb]at hx;exact hx
  ·rw[if_neg hb]at hx;rw[tR (aK hx)];exact h.ni b o x hx
 ·exact(h.obj n e k ys hn).congr (hold _ (oN hn)) λ _ _ hr=>hr.mono hE
 ·have:=oN hn
  show(if(L n).bO=w.heap.size then _ else I (L n).bO o)=_;rw[if_neg (by omega)];exact h.gf n e k ys o hn
 ·by_cases hb:b=w.heap.size
  ·exact .inr (.inr (by omega))
  ·rw[if_neg hb]at hv;exact .inl ⟨o,v,hv⟩
 ·by_cases hb:b=w.heap.size
  ·exact .inr (.inr (by omega))
  ·rw[if_neg hb]at hx;exact .inl hx
 ·by_cases hxs:xs= []
  ·subst hxs;exact .oX _ _
  ·refine(.sl xs w.heap.size 0 cap s (λ i j=>(c[i*s+j]?).getD undef) hx hxs (λ i x hx=>(hr i x hx).1) (λ i x j d hx hj=> ?_) λ i x j d hx hj=> ?_)
   ·obtain⟨y,hy,ho,_⟩:=(hr i x hx).2 j d hj
    show(if w.heap.size=w.heap.size then _ else _)=_/\_;rw[if_pos rfl,Nat.zero_add,gD jB,hy];exact⟨rfl,ho⟩
   ·obtain⟨y,hy,ho,lV⟩:=(hr i x hx).2 j d hj;rw[hy];exact hn i x hx j d hj iu lV
end
section
variable {P:Program} {I:eW} {L:Nat->Loc} {O:List aj} {w:World} {K:AV->List aj->Prop} {e:Env} {a:Act}
variable {d:Option Tmp} {ty:TypeId} {pos:String} {af:Array Edge} {g:Option (Nat×Bool)} {ao:gj}
theorem ati(hi:Inv I L O w)(he:∀t,R I L O (e t) (a.tmps.getD t undef)){t:TypeId}{x y:Operand}(hc:eY P ty (.indexAddr t x y)=some ao)(hk:wpOp P ao e O K):
  kC P I L O w (execOp a.eval ⟨d,.indexAddr t x y,ty,pos,af,g⟩) K:=by
 simp only[eY]at hc;simp only[bind_eq_bind,bind_eq_some_iff,Option.some.injEq]at hc;obtain⟨el,ez,inf,we,ax,hx,ay,hy,rfl⟩:=hc;have ht:=nH ez;have rx:=aO hx he;have ry:=aO hy he;simp only[wpOp]at hk;generalize ax.ev e=A at rx hk;generalize ay.ev e=B at ry hk;generalize hX:a.eval x=X at rx;generalize hY:a.eval y=Y at ry
 have gC:∀(kk:IntKind) (b o n c:Nat) (j:Int),0<=j->j<n->(Instr.indexAt t (.slice (some ⟨b,o,none⟩) n c) (.int kk j)).run P w= .ok (.pointer (some ⟨b,o+j.toNat*inf.size,none⟩)) w:=by
  intro kk b o n c j h0 h1;simp[Instr.indexAt,asIntOf,run_underlying ht,sizeOf,typeInfo,we,h0,h1,add_lit]
 cases A
 case sl xs=>
  cases B
  case v p=>
   cases p
   case int kk j=>
    obtain⟨h0,h1,h2,hk⟩:=hk;have:=ry.exact;subst this;have aK:j.toNat<xs.length:=by omega
    have hx':xs[j.toNat]? =some (xs.getD j.toNat .top):=by simp[List.getD,aK]
    cases rx with
    |oX=>simp at h1;omega
    |sl _ bO off cap s cg q1 q2 q3 q4 q5=>
     have hs:s=inf.size:=by rw[←q3 _ _ hx',h2]
     subst hs;refine kC.same hi hk (y:= .pointer (some ⟨bO,off+j.toNat*inf.size+0,none⟩)) (.bW _ 0 bO (off+j.toNat*inf.size) (cg j.toNat) (λ k c hc=>q4 _ _ k c hx' hc) (λ k c hc=>q5 _ _ k c hx' hc)) ?_;simp only[execOp,hX,hY];simp[gC _ _ _ _ _ _ h0 h1]
   all_goals exact hk.elim
  all_goals exact hk.elim
 case row n len=>
  cases B
  case v p=>
   cases p
   case int kk j=>
    have:=ry.exact;subst this;cases hO:O[n]? with
    |none=>simp only[hO]at hk
    |some ob=>
     cases ob with
     |dead=>simp only[hO]at hk
     |own a=>simp only[hO]at hk
     |jq g=>simp only[hO]at hk
     |nil t' s'=>simp only[hO]at hk
     |live t' s xs=>
      simp only[hO]at hk;obtain⟨rfl,hl,h0,h1,hk⟩:=hk;have:=rx.iL hO hl;subst this;refine kC.same hi hk (.fB n len j.toNat 0 t' inf.size xs hO hl) ?_;simp only[execOp,hX,hY];simp[gC _ _ _ _ _ _ h0 h1]
   all_goals exact hk.elim
  all_goals exact hk.elim
 all_goals exact hk.elim
theorem ath(hi:Inv I L O w)(he:∀t,R I L O (e t) (a.tmps.getD t undef)){t:TypeId}{x y:Operand}(hc:eY P ty (.index t x y)=some ao)(hk:wpOp P ao e O K):
  kC P I L O w (execOp a.eval ⟨d,.index t x y,ty,pos,af,g⟩) K:=by
 simp only[eY]at hc
 split at hc
 ·rename_i ht;simp only[bind_eq_bind,bind_eq_some_iff,Option.some.injEq]at hc;obtain⟨ax,hx,ay,hy,rfl⟩:=hc;have rx:=aO hx he;have ry:=aO hy he;simp only[wpOp]at hk;generalize ax.ev e=A at rx hk;generalize ay.ev e=B at ry hk;generalize hX:a.eval x=X at rx;generalize hY:a.eval y=Y at ry;cases A
  case v p=>
   cases p
   case string s=>
    cases B
    case v q=>
     cases q
     case int kk j=>
      obtain⟨h0,h1,hk⟩:=hk;have e1:=rx.exact;have e2:=ry.exact;subst e1;subst e2;have aK:j.toNat<s.size:=by omega
      have hb:s[j.toNat]? =some (s.data.toList.getD j.toNat 0):=by
       rw[getElem?_pos s j.toNat aK];have hl2:j.toNat<s.data.toList.length:=by simpa using aK
       simp only[List.getD,List.getElem?_eq_getElem hl2,getD_some,Option.some.injEq]
       rfl
      refine kC.same hi hk (.v _ rfl) ?_;simp only[execOp,hX,hY];generalize s.data.toList.getD j.toNat 0=q at hb;simp[Instr.index,asIntOf,run_underlying ht,h0,hb]
     all_goals exact hk.elim
    all_goals exact hk.elim
   all_goals exact hk.elim
  all_goals exact hk.elim
 ·cases hc
theorem axA(hi:Inv I L O w)(he:∀t,R I L O (e t) (a.tmps.getD t undef)){t:TypeId}{x:Operand}(ht:P.underlying t=some .string){ax:bj}(hx:dQ x=some ax)(hk:wpOp P (.oz ax) e O K):
  ∃x' y,K x' O/\R I L O x' y/\(Builtin.len_ #[t] ty #[a.eval x]).run P w= .ok y w:=by
 have rx:=aO hx he;simp only[wpOp]at hk;generalize ax.ev e=A at rx hk;generalize a.eval x=X at rx;cases A
 case v p=>
  cases p
  case string s=>
   have e1:=rx.exact;subst e1;exact⟨_,.int .i64 s.size,hk,.v _ rfl,by simp[Builtin.len_,run_underlying ht,goInt]⟩
  all_goals exact hk.elim
 all_goals exact hk.elim
theorem axB(hi:Inv I L O w)(he:∀t,R I L O (e t) (a.tmps.getD t undef)){t el:TypeId}{x:Operand}(ht:P.underlying t=some (.slice el)){ax:bj}(hx:dQ x=some ax)(hk:wpOp P (.ch ax) e O K):
  ∃x' y,K x' O/\R I L O x' y/\(Builtin.len_ #[t] ty #[a.eval x]).run P w= .ok y w:=by
 have rx:=aO hx he;simp only[wpOp]at hk;generalize ax.ev e=A at rx hk;generalize a.eval x=X at rx
 have hs:∀b n c,(Builtin.len_ #[t] ty #[.slice b n c]).run P w= .ok (.int .i64 n) w:=by
  intro b n c;simp[Builtin.len_,run_underlying ht,goInt]
 cases A
 case an=>cases rx;exact⟨_,.int .i64 0,hk,.v _ rfl,hs none 0 0⟩
 case sl xs=>
  cases rx with
  |oX b c=>exact⟨_,.int .i64 0,hk,.v _ rfl,hs b 0 c⟩
  |sl _ bO off cap s cg=>exact⟨_,.int .i64 xs.length,hk,.v _ rfl,hs _ _ _⟩
 case row n len=>
  cases hO:O[n]? with
  |none=>simp only[hO]at hk
  |some ob=>
   cases ob with
   |dead=>simp only[hO]at hk
   |own a=>simp only[hO]at hk
   |jq g=>simp only[hO]at hk
   |nil t' s'=>
    simp only[hO]at hk;obtain⟨rfl,hk⟩:=hk;obtain⟨rfl,_⟩:=rx.qO hO;exact⟨_,.int .i64 0,hk,.v _ rfl,hs _ _ _⟩
   |live t' s xs=>
    simp only[hO]at hk;have:=rx.iL hO hk.1;subst this;exact⟨_,.int .i64 len,hk.2,.v _ rfl,hs _ _ _⟩
 all_goals exact hk.elim
theorem mo{x:Option Operand}{ax:Option bj}(hx:x.mapM dQ=some ax)(he:∀t,R I L O (e t) (a.tmps.getD t undef)){auC:Int}{M:Int->Prop}(h:iw auC e ax M):
  ∃i:Int,M i/\((x=none/\i=auC)∨∃o k,x=some o/\a.eval o= .int k i):=by
 cases x with
 |none=>simp at hx;subst hx;exact⟨auC,h,.inl ⟨rfl,rfl⟩⟩
 |some o=>
  simp only[Option.mapM_some,Option.map_eq_map,map_eq_some_iff]at hx;obtain⟨ao,hao,rfl⟩:=hx;have r:=aO hao he;simp only[iw]at h;generalize ao.ev e=A at r h;cases A
  case v p=>
   cases p
   case int k i=>exact⟨i,h,.inr ⟨o,k,rfl,r.exact⟩⟩
   all_goals exact h.elim
  all_goals exact h.elim
theorem run_sliceBound{k:IntKind}{i:Int}{y:Nat}{code:BoundsCode}(h0:0<=i)(h1:i<=y)(w:World):(Instr.sliceBound (.int k i) y code).run P w= .ok i.toNat w:=by
 simp[Instr.sliceBound,asIntOf,h0,h1]
theorem jv{sl:Bool}{len cap:Nat}{lo hi:Option Operand}{l h:Int}(hlc:len<=cap)
  (hlo:(lo=none/\l=0)∨∃o k,lo=some o/\a.eval o= .int k l) (hhi:(hi=none/\h=len)∨∃o k,hi=some o/\a.eval o= .int k h)
  (h0:0<=l) (h1:l<=h) (h2:h<=len) (w:World):
  (Instr.sliceBounds sl len cap (lo.map a.eval) (hi.map a.eval) none).run P w= .ok (l.toNat,h.toNat,cap) w:=by
 rcases hhi with⟨rfl,rfl⟩|⟨o,k,rfl,ho⟩<;>rcases hlo with⟨rfl,rfl⟩|⟨o',k',rfl,ho'⟩
 ·simp[Instr.sliceBounds]
 ·simp[Instr.sliceBounds,ho',run_sliceBound (P:=P) (k:=k') (i:=l) (y:=len) h0 (by omega) w]
 ·simp[Instr.sliceBounds,ho,run_sliceBound (P:=P) (k:=k) (i:=h) (y:=cap) (by omega) (by omega) w]
 ·simp[Instr.sliceBounds,ho,ho',run_sliceBound (P:=P) (k:=k) (i:=h) (y:=cap) (by omega) (by omega) w,run_sliceBound (P:=P) (k:=k') (i:=l) (y:=h.toNat) h0 (by omega) w]
theorem sb{len cap:Nat}{k k':IntKind}{h m:Int}(hlc:len<=cap)(h0:0<=h)(h1:h<=m)(h2:m<=len)(w:World):
  (Instr.sliceBounds true len cap none (some (.int k h)) (some (.int k' m))).run P w= .ok (0,h.toNat,m.toNat) w:=by
 simp[Instr.sliceBounds,run_sliceBound (P:=P) (k:=k') (i:=m) (y:=cap) (by omega) (by omega) w,run_sliceBound (P:=P) (k:=k) (i:=h) (y:=m.toNat) h0 (by omega) w]
theorem axC(hi:Inv I L O w)(he:∀t,R I L O (e t) (a.tmps.getD t undef)){t:TypeId}{x:Operand}{lo fR mx:Option Operand}(hc:asI P t x lo fR mx=some ao)(hk:wpOp P ao e O K):
  kC P I L O w (execOp a.eval ⟨d,.slice t x lo fR mx,ty,pos,af,g⟩) K:=by
 obtain⟨oh,om,el,inf,ax,ah,am,rfl,rfl,rfl,ht,we,hx,hh,hm,rfl⟩:=nF hc;have rx:=aO hx he;have rh:=aO hh he;have rm:=aO hm he;simp only[wpOp]at hk
 split at hk
 ·rename_i xs k i k' j hA hB hC;obtain⟨q1,q2,q3,q4,hk⟩:=hk;rw[hA]at rx;rw[hB]at rh;rw[hC]at rm;have eh:=rh.exact;have em:=rm.exact;generalize hX:a.eval x=X at rx;cases rx with
  |oX b cap=>
   simp at q3;obtain rfl:i=0:=by omega
   obtain rfl:j=0:=by omega
   have hb:=sb (P:=P) (k:=k) (k':=k') (len:=0) (cap:=cap) (zero_le _) (Int.le_refl 0) (Int.le_refl 0) (by simp) w;refine kC.same hi hk (y:= .slice b 0 0) (.oX _ _) ?_;simp only[execOp,hX,map_none,map_some,eh,em];simp at hb;simp[Instr.sliceAt,Instr.slice,run_underlying ht,hb,sizeOf,typeInfo,we]
  |sl _ bO off cap s cg r1 r2 r3 r4 r5=>
   have hb:=sb (P:=P) (k:=k) (k':=k') (len:=xs.length) (cap:=cap) r1 q1 q2 q3 w
   have hs:s=inf.size:=by
    obtain⟨y,hy⟩:=List.exists_mem_of_ne_nil _ r2;obtain⟨j,hj⟩:=getElem?_of_mem hy;rw[←r3 j y hj,q4 y hy]
   subst hs;by_cases hi0:i.toNat=0
   ·have zi:xs.take i.toNat= []:=by rw[hi0,List.take_zero]
    rw[zi]at hk;refine kC.same hi hk (y:= .slice (some ⟨bO,off,none⟩) 0 j.toNat) (.oX _ _) ?_;simp only[execOp,hX,map_none,map_some,eh,em];simp[Instr.sliceAt,Instr.slice,run_underlying ht,hb,sizeOf,typeInfo,we,add_lit,hi0]
   ·have zk:(xs.take i.toNat).length=i.toNat:=by rw[List.length_take];omega
    have ap1:∀(n:Nat) y,(xs.take i.toNat)[n]? =some y->xs[n]? =some y:=by
     intro n y hy;rw[List.getElem?_take]at hy
     split at hy
     ·exact hy
     ·cases hy
    have ej:xs.take i.toNat≠[]:=by
     intro h0;have:=congrArg List.length h0;rw[zk]at this;simp at this;omega
    have hr:=R.sl (I:=I) (L:=L) (O:=O) (xs.take i.toNat) bO off j.toNat inf.size cg (by omega) ej
     (λ n y hy=>r3 _ y (ap1 n y hy))
     (λ n y j c hy hj=>r4 _ y j c (ap1 n y hy) hj)
     (λ n y j c hy hj=>r5 _ y j c (ap1 n y hy) hj)
    rw[zk]at hr;refine kC.same hi hk hr ?_;simp only[execOp,hX,map_none,map_some,eh,em];have hj0:¬j.toNat=0:=by omega
    simp[Instr.sliceAt,Instr.slice,run_underlying ht,hb,sizeOf,typeInfo,we,add_lit,hj0]
 ·exact hk.elim
theorem atg(hi:Inv I L O w)(he:∀t,R I L O (e t) (a.tmps.getD t undef)){t:TypeId}{x:Operand}{lo fR mx:Option Operand}(hc:eY P ty (.slice t x lo fR mx)=some ao)(hk:wpOp P ao e O K):
  kC P I L O w (execOp a.eval ⟨d,.slice t x lo fR mx,ty,pos,af,g⟩) K:=by
 simp only[eY]at hc
 split at hc
 ·exact axC hi he hc hk
 ·rename_i wc;obtain rfl:mx=none:=by cases mx<;>simp at wc⊢
  split at hc
  ·rename_i ht;simp only[bind_eq_bind,bind_eq_some_iff,Option.some.injEq]at hc;obtain⟨ax,hx,al,hl,ah,hh,rfl⟩:=hc;have rx:=aO hx he;simp only[wpOp]at hk;generalize ax.ev e=A at rx hk;generalize hX:a.eval x=X at rx;cases A
   case v p=>
    cases p
    case string s=>
     have e1:=rx.exact;subst e1;obtain⟨l,hk,hlo⟩:=mo hl he hk;obtain⟨h,hk,hhi⟩:=mo hh he hk;obtain⟨q1,q2,q3,hk⟩:=hk;have hb:=jv (P:=P) (sl:=false) (cap:=s.size) (le_refl _) hlo hhi q1 q2 q3 w;refine kC.same hi hk (.v _ rfl) ?_;simp only[execOp,hX];simp[Instr.sliceAt,Instr.slice,run_underlying ht,hb]
    all_goals exact hk.elim
   all_goals exact hk.elim
  ·rename_i el ht;simp only[bind_eq_bind,bind_eq_some_iff,Option.some.injEq]at hc;obtain⟨inf,we,ax,hx,al,hl,ah,hh,rfl⟩:=hc;have rx:=aO hx he;simp only[wpOp]at hk;generalize ax.ev e=A at rx hk;generalize hX:a.eval x=X at rx;cases A
   case sl xs=>
    obtain⟨l,hk,hlo⟩:=mo hl he hk;obtain⟨h,hk,hhi⟩:=mo hh he hk;obtain⟨q1,q2,q3,q4,hk⟩:=hk;cases rx with
    |oX b cap=>
     simp at q3 hhi;obtain rfl:l=0:=by omega
     obtain rfl:h=0:=by omega
     have hb:=jv (P:=P) (sl:=true) (len:=0) (cap:=cap) (zero_le _) hlo (by simpa using hhi) q1 q2 (by simp) w;refine kC.same hi hk (y:= .slice (if cap=0 then b else b.map (·.add (0*inf.size))) 0 (cap- 0)) (.oX _ _) ?_;simp only[execOp,hX];simp at hb;simp[Instr.sliceAt,Instr.slice,run_underlying ht,hb,sizeOf,typeInfo,we]
    |sl _ bO off cap s cg r1 r2 r3 r4 r5=>
     have hb:=jv (P:=P) (sl:=true) (len:=xs.length) (cap:=cap) r1 hlo hhi q1 q2 q3 w
     have hs:s=inf.size:=by
      obtain⟨y,hy⟩:=List.exists_mem_of_ne_nil _ r2;obtain⟨j,hj⟩:=getElem?_of_mem hy;rw[←r3 j y hj,q4 y hy]
     subst hs;by_cases hlen:l=h
     ·subst hlen;have zi:(xs.take l.toNat).drop l.toNat= []:=by simp
      rw[zi]at hk;refine kC.same hi hk (y:= .slice (if cap=l.toNat then some ⟨bO,off,none⟩else some ⟨bO,off+l.toNat*inf.size,none⟩) 0 (cap- l.toNat)) (.oX _ _) ?_;simp only[execOp,hX];simp[Instr.sliceAt,Instr.slice,run_underlying ht,hb,sizeOf,typeInfo,we,add_lit]
     ·have hlh:l.toNat<h.toNat:=by omega
      have nR:¬(cap=l.toNat):=by omega
      have zk:((xs.take h.toNat).drop l.toNat).length=h.toNat- l.toNat:=by simp;omega
      have ap1:∀(i:Nat) y,((xs.take h.toNat).drop l.toNat)[i]? =some y->xs[l.toNat+i]? =some y:=by
       intro i y hy;rw[List.getElem?_drop,List.getElem?_take]at hy
       split at hy
       ·exact hy
       ·cases hy
      have ej:(xs.take h.toNat).drop l.toNat≠[]:=by
       intro h0;have:=congrArg List.length h0;rw[zk]at this;simp at this;omega
      have hr:=R.sl (I:=I) (L:=L) (O:=O) ((xs.take h.toNat).drop l.toNat) bO (off+l.toNat*inf.size) (cap- l.toNat) inf.size (λ i=>cg (l.toNat+i)) (by omega) ej
       (λ i y hy=>r3 _ y (ap1 i y hy))
       (λ i y j c hy hj=>by have:=r4 _ y j c (ap1 i y hy) hj;rwa [Nat.add_mul,←Nat.add_assoc]at this)
       (λ i y j c hy hj=>r5 _ y j c (ap1 i y hy) hj)
      rw[zk]at hr;refine kC.same hi hk hr ?_;simp only[execOp,hX];simp[Instr.sliceAt,Instr.slice,run_underlying ht,hb,sizeOf,typeInfo,we,add_lit,nR]
   all_goals exact hk.elim
  ·cases hc
end
theorem bm{xs:List AV}(h:AV.ae xs=true):∀x∈xs,x.ag=true:=by
 induction xs with
 |nil=>simp
 |cons y ys ih=>
  simp only[AV.ae,and_eq_true]at h;intro x hx;rcases List.mem_cons.1 hx with rfl|hx
  ·exact h.1
  ·exact ih h.2 x hx
theorem gY{x:AV}(h:x.ag=true):∀c∈x.cells,c.ag=true:=by
 cases x<;>simp only[AV.cells]<;>try (intro c hc;simp at hc;subst hc;exact h)
 simp only[AV.ag]at h;exact bm h
theorem R.ag{I I':eW}{L L':Nat->Loc}{O O':List aj}(hI:∀b o x,I b o=some x->I' b o=some x){a:AV}{x:Value}(hr:R I L O a x)(h:a.ag=true):R I' L' O' a x:=by
 induction hr with
 |top x=>exact .top x
 |v x hx=>exact .v x hx
 |an=>exact .an
 |xK t x=>exact .xK t x
 |oX a cap=>exact .oX a cap
 |sl xs bO off cap s cg h1 h2 h3 h4 _ ih=>
  refine .sl xs bO off cap s cg h1 h2 h3 (λ i x j c hi hj=>⟨hI _ _ _ (h4 i x j c hi hj).1,(h4 i x j c hi hj).2⟩) λ i x j c hi hj=>ih i x j c hi hj ?_
  exact gY (bm (by simpa [AV.ag]using h) x (mem_of_getElem? hi)) c (mem_of_getElem? hj)
 |bW x f bO base cg h1 _ ih=>
  refine .bW x f bO base cg (λ j c hj=>⟨hI _ _ _ (h1 j c hj).1,(h1 j c hj).2⟩) λ j c hj=>ih j c hj ?_
  exact gY (by simpa [AV.ag]using h) c (mem_of_getElem? hj)
 |dX=>simp[AV.ag]at h
 |im=>simp[AV.ag]at h
 |fk=>simp[AV.ag]at h
 |fB=>simp[AV.ag]at h
 |gW=>simp[AV.ag]at h
 |fn f bl vs h1 _ ih=>exact .fn f bl vs h1 λ i c x hi hx=>ih i c x hi hx (bm (by simpa [AV.ag]using h) c (mem_of_getElem? hi))
 |agg cs vs h1 _ ih=>exact .agg cs vs h1 λ i c x hi hx=>ih i c x hi hx (bm (by simpa [AV.ag]using h) c (mem_of_getElem? hi))
 |aZ cs vs h1 _ ih=>exact .aZ cs vs h1 λ i c x hi hx=>ih i c x hi hx (bm (by simpa [AV.ag]using h) c (mem_of_getElem? hi))
 |gX=>simp[AV.ag]at h
 |ko=>simp[AV.ag]at h
 |fY=>simp[AV.ag]at h
theorem R.of_nil{I:eW}{L L':Nat->Loc}{O':List aj}{a:AV}{x:Value}(hr:R I L [] a x):R I L' O' a x:=by
 generalize hO:([]:List aj)=O at hr
 induction hr with
 |top x=>exact .top x
 |v x hx=>exact .v x hx
 |an=>exact .an
 |xK t x=>exact .xK t x
 |oX a cap=>exact .oX a cap
 |sl xs bO off cap s cg h1 h2 h3 h4 _ ih=>exact .sl xs bO off cap s cg h1 h2 h3 h4 λ i x j c hi hj=>ih i x j c hi hj
 |bW x f bO base cg h1 _ ih=>exact .bW x f bO base cg h1 λ j c hj=>ih j c hj
 |dX n len e s xs hn=>subst hO;simp at hn
 |im n e s hn=>subst hO;simp at hn
 |fk n len x hn=>subst hO;simp at hn
 |fB n len i f e s xs hn=>subst hO;simp at hn
 |gW n len i f x hn=>subst hO;simp at hn
 |fn f bl vs h1 _ ih=>exact .fn f bl vs h1 λ i c x hi hx=>ih i c x hi hx
 |agg cs vs h1 _ ih=>exact .agg cs vs h1 λ i c x hi hx=>ih i c x hi hx
 |aZ cs vs h1 _ ih=>exact .aZ cs vs h1 λ i c x hi hx=>ih i c x hi hx
 |gX n a hn=>subst hO;simp at hn
 |ko n a hn=>subst hO;simp at hn
 |fY n x hn=>subst hO;simp at hn
theorem R.flat{I I':eW}{L L':Nat->Loc}{O O':List aj}{a:AV}{x:Value}(hr:R I L O a x)(h:a.flat=true):R I' L' O' a x:=by
 cases hr<;>simp only[AV.flat]at h<;>first|(simp at h;done)|skip
 ·exact .v _ (by assumption)
 ·rename_i cs vs h1 h2;refine .aZ _ _ h1 λ i c x hc hx=> ?_
  have hm:=List.all_eq_true.1 h c (mem_of_getElem? hc);have hr:=h2 i c x hc hx;cases c<;>simp at hm
  cases hr;exact .v _ (by assumption)
theorem afe(O:List aj)(a:AV):(fZ O a).length=O.length:=by
 cases a<;>simp[fZ]
theorem anj(as:List AV)(O:List aj):(as.foldl fZ O).length=O.length:=by
 induction as generalizing O with
 |nil=>rfl
 |cons a as ih=>simp[ih,afe]
theorem nA(as:List AV)(O:List aj){n e s:Nat}{xs:List AV}(h:(as.foldl fZ O)[n]? =some (.live e s xs)):
  O[n]? =some (.live e s xs)/\∀len,AV.row n len∉as:=by
 induction as generalizing O with
 |nil=>exact⟨h,by simp⟩
 |cons a as ih=>
  obtain⟨h1,h2⟩:=ih (fZ O a) h;cases a with
  |row m ml=>
   simp only[fZ,getElem?_set]at h1;by_cases hm:m=n
   ·subst hm;simp at h1
   ·rw[if_neg hm]at h1;refine⟨h1,λ len gI=> ?_⟩;rcases List.mem_cons.1 gI with h3|h3
    ·cases h3;exact hm rfl
    ·exact h2 len h3
  |own m=>
   simp only[fZ,getElem?_set]at h1;by_cases hm:m=n
   ·subst hm;simp at h1
   ·rw[if_neg hm]at h1;refine⟨h1,λ len gI=> ?_⟩;rcases List.mem_cons.1 gI with h3|h3
    ·cases h3
    ·exact h2 len h3
  |_=>exact⟨h1,λ len hm=>by rcases List.mem_cons.1 hm with h3|h3;cases h3;exact h2 len h3⟩
section
variable {P:Program} {I:eW} {L:Nat->Loc} {O:List aj} {w:World}
open Classical in
noncomputable def aaz (I:eW) (L:Nat->Loc) (O:List aj) (w:World) (as:List AV):eW:=λ b o=>
 if(∃(n len e s:Nat) (xs:List AV),AV.row n len∈as/\O[n]? =some (.live e s xs)/\xs.length=len/\(L n).bO=b)∨(∃(n:Nat) (a:AV) (o:Nat) (v:Value),AV.own n∈as/\O[n]? =some (.own a)/\(L n).mem b o=some v)then w.cell? ⟨b,o,none⟩else I b o
theorem ayv(as:List AV)(O:List aj){n e s:Nat}(h:(as.foldl fZ O)[n]? =some (.nil e s)):O[n]? =some (.nil e s):=by
 induction as generalizing O with
 |nil=>exact h
 |cons a as ih=>
  have h0:=ih _ h;cases a<;>try exact h0
  all_goals
   simp only[fZ,getElem?_set]at h0
   split at h0
   ·split at h0<;>cases h0
   ·exact h0
theorem yW(as:List AV)(O:List aj){n:Nat}{a:AV}(h:(as.foldl fZ O)[n]? =some (.own a)):O[n]? =some (.own a):=by
 induction as generalizing O with
 |nil=>exact h
 |cons a as ih=>
  have h0:=ih _ h;cases a<;>try exact h0
  all_goals
   simp only[fZ,getElem?_set]at h0
   split at h0
   ·split at h0<;>cases h0
   ·exact h0
theorem afd(as:List AV)(O:List aj){n:Nat}{a:qE}(h:(as.foldl fZ O)[n]? =some (.jq a)):O[n]? =some (.jq a):=by
 induction as generalizing O with
 |nil=>exact h
 |cons a as ih=>
  have h0:=ih _ h;cases a<;>try exact h0
  all_goals
   simp only[fZ,getElem?_set]at h0
   split at h0
   ·split at h0<;>cases h0
   ·exact h0
theorem atQ(as:List AV)(O:List aj){n:Nat}{c:AV}(h:(as.foldl fZ O)[n]? =some (.own c)):AV.own n∉as:=by
 induction as generalizing O with
 |nil=>simp
 |cons a as ih=>
  intro hm;rcases List.mem_cons.1 hm with h3|h3
  ·subst h3;have h1:=yW as _ h;simp only[fZ,getElem?_set]at h1
   split at h1
   ·split at h1<;>cases h1
   ·rename_i ej;exact(ej trivial).elim
  ·exact ih _ h h3
theorem ac4(hi:Inv I L O w)(as:List AV):∀b o x,I b o=some x->aaz I L O w as b o=some x:=by
 intro b o x hx;unfold aaz
 split
 ·exact hi.ni b o x hx
 ·exact hx
theorem ayj(hi:Inv I L O w){as:List AV}{n len:Nat}(hm:AV.row n len∈as){e s:Nat}{xs:List AV}(hO:O[n]? =some (.live e s xs))(hl:xs.length=len)(o:Nat):
  aaz I L O w as (L n).bO o=w.cell? ⟨(L n).bO,o,none⟩:=by
 unfold aaz;rw[if_pos (.inl ⟨n,len,e,s,xs,hm,hO,hl,rfl⟩)]
theorem ai6(hi:Inv I L O w){as:List AV}{a:AV}(ha:a∈as){x:Value}(hr:R I L O a x)(hn:(lh O a).ag=true):R (aaz I L O w as) L [] (lh O a) x:=by
 have hle:=ac4 hi as;cases a
 case row n len=>
  simp only[lh]at hn⊢;cases hO:O[n]? with
  |none=>simp only[hO]at hn;simp[AV.ag]at hn
  |some ob=>
   cases ob with
   |dead=>simp only[hO]at hn;simp[AV.ag]at hn
   |own a=>simp only[hO]at hn;simp[AV.ag]at hn
   |jq g=>simp only[hO]at hn;simp[AV.ag]at hn
   |nil e s=>
    simp only[hO]at hn⊢;obtain⟨rfl,rfl⟩:=hr.qO hO;rw[if_pos rfl];exact .oX _ _
   |live e s xs=>
    simp only[hO]at hn⊢;by_cases hl:xs.length=len
    ·rw[if_pos hl]at hn⊢;have:=hr.iL hO hl;subst this;obtain⟨c,⟨qi,h1,gg⟩,h2,h3,h4,h5,h6⟩:=hi.obj n e s xs hO;by_cases hx:xs= []
     ·subst hx;simp at hl;subst hl;exact .oX _ _
     ·subst hl;refine(.sl xs (L n).bO 0 (L n).cap s (λ i j=>(c[i*s+j]?).getD undef) h3 hx (λ i x hx=>(h6 i x hx).1) (λ i x j d hx hj=> ?_) λ i x j d hx hj=> ?_)
      ·obtain⟨y,hy,ho,_⟩:=(h6 i x hx).2 j d hj;rw[ayj hi ha hO rfl,Nat.zero_add,gD h1,hy];exact⟨rfl,ho⟩
      ·obtain⟨y,hy,ho,lV⟩:=(h6 i x hx).2 j d hj;rw[hy];exact lV.ag hle (gY (bm (by simpa [AV.ag]using hn) x (mem_of_getElem? hx)) d (mem_of_getElem? hj))
    ·rw[if_neg hl]at hn;simp[AV.ag]at hn
 case own n=>
  simp only[lh]at hn⊢;cases hr with
  |gX _ b hO=>
   simp only[hO]at hn⊢;refine(hi.ow.tree n b hO L []).ag (λ p o v hv=> ?_) hn;unfold aaz;rw[if_pos (.inr ⟨n,b,o,v,ha,hO,hv⟩)];exact hi.ow.cell n b hO p o v hv
  |ko _ g hO=>simp only[hO]at hn;simp[AV.ag]at hn
  |fY _ _ aK cJ=>
   cases hO:O[n]? with
   |none=>simp only[hO]at hn;simp[AV.ag]at hn
   |some ob=>
    cases ob with
    |own b=>exact(cJ b hO).elim
    |_=>simp only[hO]at hn;simp[AV.ag]at hn
 all_goals exact hr.ag hle hn
theorem qQ{f:FuncId}{as bl:List AV}{vs:Array Value}{res:AV}(hi:Inv I L O w)(hr:RL I L O (as++bl) vs)(hn:AV.ae (as.map (lh O)++bl)=true)(hc:aW P f (as.map (lh O)++bl) res):
  Calls P f vs w λ e w'=>∃y I' L',e= .returned y/\R I' L' (aft O as res) res y/\Good I L O w I' L' (aft O as res) w':=by
 have hle:=ac4 hi as
 have hinv:Inv (aaz I L O w as) L [] w:=by
  refine⟨λ b o x hx=> ?_,by simp,by simp,by simp,λ p hp=>hle _ _ _ (hi.fix p hp),hi.zE hle,.no (by simp),.no (by simp)⟩;unfold aaz at hx
  split at hx
  ·exact hx
  ·exact hi.ni b o x hx
 have tS:RL (aaz I L O w as) L [] (as.map (lh O)++bl) vs:=by
  refine⟨by have:=hr.1;simpa using this,λ i a x ha hx=> ?_⟩;have hna:=bm hn a (mem_of_getElem? ha);by_cases aK:i<as.length
  ·rw[getElem?_append_left (by simpa using aK)]at ha;simp only[getElem?_map,map_eq_some_iff]at ha;obtain⟨a0,ha0,rfl⟩:=ha;exact ai6 hi (mem_of_getElem? ha0) (hr.2 i a0 x (by rw[getElem?_append_left aK];exact ha0) hx) hna
  ·rw[getElem?_append_right (by simp;omega)]at ha;simp only[length_map]at ha;exact(hr.2 i a x (by rw[getElem?_append_right (by omega)];exact ha) hx).ag hle hna
 refine(hc.2 _ _ _ _ hinv tS).mono ?_;rintro e w' ⟨y,I',L',rfl,hry,hg⟩;have oN:∀b,b<w.heap.size->w'.heap[b]? =w.heap[b]? :=λ b hb=>hg.tV.block b hb vu
 have hold:∀{n e s xs},O[n]? =some (.live e s xs)->(L n).bO<w.heap.size:=by
  intro n e s xs h;obtain⟨c,⟨qi,h1,gg⟩,_⟩:=hi.obj n e s xs h;exact(Array.getElem?_eq_some_iff.1 h1).1
 by_cases hf:res.flat=true
 ·rw[aft,if_pos hf];refine⟨y,I,L,rfl,hry.flat hf,⟨⟨λ b o x hx=> ?_,λ n e s xs hn=> ?_,hi.sep,hi.gf,hi.fix,hi.zF (λ b hb _=>oN b hb) (λ _ _ _ h=>h),hi.ow.keep λ b hb _=>oN b hb,hi.gh.step (λ _ _ h=>⟨h,rfl⟩) (λ _ _ h=>h) λ b hb=>oN b hb.1⟩,.refl _ _ _,⟨hg.tV.os,hg.tV.tape,hg.tV.output,hg.tV.size,λ b hb _=>oN b hb⟩,λ _ h=> .inl h,λ _ _ _ h=> .inl h⟩⟩
  ·have:=hi.ni b o x hx;rw[←this];exact World.cell?_of_block (a:=⟨b,o,none⟩) (oN b (nG this))
  ·exact(hi.obj n e s xs hn).congr (oN _ (hold hn)) λ _ _ h=>h
 ·rw[aft,if_neg hf];have aHs:∀b o x,I b o=some x->I' b o=some x:=λ b o x h=>hg.ext.ni _ _ _ (hle b o x h)
  have iu:Ext I L O I' L (as.foldl fZ O):=⟨aHs,by rw[anj];exact le_refl _,λ n _ e s xs h=> .inl ⟨xs,(nA as O h).1,le_refl _,λ _=>rfl⟩,λ n _ e s h=>ayv as O h,λ n _ a h=>⟨⟨a,yW as O h⟩,rfl⟩,λ n _ a h=>⟨⟨a,afd as O h,rfl⟩,rfl⟩⟩
  have jB:∀b o x,I' b o=some x->I b o=some x∨(∃(n len e s:Nat) (xs:List AV),AV.row n len∈as/\O[n]? =some (.live e s xs)/\xs.length=len/\(L n).bO=b)∨w.heap.size<=b∨(∃(n:Nat) (a:AV) (o:Nat) (v:Value),AV.own n∈as/\O[n]? =some (.own a)/\(L n).mem b o=some v):=by
   intro b o x h;rcases hg.nE b o x h with h1|h1|h1
   ·unfold aaz at h1
    split at h1
    ·rename_i hh;rcases hh with hh|hh
     ·exact .inr (.inl hh)
     ·exact .inr (.inr (.inr hh))
    ·exact .inl h1
   ·exact(vu h1).elim
   ·exact .inr (.inr (.inl h1))
  refine⟨y,I',L,rfl,hry.of_nil,⟨⟨hg.inv.ni,λ n e s xs hn=> ?_,λ n m e s xs e' s' ys h1 h2=>hi.sep n m _ _ _ _ _ _ (nA as O h1).1 (nA as O h2).1,λ n e s xs o h=> ?_,hg.inv.fix,hg.inv.bO,hi.ow.aFl (λ n a h=>⟨yW as O h,rfl⟩) (λ b o v hv=> ?_) (λ m e s xs hm=> .inl ⟨m,e,s,xs,(nA as O hm).1,rfl⟩) (λ b hb _=>oN b hb),hi.gh.step (λ n a h=>⟨afd as O h,rfl⟩) (λ _ _ h=>h.mono iu) λ b hb=>oN b hb.1⟩,iu,⟨hg.tV.os,hg.tV.tape,hg.tV.output,hg.tV.size,λ b hb _=>oN b hb⟩,?_,?_⟩⟩
  ·have h0:=(nA as O hn).1;exact(hi.obj n e s xs h0).congr (oN _ (hold h0)) λ _ _ h=>h.mono iu
  ·obtain⟨h0,h1⟩:=nA as O h;cases hx:I' (L n).bO o with
   |none=>rfl
   |some x=>
    rcases jB _ _ _ hx with h2|⟨m,len,e',s',mW,h2,h3,h4,h5⟩|h2|⟨m,c,o2,v2,h2,h3,h4⟩
    ·rw[hi.gf n e s xs o h0]at h2;cases h2
    ·have:=hi.sep m n _ _ _ _ _ _ h3 h0 h5;subst this;exact(h1 len h2).elim
    ·have:=hold h0;omega
    ·exact(hi.ow.live m c h3 _ o2 v2 h4 n _ _ _ h0 rfl).elim
  ·rcases jB b o v hv with h1|⟨n,len,e,s,xs,_,h2,_,h3⟩|h1|⟨m,c,o2,v2,h2,h3,h4⟩
   ·exact .inl ⟨o,v,h1⟩
   ·exact .inr (.inl ⟨n,e,s,xs,h2,h3⟩)
   ·exact .inr (.inr (.inl h1))
   ·exact .inr (.inr (.inr ⟨m,c,o2,v2,h3,h4,λ d hd=>atQ as O hd h2⟩))
  ·rintro b (⟨n,e,s,xs,h,hb⟩|⟨n,a,o,v,h,hb⟩|⟨n,a,h,hb⟩)
   ·exact .inl (.inl ⟨n,e,s,xs,(nA as O h).1,hb⟩)
   ·exact .inl (.inr (.inl ⟨n,a,o,v,yW as O h,hb⟩))
   ·exact .inl (.inr (.inr ⟨n,a,afd as O h,hb⟩))
  ·intro b o x h;rcases jB b o x h with h1|⟨n,len,e,s,xs,_,h2,_,h3⟩|h1|⟨m,c,o2,v2,h2,h3,h4⟩
   ·exact .inl h1
   ·exact .inr (.inl (.inl ⟨n,e,s,xs,h2,h3⟩))
   ·exact .inr (.inr h1)
   ·exact .inr (.inl (.inr (.inl ⟨m,c,o2,v2,h3,h4⟩)))
end
section
variable {P:Program} {I:eW} {L:Nat->Loc} {O:List aj} {w:World} {K:AV->List aj->Prop} {e:Env} {a:Act}
variable {d:Option Tmp} {ty:TypeId} {pos:String} {af:Array Edge} {g:Option (Nat×Bool)}
theorem ao9(hi:Inv I L O w)(he:∀t,R I L O (e t) (a.tmps.getD t undef)){t:TypeId}{len:Nat}{parts:Array (Nat×Operand)}{el' s' l':Nat}{z':AV}{ps':List (Nat×bj)}
  (hc:eY P ty (.buildSlice t len parts)=some (.buildSlice el' s' l' z' ps')) (hk:wpOp P (.ep el' s' l' z' ps') e O K):
  kC P I L O w (execOp a.eval ⟨d,.buildSlice t len parts,ty,pos,af,g⟩) K:=by
 simp only[eY,bind_eq_bind,bind_eq_some_iff]at hc;obtain⟨el,ez,⟨s,b,z⟩,hz,ps,hps,hc⟩:=hc
 split at hc
 ·rename_i auh;simp only[Option.some.injEq,gj.buildSlice.injEq]at hc;obtain⟨rfl,rfl,rfl,rfl,rfl⟩:=hc;have ht:=nH ez;obtain⟨i,z0,h1,h2,h3,rfl,rfl,h4,h5,h6,h7⟩:=nI hz;have ay1:=lY.made (I:=I) (L:=L) (O:=O) (cap:=len) (n:=len) (lX h3) h7 h4 h5 (le_refl _);obtain⟨mW,c',⟨cJ,m1⟩,m2,m3,m4,m5⟩:=xr he parts.toList ps _ _ ay1 (by simp) hps hk;have hlx:mW.length=len:=by simpa using m3
  obtain⟨I',hg,hr⟩:=hi.aPX (el:=el) (s:=i.size) (xs:=mW) c' len (by omega) (λ k x hx j c hj I' L' O' v hI hv=>hv.ag hI (gY (bm cJ x (mem_of_getElem? hx)) c (mem_of_getElem? hj))) m2;rw[hlx]at hr;refine⟨_,_,.slice (some ⟨w.heap.size,0,none⟩) len len,_,_,_,m1,hg,hr,.inl ?_⟩;have hns:¬(len*i.size>2^24):=by simpa using auh
  simp only[execOp];by_cases h0:len*i.size=0
  ·have hl0:len=0:=by rcases Nat.mul_eq_zero.1 h0 with h|h<;>omega
   subst hl0;simp[Array.range_zero']at m5;simp[Instr.buildSlice,run_underlying ht,sizeOf,typeInfo,h1,m5,newRow,Array.range_zero']
  ·simp[Instr.buildSlice,run_underlying ht,sizeOf,typeInfo,h1,hns,h0,zeroValue,h2,m5,newRow]
 ·cases hc
end
end Go.Ab
namespace Go.Ab
mutual
def AV.inScope(k:Nat):AV->Bool
 | .top| .v _| .an| .xK=>true
 | .sl xs=>AV.bK k xs
 | .bW x _=>x.inScope k
 | .row n _=>n<k
 | .ptr n _ _ _=>n<k
 | .fn _ cs=>AV.bK k cs
 | .agg cs=>AV.bK k cs
 | .aZ vs=>AV.bK k vs
 | .own n=>n<k
def AV.bK(k:Nat):List AV->Bool
 | []=>true
 |x::xs=>x.inScope k&&AV.bK k xs
end
theorem cp{k:Nat}{xs:List AV}(h:AV.bK k xs=true):∀x∈xs,x.inScope k=true:=by
 induction xs with
 |nil=>simp
 |cons y ys ih=>
  simp only[AV.bK,and_eq_true]at h;intro x hx;rcases List.mem_cons.1 hx with rfl|hx
  ·exact h.1
  ·exact ih h.2 x hx
mutual
theorem aM{k:Nat}:∀(x:AV),x.ag=true->x.inScope k=true
 | .top,_| .v _,_| .an,_| .xK,_=>rfl
 | .sl xs,h=>by simp only[AV.ag,AV.inScope]at*;exact eF xs h
 | .bW x _,h=>by simp only[AV.ag,AV.inScope]at*;exact aM x h
 | .row _ _,h=>by simp[AV.ag]at h
 | .ptr _ _ _ _,h=>by simp[AV.ag]at h
 | .fn _ cs,h=>by simp only[AV.ag,AV.inScope]at*;exact eF cs h
 | .agg cs,h=>by simp only[AV.ag,AV.inScope]at*;exact eF cs h
 | .aZ cs,h=>by simp only[AV.ag,AV.inScope]at*;exact eF cs h
 | .own _,h=>by simp[AV.ag]at h
theorem eF{k:Nat}:∀(xs:List AV),AV.ae xs=true->AV.bK k xs=true
 | [],_=>rfl
 |x::xs,h=>by
  simp only[AV.ae,AV.bK,and_eq_true]at*;exact⟨aM x h.1,eF xs h.2⟩
end
theorem eD{k:Nat}{x:AV}(h:x.inScope k=true):∀c∈x.cells,c.inScope k=true:=by
 cases x<;>simp only[AV.cells]<;>try (intro c hc;simp at hc;subst hc;exact h)
 simp only[AV.inScope]at h;exact cp h
def aj.inScope(k:Nat):aj->Bool
 | .dead=>true
 | .own _=>true
 | .nil _ _=>true
 | .live _ _ xs=>AV.bK k xs
 | .jq (.mp es)=>es.all λ p=>p.1.inScope k&&p.2.inScope k
 | .jq (.it _ _)=>true
theorem dM(s:Nat->Nat)(xs:List AV):AV.mZ s xs=xs.map (AV.bL s):=by
 induction xs with
 |nil=>rfl
 |cons x xs ih=>simp[AV.mZ,ih]
mutual
theorem cU{s:Nat->Nat}:∀(a:AV),a.ag=true->a.bL s=a
 | .top,_| .v _,_| .an,_| .xK,_=>rfl
 | .sl xs,h=>by simp only[AV.bL];rw[db xs (by simpa [AV.ag]using h)]
 | .bW x _,h=>by simp only[AV.bL];rw[cU x (by simpa [AV.ag]using h)]
 | .row _ _,h=>by simp[AV.ag]at h
 | .ptr _ _ _ _,h=>by simp[AV.ag]at h
 | .fn _ cs,h=>by simp only[AV.bL];rw[db cs (by simpa [AV.ag]using h)]
 | .agg cs,h=>by simp only[AV.bL];rw[db cs (by simpa [AV.ag]using h)]
 | .aZ cs,h=>by simp only[AV.bL];rw[db cs (by simpa [AV.ag]using h)]
 | .own _,h=>by simp[AV.ag]at h
theorem db{s:Nat->Nat}:∀(xs:List AV),AV.ae xs=true->AV.mZ s xs=xs
 | [],_=>rfl
 |x::xs,h=>by
  simp only[AV.ae,and_eq_true]at h;simp only[AV.mZ];rw[cU x h.1,db xs h.2]
end
theorem fe(s:Nat->Nat)(a:AV):(a.bL s).cells=a.cells.map (AV.bL s):=by
 cases a<;>simp[AV.bL,AV.cells,dM]
theorem j4{s:Nat->Nat}{xs:List AV}{i:Nat}{y:AV}(h:(xs.map (AV.bL s))[i]? =some y):∃x,xs[i]? =some x/\y=x.bL s:=by
 simp only[getElem?_map,map_eq_some_iff]at h;obtain⟨x,hx,rfl⟩:=h;exact⟨x,hx,rfl⟩
theorem R.bL{I:eW}{L L':Nat->Loc}{O O':List aj}{s:Nat->Nat}(hn:∀n,n<O'.length->s n<O.length)
  (hg:∀n,n<O'.length->O[s n]? =(O'[n]?).map (aj.bL s)) (hL:∀n,n<O'.length->L (s n)=L' n) {a:AV} {x:Value} (hr:R I L' O' a x):R I L O (a.bL s) x:=by
 have live:∀{n e k xs},O'[n]? =some (.live e k xs)->O[s n]? =some (.live e k (xs.map (AV.bL s)))/\L (s n)=L' n:=by
  intro n e k xs h;have aK:=(List.getElem?_eq_some_iff.1 h).1;exact⟨by rw[hg n aK,h];rfl,hL n aK⟩
 have back:∀{n e k xs},n<O'.length->O[s n]? =some (.live e k xs)->∃ys,O'[n]? =some (.live e k ys)/\ys.length=xs.length:=by
  intro n e k xs aK h;rw[hg n aK,map_eq_some_iff]at h;obtain⟨ob,h1,h2⟩:=h;cases ob with
  |dead=>cases h2
  |own a=>cases h2
  |jq g=>cases h2
  |nil=>cases h2
  |live e' k' ys=>cases h2;exact⟨ys,h1,by simp⟩
 have aMy:∀{n e k},n<O'.length->O'[n]? ≠some (.nil e k)->O[s n]? ≠some (.nil e k):=by
  intro n e k aK ej h;rw[hg n aK,map_eq_some_iff]at h;obtain⟨ob,h1,h2⟩:=h;cases ob with
  |dead=>cases h2
  |own a=>cases h2
  |jq g=>cases h2
  |nil=>cases h2;exact ej h1
  |live=>cases h2
 induction hr with
 |top x=>exact .top x
 |v x hx=>exact .v x hx
 |an=>exact .an
 |xK t x=>exact .xK t x
 |oX a cap=>exact .oX a cap
 |sl xs bO off cap k cg h1 h2 h3 h4 _ ih=>
  simp only[AV.bL,dM];rw[show xs.length=(xs.map (AV.bL s)).length by simp];refine .sl _ bO off cap k cg (by simpa using h1) (by simpa using h2) (λ i x hx=> ?_) (λ i x j c hx hc=> ?_) (λ i x j c hx hc=> ?_)
  ·obtain⟨y,hy,rfl⟩:=j4 hx;rw[fe,length_map];exact h3 i y hy
  ·obtain⟨y,hy,rfl⟩:=j4 hx;rw[fe]at hc;obtain⟨d,hd,rfl⟩:=j4 hc;exact h4 i y j d hy hd
  ·obtain⟨y,hy,rfl⟩:=j4 hx;rw[fe]at hc;obtain⟨d,hd,rfl⟩:=j4 hc;exact ih i y j d hy hd
 |bW x f bO base cg h1 _ ih=>
  simp only[AV.bL];refine .bW _ f bO base cg (λ j c hc=> ?_) (λ j c hc=> ?_)
  ·rw[fe]at hc;obtain⟨d,hd,rfl⟩:=j4 hc;exact h1 j d hd
  ·rw[fe]at hc;obtain⟨d,hd,rfl⟩:=j4 hc;exact ih j d hd
 |dX n len e k xs hx hl=>
  obtain⟨h1,h2⟩:=live hx;simp only[AV.bL];rw[←h2];exact .dX (s n) len e k _ h1 (by simpa using hl)
 |im n e k hx=>
  simp only[AV.bL];refine .im (s n) e k ?_;rw[hg n (List.getElem?_eq_some_iff.1 hx).1,hx];rfl
 |fk n len x aK hnn hs hx=>
  simp only[AV.bL];refine .fk (s n) len x (hn n aK) (λ e k he=>aMy aK (hnn e k) he) (λ e k xs hxs=> ?_) hx;obtain⟨ys,hy,he⟩:=back aK hxs;rw[←he];exact hs e k ys hy
 |fB n len i f e k xs hx hl=>
  obtain⟨h1,h2⟩:=live hx;simp only[AV.bL];rw[←h2];exact .fB (s n) len i f e k _ h1 (by simpa using hl)
 |gW n len i f x aK hnn hs hx=>
  simp only[AV.bL];refine .gW (s n) len i f x (hn n aK) (λ e k he=>aMy aK (hnn e k) he) (λ e k xs hxs=> ?_) hx;obtain⟨ys,hy,he⟩:=back aK hxs;rw[←he];exact hs e k ys hy
 |fn f bl vs h1 _ ih=>
  simp only[AV.bL,dM];refine .fn f _ vs (by simpa using h1) λ i c x hc hx=> ?_
  obtain⟨d,hd,rfl⟩:=j4 hc;exact ih i d x hd hx
 |agg cs vs h1 _ ih=>
  simp only[AV.bL,dM];refine .agg _ vs (by simpa using h1) λ i c x hc hx=> ?_
  obtain⟨d,hd,rfl⟩:=j4 hc;exact ih i d x hd hx
 |aZ cs vs h1 _ ih=>
  simp only[AV.bL,dM];refine .aZ _ vs (by simpa using h1) λ i c x hc hx=> ?_
  obtain⟨d,hd,rfl⟩:=j4 hc;exact ih i d x hd hx
 |gX n a h h1=>
  have aK:=(List.getElem?_eq_some_iff.1 h).1;rw[←hL n aK]at h1⊢;exact .gX (s n) a (by rw[hg n aK,h];rfl) h1
 |ko n g h=>
  have aK:=(List.getElem?_eq_some_iff.1 h).1;have:g.val (L' n).bO=(g.bL s).val (L (s n)).bO:=by unfold qE.val;rw[qE.aez,hL n aK]
  rw[this];exact .ko (s n) (g.bL s) (by rw[hg n aK,h];rfl)
 |fY n x aK cJ hng h1=>
  refine .fY (s n) x (hn n aK) (λ a ha=> ?_) (λ a ha=> ?_) h1
  ·rw[hg n aK,map_eq_some_iff]at ha;obtain⟨ob,h1,h2⟩:=ha;cases ob with
   |own c=>exact cJ c h1
   |_=>cases h2
  ·rw[hg n aK,map_eq_some_iff]at ha;obtain⟨ob,h1,h2⟩:=ha;cases ob with
   |jq c=>exact hng c h1
   |_=>cases h2
theorem R.aw3{I:eW}{L L':Nat->Loc}{O O':List aj}{s:Nat->Nat}(hg:∀n,n<O'.length->O[s n]? =(O'[n]?).map (aj.bL s))(hL:∀n,n<O'.length->L (s n)=L' n)
  {b:AV} {x:Value} (hr:R I L O b x):∀a:AV,b=a.bL s->a.inScope O'.length=true->R I L' O' a x:=by
 have live:∀{n e k xs},n<O'.length->O[s n]? =some (.live e k xs)->∃ys,O'[n]? =some (.live e k ys)/\xs=ys.map (AV.bL s):=by
  intro n e k xs aK h;rw[hg n aK,map_eq_some_iff]at h;obtain⟨ob,h1,h2⟩:=h;cases ob with
  |dead=>cases h2
  |own a=>cases h2
  |jq g=>cases h2
  |nil=>cases h2
  |live e' k' ys=>cases h2;exact⟨ys,h1,rfl⟩
 have fwd:∀{n e k ys},O'[n]? =some (.live e k ys)->O[s n]? =some (.live e k (ys.map (AV.bL s))):=by
  intro n e k ys h;rw[hg n (List.getElem?_eq_some_iff.1 h).1,h];rfl
 have aOa:∀{n e k},O'[n]? =some (.nil e k)->O[s n]? =some (.nil e k):=by
  intro n e k h;rw[hg n (List.getElem?_eq_some_iff.1 h).1,h];rfl
 have cm:∀{y:AV} {j:Nat} {d:AV},y.cells[j]? =some d->(y.bL s).cells[j]? =some (d.bL s):=by
  intro y j d h;rw[fe,getElem?_map,h];rfl
 have mm:∀{ys:List AV} {j:Nat} {d:AV},ys[j]? =some d->(ys.map (AV.bL s))[j]? =some (d.bL s):=by
  intro ys j d h;rw[getElem?_map,h];rfl
 induction hr with
 |top x=>intro a h;cases a<;>simp[AV.bL]at h;intro _;exact .top x
 |v x hx=>intro a h;cases a<;>simp[AV.bL]at h;intro _;subst h;exact .v x hx
 |an=>intro a h;cases a<;>simp[AV.bL]at h;intro _;exact .an
 |xK t x=>intro a h;cases a<;>simp[AV.bL]at h;intro _;exact .xK t x
 |oX a cap=>
  intro a h;cases a<;>simp[AV.bL,dM]at h;intro _;subst h;exact .oX _ cap
 |sl xs bO off cap k cg h1 h2 h3 h4 _ ih=>
  intro a h;cases a<;>simp[AV.bL,dM]at h
  rename_i ys;subst h;intro hs;have hs':=cp (by simpa [AV.inScope]using hs);rw[length_map];refine .sl ys bO off cap k cg (by simpa using h1) (by simpa using h2) (λ i x hx=> ?_) (λ i x j c hx hc=>h4 i _ j _ (mm hx) (cm hc)) (λ i x j c hx hc=> ?_)
  ·have:=h3 i _ (mm hx);rwa [fe,length_map]at this
  ·exact ih i _ j _ (mm hx) (cm hc) c rfl (eD (hs' x (mem_of_getElem? hx)) c (mem_of_getElem? hc))
 |bW x f bO base cg h1 _ ih=>
  intro a h;cases a<;>simp[AV.bL]at h
  rename_i y g;obtain⟨rfl,rfl⟩:=h;intro hs;refine .bW y f bO base cg (λ j c hc=>h1 j _ (cm hc)) (λ j c hc=>ih j _ (cm hc) c rfl (eD (by simpa [AV.inScope]using hs) c (mem_of_getElem? hc)))
 |dX n len e k xs hx hl=>
  intro a h;cases a<;>simp[AV.bL]at h
  rename_i n' l';obtain⟨rfl,rfl⟩:=h;intro hs;have aK:n'<O'.length:=by simpa [AV.inScope]using hs
  obtain⟨ys,hy,rfl⟩:=live aK hx;rw[hL n' aK];exact .dX n' len e k ys hy (by simpa using hl)
 |im n e k hx=>
  intro a h;cases a<;>simp[AV.bL]at h
  rename_i n' l';obtain⟨rfl,rfl⟩:=h;intro hs;have aK:n'<O'.length:=by simpa [AV.inScope]using hs
  rw[hg n' aK,map_eq_some_iff]at hx;obtain⟨ob,h1,h2⟩:=hx;cases ob with
  |dead=>cases h2
  |own a=>cases h2
  |jq g=>cases h2
  |live=>cases h2
  |nil=>cases h2;exact .im n' e k h1
 |fk n len x aNm hnn hd hx=>
  intro a h;cases a<;>simp[AV.bL]at h
  rename_i n' l';obtain⟨rfl,rfl⟩:=h;intro hs;refine .fk n' len x (by simpa [AV.inScope]using hs) (λ e k he=>hnn e k (aOa he)) (λ e k ys hys=> ?_) hx;have:=hd e k _ (fwd hys);simpa using this
 |fB n len i f e k xs hx hl=>
  intro a h;cases a<;>simp[AV.bL]at h
  rename_i n' l' i' f';obtain⟨rfl,rfl,rfl,rfl⟩:=h;intro hs;have aK:n'<O'.length:=by simpa [AV.inScope]using hs
  obtain⟨ys,hy,rfl⟩:=live aK hx;rw[hL n' aK];exact .fB n' len i f e k ys hy (by simpa using hl)
 |gW n len i f x aNm hnn hd hx=>
  intro a h;cases a<;>simp[AV.bL]at h
  rename_i n' l' i' f';obtain⟨rfl,rfl,rfl,rfl⟩:=h;intro hs;refine .gW n' len i f x (by simpa [AV.inScope]using hs) (λ e k he=>hnn e k (aOa he)) (λ e k ys hys=> ?_) hx;have:=hd e k _ (fwd hys);simpa using this
 |fn f bl vs h1 _ ih=>
  intro a h;cases a<;>simp[AV.bL,dM]at h
  rename_i f' ys;obtain⟨rfl,rfl⟩:=h;intro hs;exact .fn f ys vs (by simpa using h1) λ i c x hc hx=>ih i _ x (mm hc) hx c rfl (cp (by simpa [AV.inScope]using hs) c (mem_of_getElem? hc))
 |agg cs vs h1 _ ih=>
  intro a h;cases a<;>simp[AV.bL,dM]at h
  rename_i ys;subst h;intro hs;exact .agg ys vs (by simpa using h1) λ i c x hc hx=>ih i _ x (mm hc) hx c rfl (cp (by simpa [AV.inScope]using hs) c (mem_of_getElem? hc))
 |aZ cs vs h1 _ ih=>
  intro a h;cases a<;>simp[AV.bL,dM]at h
  rename_i ys;subst h;intro hs;exact .aZ ys vs (by simpa using h1) λ i c x hc hx=>ih i _ x (mm hc) hx c rfl (cp (by simpa [AV.inScope]using hs) c (mem_of_getElem? hc))
 |gX n a hx afB=>
  intro b h;cases b<;>simp[AV.bL]at h
  rename_i n';subst h;intro hs;have aK:n'<O'.length:=by simpa [AV.inScope]using hs
  rw[hg n' aK,map_eq_some_iff]at hx;obtain⟨ob,h1,h2⟩:=hx;rw[hL n' aK]at afB⊢;cases ob with
  |own c=>exact .gX n' c h1 afB
  |_=>cases h2
 |ko n g hx=>
  intro b h;cases b<;>simp[AV.bL]at h
  rename_i n';subst h;intro hs;have aK:n'<O'.length:=by simpa [AV.inScope]using hs
  rw[hg n' aK,map_eq_some_iff]at hx;obtain⟨ob,h1,h2⟩:=hx;rw[hL n' aK];cases ob with
  |jq c=>
   cases h2;have:(c.bL s).val (L' n').bO=c.val (L' n').bO:=by unfold qE.val;rw[qE.aez]
   rw[this];exact .ko n' c h1
  |_=>cases h2
 |fY n x aNm cJ hng afB=>
  intro b h;cases b<;>simp[AV.bL]at h
  rename_i n';subst h;intro hs;have aK:n'<O'.length:=by simpa [AV.inScope]using hs
  exact .fY n' x aK (λ a ha=>cJ a (by rw[hg n' aK,ha];rfl)) (λ a ha=>hng (a.bL s) (by rw[hg n' aK,ha];rfl)) afB
theorem zL.un{I:eW}{L L1:Nat->Loc}{O O1:List aj}{w:World}{l:Loc}{g:qE}{s:Nat->Nat}{k:Nat}(un:∀a x,R I L O (a.bL s) x->a.inScope k=true->R I L1 O1 a x)(h:zL I L O w l (g.bL s))(hs:(aj.jq g).inScope k=true):zL I L1 O1 w l g:=by
 cases g with
 |it a b=>exact h
 |mp es=>
  obtain⟨en,c,q1,q2,q3⟩:=h;refine⟨en,c,q1,by simpa using q2,λ i k' v hx=> ?_⟩;obtain⟨e,q4,q5,q6⟩:=q3 i (k'.bL s) (v.bL s) (by rw[getElem?_map,hx];rfl);have ap3:=List.all_eq_true.1 (show es.all (λ p=>p.1.inScope k&&p.2.inScope k)=true from hs) (k',v) (mem_of_getElem? hx);simp only[and_eq_true]at ap3;exact⟨e,q4,un _ _ q5 ap3.1,un _ _ q6 ap3.2⟩
theorem j7.frame{P:Program}{f:FuncId}{args:List AV}{O1:List aj}{res:AV}{oS:List aj}(h:j7 P f args O1 res oS){O zK:List aj}(s:Nat->Nat)
  (hs:∀i,i<O1.length->s i<O.length) (hg:∀i,i<O1.length->O[s i]? =(O1[i]?).map (aj.bL s)) (akV:∀i j,i<O1.length->j<O1.length->s i=s j->i=j)
  (jB:∀i,O1.length<=i->s i=O.length+(i- O1.length)) (hsc:∀a∈args,a.inScope O1.length=true) (hsO:∀ob∈O1,ob.inScope O1.length=true)
  (hl:zK.length=O.length+(oS.length- O1.length)) (h1:∀i,i<oS.length->zK[s i]? =(oS[i]?).map (aj.bL s)) (h2:∀n,n<O.length->(∀i,i<O1.length->s i≠n)->zK[n]? =O[n]?):
  j7 P f (args.map (AV.bL s)) O (res.bL s) zK:=by
 refine⟨h.1,λ I L w vs hi hr=> ?_⟩
 have inj:∀i j,s i=s j->i=j:=by
  intro i j he;by_cases hi:i<O1.length<;>by_cases hj:j<O1.length
  ·exact akV i j hi hj he
  ·have:=hs i hi;have:=jB j (by omega);omega
  ·have:=hs j hj;have:=jB i (by omega);omega
  ·have:=jB i (by omega);have:=jB j (by omega);omega
 let L1:Nat->Loc:=λ n=>L (s n)
 have jx:∀{n e k ys},O1[n]? =some (.live e k ys)->O[s n]? =some (.live e k (ys.map (AV.bL s))):=by
  intro n e k ys hn;rw[hg n (List.getElem?_eq_some_iff.1 hn).1,hn];rfl
 have un:∀{a:AV} {x:Value},R I L O (a.bL s) x->a.inScope O1.length=true->R I L1 O1 a x:=λ hr hsc=>R.aw3 hg (λ _ _=>rfl) hr _ rfl hsc
 have lR:∀{n:Nat} {a:AV},O1[n]? =some (.own a)->O[s n]? =some (.own a):=by
  intro n a hn;rw[hg n (List.getElem?_eq_some_iff.1 hn).1,hn];rfl
 have s9:∀{n:Nat} {g:qE},O1[n]? =some (.jq g)->O[s n]? =some (.jq (g.bL s)):=by
  intro n a hn;rw[hg n (List.getElem?_eq_some_iff.1 hn).1,hn];rfl
 have hi1:Inv I L1 O1 w:=by
  refine⟨hi.ni,λ n e k ys hn=> ?_,λ n n' e k ys e' k' zN hn pH hb=> ?_,λ n e k ys o hn=>hi.gf _ _ _ _ o (jx hn),hi.fix,hi.bO,
   ⟨λ n a hn=>hi.ow.tree _ a (lR hn),λ n a hn=>hi.ow.cell _ a (lR hn),λ n a hn=>hi.ow.ni _ a (lR hn),λ n a hn b o v hv m e k xs hm=>hi.ow.live _ a (lR hn) b o v hv _ _ _ _ (jx hm),
    λ n m a c hn hm b o o' v v' hv hv'=>inj _ _ (hi.ow.sep _ _ a c (lR hn) (lR hm) b o o' v v' hv hv'),λ n a hn=>hi.ow.deep _ a (lR hn)⟩,⟨λ n g hn=> ?_,λ n m g g' hn hm hb=>inj _ _ (hi.gh.sep _ _ _ _ (s9 hn) (s9 hm) hb)⟩⟩
  rotate_right
  ·have q:=hi.gh.ok _ _ (s9 hn);cases g with
   |it a b=>exact q
   |mp es=>
    obtain⟨en,c,q1,q2,q3⟩:=q;refine⟨en,c,q1,by simpa using q2,λ i k v hx=> ?_⟩;obtain⟨e,q4,q5,q6⟩:=q3 i (k.bL s) (v.bL s) (by rw[getElem?_map,hx];rfl);have hbo:=hsO _ (mem_of_getElem? hn);have ap3:=List.all_eq_true.1 (show es.all (λ p=>p.1.inScope O1.length&&p.2.inScope O1.length)=true from hbo) (k,v) (mem_of_getElem? hx);simp only[and_eq_true]at ap3;exact⟨e,q4,un q5 ap3.1,un q6 ap3.2⟩
  ·obtain⟨c,⟨qi,q1,gg⟩,q2,q3,q4,q5,q6⟩:=hi.obj _ _ _ _ (jx hn);refine⟨c,⟨qi,q1,gg⟩,q2,by simpa using q3,q4,q5,λ i x hx=> ?_⟩;have wc:(ys.map (AV.bL s))[i]? =some (x.bL s):=by rw[getElem?_map,hx];rfl
   obtain⟨r1,r2⟩:=q6 i _ wc;rw[fe,length_map]at r1;refine⟨r1,λ j a ha=> ?_⟩;obtain⟨y,hy,ho,lV⟩:=r2 j (a.bL s) (by rw[fe,getElem?_map,ha];rfl);have hbo:=hsO _ (mem_of_getElem? hn);exact⟨y,hy,ho,un lV (eD (cp hbo x (mem_of_getElem? hx)) a (mem_of_getElem? ha))⟩
  ·exact inj _ _ (hi.sep _ _ _ _ _ _ _ _ (jx hn) (jx pH) hb)
 have hr1:RL I L1 O1 args vs:=by
  refine⟨by simpa using hr.1,λ i a x ha hx=>un (hr.2 i _ x (by rw[getElem?_map,ha];rfl) hx) (hsc a (mem_of_getElem? ha))⟩
 refine(h.2 I L1 w vs hi1 hr1).mono ?_;rintro e w' ⟨y,I',L1',rfl,hy,lE⟩;have hlen:=lE.ext.len
 open Classical in
 let L'':Nat->Loc:=λ n=>if hx:∃i,i<oS.length/\s i=n then L1' hx.choose else L n
 have x7:∀i,i<oS.length->L'' (s i)=L1' i:=by
  intro i hi;have hx:∃j,j<oS.length/\s j=s i:=⟨i,hi,rfl⟩
  show(if hx:∃j,j<oS.length/\s j=s i then L1' hx.choose else L (s i))=_;rw[dif_pos hx];rw[inj _ _ hx.choose_spec.2]
 have wj:∀n,(∀i,i<oS.length->s i≠n)->L'' n=L n:=by
  intro n hn;exact dif_neg (by rintro⟨i,hi,he⟩;exact hn i hi he)
 have hsl:∀i,i<oS.length->s i<zK.length:=by
  intro i hi;by_cases hm:i<O1.length
  ·have:=hs i hm;omega
  ·have:=jB i (by omega);omega
 have cls:∀n e k xs,zK[n]? =some (.live e k xs)->(∃i ys,i<oS.length/\s i=n/\oS[i]? =some (.live e k ys)/\xs=ys.map (AV.bL s))∨(n<O.length/\(∀i,i<oS.length->s i≠n)/\O[n]? =some (.live e k xs)):=by
  intro n e k xs hn;by_cases hx:∃i,i<oS.length/\s i=n
  ·obtain⟨i,hi,rfl⟩:=hx;rw[h1 i hi,map_eq_some_iff]at hn;obtain⟨ob,q1,q2⟩:=hn;cases ob with
   |dead=>cases q2
   |own a=>cases q2
   |jq g=>cases q2
   |nil=>cases q2
   |live e' k' ys=>cases q2;exact .inl ⟨i,ys,hi,rfl,q1,rfl⟩
  ·have cJ:∀i,i<oS.length->s i≠n:=λ i hi he=>hx ⟨i,hi,he⟩
   have aK:n<O.length:=by
    have:=(List.getElem?_eq_some_iff.1 hn).1;rcases lt_or_ge n O.length with h'|h'
    ·exact h'
    ·exact absurd (jB (O1.length+(n- O.length)) (by omega)) (λ he=>cJ (O1.length+(n- O.length)) (by omega) (by omega))
   rw[h2 n aK (λ i hi=>cJ i (by omega))]at hn;exact .inr ⟨aK,cJ,hn⟩
 have lb1:∀{b},LB L1 O1 b->LB L O b:=by
  rintro b (⟨n,e,k,ys,hn,hb⟩|⟨n,a,o,v,hn,hb⟩|⟨n,g,hn,hb⟩)
  ·exact .inl ⟨s n,e,k,_,jx hn,hb⟩
  ·exact .inr (.inl ⟨s n,a,o,v,lR hn,hb⟩)
  ·exact .inr (.inr ⟨s n,_,s9 hn,hb⟩)
 have old:∀{n e k xs},O[n]? =some (.live e k xs)->(∀i,i<oS.length->s i≠n)->¬LB L1 O1 (L n).bO/\(L n).bO<w.heap.size:=by
  intro n e k xs hn cJ;refine⟨?_,?_⟩
  ·rintro(⟨i,e',k',ys,fR,hb⟩|⟨i,a,o,v,fR,hb⟩|⟨i,g,fR,hb⟩)
   ·have:=hi.sep _ _ _ _ _ _ _ _ (jx fR) hn hb;exact cJ i (by have:=(List.getElem?_eq_some_iff.1 fR).1;omega) this
   ·exact hi.ow.live _ a (lR fR) _ o v hb _ _ _ _ hn rfl
   ·obtain⟨c,⟨qi,q1,gg⟩,_⟩:=hi.obj n e k xs hn;have hq:=(hi.gh.ok _ _ (s9 fR)).no.2 c e qi;exact hq (by rw[show(L (s i)).bO=(L n).bO from hb];exact q1)
  ·obtain⟨c,⟨qi,q1,gg⟩,_⟩:=hi.obj n e k xs hn;exact(Array.getElem?_eq_some_iff.1 q1).1
 have atv:∀{n:Nat} {a:AV} {b o:Nat} {v:Value},O[n]? =some (.own a)->(∀i,i<oS.length->s i≠n)->(L n).mem b o=some v->¬LB L1 O1 b/\b<w.heap.size:=by
  intro n a b o v hn cJ hv;refine⟨?_,nG (hi.ow.cell n a hn b o v hv)⟩;rintro(⟨i,e',k',ys,fR,hb⟩|⟨i,c,o',v',fR,hb⟩|⟨i,g,fR,hb⟩)
  ·exact hi.ow.live n a hn b o v hv _ _ _ _ (jx fR) hb
  ·have:=hi.ow.sep _ _ c a (lR fR) hn b o' o v' v hb hv;exact cJ i (by have:=(List.getElem?_eq_some_iff.1 fR).1;omega) this
  ·have hq:=(hi.gh.ok _ _ (s9 fR)).no.cell (o:=o);rw[show(L (s i)).bO=b from hb,hi.ow.cell n a hn b o v hv]at hq;cases hq
 have amZ:∀{n:Nat} {g:qE},O[n]? =some (.jq g)->(∀i,i<oS.length->s i≠n)->¬LB L1 O1 (L n).bO/\(L n).bO<w.heap.size:=by
  intro n g hn cJ;have hq:=(hi.gh.ok _ _ hn).no;refine⟨?_,hq.1⟩;rintro(⟨i,e',k',ys,fR,hb⟩|⟨i,c,o',v',fR,hb⟩|⟨i,g',fR,hb⟩)
  ·obtain⟨c,⟨qi,q1,gg⟩,_⟩:=hi.obj _ _ _ _ (jx fR);exact hq.2 c e' qi (by rw[←show(L (s i)).bO=(L n).bO from hb];exact q1)
  ·have h0:=hq.cell (o:=o');rw[hi.ow.cell _ c (lR fR) _ o' v' hb]at h0;cases h0
  ·have:=hi.gh.sep _ _ _ _ (s9 fR) hn hb;exact cJ i (by have:=(List.getElem?_eq_some_iff.1 fR).1;omega) this
 have ala:∀(n:Nat) (a:AV),zK[n]? =some (.own a)->(∃i,i<oS.length/\s i=n/\oS[i]? =some (.own a))∨(n<O.length/\(∀i,i<oS.length->s i≠n)/\O[n]? =some (.own a)):=by
  intro n a hn;by_cases hx:∃i,i<oS.length/\s i=n
  ·obtain⟨i,hi,rfl⟩:=hx;rw[h1 i hi,map_eq_some_iff]at hn;obtain⟨ob,q1,q2⟩:=hn;cases ob with
   |dead=>cases q2
   |live=>cases q2
   |nil=>cases q2
   |jq g=>cases q2
   |own c=>cases q2;exact .inl ⟨i,hi,rfl,q1⟩
  ·have cJ:∀i,i<oS.length->s i≠n:=λ i hi he=>hx ⟨i,hi,he⟩
   have aK:n<O.length:=by
    have:=(List.getElem?_eq_some_iff.1 hn).1;rcases lt_or_ge n O.length with h'|h'
    ·exact h'
    ·exact absurd (jB (O1.length+(n- O.length)) (by omega)) (λ he=>cJ (O1.length+(n- O.length)) (by omega) (by omega))
   rw[h2 n aK (λ i hi=>cJ i (by omega))]at hn;exact .inr ⟨aK,cJ,hn⟩
 have az1:∀(n:Nat) (g:qE),zK[n]? =some (.jq g)->(∃i g',i<oS.length/\s i=n/\oS[i]? =some (.jq g')/\g=g'.bL s)∨(n<O.length/\(∀i,i<oS.length->s i≠n)/\O[n]? =some (.jq g)):=by
  intro n a hn;by_cases hx:∃i,i<oS.length/\s i=n
  ·obtain⟨i,hi,rfl⟩:=hx;rw[h1 i hi,map_eq_some_iff]at hn;obtain⟨ob,q1,q2⟩:=hn;cases ob with
   |dead=>cases q2
   |live=>cases q2
   |nil=>cases q2
   |own c=>cases q2
   |jq g=>cases q2;exact .inl ⟨i,g,hi,rfl,q1,rfl⟩
  ·have cJ:∀i,i<oS.length->s i≠n:=λ i hi he=>hx ⟨i,hi,he⟩
   have aK:n<O.length:=by
    have:=(List.getElem?_eq_some_iff.1 hn).1;rcases lt_or_ge n O.length with h'|h'
    ·exact h'
    ·exact absurd (jB (O1.length+(n- O.length)) (by omega)) (λ he=>cJ (O1.length+(n- O.length)) (by omega) (by omega))
   rw[h2 n aK (λ i hi=>cJ i (by omega))]at hn;exact .inr ⟨aK,cJ,hn⟩
 have ext:Ext I L O I' L'' zK:=by
  refine⟨lE.ext.ni,by omega,λ n hn e k xs hx=> ?_,λ n hn e k hx=> ?_,λ n hn a hx=> ?_,λ n hn g hx=> ?_⟩
  rotate_right
  ·rcases az1 n g hx with⟨i,g',fR,rfl,q1,rfl⟩|⟨aK,cJ,q1⟩
   ·have him:i<O1.length:=by
      rcases lt_or_ge i O1.length with h'|h'
      ·exact h'
      ·have:=jB i h';omega
    obtain⟨⟨b,hb,hk⟩,hv⟩:=lE.ext.jq i him g' q1;exact⟨⟨_,s9 hb,by rw[qE.aez,qE.aez];exact hk⟩,by rw[x7 i fR];exact hv⟩
   ·exact⟨⟨g,q1,rfl⟩,by rw[wj n cJ]⟩
  rotate_left 2
  ·rcases ala n a hx with⟨i,fR,rfl,q1⟩|⟨aK,cJ,q1⟩
   ·have him:i<O1.length:=by
      rcases lt_or_ge i O1.length with h'|h'
      ·exact h'
      ·have:=jB i h';omega
    obtain⟨⟨b,hb⟩,hv⟩:=lE.ext.own i him a q1;exact⟨⟨b,lR hb⟩,by rw[x7 i fR];exact hv⟩
   ·exact⟨⟨a,q1⟩,by rw[wj n cJ]⟩
  rotate_left
  ·by_cases hex:∃i,i<oS.length/\s i=n
   ·obtain⟨i,fR,rfl⟩:=hex;rw[h1 i fR,map_eq_some_iff]at hx;obtain⟨ob,q1,q2⟩:=hx;cases ob with
    |dead=>cases q2
    |own a=>cases q2
    |jq g=>cases q2
    |live=>cases q2
    |nil=>
     cases q2
     have him:i<O1.length:=by
      rcases lt_or_ge i O1.length with h'|h'
      ·exact h'
      ·have:=jB i h';omega
     rw[hg i him,lE.ext.nil i him e k q1];rfl
   ·rwa [h2 n hn (λ i fR he=>hex ⟨i,by omega,he⟩)]at hx
  rcases cls n e k xs hx with⟨i,ys,fR,rfl,q1,rfl⟩|⟨aK,cJ,q1⟩
  ·have him:i<O1.length:=by
     rcases lt_or_ge i O1.length with h'|h'
     ·exact h'
     ·have:=jB i h';omega
   rcases lE.ext.obj i him e k ys q1 with⟨zs,z1,z2,z3⟩|⟨z1,z2⟩
   ·refine .inl ⟨_,jx z1,by simpa using z2,λ he=> ?_⟩;rw[x7 i fR,z3 (by simpa using he)]
   ·exact .inr ⟨by rw[hg i him,z1];rfl,by simpa using z2⟩
  ·exact .inl ⟨xs,q1,le_refl _,λ _=>wj n cJ⟩
 have fwd:∀{a:AV} {x:Value},R I' L1' oS a x->R I' L'' zK (a.bL s) x:=λ hr=>hr.bL hsl h1 x7
 have how:Own I' L'' zK w':=by
  have aP5:∀{n:Nat} {a:AV},O[n]? =some (.own a)->(∀i,i<oS.length->s i≠n)->∀{b o v},(L n).mem b o=some v->∀o',I' b o'=none:=by
   intro n a hn cJ b o v hv o';obtain⟨o1,o2⟩:=atv hn cJ hv;cases hx:I' b o' with
   |none=>rfl
   |some u=>
    rcases lE.nE _ _ _ hx with h'|h'|h'
    ·rw[hi.ow.ni _ _ hn b o v hv]at h';cases h'
    ·exact(o1 h').elim
    ·omega
  refine⟨λ n a hn=> ?_,λ n a hn b o v hv=> ?_,λ n a hn b o v hv o'=> ?_,λ n a hn b o v hv m e k xs hm hb=> ?_,λ n m a c hn hm b o o' v v' hv hv'=> ?_,λ n a hn=> ?_⟩
  ·rcases ala n a hn with⟨i,fR,rfl,q1⟩|⟨aK,cJ,q1⟩
   ·rw[x7 i fR];exact lE.inv.ow.tree _ _ q1
   ·rw[wj n cJ];exact hi.ow.tree _ _ q1
  ·rcases ala n a hn with⟨i,fR,rfl,q1⟩|⟨aK,cJ,q1⟩
   ·rw[x7 i fR]at hv;exact lE.inv.ow.cell _ _ q1 b o v hv
   ·rw[wj n cJ]at hv;obtain⟨o1,o2⟩:=atv q1 cJ hv;rw[←hi.ow.cell _ _ q1 b o v hv];exact World.cell?_of_block (a:=⟨b,o,none⟩) (lE.tV.block _ o2 o1)
  ·rcases ala n a hn with⟨i,fR,rfl,q1⟩|⟨aK,cJ,q1⟩
   ·rw[x7 i fR]at hv;exact lE.inv.ow.ni _ _ q1 b o v hv o'
   ·rw[wj n cJ]at hv;exact aP5 q1 cJ hv o'
  ·rcases ala n a hn with⟨i,fR,rfl,q1⟩|⟨aK,cJ,q1⟩<;>rcases cls m e k xs hm with⟨i',zN,afG,rfl,q1',rfl⟩|⟨dm,xL,q1'⟩
   ·rw[x7 i' afG]at hb;rw[x7 i fR]at hv;exact lE.inv.ow.live _ _ q1 b o v hv _ _ _ _ q1' hb
   ·rw[wj m xL]at hb;rw[x7 i fR]at hv;obtain⟨o1,o2⟩:=old q1' xL;rw[hb]at o1 o2;rcases lE.lb b (.inr (.inl ⟨i,a,o,v,q1,hv⟩))with h'|h'
    ·exact o1 h'
    ·omega
   ·rw[x7 i' afG]at hb;rw[wj n cJ]at hv;obtain⟨o1,o2⟩:=atv q1 cJ hv;rcases lE.lb b (.inl ⟨i',_,_,_,q1',hb⟩)with h'|h'
    ·exact o1 h'
    ·omega
   ·rw[wj m xL]at hb;rw[wj n cJ]at hv;exact hi.ow.live _ _ q1 b o v hv _ _ _ _ q1' hb
  ·rcases ala n a hn with⟨i,fR,rfl,q1⟩|⟨aK,cJ,q1⟩<;>rcases ala m c hm with⟨i',afG,rfl,q1'⟩|⟨dm,xL,q1'⟩
   ·rw[x7 i fR]at hv;rw[x7 i' afG]at hv';rw[lE.inv.ow.sep _ _ _ _ q1 q1' b o o' v v' hv hv']
   ·rw[x7 i fR]at hv;rw[wj m xL]at hv';obtain⟨o1,o2⟩:=atv q1' xL hv';rcases lE.lb b (.inr (.inl ⟨i,a,o,v,q1,hv⟩))with h'|h'
    ·exact(o1 h').elim
    ·omega
   ·rw[wj n cJ]at hv;rw[x7 i' afG]at hv';obtain⟨o1,o2⟩:=atv q1 cJ hv;rcases lE.lb b (.inr (.inl ⟨i',c,o',v',q1',hv'⟩))with h'|h'
    ·exact(o1 h').elim
    ·omega
   ·rw[wj n cJ]at hv;rw[wj m xL]at hv';exact hi.ow.sep _ _ _ _ q1 q1' b o o' v v' hv hv'
  ·rcases ala n a hn with⟨i,fR,rfl,q1⟩|⟨aK,cJ,q1⟩
   ·rw[x7 i fR];exact lE.inv.ow.deep _ _ q1
   ·rw[wj n cJ];obtain⟨S,p1,p2⟩:=hi.ow.deep _ _ q1;refine⟨S,p1.congr λ b hb=> ?_,p2⟩;obtain⟨o,v,hv⟩:=(p2 b).1 hb;obtain⟨o1,o2⟩:=atv q1 cJ hv;exact lE.tV.block _ o2 o1
 have hgh:Gh I' L'' zK w':=by
  refine⟨λ n g hn=> ?_,λ n m g g' hn hm hb=> ?_⟩
  ·rcases az1 n g hn with⟨i,g0,fR,rfl,q1,rfl⟩|⟨aK,cJ,q1⟩
   ·have q:=lE.inv.gh.ok _ _ q1;rw[x7 i fR];cases g0 with
    |it a b=>exact q
    |mp es=>
     obtain⟨en,c,p1,p2,p3⟩:=q;refine⟨en,c,p1,by simpa using p2,λ j k v hx=> ?_⟩;rw[getElem?_map,map_eq_some_iff]at hx;obtain⟨z,hz,hze⟩:=hx;cases hze;obtain⟨e,p4,p5,p6⟩:=p3 j z.1 z.2 hz;exact⟨e,p4,fwd p5,fwd p6⟩
   ·obtain⟨o1,o2⟩:=amZ q1 cJ;rw[wj n cJ];exact(hi.gh.ok _ _ q1).mono rfl (λ _ _ hr=>hr.mono ext) (lE.tV.block _ o2 o1)
  ·rcases az1 n g hn with⟨i,g0,fR,rfl,q1,rfl⟩|⟨aK,cJ,q1⟩<;>rcases az1 m g' hm with⟨i',g0',afG,rfl,q1',rfl⟩|⟨dm,xL,q1'⟩
   ·rw[x7 i fR,x7 i' afG]at hb;rw[lE.inv.gh.sep _ _ _ _ q1 q1' hb]
   ·rw[x7 i fR,wj m xL]at hb;obtain⟨o1,o2⟩:=amZ q1' xL;rcases lE.lb _ (.inr (.inr ⟨i,_,q1,hb⟩))with h'|h'
    ·exact(o1 h').elim
    ·omega
   ·rw[x7 i' afG,wj n cJ]at hb;obtain⟨o1,o2⟩:=amZ q1 cJ;rcases lE.lb _ (.inr (.inr ⟨i',_,q1',hb.symm⟩))with h'|h'
    ·exact(o1 h').elim
    ·omega
   ·rw[wj n cJ,wj m xL]at hb;exact hi.gh.sep _ _ _ _ q1 q1' hb
 refine⟨y,I',L'',rfl,fwd hy,⟨⟨lE.inv.ni,λ n e k xs hn=> ?_,λ n n' e k xs e' k' mW hn pH hb=> ?_,λ n e k xs o hn=> ?_,lE.inv.fix,lE.inv.bO,how,hgh⟩,ext,⟨lE.tV.os,lE.tV.tape,lE.tV.output,lE.tV.size,λ b hb cJ=>lE.tV.block b hb λ hc=>cJ (lb1 hc)⟩,?_,λ b o x hx=> ?_⟩⟩
 ·rcases cls n e k xs hn with⟨i,ys,fR,rfl,q1,rfl⟩|⟨aK,cJ,q1⟩
  ·obtain⟨c,⟨qi,q1,gg⟩,q2,q3,q4,q5,q6⟩:=lE.inv.obj _ _ _ _ q1;rw[x7 i fR];refine⟨c,⟨qi,q1,gg⟩,q2,by simpa using q3,q4,q5,λ j x hx=> ?_⟩;obtain⟨z,hz,rfl⟩:=j4 hx;rw[fe];refine⟨by rw[length_map];exact(q6 j z hz).1,λ l a ha=> ?_⟩;obtain⟨b,hb,rfl⟩:=j4 ha;obtain⟨v,hv,ho,lV⟩:=(q6 j z hz).2 l b hb;exact⟨v,hv,ho,fwd lV⟩
  ·obtain⟨o1,o2⟩:=old q1 cJ;rw[wj n cJ];obtain⟨c,⟨qi,q1,gg⟩,q2,q3,q4,q5,q6⟩:=hi.obj _ _ _ _ q1;refine⟨c,⟨qi,by rw[lE.tV.block _ o2 o1];exact q1,gg⟩,q2,q3,q4,q5,λ j x hx=>⟨(q6 j x hx).1,λ l a ha=> ?_⟩⟩;obtain⟨v,hv,ho,lV⟩:=(q6 j x hx).2 l a ha;exact⟨v,hv,ho,lV.mono ext⟩
 ·rcases cls n e k xs hn with⟨i,ys,fR,rfl,q1,rfl⟩|⟨aK,cJ,q1⟩<;>rcases cls n' e' k' mW pH with⟨i',zN,afG,rfl,q1',rfl⟩|⟨dm,xL,q1'⟩
  ·rw[x7 i fR,x7 i' afG]at hb;rw[lE.inv.sep _ _ _ _ _ _ _ _ q1 q1' hb]
  ·rw[x7 i fR,wj n' xL]at hb;obtain⟨o1,o2⟩:=old q1' xL;rcases lE.lb _ (.inl ⟨i,_,_,_,q1,hb⟩)with h'|h'
   ·exact(o1 h').elim
   ·omega
  ·rw[x7 i' afG,wj n cJ]at hb;obtain⟨o1,o2⟩:=old q1 cJ;rcases lE.lb _ (.inl ⟨i',_,_,_,q1',hb.symm⟩)with h'|h'
   ·exact(o1 h').elim
   ·omega
  ·rw[wj n cJ,wj n' xL]at hb;exact hi.sep _ _ _ _ _ _ _ _ q1 q1' hb
 ·rcases cls n e k xs hn with⟨i,ys,fR,rfl,q1,rfl⟩|⟨aK,cJ,q1⟩
  ·rw[x7 i fR];exact lE.inv.gf _ _ _ _ o q1
  ·rw[wj n cJ];obtain⟨o1,o2⟩:=old q1 cJ;cases hx:I' (L n).bO o with
   |none=>rfl
   |some x=>
    rcases lE.nE _ _ _ hx with h'|h'|h'
    ·rw[hi.gf _ _ _ _ o q1]at h';cases h'
    ·exact(o1 h').elim
    ·omega
 ·rintro b (⟨n,e,k,xs,hn,hb⟩|⟨n,a,o,v,hn,hb⟩|⟨n,g,hn,hb⟩)
  rotate_right
  ·rcases az1 n g hn with⟨i,g',fR,rfl,q1,rfl⟩|⟨aK,cJ,q1⟩
   ·rw[x7 i fR]at hb;rcases lE.lb b (.inr (.inr ⟨i,_,q1,hb⟩))with h'|h'
    ·exact .inl (lb1 h')
    ·exact .inr h'
   ·rw[wj n cJ]at hb;exact .inl (.inr (.inr ⟨n,_,q1,hb⟩))
  ·rcases cls n e k xs hn with⟨i,ys,fR,rfl,q1,rfl⟩|⟨aK,cJ,q1⟩
   ·rw[x7 i fR]at hb;rcases lE.lb b (.inl ⟨i,_,_,_,q1,hb⟩)with h'|h'
    ·exact .inl (lb1 h')
    ·exact .inr h'
   ·rw[wj n cJ]at hb;exact .inl (.inl ⟨n,_,_,_,q1,hb⟩)
  ·rcases ala n a hn with⟨i,fR,rfl,q1⟩|⟨aK,cJ,q1⟩
   ·rw[x7 i fR]at hb;rcases lE.lb b (.inr (.inl ⟨i,a,o,v,q1,hb⟩))with h'|h'
    ·exact .inl (lb1 h')
    ·exact .inr h'
   ·rw[wj n cJ]at hb;exact .inl (.inr (.inl ⟨n,a,o,v,q1,hb⟩))
 ·rcases lE.nE b o x hx with h'|h'|h'
  ·exact .inl h'
  ·exact .inr (.inl (lb1 h'))
  ·exact .inr (.inr h')
theorem j7.fresh{P:Program}{f:FuncId}{args:List AV}{res:AV}{oS:List aj}(h:j7 P f args [] res oS)(hn:AV.ae args=true)(O:List aj):
  j7 P f args O (res.bL λ n=>O.length+n) (O++oS.map (aj.bL λ n=>O.length+n)):=by
 have:=h.frame (O:=O) (zK:=O++oS.map (aj.bL λ n=>O.length+n)) (λ n=>O.length+n) (by simp) (by simp) (by simp) (by simp) (λ a ha=>aM a (bm hn a ha)) (by simp) (by simp)
  (λ i hi=>by rw[getElem?_append_right (by omega),getElem?_map,show O.length+i- O.length=i by omega]) (λ n hn _=>by rw[getElem?_append_left hn])
 rwa [←dM,db args hn]at this
theorem ar8{n:Nat}{s:Nat->Nat}(h:s 0=n){a:AV}(ha:a.one=true):a.bL s=a.bL λ _=>n:=by
 cases a<;>simp only[AV.one]at ha
 case row m l=>have:m=0:=by simpa using ha
               subst this;simp only[AV.bL,h]
 case ptr m l i f=>have:m=0:=by simpa using ha
                   subst this;simp only[AV.bL,h]
 case own m=>have:m=0:=by simpa using ha
             subst this;simp only[AV.bL,h]
 all_goals rw[cU _ ha,cU _ ha]
theorem apq{a:AV}(ha:a.one=true):a.inScope 1=true:=by
 cases a<;>simp only[AV.one]at ha
 case row m l=>have:m=0:=by simpa using ha
               subst this;rfl
 case ptr m l i f=>have:m=0:=by simpa using ha
                   subst this;rfl
 case own m=>have:m=0:=by simpa using ha
             subst this;rfl
 all_goals exact aM _ ha
theorem kq{s:Nat->Nat}{ob:aj}(h:ob.ae=true):ob.bL s=ob:=by
 cases ob<;>try rfl
 ·simp only[aj.ae]at h;simp only[aj.bL];rw[←dM,db _ h]
 ·rename_i g;cases g with
  |it a b=>rfl
  |mp es=>
   simp only[aj.ae,all_eq_true,and_eq_true]at h;simp only[aj.bL,qE.bL]
   have:(es.map λ p=>(p.1.bL s,p.2.bL s))=es.map id:=map_congr_left λ p hp=>by
    obtain⟨a,b⟩:=p;have:=h _ hp;rw[cU _ this.1,cU _ this.2];rfl
   rw[this,List.map_id]
theorem qR{k:Nat}{ob:aj}(h:ob.ae=true):ob.inScope k=true:=by
 cases ob<;>try rfl
 ·exact eF _ h
 ·rename_i g;cases g with
  |it a b=>rfl
  |mp es=>
   simp only[aj.ae,all_eq_true,and_eq_true]at h;simp only[aj.inScope,all_eq_true,and_eq_true];exact λ p hp=>⟨aM _ (h p hp).1,aM _ (h p hp).2⟩
theorem j7.aPR{P:Program}{f:FuncId}{a0:List AV}{res:AV}{ob ob':aj}(h:j7 P f a0 [ob] res [ob'])(ha:a0.all AV.one=true)(hx:ob.ae=true)(hy:ob'.ae=true)(hr:res.ag=true)
  {O:List aj} (k:Nat) (hk:O[k]? =some ob):j7 P f (a0.map (AV.bL λ _=>k)) O res (O.set k ob'):=by
 have aK:k<O.length:=(List.getElem?_eq_some_iff.1 hk).1
 have:=h.frame (O:=O) (zK:=O.set k ob') (λ n=>if n=0 then k else O.length+(n- 1))
  (by intro i hi;simp at hi;subst hi;simpa using aK) (by intro i hi;simp at hi;subst hi;simp[hk,kq hx]) (by intro i j hi hj _;simp at hi hj;omega)
  (by intro i hi;simp at hi;simp;omega) (λ a h'=>apq (List.all_eq_true.1 ha a h')) (by intro b ho;simp at ho;subst ho;exact qR hx) (by simp)
  (by intro i hi;simp at hi;subst hi;simp[aK,kq hy]) (by intro n hn cJ;have:=cJ 0 (by simp);simp at this;rw[getElem?_set_ne this])
 rw[cU _ hr]at this;have he:a0.map (AV.bL λ n=>if n=0 then k else O.length+(n- 1))=a0.map (AV.bL λ _=>k):=map_congr_left λ a h'=>ar8 (by simp) (List.all_eq_true.1 ha a h')
 rwa [he]at this
mutual
theorem tJ{k:Nat}:∀(x:AV),(∀c∈x.cells,c.inScope k=true)->x.inScope k=true
 | .agg cs,h=>by simp only[AV.inScope];exact sQ cs h
 | .top,_| .v _,_| .an,_| .xK,_=>rfl
 | .sl xs,h=>h (.sl xs) (by simp[AV.cells])
 | .bW x f,h=>h (.bW x f) (by simp[AV.cells])
 | .row n l,h=>h (.row n l) (by simp[AV.cells])
 | .ptr n l i f,h=>h (.ptr n l i f) (by simp[AV.cells])
 | .fn f cs,h=>h (.fn f cs) (by simp[AV.cells])
 | .aZ vs,h=>h (.aZ vs) (by simp[AV.cells])
 | .own x,h=>h (.own x) (by simp[AV.cells])
theorem sQ{k:Nat}:∀(xs:List AV),(∀c∈xs,c.inScope k=true)->AV.bK k xs=true
 | [],_=>rfl
 |x::xs,h=>by simp only[AV.bK,h x (by simp),sQ xs λ c hc=>h c (by simp[hc])];rfl
end
theorem R.inScope{I:eW}{L:Nat->Loc}{O:List aj}{a:AV}{x:Value}(hr:R I L O a x):a.inScope O.length=true:=by
 have ix:∀{xs:List AV} {vs:Array Value},xs.length=vs.size->(∀(i:Nat) c x,xs[i]? =some c->vs[i]? =some x->c.inScope O.length=true)->AV.bK O.length xs=true:=by
  intro xs vs hl h;refine sQ xs λ c hc=> ?_
  obtain⟨i,hi⟩:=getElem?_of_mem hc;have aK:=(List.getElem?_eq_some_iff.1 hi).1;exact h i c _ hi (by rw[Array.getElem?_eq_getElem (show i<vs.size by omega)])
 induction hr with
 |top x=>rfl
 |v x _=>rfl
 |an=>rfl
 |xK=>rfl
 |oX a cap=>rfl
 |sl xs bO off cap s cg h1 h2 h3 h4 _ ih=>
  refine sQ xs λ x hx=>tJ x λ c hc=> ?_
  obtain⟨i,hi⟩:=getElem?_of_mem hx;obtain⟨j,hj⟩:=getElem?_of_mem hc;exact ih i x j c hi hj
 |bW x f bO base cg h1 _ ih=>
  refine tJ x λ c hc=> ?_
  obtain⟨j,hj⟩:=getElem?_of_mem hc;exact ih j c hj
 |dX n len e s xs hn hl=>exact decide_eq_true (List.getElem?_eq_some_iff.1 hn).1
 |im n e s hn=>exact decide_eq_true (List.getElem?_eq_some_iff.1 hn).1
 |fk n len x hn=>exact decide_eq_true hn
 |fB n len i f e s xs hn hl=>exact decide_eq_true (List.getElem?_eq_some_iff.1 hn).1
 |gW n len i f x hn=>exact decide_eq_true hn
 |fn f bl vs h1 _ ih=>exact ix h1 ih
 |agg cs vs h1 _ ih=>exact ix h1 ih
 |aZ cs vs h1 _ ih=>exact ix h1 ih
 |gX n a hn=>exact decide_eq_true (List.getElem?_eq_some_iff.1 hn).1
 |ko n a hn=>exact decide_eq_true (List.getElem?_eq_some_iff.1 hn).1
 |fY n x hn=>exact decide_eq_true hn
section
variable {I I':eW} {L L':Nat->Loc} {O:List aj} {w w':World} {t s k:Nat} {xs:List AV}
def wO(L:Nat->Loc)(k N:Nat):Nat->Loc:=λ n=>if n=k then L N else L n
theorem R.move(hk:O[k]? =some (.nil t s))(ej:xs≠[]){a:AV}{x:Value}(hr:R I' L' (O++ [.live t s xs]) a x)(h:a.inScope O.length=true):R I' (wO L' k O.length) (O.set k (.live t s xs)) a x:=by
 have hkl:=(List.getElem?_eq_some_iff.1 hk).1;have old:∀{n:Nat},n<O.length->(O++ [aj.live t s xs])[n]? =O[n]? :=λ {n} hn=>getElem?_append_left hn
 have oth:∀{n:Nat},n≠k->(O.set k (.live t s xs))[n]? =O[n]? :=λ {n} hn=>getElem?_set_ne (λ he=>hn he.symm)
 have self:(O.set k (.live t s xs))[k]? =some (.live t s xs):=getElem?_set_self hkl;have hL:∀{n:Nat},n≠k->wO L' k O.length n=L' n:=λ {n} hn=>if_neg hn
 induction hr with
 |top x=>exact .top x
 |v x hx=>exact .v x hx
 |an=>exact .an
 |xK t x=>exact .xK t x
 |oX a cap=>exact .oX a cap
 |sl xs bO off cap s cg h1 h2 h3 h4 _ ih=>
  refine .sl xs bO off cap s cg h1 h2 h3 h4 λ i x j c hi hj=>ih i x j c hi hj ?_
  exact eD (cp (by simpa [AV.inScope]using h) x (mem_of_getElem? hi)) c (mem_of_getElem? hj)
 |bW x f bO base cg h1 _ ih=>
  refine .bW x f bO base cg h1 λ j c hj=>ih j c hj ?_
  exact eD (by simpa [AV.inScope]using h) c (mem_of_getElem? hj)
 |dX n len e s' ys hn hl=>
  have aK:n<O.length:=by simpa [AV.inScope]using h
  rw[old aK]at hn;have ej:n≠k:=by rintro rfl;rw[hk]at hn;cases hn
  rw[←hL ej];exact .dX n len e s' ys (by rw[oth ej];exact hn) hl
 |im n e s' hn=>
  have aK:n<O.length:=by simpa [AV.inScope]using h
  rw[old aK]at hn;by_cases s7:n=k
  ·subst s7;exact .fk n 0 _ (by simpa using aK) (λ e s he=>by rw[self]at he;cases he) (λ e s ys hy=>by rw[self]at hy;cases hy;exact List.length_pos_iff.2 ej) rfl
  ·exact .im n e s' (by rw[oth s7];exact hn)
 |fk n len x dm hnn hs hx=>
  have aK:n<O.length:=by simpa [AV.inScope]using h
  have s7:n≠k:=by rintro rfl;exact hnn t s (by rw[old aK];exact hk)
  exact .fk n len x (by simpa using aK) (λ e s' he=>hnn e s' (by rw[old aK];rwa [oth s7]at he)) (λ e s' ys hy=>hs e s' ys (by rw[old aK];rwa [oth s7]at hy)) hx
 |fB n len i f e s' ys hn hl=>
  have aK:n<O.length:=by simpa [AV.inScope]using h
  rw[old aK]at hn;have ej:n≠k:=by rintro rfl;rw[hk]at hn;cases hn
  rw[←hL ej];exact .fB n len i f e s' ys (by rw[oth ej];exact hn) hl
 |gW n len i f x dm hnn hs hx=>
  have aK:n<O.length:=by simpa [AV.inScope]using h
  have s7:n≠k:=by rintro rfl;exact hnn t s (by rw[old aK];exact hk)
  exact .gW n len i f x (by simpa using aK) (λ e s' he=>hnn e s' (by rw[old aK];rwa [oth s7]at he)) (λ e s' ys hy=>hs e s' ys (by rw[old aK];rwa [oth s7]at hy)) hx
 |fn f bl vs h1 _ ih=>exact .fn f bl vs h1 λ i c x hi hx=>ih i c x hi hx (cp (by simpa [AV.inScope]using h) c (mem_of_getElem? hi))
 |agg cs vs h1 _ ih=>exact .agg cs vs h1 λ i c x hi hx=>ih i c x hi hx (cp (by simpa [AV.inScope]using h) c (mem_of_getElem? hi))
 |aZ cs vs h1 _ ih=>exact .aZ cs vs h1 λ i c x hi hx=>ih i c x hi hx (cp (by simpa [AV.inScope]using h) c (mem_of_getElem? hi))
 |gX n a hn h1=>
  have aK:n<O.length:=by simpa [AV.inScope]using h
  rw[old aK]at hn;have ej:n≠k:=by rintro rfl;rw[hk]at hn;cases hn
  rw[←hL ej]at h1⊢;exact .gX n a (by rw[oth ej];exact hn) h1
 |ko n a hn=>
  have aK:n<O.length:=by simpa [AV.inScope]using h
  rw[old aK]at hn;have ej:n≠k:=by rintro rfl;rw[hk]at hn;cases hn
  rw[←hL ej];exact .ko n a (by rw[oth ej];exact hn)
 |fY n x dm cJ hng h1=>
  have aK:n<O.length:=by simpa [AV.inScope]using h
  refine .fY n x (by simpa using aK) (λ a ha=> ?_) (λ a ha=> ?_) h1
  ·by_cases s7:n=k
   ·subst s7;rw[self]at ha;cases ha
   ·exact cJ a (by rw[old aK];rwa [oth s7]at ha)
  ·by_cases s7:n=k
   ·subst s7;rw[self]at ha;cases ha
   ·exact hng a (by rw[old aK];rwa [oth s7]at ha)
theorem Good.move(hi:Inv I L O w)(hk:O[k]? =some (.nil t s))(ej:xs≠[])(hsc:∀x∈xs,∀c∈x.cells,c.inScope O.length=true)(hg:Good I L O w I' L' (O++ [.live t s xs]) w'):
  Good I L O w I' (wO L' k O.length) (O.set k (.live t s xs)) w':=by
 have hkl:=(List.getElem?_eq_some_iff.1 hk).1;have old:∀{n:Nat},n<O.length->(O++ [aj.live t s xs])[n]? =O[n]? :=λ {n} hn=>getElem?_append_left hn
 have oth:∀{n:Nat},n≠k->(O.set k (.live t s xs))[n]? =O[n]? :=λ {n} hn=>getElem?_set_ne (λ he=>hn he.symm)
 have self:(O.set k (.live t s xs))[k]? =some (.live t s xs):=getElem?_set_self hkl;have jB:(O++ [aj.live t s xs])[O.length]? =some (.live t s xs):=by simp
 have src:∀{n e k' ys},(O.set k (.live t s xs))[n]? =some (.live e k' ys)->∃m,(O++ [aj.live t s xs])[m]? =some (.live e k' ys)/\wO L' k O.length n=L' m/\(∀x∈ys,∀c∈x.cells,c.inScope O.length=true)/\((n=k/\m=O.length)∨(n≠k/\m=n/\n<O.length)):=by
  intro n e k' ys hn;by_cases s7:n=k
  ·subst s7;rw[self]at hn;cases hn;exact⟨O.length,jB,if_pos rfl,hsc,.inl ⟨rfl,rfl⟩⟩
  ·rw[oth s7]at hn;have aK:=(List.getElem?_eq_some_iff.1 hn).1;refine⟨n,by rw[old aK];exact hn,if_neg s7,λ x hx c hc=> ?_,.inr ⟨s7,rfl,aK⟩⟩;obtain⟨_,⟨qi,_,gg⟩,_,_,_,_,q⟩:=hi.obj n e k' ys hn;obtain⟨i,hix⟩:=getElem?_of_mem hx;obtain⟨j,hjc⟩:=getElem?_of_mem hc;obtain⟨_,_,_,hr⟩:=(q i x hix).2 j c hjc;exact hr.inScope
 have aGo:∀{n:Nat} {a:AV},(O.set k (.live t s xs))[n]? =some (.own a)->(O++ [aj.live t s xs])[n]? =some (.own a)/\wO L' k O.length n=L' n:=by
  intro n a hn;by_cases s7:n=k
  ·subst s7;rw[self]at hn;cases hn
  ·rw[oth s7]at hn;rw[old (List.getElem?_eq_some_iff.1 hn).1];exact⟨hn,if_neg s7⟩
 have axg:∀{n:Nat} {a:qE},(O.set k (.live t s xs))[n]? =some (.jq a)->(O++ [aj.live t s xs])[n]? =some (.jq a)/\wO L' k O.length n=L' n/\O[n]? =some (.jq a):=by
  intro n a hn;by_cases s7:n=k
  ·subst s7;rw[self]at hn;cases hn
  ·rw[oth s7]at hn;rw[old (List.getElem?_eq_some_iff.1 hn).1];exact⟨hn,if_neg s7,hn⟩
 have hgh:Gh I' (wO L' k O.length) (O.set k (.live t s xs)) w':=by
  refine⟨λ n g hn=> ?_,λ n m g g' hn hm hb=> ?_⟩
  ·obtain⟨q1,q2,q3⟩:=axg hn;have h1:=hg.inv.gh.ok n g q1;have h2:=hi.gh.ok n g q3;rw[q2];cases g with
   |it a b=>exact h1
   |mp es=>
    obtain⟨en,c,r1,r2,r3⟩:=h1;obtain⟨en0,c0,s1,s2,s3⟩:=h2;refine⟨en,c,r1,r2,λ i a v hx=> ?_⟩;obtain⟨e,r4,r5,r6⟩:=r3 i a v hx;obtain⟨e0,s4,s5,s6⟩:=s3 i a v hx;exact⟨e,r4,r5.move hk ej s5.inScope,r6.move hk ej s6.inScope⟩
  ·obtain⟨q1,q2,_⟩:=axg hn;obtain⟨p1,p2,_⟩:=axg hm;rw[q2,p2]at hb;exact hg.inv.gh.sep _ _ _ _ q1 p1 hb
 refine⟨⟨hg.inv.ni,λ n e k' ys hn=> ?_,λ n m e k' ys e' k'' zN hn hm hb=> ?_,λ n e k' ys o hn=> ?_,hg.inv.fix,hg.inv.bO,hg.inv.ow.same (λ n a hn=>aGo hn) (λ b o v hv=> .inl ⟨o,v,hv⟩) (λ m e k' ys hm=>by obtain⟨m1,h1,h2,_⟩:=src hm;rw[h2];exact .inl ⟨m1,_,_,_,h1,rfl⟩) rfl,hgh⟩,⟨hg.ext.ni,by simp,λ n hn e k' ys hx=> ?_,λ n hn e k' hx=> ?_,λ n hn a hx=>by obtain⟨q1,q2⟩:=aGo hx;rw[q2];exact hg.ext.own n hn a q1,λ n hn a hx=>by obtain⟨q1,q2,_⟩:=axg hx;rw[q2];exact hg.ext.jq n hn a q1⟩,hg.tV,?_,hg.nE⟩
 ·obtain⟨m,h1,h2,h3,_⟩:=src hn;rw[h2];obtain⟨c,⟨qi,q1,gg⟩,q2,q3,q4,q5,q6⟩:=hg.inv.obj m e k' ys h1;refine⟨c,⟨qi,q1,gg⟩,q2,q3,q4,q5,λ i x hx=>⟨(q6 i x hx).1,λ j a ha=> ?_⟩⟩;obtain⟨y,hy,ho,hr⟩:=(q6 i x hx).2 j a ha;exact⟨y,hy,ho,hr.move hk ej (h3 x (mem_of_getElem? hx) a (mem_of_getElem? ha))⟩
 ·obtain⟨m1,h1,h2,_,h4⟩:=src hn;obtain⟨m2,k1,k2,_,k4⟩:=src hm;rw[h2,k2]at hb;have:=hg.inv.sep m1 m2 _ _ _ _ _ _ h1 k1 hb;rcases h4 with⟨a1,a2⟩|⟨a1,a2,a3⟩<;>rcases k4 with⟨b1,b2⟩|⟨b1,b2,b3⟩<;>omega
 ·obtain⟨m,h1,h2,_⟩:=src hn;rw[h2];exact hg.inv.gf m e k' ys o h1
 ·by_cases s7:n=k
  ·subst s7;rw[self]at hx;cases hx;exact .inr ⟨hk,ej⟩
  ·rw[oth s7]at hx;rcases hg.ext.obj n hn e k' ys (by rw[old hn];exact hx)with⟨zs,z1,z2,z3⟩|h
   ·exact .inl ⟨zs,z1,z2,λ he=>by rw[show wO L' k O.length n=L' n from if_neg s7];exact z3 he⟩
   ·exact .inr h
 ·by_cases s7:n=k
  ·subst s7;rw[self]at hx;cases hx
  ·rwa [oth s7]at hx
 ·rintro b (⟨n,e,k',ys,hn,hb⟩|⟨n,a,o,v,hn,hb⟩|⟨n,a,hn,hb⟩)
  rotate_right
  ·obtain⟨q1,q2,_⟩:=axg hn;rw[q2]at hb;exact hg.lb b (.inr (.inr ⟨n,a,q1,hb⟩))
  ·obtain⟨m,h1,h2,_⟩:=src hn;rw[h2]at hb;exact hg.lb b (.inl ⟨m,e,k',ys,h1,hb⟩)
  ·obtain⟨q1,q2⟩:=aGo hn;rw[q2]at hb;exact hg.lb b (.inr (.inl ⟨n,a,o,v,q1,hb⟩))
end
def gj.strip:gj->gj
 | .qd f args=> .call f args
 | .mN x args=> .ib x args
 | .fA f args=> .call f args
 | .p9 f args=> .call f args
 | .gq _ _ _ f args=> .call f args
 | .aY _ f args=> .call f args
 | .mM _ f args=> .call f args
 | .n6 _ f args=> .call f args
 | .jo _ t s z=> .alloc t s z
 | .ep t s l z ps=> .buildSlice t s l z ps
 | .cut s x l h=> .cj s x l h
 |o=>o
section
variable {P:Program} {I:eW} {L:Nat->Loc} {O:List aj} {w:World} {K:AV->List aj->Prop} {e:Env} {a:Act}
theorem kC.wp{o:Oper}(h:kC P I L O w (execOp a.eval o) K){next:Act->World->Prop}{Q:Exit->Act->World->Prop}
  (hn:∀x O' y I' L' w',K x O'->Good I L O w I' L' O' w'->R I' L' O' x y->next (a.put o.dst y) w'):o.wp P a w next Q:=by
 obtain⟨x,O',y,I',L',w',hk,hg,hr,h|⟨h,rfl⟩⟩:=h
 ·unfold Oper.wp;rw[h];exact hn _ _ _ _ _ _ hk hg hr
 ·unfold Oper.wp;rw[h];exact hn _ _ _ _ _ _ hk hg hr
theorem nV{o:Oper}{f:FuncId}{vs:Array Value}{next:Act->World->Prop}{Q:Exit->Act->World->Prop}{M:Value->World->Prop}
  (gC:(execOp a.eval o).run P w= .ok (.enter f vs) w) (hc:Calls P f vs w λ e w'=>∃y,e= .returned y/\M y w') (hn:∀y w',M y w'->next (a.put o.dst y) w'):o.wp P a w next Q:=by
 unfold Oper.wp;rw[gC]
 show Calls P f vs w _;refine hc.mono λ e w' ⟨y,he,hm⟩=> ?_
 subst he;exact hn y w' hm
theorem aj5{f:FuncId}(h:Enters P f)(vs:Array Value)(w:World):(callFunc f vs).run P w= .ok (.enter f vs) w:=by
 obtain⟨fn,h1,h2,h3⟩:=h;obtain⟨b,hb⟩:=Option.isSome_iff_exists.1 h2;have h4:¬fn.name= "runtime.NumGoroutine" :=by simpa using h3
 simp[callFunc,h1,h4,hb]
theorem il{c:Call}{fv:Operand}(oM:c.callee= .value fv){f:FuncId}{bl:Array Value}(hfv:a.eval fv= .func (.func f) #[] bl)(he:Enters P f){d:Option Tmp}{ty:TypeId}{pos:String}{af:Array Edge}{g:Option (Nat×Bool)}:
  (execOp a.eval ⟨d,.call c,ty,pos,af,g⟩).run P w= .ok (.enter f (c.args.map a.eval++bl)) w:=by
 simp only[execOp,resolve,oM,hfv,Deferred.ofValue];simp[invoke,aj5 he]
def gj.ahj:gj->Bool
 | .jo _ _ _ _| .cut _ _ _ _=>true
 |_=>false
theorem uA{ao b:gj}(ha:ao.ahj=false)(h:b=ao.strip)(hb:b.afi=false)(hs:∀t s l z ps,b≠ .buildSlice t s l z ps):ao=b:=by
 subst h;cases ao<;>first|rfl|(simp[gj.strip,gj.afi]at hb;done)|(simp[gj.ahj]at ha;done)|(exact(hs _ _ _ _ _ rfl).elim)
theorem ar6{d:Option Tmp}{op:Op}{ty:TypeId}{pos:String}{af:Array Edge}{g:Option (Nat×Bool)}{ao:gj}(hc:eY P ty op=some ao)(hi:Inv I L O w)(he:∀t,R I L O (e t) (a.tmps.getD t undef))(hk:wpOp P ao e O K):
  kC P I L O w (execOp a.eval ⟨d,op,ty,pos,af,g⟩) K:=by
 cases op
 case move=>exact aBk hi he hc hk
 case assign=>exact apa hi he hc hk
 case pick=>exact axw hi he hc hk
 case alloc=>exact atl hi hc hk
 case box=>exact aBo hi he hc hk
 case build=>exact atk hi he hc hk
 case buildSlice=>exact aeB hi he hc hk
 case load=>exact axz hi he hc hk
 case store=>exact atf hi he hc hk
 case nilCheck=>exact axx hi he hc hk
 case binOp=>exact aBp hi he hc hk
 case unOp=>exact aGz hi he hc hk
 case convert=>exact amP hi he hc hk
 case fieldAddr=>exact atj hi he hc hk
 case field=>exact aBl hi he hc hk
 case indexAddr=>exact ati hi he hc hk
 case index=>exact ath hi he hc hk
 case slice=>exact atg hi he hc hk
 case extract=>exact aBm hi he hc hk
 case makeFunc=>exact axy hi he hc hk
 all_goals cases hc
theorem aDk(O:List aj)(res:AV):aft O [] res=O:=by simp[aft]
theorem alc{c:Call}{ao:gj}{d:Option Tmp}{ty:TypeId}{pos:String}{af:Array Edge}{g:Option (Nat×Bool)}(hc:ajp P c=some ao.strip)(hi:Inv I L O w)(he:∀t,R I L O (e t) (a.tmps.getD t undef))(hk:wpOp P ao e O K){next:Act->World->Prop}{Q:Exit->Act->World->Prop}
  (hn:∀x O' y I' L' w',K x O'->Good I L O w I' L' O' w'->R I' L' O' x y->next (a.put d y) w'):Oper.wp P ⟨d,.call c,ty,pos,af,g⟩ a w next Q:=by
 unfold ajp at hc
 split at hc
 ·rename_i fv oM
  have hrl:∀{args},aAc c.args=some args->RL I L O (args.map (bj.ev e)) (c.args.map a.eval):=by
   intro args h;have:=abX (I:=I) (L:=L) (O:=O) (e:=e) (a:=a) h he;have h2:(List.map a.eval c.args.toList).toArray=Array.map a.eval c.args:=by apply Array.ext';simp
   rwa [h2]at this
  split at hc
  ·rename_i f args hf tS;have rf:=aO hf he
   have hv:a.eval fv= .func (.func f) #[] #[]:=by
    generalize a.eval fv=X at rf;cases rf with
    |fn _ _ vs h1 h2=>congr 1;exact(Array.eq_empty_of_size_eq_zero h1.symm)
   have hra:=hrl tS;simp only[Option.some.injEq]at hc;cases ao<;>simp only[gj.strip]at hc<;>first|(cases hc;done)|skip
   case call f' zG=>
    cases hc;obtain⟨res,O',iU,hk⟩:=hk;refine nV (a:=a) (il oM hv iU.1) (M:=λ y w'=>∃I' L',R I' L' O' res y/\Good I L O w I' L' O' w') ?_ λ y w' ⟨I',L',h1,h2⟩=>hn _ _ _ _ _ _ hk h2 h1
    refine(iU.2 I L w _ hi (by simpa using hra)).mono ?_;rintro e' w' ⟨y,I',L',rfl,h1,h2⟩;exact⟨y,rfl,I',L',h1,h2⟩
   case qd f' zG=>
    cases hc;obtain⟨res,hnr,iU,hk⟩:=hk;have:=qQ (as:=args.map (bj.ev e)) (bl:=[]) (vs:=c.args.map a.eval) hi (by simpa using hra) (by simpa [Function.comp_def]using hnr) (by simpa [Function.comp_def]using iU);refine nV (a:=a) (il oM hv iU.1) (M:=λ y w'=>∃I' L',R I' L' (aft O (args.map (bj.ev e)) res) res y/\Good I L O w I' L' (aft O (args.map (bj.ev e)) res) w') ?_ λ y w' ⟨I',L',h1,h2⟩=>hn _ _ _ _ _ _ hk h2 h1
    simp only[Array.append_empty];refine this.mono ?_;rintro e' w' ⟨y,I',L',rfl,h1,h2⟩;exact⟨y,rfl,I',L',h1,h2⟩
   case fA f' zG=>
    cases hc;obtain⟨res,hnr,iU,hk⟩:=hk;have:=qQ (as:=[]) (bl:=args.map (bj.ev e)) (vs:=c.args.map a.eval) hi (by simpa using hra) (by simpa using hnr) (by simpa using iU);rw[aDk]at this;refine nV (a:=a) (il oM hv iU.1) (M:=λ y w'=>∃I' L',R I' L' O res y/\Good I L O w I' L' O w') ?_ λ y w' ⟨I',L',h1,h2⟩=>hn _ _ _ _ _ _ hk h2 h1
    simp only[Array.append_empty];refine this.mono ?_;rintro e' w' ⟨y,I',L',rfl,h1,h2⟩;exact⟨y,rfl,I',L',h1,h2⟩
   case aY gs f' zG=>
    cases hc;obtain⟨res,O',iU,hk⟩:=hk;refine nV (a:=a) (il oM hv iU.1) (M:=λ y w'=>∃I' L',R I' L' O' res y/\Good I L O w I' L' O' w') ?_ λ y w' ⟨I',L',h1,h2⟩=>hn _ _ _ _ _ _ hk h2 h1
    refine(iU.2 I L w _ hi (by simpa using hra)).mono ?_;rintro e' w' ⟨y,I',L',rfl,h1,h2⟩;exact⟨y,rfl,I',L',h1,h2⟩
   case mM gs f' zG=>
    cases hc;obtain⟨n,a0,ob,res,ob',q1,q2,q3,q4,q5,q6,q7,q8,hk⟩:=hk;have iU:=q8.aPR q2 q5 q7 q6 n q4;rw[←q1]at iU;refine nV (a:=a) (il oM hv iU.1) (M:=λ y w'=>∃I' L',R I' L' (O.set n ob') res y/\Good I L O w I' L' (O.set n ob') w') ?_ λ y w' ⟨I',L',h1,h2⟩=>hn _ _ _ _ _ _ hk h2 h1
    refine(iU.2 I L w _ hi (by simpa using hra)).mono ?_;rintro e' w' ⟨y,I',L',rfl,h1,h2⟩;exact⟨y,rfl,I',L',h1,h2⟩
   case n6 rd' f' zG=>
    cases hc;obtain⟨res,O',iU,_,hk⟩:=hk;refine nV (a:=a) (il oM hv iU.1) (M:=λ y w'=>∃I' L',R I' L' O' res y/\Good I L O w I' L' O' w') ?_ λ y w' ⟨I',L',h1,h2⟩=>hn _ _ _ _ _ _ hk h2 h1
    refine(iU.2 I L w _ hi (by simpa using hra)).mono ?_;rintro e' w' ⟨y,I',L',rfl,h1,h2⟩;exact⟨y,rfl,I',L',h1,h2⟩
   case gq nl' t' s' f' zG=>
    cases hc;obtain⟨res,ob,cJ,aNQ,hk⟩:=hk;have iU:=aNQ.fresh cJ O;refine nV (a:=a) (il oM hv iU.1) (M:=λ y w'=>∃I' L',R I' L' (O++ [ob.bL λ n=>O.length+n]) (res.bL λ n=>O.length+n) y/\Good I L O w I' L' (O++ [ob.bL λ n=>O.length+n]) w') ?_ λ y w' ⟨I',L',h1,h2⟩=>hn _ _ _ _ _ _ hk h2 h1
    refine(iU.2 I L w _ hi (by simpa using hra)).mono ?_;rintro e' w' ⟨y,I',L',rfl,h1,h2⟩;exact⟨y,rfl,I',L',h1,h2⟩
   case p9 f' zG=>
    cases hc;obtain⟨res,hfl,hnr,iU,hk⟩:=hk;have aRh:aft O (args.map (bj.ev e)) res=O:=if_pos hfl;have:=qQ (as:=args.map (bj.ev e)) (bl:=[]) (vs:=c.args.map a.eval) hi (by simpa using hra) (by simpa [Function.comp_def]using hnr) (by simpa [Function.comp_def]using iU);rw[aRh]at this;refine nV (a:=a) (il oM hv iU.1) (M:=λ y w'=>∃I' L',R I' L' O res y/\Good I L O w I' L' O w') ?_ λ y w' ⟨I',L',h1,h2⟩=>hn _ _ _ _ _ _ hk h2 h1
    simp only[Array.append_empty];refine this.mono ?_;rintro e' w' ⟨y,I',L',rfl,h1,h2⟩;exact⟨y,rfl,I',L',h1,h2⟩
  ·rename_i x args ej hf tS;have rf:=aO hf he;have hra:=hrl tS;simp only[Option.some.injEq]at hc;cases ao<;>simp only[gj.strip]at hc<;>first|(cases hc;done)|skip
   case ib x' zG=>
    cases hc;simp only[wpOp]at hk;generalize hA:x.ev e=A at rf hk;cases A<;>simp only at hk
    rename_i f bl;obtain⟨res,O',iU,hk⟩:=hk;generalize hX:a.eval fv=X at rf;cases rf with
    |fn _ _ vs h1 h2=>
     refine nV (a:=a) (il oM hX iU.1) (M:=λ y w'=>∃I' L',R I' L' O' res y/\Good I L O w I' L' O' w') ?_ λ y w' ⟨I',L',h1,h2⟩=>hn _ _ _ _ _ _ hk h2 h1
     refine(iU.2 I L w _ hi ?_).mono ?_
     ·refine⟨by simp only[List.length_append,Array.size_append,h1,hra.1],λ i b y hb hy=> ?_⟩;by_cases aK:i<(args.map (bj.ev e)).length
      ·rw[getElem?_append_left aK]at hb;rw[Array.getElem?_append_left (by rw[←hra.1];exact aK)]at hy;exact hra.2 i b y hb hy
      ·rw[getElem?_append_right (by omega)]at hb;rw[Array.getElem?_append_right (by rw[←hra.1];omega),←hra.1]at hy;exact h2 _ b y hb hy
     ·rintro e' w' ⟨y,I',L',rfl,h1,h2⟩;exact⟨y,rfl,I',L',h1,h2⟩
   case mN x' zG=>
    cases hc;simp only[wpOp]at hk;generalize hA:x.ev e=A at rf hk;cases A<;>simp only at hk
    rename_i f bl;obtain⟨res,hnr,iU,hk⟩:=hk;generalize hX:a.eval fv=X at rf;cases rf with
    |fn _ _ vs h1 h2=>
     have:=qQ (as:=args.map (bj.ev e)) (bl:=bl) (vs:=c.args.map a.eval++vs) hi (by
      refine⟨by simp only[List.length_append,Array.size_append,h1,hra.1],λ i b y hb hy=> ?_⟩;by_cases aK:i<(args.map (bj.ev e)).length
      ·rw[getElem?_append_left aK]at hb;rw[Array.getElem?_append_left (by rw[←hra.1];exact aK)]at hy;exact hra.2 i b y hb hy
      ·rw[getElem?_append_right (by omega)]at hb;rw[Array.getElem?_append_right (by rw[←hra.1];omega),←hra.1]at hy;exact h2 _ b y hb hy) (by simpa [Function.comp_def]using hnr) (by simpa [Function.comp_def]using iU)
     refine nV (a:=a) (il oM hX iU.1) (M:=λ y w'=>∃I' L',R I' L' (aft O (args.map (bj.ev e)) res) res y/\Good I L O w I' L' (aft O (args.map (bj.ev e)) res) w') ?_ λ y w' ⟨I',L',h1,h2⟩=>hn _ _ _ _ _ _ hk h2 h1
     refine this.mono ?_;rintro e' w' ⟨y,I',L',rfl,h1,h2⟩;exact⟨y,rfl,I',L',h1,h2⟩
  ·cases hc
 ·rename_i oM
  split at hc
  ·rename_i t x hts has;have hat:c.argTypes= #[t]:=by apply Array.ext';simpa using hts
   have haa:c.args= #[x]:=by apply Array.ext';simpa using has
   split at hc
   ·rename_i ht;simp only[map_eq_some_iff]at hc;obtain⟨ax,hx,hc⟩:=hc;have:=uA (by cases ao<;>first|rfl|(simp[gj.strip]at hc;done)) hc rfl (by simp);subst this;obtain⟨x',y,h1,h2,h3⟩:=axA (ty:=ty) hi he ht hx hk;refine kC.wp (kC.same hi h1 h2 ?_) hn;simp only[execOp,resolve,oM,hat,haa];simp[invoke,builtin,h3]
   ·rename_i el ht;simp only[map_eq_some_iff]at hc;obtain⟨ax,hx,hc⟩:=hc;have:=uA (by cases ao<;>first|rfl|(simp[gj.strip]at hc;done)) hc rfl (by simp);subst this;obtain⟨x',y,h1,h2,h3⟩:=axB (ty:=ty) hi he ht hx hk;refine kC.wp (kC.same hi h1 h2 ?_) hn;simp only[execOp,resolve,oM,hat,haa];simp[invoke,builtin,h3]
   ·cases hc
  ·cases hc
 ·rename_i oM
  split at hc
  ·rename_i t u x y hts has
   split at hc
   ·rename_i htu;subst htu;have hat:c.argTypes= #[t,t]:=by apply Array.ext';simpa using hts
    have haa:c.args= #[x,y]:=by apply Array.ext';simpa using has
    simp only[bind_eq_bind,bind_eq_some_iff,Option.some.injEq]at hc;obtain⟨el,ez,⟨s,b,z⟩,hz,ax,hx,ay,hy,hc⟩:=hc;have:=uA (by cases ao<;>first|rfl|(simp[gj.strip]at hc;done)) hc rfl (by simp);subst this;obtain⟨x',O',y',I',L',w',h1,h2,h3,h4⟩:=aDd (ty:=ty) (nH ez) hz hi (aO hx he) (aO hy he) hk;refine kC.wp ⟨x',O',y',I',L',w',h1,h2,h3,.inl ?_⟩ hn;simp only[execOp,resolve,oM,hat,haa];simp[invoke,builtin,h4]
   ·cases hc
  ·cases hc
 ·cases hc
theorem acR{ty:TypeId}{op:Op}{t s l:Nat}{z:AV}{ps:List (Nat×bj)}(h:eY P ty op=some (.buildSlice t s l z ps)):∃t len parts,op= .buildSlice t len parts:=by
 cases op<;>simp only[eY]at h
 case buildSlice t len parts=>exact⟨t,len,parts,rfl⟩
 all_goals (repeat' split at h)
 all_goals first
  |(simp[bind_eq_some_iff]at h;done)
  |(rename_i heq;cases heq;done)
  |(exfalso;first|(have q:=nF h;simp at q;done)|(simp_all;done))
theorem ayk(hi:Inv I L O w)(as:List AV):Inv (aaz I L O w as) L [] w:=by
 refine⟨λ b o x hx=> ?_,by simp,by simp,by simp,λ p hp=>ac4 hi as _ _ _ (hi.fix p hp),hi.zE (ac4 hi as),.no (by simp),.no (by simp)⟩;unfold aaz at hx
 split at hx
 ·exact hx
 ·exact hi.ni b o x hx
theorem anm{t:TypeId}(h:aCc P t=true):∃el,P.underlying t=some (.slice el):=by
 unfold aCc at h;split at h
 ·rename_i x hx;exact⟨_,hx⟩
 ·cases h
theorem atV{t:TypeId}(h:ayE P t=true):∃el,P.underlying t=some (.pointer el):=by
 unfold ayE at h;split at h
 ·rename_i x hx;exact⟨_,hx⟩
 ·cases h
theorem atX{t:TypeId}(h:ayG P t=true):∃el,P.underlying t=some (.interface el):=by
 unfold ayG at h;split at h
 ·rename_i x hx;exact⟨_,hx⟩
 ·cases h
theorem ayD{t:TypeId}(h:aG6 P t=true):P.underlying t=some (.int .u8):=by
 unfold aG6 at h;split at h
 ·rename_i hx;exact hx
 ·cases h
theorem atW{t:TypeId}(h:isInt P t=true):∃k,P.underlying t=some (.int k):=by
 unfold isInt at h;split at h
 ·rename_i k hx;exact⟨k,hx⟩
 ·cases h
theorem atU{t:TypeId}(h:isStr P t=true):P.underlying t=some .string:=by
 unfold isStr at h;split at h
 ·rename_i hx;exact hx
 ·cases h
theorem pk(hi:Inv I L O w){v:AV}{x:Value}(hr:R I L O v x)(hn:(lh O v).ag=true)(as:List AV)(hm:v∈as):R (aaz I L O w as) L [] (lh O v) x:=ai6 hi hm hr hn
theorem amp:∀{xs:List AV} {l:List UInt8},u8s xs=some l->∃ns:List Int,xs=ns.map (λ n=> .v (.int .u8 n))/\l=ns.map λ n=>UInt8.ofNat n.toNat
 | [],l,h=>by simp[u8s]at h;subst h;exact⟨[],rfl,rfl⟩
 |x::r,l,h=>by
  unfold u8s at h
  split at h
  ·rename_i hx;cases hx
  ·rename_i n r' hx;cases hx;simp only[map_eq_some_iff]at h;obtain⟨l',h1,rfl⟩:=h;obtain⟨ns,rfl,rfl⟩:=amp h1;exact⟨n::ns,rfl,rfl⟩
  ·cases h
theorem aDa{s d el:TypeId}(hs:P.underlying s=some (.slice el))(he:P.underlying el=some (.int .u8))(hd:P.underlying d=some .string){I':eW}{L':Nat->Loc}(hinv:Inv I' L' [] w){v:AV}{x:Value}{y:AV}(hr:R I' L' [] v x)(hp:zR .b2s [v]=some y):
  ∃z,y= .v z/\z.oneCell'=true/\(convert s d x).run P w= .ok z w:=by
 unfold zR at hp
 split at hp<;>first|(rename_i ho hv;cases ho;done)|(rename_i ho;cases ho;done)|skip
 ·rename_i ys ho hv;cases hv;simp only[map_eq_some_iff]at hp;obtain⟨l,hl,rfl⟩:=hp;obtain⟨ns,rfl,rfl⟩:=amp hl;generalize hX:(ns.map λ n=>AV.v (.int .u8 n))=X at hr;cases hr with
  |oX a cap=>
   have hn:ns= []:=by simpa using hX
   subst hn;refine⟨_,rfl,rfl,?_⟩;rw[run_convert_bytes_string w s d el a 0 cap hs he hd];cases a with
   |none=>simp[Conv.bytesToString];rfl
   |some a=>simp[Conv.bytesToString,loadCells,loadCellsFrom];rfl
  |sl xs bO off cap s' cg h1 h2 h3 h4 h5=>
   subst hX;refine⟨_,rfl,rfl,?_⟩;have hlen:ns.length=(ns.map λ n=>AV.v (.int .u8 n)).length:=by simp
   have:=run_convert_bytes_arg (P:=P) w s el hs he bO off (ns.map λ n=>AV.v (.int .u8 n)).length cap ns hlen (λ i hi=> ?_) d hd
   ·rw[this];rfl
   ·have fR:i<ns.length:=by simpa using hi
    have hx:(ns.map λ n=>AV.v (.int .u8 n))[i]? =some (.v (.int .u8 ns[i])):=by simp[fR]
    have hs1:s'=1:=by have:=h3 i _ hx;simpa [AV.cells]using this.symm
    subst hs1;have hc0:(AV.v (.int .u8 ns[i])).cells[0]? =some (.v (.int .u8 ns[i])):=rfl;have tR:=(h4 i _ 0 _ hx hc0).1;have at4:=(h5 i _ 0 _ hx hc0).exact;rw[at4]at tR;have:=hinv.ni _ _ _ tR;simp only[Nat.mul_one,Nat.add_zero]at this;rw[this];simp[List.getD,fR]
 ·rename_i ho hv;cases hv;simp only[Option.some.injEq]at hp;subst hp;cases hr;refine⟨_,rfl,rfl,?_⟩;rw[run_convert_bytes_string w s d el none 0 0 hs he hd];simp[Conv.bytesToString];rfl
 ·cases hp
theorem aqr{op:BinOp}(h:uY op=true):op= .eql∨op= .neq:=by
 cases op<;>simp[uY]at h<;>simp
theorem pL{t:TypeId}{x y:Value}{b:Bool}{op:BinOp}(ho:op= .eql∨op= .neq)(ht:(Op.equalIn (9999+1) t x y).run P w= .ok b w)(ox oy:Operand)
  (hb:∀op:BinOp,op= .eql∨op= .neq->(eqGuard op t ox oy x y).run P w= .ok () w) (h2:∀op:BinOp,op= .eql->binOp op t x y=do pure (.bool (←Op.equal t x y))) (h3:∀op:BinOp,op= .neq->binOp op t x y=do pure (.bool (!(←Op.equal t x y)))):
  (do eqGuard op t ox oy x y;binOp op t x y:Sem Value).run P w= .ok (.bool (tO op !=b)) w:=by
 have e1:(Op.equal t x y).run P w= .ok b w:=ht;rcases ho with rfl|rfl
 ·rw[Sem.run_bind,hb _ (.inl rfl),h2 _ rfl];simp[e1,tO]
 ·rw[Sem.run_bind,hb _ (.inr rfl),h3 _ rfl];simp[e1,tO]
theorem apM{t el:TypeId}(ht:P.underlying t=some (.slice el)){op:BinOp}(ho:uY op=true){I':eW}{L':Nat->Loc}{v:AV}{x:Value}{y:AV}(hr:R I' L' [] v x)(hp:zR (.qk (tO op)) [v]=some y)(ox oy:Operand):
  ∃z,y= .v z/\z.oneCell'=true/\(do eqGuard op t ox oy x (.slice none 0 0);binOp op t x (.slice none 0 0):Sem Value).run P w= .ok z w:=by
 have ho:=aqr ho;unfold zR at hp
 split at hp<;>first|(rename_i h1 h2;cases h1;done)|(rename_i h1;cases h1;done)|skip
 ·rename_i neg h1 h2;cases h1;cases h2;cases hr;simp only[Option.some.injEq]at hp;subst hp;refine⟨_,rfl,rfl,pL (b:=true) ho ?_ ox oy (λ op ho=> ?_) (λ op ho=> ?_) (λ op ho=> ?_)⟩
  ·rw[Op.equalIn];simp[run_underlying ht]
  ·rcases ho with rfl|rfl<;>simp[eqGuard]
  ·subst ho;rfl
  ·subst ho;rfl
 ·rename_i neg a l h1 h2;cases h1;cases h2;simp only[Option.some.injEq]at hp;subst hp;cases hr with
  |sl xs bO off cap s' cg h1 h2 h3 h4 h5=>
   refine⟨_,rfl,rfl,pL (b:=false) ho ?_ ox oy (λ op ho=> ?_) (λ op ho=> ?_) (λ op ho=> ?_)⟩
   ·rw[Op.equalIn];simp[run_underlying ht]
   ·rcases ho with rfl|rfl<;>simp[eqGuard]
   ·subst ho;rfl
   ·subst ho;rfl
 ·cases hp
theorem apN{t el:TypeId}(ht:P.underlying t=some (.pointer el)){op:BinOp}(ho:uY op=true){I':eW}{L':Nat->Loc}{v:AV}{x:Value}{y:AV}(hr:R I' L' [] v x)(hp:zR (.aaC (tO op)) [v]=some y)(ox oy:Operand):
  ∃z,y= .v z/\z.oneCell'=true/\(do eqGuard op t ox oy x (.pointer none);binOp op t x (.pointer none):Sem Value).run P w= .ok z w:=by
 have ho:=aqr ho;unfold zR at hp
 split at hp<;>first|(rename_i h1 h2;cases h1;done)|(rename_i h1;cases h1;done)|skip
 ·rename_i neg h1 h2;cases h1;cases h2;have:=hr.exact;subst this;simp only[Option.some.injEq]at hp;subst hp;refine⟨_,rfl,rfl,pL (b:=true) ho ?_ ox oy (λ op ho=> ?_) (λ op ho=> ?_) (λ op ho=> ?_)⟩
  ·rw[Op.equalIn];simp[run_underlying ht]
  ·rcases ho with rfl|rfl<;>simp[eqGuard]
  ·subst ho;rfl
  ·subst ho;rfl
 ·rename_i neg a l h1 h2;cases h1;cases h2;simp only[Option.some.injEq]at hp;subst hp;cases hr;refine⟨_,rfl,rfl,pL (b:=false) ho ?_ ox oy (λ op ho=> ?_) (λ op ho=> ?_) (λ op ho=> ?_)⟩
  ·rw[Op.equalIn];simp[run_underlying ht]
  ·rcases ho with rfl|rfl<;>simp[eqGuard]
  ·subst ho;rfl
  ·subst ho;rfl
 ·cases hp
theorem apO{t:TypeId}{el:Array (String×TypeId)}(ht:P.underlying t=some (.interface el)){op:BinOp}(ho:uY op=true){I':eW}{L':Nat->Loc}{v:AV}{x:Value}{y:AV}(hr:R I' L' [] v x)(hp:zR (.aaD (tO op)) [v]=some y)(ox:Operand):
  ∃z,y= .v z/\z.oneCell'=true/\(do eqGuard op t ox (.const .nilIface) x .nilIface;binOp op t x .nilIface:Sem Value).run P w= .ok z w:=by
 have ho:=aqr ho;unfold zR at hp
 split at hp<;>first|(rename_i h1 h2;cases h1;done)|(rename_i h1;cases h1;done)|skip
 ·rename_i neg h1 h2;cases h1;cases h2;have:=hr.exact;subst this;simp only[Option.some.injEq]at hp;subst hp;refine⟨_,rfl,rfl,pL (b:=true) ho ?_ ox (.const .nilIface) (λ op ho=> ?_) (λ op ho=> ?_) (λ op ho=> ?_)⟩
  ·rw[Op.equalIn];simp[run_underlying ht]
  ·rcases ho with rfl|rfl<;>simp[eqGuard]
  ·subst ho;rfl
  ·subst ho;rfl
 ·rename_i neg h1 h2;cases h1;cases h2;simp only[Option.some.injEq]at hp;subst hp;cases hr;refine⟨_,rfl,rfl,pL (b:=false) ho ?_ ox (.const .nilIface) (λ op ho=> ?_) (λ op ho=> ?_) (λ op ho=> ?_)⟩
  ·rw[Op.equalIn];simp[run_underlying ht]
  ·rcases ho with rfl|rfl<;>simp[eqGuard]
  ·subst ho;rfl
  ·subst ho;rfl
 ·cases hp
theorem aBT{I':eW}{L':Nat->Loc}{u v:AV}{x x':Value}{y:AV}(hr:R I' L' [] u x)(lV:R I' L' [] v x')(hp:zR .min [u,v]=some y)(ts:Array TypeId)(ty:TypeId):
  ∃z,y= .v z/\z.oneCell'=true/\(Builtin.min_ ts ty #[x,x']).run P w= .ok z w:=by
 unfold zR at hp
 split at hp<;>first|(rename_i h1 h2;cases h1;done)|(rename_i h1;cases h1;done)|skip
 ·rename_i k a k' b h1 h2;cases h2;have e1:=hr.exact;have e2:=lV.exact;subst e1;subst e2
  split at hp
  ·rename_i hk;subst hk;simp only[Option.some.injEq]at hp;subst hp;exact⟨_,rfl,rfl,by simp[Builtin.min_,Builtin.min2]⟩
  ·cases hp
 ·cases hp
theorem aBV{I':eW}{L':Nat->Loc}{u v:AV}{x x':Value}{y:AV}(hr:R I' L' [] u x)(lV:R I' L' [] v x')(hp:zR .max [u,v]=some y)(ts:Array TypeId)(ty:TypeId):
  ∃z,y= .v z/\z.oneCell'=true/\(Builtin.max_ ts ty #[x,x']).run P w= .ok z w:=by
 unfold zR at hp
 split at hp<;>first|(rename_i h1 h2;cases h1;done)|(rename_i h1;cases h1;done)|skip
 ·rename_i k a k' b h1 h2;cases h2;have e1:=hr.exact;have e2:=lV.exact;subst e1;subst e2
  split at hp
  ·rename_i hk;subst hk;simp only[Option.some.injEq]at hp;subst hp;exact⟨_,rfl,rfl,by simp[Builtin.max_,Builtin.max2]⟩
  ·cases hp
 ·cases hp
theorem az4{I':eW}{L':Nat->Loc}{v:AV}{x:Value}{y:AV}(hr:R I' L' [] v x)(hp:zR .az5 [v]=some y):
  ∃z,y= .v z/\z.oneCell'=true/\x= .slice none 0 0/\z= .int .i64 0:=by
 unfold zR at hp
 split at hp<;>first|(rename_i h1 h2;cases h1;done)|(rename_i h1;cases h1;done)|skip
 ·rename_i h1 h2;cases h2;cases hr;simp only[Option.some.injEq]at hp;subst hp;exact⟨_,rfl,rfl,rfl,rfl⟩
 ·cases hp
theorem sR{o:PU}{xs:List AV}{M:AV->Prop}(h:puK o xs M):∃y,zR o xs=some y/\M y:=by
 unfold puK at h;split at h
 ·rename_i v hv;exact⟨v,hv,h⟩
 ·exact h.elim
theorem aBF{d:Option Tmp}{op:Op}{ty:TypeId}{pos:String}{af:Array Edge}{g:Option (Nat×Bool)}{ao:gj}(hc:aAd P op=some ao)(hi:Inv I L O w)(he:∀t,R I L O (e t) (a.tmps.getD t undef))(hk:wpOp P ao e O K):
  kC P I L O w (execOp a.eval ⟨d,op,ty,pos,af,g⟩) K:=by
 unfold aAd at hc
 split at hc
 ·rename_i op t x u
  split at hc
  ·rename_i hb;simp only[bind_eq_bind,bind_eq_some_iff,Option.some.injEq]at hc;obtain⟨ax,hx,rfl⟩:=hc;obtain⟨el,ht⟩:=anm hb.2;obtain⟨hn,hk⟩:=hk;simp only[map_cons,map_nil]at hn hk;obtain⟨y,hy,hk⟩:=sR hk;have rx:=pk hi (aO hx he) (by simpa [AV.ae]using hn) [ax.ev e] (by simp);obtain⟨z,rfl,hz,gC⟩:=apM (P:=P) (w:=w) ht hb.1 rx hy x (.const (.slice none 0 0));refine kC.same hi hk (.v z hz) ?_;simp only[execOp];have:a.eval (.const (.slice none 0 0))= .slice none 0 0:=rfl;rw[this,Sem.run_bind,gC];rfl
  ·cases hc
 ·rename_i op t x u
  split at hc
  ·rename_i hb;simp only[bind_eq_bind,bind_eq_some_iff,Option.some.injEq]at hc;obtain⟨ax,hx,rfl⟩:=hc;obtain⟨el,ht⟩:=atV hb.2;obtain⟨hn,hk⟩:=hk;simp only[map_cons,map_nil]at hn hk;obtain⟨y,hy,hk⟩:=sR hk;have rx:=pk hi (aO hx he) (by simpa [AV.ae]using hn) [ax.ev e] (by simp);obtain⟨z,rfl,hz,gC⟩:=apN (P:=P) (w:=w) ht hb.1 rx hy x (.const (.pointer none));refine kC.same hi hk (.v z hz) ?_;simp only[execOp];have:a.eval (.const (.pointer none))= .pointer none:=rfl;rw[this,Sem.run_bind,gC];rfl
  ·cases hc
 ·rename_i op t x u
  split at hc
  ·rename_i hb;simp only[bind_eq_bind,bind_eq_some_iff,Option.some.injEq]at hc;obtain⟨ax,hx,rfl⟩:=hc;obtain⟨el,ht⟩:=atX hb.2;obtain⟨hn,hk⟩:=hk;simp only[map_cons,map_nil]at hn hk;obtain⟨y,hy,hk⟩:=sR hk;have rx:=pk hi (aO hx he) (by simpa [AV.ae]using hn) [ax.ev e] (by simp);obtain⟨z,rfl,hz,gC⟩:=apO (P:=P) (w:=w) ht hb.1 rx hy x;refine kC.same hi hk (.v z hz) ?_;simp only[execOp];have:a.eval (.const .nilIface)= .nilIface:=rfl;rw[this,Sem.run_bind,gC];rfl
  ·cases hc
 ·rename_i s d' x;simp only[bind_eq_bind,bind_eq_some_iff]at hc;obtain⟨el,ez,hc⟩:=hc
  split at hc
  ·rename_i hb;simp only[bind_eq_some_iff,Option.some.injEq]at hc;obtain⟨ax,hx,rfl⟩:=hc;obtain⟨hn,hk⟩:=hk;simp only[map_cons,map_nil]at hn hk;obtain⟨y,hy,hk⟩:=sR hk;have rx:=pk hi (aO hx he) (by simpa [AV.ae]using hn) [ax.ev e] (by simp);obtain⟨z,rfl,hz,gC⟩:=aDa (P:=P) (nH ez) (ayD hb.1) (atU hb.2) (ayk hi [ax.ev e]) rx hy;refine kC.same hi hk (.v z hz) ?_;simp only[execOp];rw[Sem.run_bind,gC];rfl
  ·cases hc
 ·rename_i c
  split at hc
  ·rename_i t u x y oM hts has;have hat:c.argTypes= #[t,u]:=by apply Array.ext';simpa using hts
   have haa:c.args= #[x,y]:=by apply Array.ext';simpa using has
   split at hc
   ·rename_i hin;obtain⟨ki,hu⟩:=atW hin;simp only[bind_eq_bind,bind_eq_some_iff,Option.some.injEq]at hc;obtain⟨el,ez,⟨s,b,z⟩,hz,ax,hx,ay,hy,rfl⟩:=hc;simp only[wpOp]at hk;have rx:=aO (I:=I) (L:=L) (O:=O) hx he;have ry:=aO (I:=I) (L:=L) (O:=O) hy he
    split at hk
    ·rename_i k hA hB;rw[hA]at rx;rw[hB]at ry;have e2:=ry.exact;obtain⟨k0,k1,k2,hk⟩:=hk;obtain⟨n,rfl⟩:∃n:Nat,k=n:=⟨k.toNat,by omega⟩;obtain⟨i,z0,h1,h2,h3,rfl,rfl,h4,h5,h6,h7⟩:=nI hz
     have k1':n*i.bytes<=281474976710656:=by
      have:((i.bytes*n:Nat):Int)<=281474976710656:=by rw[Int.natCast_mul];omega
      rw[Nat.mul_comm];omega
     obtain⟨y',I',L',w',g1,g2,g3⟩:=aAq (P:=P) (w:=w) (t:=t) (u:=u) (ty:=ty) (nH ez) hu h1 h2 h3 h5 h6 h7 h4 hi (by omega) k1' (by omega);simp only[Int.toNat_natCast]at hk;refine⟨_,_,y',I',L',w',hk,g1,g2,.inl ?_⟩;have e1:a.eval x= .slice none 0 0:=by generalize a.eval x=X at rx;cases rx;rfl
     simp only[execOp,resolve,oM,hat,haa];simp[invoke,builtin,e1,e2,g3]
    ·exact hk.elim
   ·cases hc
  ·rename_i t x oM hts has;have hat:c.argTypes= #[t]:=by apply Array.ext';simpa using hts
   have haa:c.args= #[x]:=by apply Array.ext';simpa using has
   split at hc
   ·rename_i hsl;obtain⟨el,ht⟩:=anm hsl;simp only[bind_eq_bind,bind_eq_some_iff,Option.some.injEq]at hc;obtain⟨ax,hx,rfl⟩:=hc;obtain⟨hn,hk⟩:=hk;simp only[map_cons,map_nil]at hn hk;simp only[AV.ae,Bool.and_true]at hn;obtain⟨v,hv,hk⟩:=sR hk;have rx:=pk hi (aO hx he) hn [ax.ev e] (by simp);obtain⟨z,rfl,hz,hX,rfl⟩:=az4 rx hv;refine kC.same hi hk (.v _ hz) ?_;simp only[execOp,resolve,oM,hat,haa];simp[invoke,builtin,hX,Builtin.cap_,run_underlying ht]
    rfl
   ·cases hc
  ·rename_i t u x y oM hts has;have hat:c.argTypes= #[t,u]:=by apply Array.ext';simpa using hts
   have haa:c.args= #[x,y]:=by apply Array.ext';simpa using has
   simp only[bind_eq_bind,bind_eq_some_iff,Option.some.injEq]at hc;obtain⟨ax,hx,ay,hy,rfl⟩:=hc;obtain⟨hn,hk⟩:=hk;simp only[map_cons,map_nil]at hn hk;simp only[AV.ae,Bool.and_true,and_eq_true]at hn;obtain⟨v,hv,hk⟩:=sR hk;have rx:=pk hi (aO hx he) hn.1 [ax.ev e,ay.ev e] (by simp);have ry:=pk hi (aO hy he) hn.2 [ax.ev e,ay.ev e] (by simp);obtain⟨z,rfl,hz,gC⟩:=aBT (P:=P) (w:=w) rx ry hv #[t,u] ty;refine kC.same hi hk (.v z hz) ?_;simp only[execOp,resolve,oM,hat,haa];simp[invoke,builtin,gC]
  ·rename_i t u x y oM hts has;have hat:c.argTypes= #[t,u]:=by apply Array.ext';simpa using hts
   have haa:c.args= #[x,y]:=by apply Array.ext';simpa using has
   simp only[bind_eq_bind,bind_eq_some_iff,Option.some.injEq]at hc;obtain⟨ax,hx,ay,hy,rfl⟩:=hc;obtain⟨hn,hk⟩:=hk;simp only[map_cons,map_nil]at hn hk;simp only[AV.ae,Bool.and_true,and_eq_true]at hn;obtain⟨v,hv,hk⟩:=sR hk;have rx:=pk hi (aO hx he) hn.1 [ax.ev e,ay.ev e] (by simp);have ry:=pk hi (aO hy he) hn.2 [ax.ev e,ay.ev e] (by simp);obtain⟨z,rfl,hz,gC⟩:=aBV (P:=P) (w:=w) rx ry hv #[t,u] ty;refine kC.same hi hk (.v z hz) ?_;simp only[execOp,resolve,oM,hat,haa];simp[invoke,builtin,gC]
  ·cases hc
 ·cases hc
theorem atu{o:Oper}{b ao:gj}(hat:ao.ahj=false)(hc:an8 P o.type o.op=some b)(hab:b=ao.strip)(hi:Inv I L O w)(he:∀t,R I L O (e t) (a.tmps.getD t undef))(hk:wpOp P ao e O K){next:Act->World->Prop}{Q:Exit->Act->World->Prop}
  (hn:∀x O' y I' L' w',K x O'->Good I L O w I' L' O' w'->R I' L' O' x y->next (a.put o.dst y) w'):o.wp P a w next Q:=by
 obtain⟨dst,op,ty,pos,af,g⟩:=o;subst hab;unfold an8 at hc;simp only at hc
 split at hc
 ·exact alc hc hi he hk hn
 ·simp only[bind_eq_some_iff]at hc;obtain⟨b,hb,hc⟩:=hc
  split at hc
  ·cases hc
  ·rename_i kY;simp only[Option.some.injEq]at hc;by_cases hbs:∃t s l z ps,b= .buildSlice t s l z ps
   ·obtain⟨t,s,l,z,ps,rfl⟩:=hbs;obtain⟨t',len,parts,rfl⟩:=acR hb;cases ao<;>simp only[gj.strip]at hc<;>first|(cases hc;done)|(simp[gj.ahj]at hat;done)|skip
    case buildSlice=>cases hc;exact(ar6 hb hi he hk).wp hn
    case ep=>cases hc;exact(ao9 hi he hb hk).wp hn
   ·have:=uA hat hc (by simpa using kY) (λ t s l z ps h=>hbs ⟨t,s,l,z,ps,h⟩);subst this;exact(ar6 hb hi he hk).wp hn
theorem xX{op:Op}{b:gj}(h:aAd P op=some b):(∃o as,b= .pu o as)∨∃t s by_ z x y,b= .alh t s by_ z x y:=by
 unfold aAd at h
 split at h
 ·split at h
  ·simp only[bind_eq_bind,bind_eq_some_iff,Option.some.injEq]at h;obtain⟨_,_,rfl⟩:=h;exact .inl ⟨_,_,rfl⟩
  ·cases h
 ·split at h
  ·simp only[bind_eq_bind,bind_eq_some_iff,Option.some.injEq]at h;obtain⟨_,_,rfl⟩:=h;exact .inl ⟨_,_,rfl⟩
  ·cases h
 ·split at h
  ·simp only[bind_eq_bind,bind_eq_some_iff,Option.some.injEq]at h;obtain⟨_,_,rfl⟩:=h;exact .inl ⟨_,_,rfl⟩
  ·cases h
 ·simp only[bind_eq_bind,bind_eq_some_iff]at h;obtain⟨_,_,h⟩:=h
  split at h
  ·simp only[bind_eq_some_iff,Option.some.injEq]at h;obtain⟨_,_,rfl⟩:=h;exact .inl ⟨_,_,rfl⟩
  ·cases h
 ·split at h
  ·split at h
   ·simp only[bind_eq_bind,bind_eq_some_iff,Option.some.injEq]at h;obtain⟨_,_,_,_,_,_,_,_,rfl⟩:=h;exact .inr ⟨_,_,_,_,_,_,rfl⟩
   ·cases h
  ·split at h
   ·simp only[bind_eq_bind,bind_eq_some_iff,Option.some.injEq]at h;obtain⟨_,_,rfl⟩:=h;exact .inl ⟨_,_,rfl⟩
   ·cases h
  ·simp only[bind_eq_bind,bind_eq_some_iff,Option.some.injEq]at h;obtain⟨_,_,_,_,rfl⟩:=h;exact .inl ⟨_,_,rfl⟩
  ·simp only[bind_eq_bind,bind_eq_some_iff,Option.some.injEq]at h;obtain⟨_,_,_,_,rfl⟩:=h;exact .inl ⟨_,_,rfl⟩
  ·cases h
 ·cases h
theorem aiF{o:Oper}{ao:gj}(hat:ao.ahj=false)(hc:cOp P o.type o.op=some ao.strip)(hi:Inv I L O w)(he:∀t,R I L O (e t) (a.tmps.getD t undef))(hk:wpOp P ao e O K){next:Act->World->Prop}{Q:Exit->Act->World->Prop}
  (hn:∀x O' y I' L' w',K x O'->Good I L O w I' L' O' w'->R I' L' O' x y->next (a.put o.dst y) w'):o.wp P a w next Q:=by
 unfold cOp aC5 at hc;simp only[Option.some.injEq]at hc
 split at hc
 ·rename_i b hb;have hx:=xX hb
  have hab:ao=b:=by
   refine uA hat hc ?_ ?_
   ·rcases hx with⟨_,_,rfl⟩|⟨_,_,_,_,_,_,rfl⟩<;>rfl
   ·rcases hx with⟨_,_,rfl⟩|⟨_,_,_,_,_,_,rfl⟩<;>simp
  subst hab;obtain⟨dst,op,ty,pos,af,g⟩:=o;exact(aBF hb hi he hk).wp hn
 ·cases h0:an8 P o.type o.op with
  |some b=>rw[h0]at hc;exact atu hat h0 hc hi he hk hn
  |none=>
   rw[h0]at hc;simp only[getD_none]at hc;cases ao<;>simp only[gj.strip]at hc<;>first|(cases hc;done)|(simp[gj.ahj]at hat;done)|exact hk.elim
theorem Good.cut(hi:Inv I L O w){n t s:Nat}{xs:List AV}(hO:O[n]? =some (.live t s xs)):
  Good I L O w I (λ k=>if k=O.length then L n else L k) (O.set n .dead++ [.live t s []]) w/\R I (λ k=>if k=O.length then L n else L k) (O.set n .dead++ [.live t s []]) (.row O.length 0) (.slice (some ⟨(L n).bO,0,none⟩) 0 (L n).cap):=by
 have aK:=(List.getElem?_eq_some_iff.1 hO).1
 have eI:∀{m e k ys},(O.set n .dead++ [aj.live t s []])[m]? =some (.live e k ys)->(m=O.length/\e=t/\k=s/\ys= [])∨(m<O.length/\m≠n/\O[m]? =some (.live e k ys)):=by
  intro m e k ys hm;by_cases zj:m<O.length
  ·rw[getElem?_append_left (by simpa using zj)]at hm;by_cases tQ:m=n
   ·subst tQ;rw[getElem?_set_self aK]at hm;cases hm
   ·rw[getElem?_set_ne (λ h=>tQ h.symm)]at hm;exact .inr ⟨zj,tQ,hm⟩
  ·rw[getElem?_append_right (by simp;omega),List.length_set]at hm
   have:m- O.length=0:=by
    rcases Nat.eq_zero_or_pos (m- O.length)with h|h
    ·exact h
    ·rw[List.getElem?_eq_none (by simp;omega)]at hm;cases hm
   rw[this]at hm;simp at hm;obtain⟨rfl,rfl,rfl⟩:=hm;exact .inl ⟨by omega,rfl,rfl,rfl⟩
 have afH:∀{m:Nat} {a:AV},(O.set n .dead++ [aj.live t s []])[m]? =some (.own a)->O[m]? =some (.own a)/\(if m=O.length then L n else L m)=L m:=by
  intro m a hm;by_cases zj:m<O.length
  ·rw[getElem?_append_left (by simpa using zj)]at hm;by_cases tQ:m=n
   ·subst tQ;rw[getElem?_set_self zj]at hm;cases hm
   ·rw[getElem?_set_ne (λ h=>tQ h.symm)]at hm;exact⟨hm,if_neg (by omega)⟩
  ·rw[getElem?_append_right (by simp;omega)]at hm;cases hq:m- (O.set n .dead).length with
   |zero=>rw[hq]at hm;cases hm
   |succ q=>rw[hq]at hm;simp at hm
 have wU:∀{m:Nat} {a:qE},(O.set n .dead++ [aj.live t s []])[m]? =some (.jq a)->O[m]? =some (.jq a)/\(if m=O.length then L n else L m)=L m:=by
  intro m a hm;by_cases zj:m<O.length
  ·rw[getElem?_append_left (by simpa using zj)]at hm;by_cases tQ:m=n
   ·subst tQ;rw[getElem?_set_self zj]at hm;cases hm
   ·rw[getElem?_set_ne (λ h=>tQ h.symm)]at hm;exact⟨hm,if_neg (by omega)⟩
  ·rw[getElem?_append_right (by simp;omega)]at hm;cases hq:m- (O.set n .dead).length with
   |zero=>rw[hq]at hm;cases hm
   |succ q=>rw[hq]at hm;simp at hm
 have jB:(O.set n .dead++ [aj.live t s []])[O.length]? =some (.live t s []):=by
  rw[getElem?_append_right (by simp)];simp
 have hL:∀{m},m<O.length->(if m=O.length then L n else L m)=L m:=λ {m} hm=>if_neg (by omega)
 have iu:Ext I L O I (λ k=>if k=O.length then L n else L k) (O.set n .dead++ [.live t s []]):=by
  refine⟨λ _ _ _ h=>h,by simp,λ m hm e k ys hx=> ?_,λ m hm e k hx=> ?_,λ m hm a hx=>by obtain⟨q1,q2⟩:=afH hx;exact⟨⟨a,q1⟩,by rw[q2]⟩,λ m hm a hx=>by obtain⟨q1,q2⟩:=wU hx;exact⟨⟨a,q1,rfl⟩,by rw[q2]⟩⟩
  ·rcases eI hx with⟨h1,_⟩|⟨_,_,h3⟩
   ·omega
   ·exact .inl ⟨ys,h3,le_refl _,λ _=>hL hm⟩
  ·rw[getElem?_append_left (by simpa using hm)]at hx;by_cases tQ:m=n
   ·subst tQ;rw[getElem?_set_self aK]at hx;cases hx
   ·rwa [getElem?_set_ne (λ h=>tQ h.symm)]at hx
 refine⟨⟨⟨hi.ni,λ m e k ys hm=> ?_,λ m m' e k ys e' k' zN hm hm' hb=> ?_,λ m e k ys o hm=> ?_,hi.fix,hi.bO,hi.ow.same (λ m a hm=>afH hm) (λ b o v hv=> .inl ⟨o,v,hv⟩) (λ m e k ys hm=> ?_) rfl,hi.gh.step (λ m a hm=>⟨(wU hm).1,by rw[(wU hm).2]⟩) (λ _ _ hr=>hr.mono iu) λ _ _=>rfl⟩,iu,Frm.refl _ _,?_,λ _ _ _ h=> .inl h⟩,?_⟩
 ·rcases eI hm with⟨rfl,rfl,rfl,rfl⟩|⟨h1,h2,h3⟩
  ·obtain⟨c,⟨qi,q1,gg⟩,q2,q3,q4,q5,q6⟩:=hi.obj n _ _ _ hO;simp only[if_true];exact⟨c,⟨_,q1,gg⟩,q2,zero_le _,q4,q5,by simp⟩
  ·simp only[hL h1];exact(hi.obj m _ _ _ h3).congr rfl λ _ _ h=>h.mono iu
 ·rcases eI hm with⟨rfl,rfl,rfl,rfl⟩|⟨h1,h2,h3⟩<;>rcases eI hm' with⟨h4,_,_,_⟩|⟨h4,h5,h6⟩
  ·exact h4.symm
  ·simp only[if_true,hL h4]at hb;exact(h5 (hi.sep _ _ _ _ _ _ _ _ h6 hO hb.symm)).elim
  ·subst h4;simp only[if_true,hL h1]at hb;exact(h2 (hi.sep _ _ _ _ _ _ _ _ h3 hO hb)).elim
  ·simp only[hL h1,hL h4]at hb;exact hi.sep _ _ _ _ _ _ _ _ h3 h6 hb
 ·rcases eI hm with⟨rfl,rfl,rfl,rfl⟩|⟨h1,h2,h3⟩
  ·simp only[if_true];exact hi.gf n _ _ _ o hO
  ·simp only[hL h1];exact hi.gf m _ _ _ o h3
 ·rcases eI hm with⟨rfl,rfl,rfl,rfl⟩|⟨h1,h2,h3⟩
  ·simp only[if_true];exact .inl ⟨n,_,_,_,hO,rfl⟩
  ·simp only[hL h1];exact .inl ⟨m,_,_,_,h3,rfl⟩
 ·rintro b (⟨m,e,k,ys,hm,hb⟩|⟨m,a,o,v,hm,hb⟩|⟨m,a,hm,hb⟩)
  rotate_right
  ·obtain⟨q1,q2⟩:=wU hm;simp only[q2]at hb;exact .inl (.inr (.inr ⟨m,a,q1,hb⟩))
  ·rcases eI hm with⟨rfl,rfl,rfl,rfl⟩|⟨h1,h2,h3⟩
   ·simp only[if_true]at hb;exact .inl (.inl ⟨n,_,_,_,hO,hb⟩)
   ·simp only[hL h1]at hb;exact .inl (.inl ⟨m,_,_,_,h3,hb⟩)
  ·obtain⟨q1,q2⟩:=afH hm;simp only[q2]at hb;exact .inl (.inr (.inl ⟨m,a,o,v,q1,hb⟩))
 ·have:=R.dX (I:=I) (L:=λ k=>if k=O.length then L n else L k) (O:=O.set n .dead++ [.live t s []]) O.length 0 t s [] jB rfl;simpa using this
theorem an7{ty:TypeId}{op:Op}{s:Nat}{x:bj}{lo hi:Option bj}(h:eY P ty op=some (.cj s x lo hi)):
  ∃t el ox olo ohi,op= .slice t ox olo ohi none/\P.underlying t=some (.slice el)/\dQ ox=some x/\olo.mapM dQ=some lo/\ohi.mapM dQ=some hi/\(∃inf,P.info? el=some inf/\inf.size=s):=by
 cases op<;>simp only[eY]at h
 case slice t ox olo ohi mx=>
  split at h
  ·obtain⟨_,_,_,_,_,_,_,_,_,_,_,_,_,_,_,h⟩:=nF h;cases h
  ·rename_i wc;obtain rfl:mx=none:=by cases mx<;>simp at wc⊢
   split at h
   ·simp only[bind_eq_bind,bind_eq_some_iff,Option.some.injEq]at h;obtain⟨_,_,_,_,_,_,h⟩:=h;cases h
   ·rename_i el ht;simp only[bind_eq_bind,bind_eq_some_iff,Option.some.injEq]at h;obtain⟨inf,we,ax,hx,al,hl,ah,hh,h⟩:=h;cases h;exact⟨t,el,ox,olo,ohi,rfl,ht,hx,hl,hh,inf,we,rfl⟩
   ·cases h
 all_goals (repeat' split at h)
 all_goals first
  |(simp[bind_eq_some_iff]at h;done)
  |(exfalso;first|(have q:=nF h;simp at q;done)|(simp_all;done))
theorem aqA{ty:TypeId}{op:Op}{s:Nat}{x:bj}{lo hi:Option bj}(h:cOp P ty op=some (.cj s x lo hi)):eY P ty op=some (.cj s x lo hi):=by
 unfold cOp aC5 at h;simp only[Option.some.injEq]at h
 split at h
 ·rename_i b hb;rcases xX hb with⟨_,_,rfl⟩|⟨_,_,_,_,_,_,rfl⟩<;>cases h
 ·cases h0:an8 P ty op with
  |none=>rw[h0]at h;cases h
  |some b=>
   rw[h0]at h;simp only[getD_some]at h;subst h;unfold an8 at h0
   split at h0
   ·rename_i c;exfalso;unfold ajp at h0
    split at h0
    ·split at h0
     ·cases h0
     ·cases h0
     ·cases h0
    ·split at h0
     ·split at h0
      ·simp only[map_eq_some_iff]at h0;obtain⟨_,_,h⟩:=h0;cases h
      ·simp only[map_eq_some_iff]at h0;obtain⟨_,_,h⟩:=h0;cases h
      ·cases h0
     ·cases h0
    ·split at h0
     ·split at h0
      ·simp only[bind_eq_bind,bind_eq_some_iff,Option.some.injEq]at h0;obtain⟨_,_,_,_,_,_,_,_,h⟩:=h0;cases h
      ·cases h0
     ·cases h0
    ·cases h0
   ·rw[bind_eq_some_iff]at h0;obtain⟨b',hb,wW⟩:=h0
    split at wW
    ·cases wW
    ·cases wW;exact hb
theorem aBn(hi:Inv I L O w)(he:∀t,R I L O (e t) (a.tmps.getD t undef)){ty:TypeId}{op:Op}{d:Option Tmp}{pos:String}{af:Array Edge}{g:Option (Nat×Bool)}{s:Nat}{x:bj}{lo fR:Option bj}(hc:eY P ty op=some (.cj s x lo fR))(hk:wpOp P (.cut s x lo fR) e O K):
  kC P I L O w (execOp a.eval ⟨d,op,ty,pos,af,g⟩) K:=by
 obtain⟨t,el,ox,olo,ohi,rfl,ht,hx,hl,hh,inf,we,rfl⟩:=an7 hc;have rx:=aO hx he;simp only[wpOp]at hk;generalize x.ev e=A at rx hk;generalize hX:a.eval ox=X at rx;cases A
 case an=>
  obtain⟨l,hk,hlo⟩:=mo hl he hk;obtain⟨h,hk,hhi⟩:=mo hh he hk;obtain⟨rfl,rfl,hk⟩:=hk;cases rx;have hb:=jv (P:=P) (sl:=true) (len:=0) (cap:=0) (zero_le _) hlo (by simpa using hhi) (Int.le_refl _) (Int.le_refl _) (by simp) w;refine kC.same hi hk (y:= .slice none 0 0) .an ?_;simp only[execOp,hX];simp at hb;simp[Instr.sliceAt,Instr.slice,run_underlying ht,hb,sizeOf,typeInfo,we]
 case row n len=>
  simp only at hk
  split at hk
  ·rename_i t' s' xs hO;obtain⟨hlen,rfl,hk⟩:=hk;obtain⟨l,hk,hlo⟩:=mo hl he hk;obtain⟨h,hk,hhi⟩:=mo hh he hk;obtain⟨rfl,rfl,hk⟩:=hk;have hv:=rx.iL hO hlen;subst hv;obtain⟨c,⟨qi,q1,gg⟩,q2,q3,q4,q5,q6⟩:=hi.obj n _ _ _ hO;have hb:=jv (P:=P) (sl:=true) (len:=len) (cap:=(L n).cap) (by omega) hlo hhi (Int.le_refl _) (Int.le_refl _) (by omega) w;obtain⟨hg,hr⟩:=Good.cut hi hO;refine⟨_,_,_,_,_,_,hk,hg,hr,.inl ?_⟩;simp only[execOp,hX];simp at hb;simp[Instr.sliceAt,Instr.slice,run_underlying ht,hb,sizeOf,typeInfo,we,add_lit]
  ·exact hk.elim
 all_goals exact hk.elim
theorem aeS{o:Oper}{ao:gj}(hc:cOp P o.type o.op=some ao.strip)(hi:Inv I L O w)(he:∀t,R I L O (e t) (a.tmps.getD t undef))(hk:wpOp P ao e O K){next:Act->World->Prop}{Q:Exit->Act->World->Prop}
  (hn:∀x O' y I' L' w',K x O'->Good I L O w I' L' O' w'->R I' L' O' x y->next (a.put o.dst y) w'):o.wp P a w next Q:=by
 cases hat:ao.ahj with
 |false=>exact aiF hat hc hi he hk hn
 |true=>
  cases ao<;>first|(simp[gj.ahj]at hat;done)|skip
  case cut s x lo fR=>
   obtain⟨dst,op,ty,pos,af,g⟩:=o;exact(aBn hi he (aqA hc) hk).wp hn
  case jo k t s z=>
   obtain⟨hz,hO,hK⟩:=hk;refine aiF (ao:= .alloc t s z) rfl hc hi he (K:=λ x O'=>x= .ptr O.length 1 0 0/\O'=O++ [.live t s [z]]) ⟨rfl,rfl⟩ ?_;rintro x O' y I' L' w' ⟨rfl,rfl⟩ hg hr;have hv:=hr.qc (show _=_ from by rw[getElem?_append_right (le_refl _),Nat.sub_self];rfl) rfl;refine hn _ _ y _ _ w' hK (hg.move hi hO (by simp) (λ x hx c hcc=> ?_)) ?_
   ·simp at hx;subst hx;exact eD (aM _ hz) c hcc
   ·rw[hv];have:=R.fB (I:=I') (L:=wO L' k O.length) (O:=O.set k (.live t s [z])) k 1 0 0 t s [z] (getElem?_set_self (List.getElem?_eq_some_iff.1 hO).1) rfl;simpa [wO]using this
end
structure aQ where
 guard:Option (Nat×Bool)
 dst:Option Nat
 op:gj
def aQ.strip(o:aQ):aQ:={o with op:=o.op.strip}
def cq(e:Env)(d:Option Nat)(a:AV):Env:=
 match d with
 |some t=>e.set t a
 |none=>e
def wpOps(P:Program):List aQ->Env->List aj->(Env->List aj->Prop)->Prop
 | [],e,O,K=>K e O
 |o::r,e,O,K=>
  match o.guard with
  |none=>wpOp P o.op e O λ x O'=>wpOps P r (cq e o.dst x) O' K
  |some (t,want)=>
   match e t with
   | .v (.bool b)=>
     (b=want->wpOp P o.op (e.set t (.v (.bool want))) O λ x O'=>wpOps P r (cq (e.set t (.v (.bool want))) o.dst x) O' K)/\
     (b= !want->wpOps P r (cq (e.set t (.v (.bool (!want)))) o.dst (.aZ [])) O K)
   | .aZ []=>wpOps P r (cq e o.dst (.aZ [])) O K
   |_=>False
inductive EK where
 |vZ
 |set (n:Nat)
 |push (n:Nat)
 |any
 |aDi (kp:List Nat)
structure lK where
 rd:List Nat
 k:EK
instance:Inhabited lK:=⟨⟨[],.any⟩⟩
def yT(o:gj)(rf:bj->List Nat)(N:Nat):lK:=
 match o with
 | .ep _ _ _ _ _| .bD _| .pick _ _ _| .build _ _| .bin _ _ _| .beq _ _ _| .un _ _| .mS _ _| .zq _ _ _| .lU _ _| .fX _ _ _| .cj _ _ _ _| .acQ _ _ _ _| .ext _ _| .aau _ _| .oz _| .fA _ _=>⟨[],.vZ⟩
 | .load _ x| .bX _ x| .acu x| .ch x=>⟨rf x,.vZ⟩
 | .dO _ x _=>⟨rf x,.vZ⟩
 | .pu _ as| .p9 _ as=>⟨as.flatMap rf,.vZ⟩
 | .alloc _ _ _| .box _ _ _| .buildSlice _ _ _ _ _| .gq _ _ _ _ _=>⟨[],.push N⟩
 | .jo k _ _ _=>⟨[k],.set k⟩
 | .n6 kp _ _=>⟨[],.aDi kp⟩
 | .mM _ _ as=>match as.flatMap rf with
   | [n]=>⟨[n],.set n⟩
   |_=>⟨[],.any⟩
 | .store _ x _=>match rf x with
   | [n]=>⟨[n],.set n⟩
   |_=>⟨[],.any⟩
 | .app _ _ _ x y=>match rf x with
   | [n]=>⟨n::rf y,.set n⟩
   |_=>⟨[],.any⟩
 |_=>⟨[],.any⟩
def eX(o:gj)(e:Env)(N:Nat):lK:=yT o (λ x=>refs (x.ev e)) N
def EK.keeps:EK->List Nat
 | .aDi kp=>kp
 |_=>[]
def lK.pure(kp:List Nat)(l:lK):Bool:=l.rd.all (λ n=>kp.contains n)&&(match l.k with| .vZ=>true|_=>false)
def EK.ahA:EK->List Nat->Bool
 | .vZ,_=>false
 | .set n,rd=>rd.contains n
 | .push n,rd=>rd.contains n
 | .any,_=>true
 | .aDi _,_=>true
def EK.isAny:EK->Bool
 | .any=>true
 | .aDi _=>true
 |_=>false
def EK.ku:EK->Bool
 | .push _=>true
 |_=>false
def apm(p i:lK):Bool:=
 if p.k.isAny=true then i.pure p.k.keeps else if i.k.isAny=true then p.pure i.k.keeps else
  !(p.k.ahA i.rd)&& !(i.k.ahA p.rd)&& !(p.k.ku&&i.k.ku)
def bj.rd:bj->List Nat
 | .t n=>[n]
 | .c _=>[]
def axQ:Option bj->List Nat
 |some x=>x.rd
 |none=>[]
def gj.reads:gj->List Nat
 | .stuck=>[]
 | .ep _ _ _ _ ps=>ps.flatMap λ p=>p.2.rd
 | .pu _ as=>as.flatMap bj.rd
 | .bD x| .box _ _ x| .load _ x| .un _ x| .mS _ x| .bX _ x| .zq _ _ x| .oz x| .ch x| .ext x _| .acu x=>x.rd
 | .alloc _ _ _| .jo _ _ _ _=>[]
 | .pick c a b=>c.rd++a.rd++b.rd
 | .build _ ps=>ps.flatMap λ p=>p.2.2.rd
 | .buildSlice _ _ _ _ ps=>ps.flatMap λ p=>p.2.rd
 | .store _ x y| .bin _ x y| .beq _ x y| .dO _ x y| .lU x y| .app _ _ _ x y| .alh _ _ _ _ x y=>x.rd++y.rd
 | .fX x l h| .cj _ x l h| .cut _ x l h=>x.rd++axQ l++axQ h
 | .acQ _ x h m=>x.rd++h.rd++m.rd
 | .aau _ cs=>cs.flatMap bj.rd
 | .call _ as| .qd _ as| .fA _ as| .p9 _ as| .gq _ _ _ _ as| .aY _ _ as| .mM _ _ as| .n6 _ _ as=>as.flatMap bj.rd
 | .ib x as| .mN x as=>x.rd++as.flatMap bj.rd
def aQ.reads(o:aQ):List Nat:=(match o.guard with|some (t,_)=>[t]|none=>[])++o.op.reads
def sX(p i:aQ×lK):Bool:=
 (match p.1.dst with
  |some t=> !(i.1.reads.contains t)&& !(i.1.dst==some t)
  |none=>true)&&
 (match i.1.dst with
  |some t=> !(p.1.reads.contains t)
  |none=>true)&&apm p.2 i.2
def aa2(rows:List (List Nat)):Nat->List Nat
 |0=>[]
 |n+1=>let acc:=aa2 rows n;acc++ [(rows.getD n []).foldl (λ s j=>s|||(2^j|||acc.getD j 0)) 0]
def nT(rows:List (List Nat))(al:List (aQ×lK)):Bool:=
 let c:=aa2 rows al.length
 (List.range al.length).all λ i=>(rows.getD i []).all (·<i)&&
  (List.range i).all λ p=>(c.getD i 0).testBit p||(match al[p]?,al[i]? with|some x,some y=>sX x y|_,_=>false)
def cN(P:Program):List aQ->List lK->Env->List aj->(List lK->Env->List aj->Prop)->Prop
 | [],acc,e,O,K=>K acc e O
 |o::r,acc,e,O,K=>
  match o.guard with
  |none=>wpOp P o.op e O λ x O'=>cN P r (acc++ [eX o.op e O.length]) (cq e o.dst x) O' K
  |some (t,want)=>
   match e t with
   | .v (.bool b)=>
     (b=want->wpOp P o.op (e.set t (.v (.bool want))) O λ x O'=>cN P r (acc++ [eX o.op (e.set t (.v (.bool want))) O.length]) (cq (e.set t (.v (.bool want))) o.dst x) O' K)/\
     (b= !want->cN P r (acc++ [⟨[],.vZ⟩]) (cq (e.set t (.v (.bool (!want)))) o.dst (.aZ [])) O K)
   | .aZ []=>cN P r (acc++ [⟨[],.vZ⟩]) (cq e o.dst (.aZ [])) O K
   |_=>False
inductive AX where
 |normal
 |exit (id:Nat)
 |ret
inductive ba where
 |skip
 |region (rows:Option (List (List Nat))) (ops:List aQ)
 |seq (a b:ba)
 |cond (c:bj) (t f:ba)
 |block (id:Nat) (b:ba)
 |loop (b:ba)
 |exit (id:Nat)
 |ret
 |keep (live:List Nat) (c:ba)
 |mu (c:ba)
 |j3 (ops:List aQ)
def ba.strip:ba->ba
 | .region d ops=> .region d (ops.map aQ.strip)
 | .seq a b=> .seq a.strip b.strip
 | .cond c t f=> .cond c t.strip f.strip
 | .block id b=> .block id b.strip
 | .loop b=> .loop b.strip
 | .keep _ c=>c.strip
 | .mu c=>c.strip
 | .j3 ops=> .region none (ops.map aQ.strip)
 |c=>c
def yZ(live:List Nat)(e:Env):Env:=λ t=>if live.contains t then e t else .top
def WK(n0:Nat)(e:Env)(O:List aj)(e':Env)(O':List aj):Prop:=
 ∀(I0:eW) (L0:Nat->Loc) (O0:List aj) (w0:World) (I:eW) (L:Nat->Loc) (w:World) (f:Nat->Value),O0.length=n0->Good I0 L0 O0 w0 I L O w->(∀t,R I L O (e t) (f t))->
  ∃I' L',Good I0 L0 O0 w0 I' L' O' w/\∀t,R I' L' O' (e' t) (f t)
theorem WK.refl(n0:Nat)(e:Env)(O:List aj):WK n0 e O e O:=λ _ _ _ _ I L _ _ _ h k=>⟨I,L,h,k⟩
theorem WK.trans{n0:Nat}{e e' e'':Env}{O O' zK:List aj}(h:WK n0 e O e' O')(k:WK n0 e' O' e'' zK):WK n0 e O e'' zK:=by
 intro I0 L0 O0 w0 I L w f h0 hg hr;obtain⟨I1,L1,g1,r1⟩:=h I0 L0 O0 w0 I L w f h0 hg hr;exact k I0 L0 O0 w0 I1 L1 w f h0 g1 r1
def jR(P:Program)(n0:Nat):List aQ->Env->List aj->(Env->List aj->Prop)->Prop
 | [],e,O,K=>∃e' O',WK n0 e O e' O'/\K e' O'
 |o::r,e0,O0,K=>∃e O,WK n0 e0 O0 e O/\
  match o.guard with
  |none=>wpOp P o.op e O λ x O'=>jR P n0 r (cq e o.dst x) O' K
  |some (t,want)=>
   match e t with
   | .v (.bool b)=>
     (b=want->wpOp P o.op (e.set t (.v (.bool want))) O λ x O'=>jR P n0 r (cq (e.set t (.v (.bool want))) o.dst x) O' K)/\
     (b= !want->jR P n0 r (cq (e.set t (.v (.bool (!want)))) o.dst (.aZ [])) O K)
   | .aZ []=>jR P n0 r (cq e o.dst (.aZ [])) O K
   |_=>False
def apo(al:List aQ)(ir:List lK)(ord:List Nat)(i:Nat):aQ×lK:=(al.getD i ⟨none,none,.bD (.c .top)⟩,ir.getD (ord.idxOf i) ⟨[],.any⟩)
def zv(rows:List (List Nat))(al:List (aQ×lK))(al':List aQ)(oA:List lK)(ord:List Nat)(p0 i0:Nat):Bool:=
 let n:=al.length
 let c:=aa2 rows n
 let auC:aQ×lK:=(⟨none,none,.bD (.c .top)⟩,⟨[],.any⟩)
 decide (p0<n)&&decide (i0<n)&&decide (p0≠i0)&&decide (ord.length=n)&&decide ord.Nodup&&ord.all (λ i=>decide (i<n))&&((List.range n).all λ j=>ord.contains j)&&
 ((List.range n).all λ i=>(rows.getD i []).all (·<i))&&
 ((List.range n).all λ i=>(List.range i).all λ p=>(decide (p=p0)&&decide (i=i0))||(c.getD i 0).testBit p||sX (al.getD p auC) (al.getD i auC))&&
 ((List.range n).all λ b=>(List.range b).all λ a=>let p:=ord.getD a 0;let i:=ord.getD b 0
   (decide (p=i0)&&decide (i=p0))||(c.getD i 0).testBit p||sX (apo al' oA ord p) (apo al' oA ord i))
def aCR(P:Program)(n0:Nat)(rows:List (List Nat))(ops:List aQ)(al:List (aQ×lK))(e:Env)(O:List aj)(e1:Env)(O1:List aj):Prop:=
 ∃(al':List aQ) (ord:List Nat) (p0 i0:Nat),al'.map aQ.strip=ops.map aQ.strip/\
  cN P (ord.map λ i=>al'.getD i ⟨none,none,.bD (.c .top)⟩) [] e O λ oA e2 O2=>zv rows al al' oA ord p0 i0=true/\WK n0 e2 O2 e1 O1
def mD(P:Program)(n0:Nat):ba->(AX->Env->List aj->Prop)->Env->List aj->Prop
 | .skip,Q,e,O=>Q .normal e O
 | .region none ops,Q,e,O=>wpOps P ops e O (Q .normal)
 | .region (some rows) ops,Q,e,O=>∃al,al.map aQ.strip=ops.map aQ.strip/\cN P al [] e O λ ir e1 O1=>(nT rows (al.zip ir)=true∨aCR P n0 rows ops (al.zip ir) e O e1 O1)/\Q .normal e1 O1
 | .seq a b,Q,e,O=>mD P n0 a (λ x e O=>match x with| .normal=>mD P n0 b Q e O|x=>Q x e O) e O
 | .cond c t f,Q,e,O=>match c.ev e with
   | .v (.bool b)=>(b=true->mD P n0 t Q e O)/\(b=false->mD P n0 f Q e O)
   |_=>False
 | .block id b,Q,e,O=>mD P n0 b (λ x e O=>match x with| .exit i=>if i=id then Q .normal e O else Q (.exit i) e O|x=>Q x e O) e O
 | .loop b,Q,e,O=>∃(J:Nat->Env->List aj->Prop) (n:Nat),(∃e' O',WK n0 e O e' O'/\J n e' O')/\
  ∀n e O,J n e O->mD P n0 b (λ x e O=>match x with| .normal=>∃m e' O',m<n/\WK n0 e O e' O'/\J m e' O'|x=>Q x e O) e O
 | .exit id,Q,e,O=>Q (.exit id) e O
 | .ret,Q,e,O=>Q .ret e O
 | .keep live c,Q,e,O=>mD P n0 c (λ x e O=>match x with| .normal=>Q .normal (yZ live e) O|x=>Q x e O) e O
 | .mu c,Q,e,O=>∃e' O',WK n0 e O e' O'/\mD P n0 c Q e' O'
 | .j3 ops,Q,e,O=>jR P n0 ops e O (Q .normal)
inductive ff where
 |tmp (t:Nat)
 |cell (t:Nat) (n:Option Nat)
def ff.get(e:Env)(O:List aj)(r:ff)(K:AV->Prop):Prop:=
 match r with
 | .tmp t=>K (e t)
 | .cell t n=>match e t with
   | .ptr k 1 0 0=>match O[k]? with
     |some (.live _ _ [x])=>n.getD 1<=x.cells.length/\K (cA n x 0)
     |_=>False
   |_=>False
def fm(e:Env)(O:List aj):List ff->List AV->(List AV->Prop)->Prop
 | [],acc,K=>K acc.reverse
 |r::rs,acc,K=>r.get e O λ x=>fm e O rs (x::acc) K
def cv:List AV->AV
 | [x]=>x
 |xs=> .aZ xs
def p7(n0:Nat)(rs:List ff)(res:AV)(O':List aj)(x:AX)(e:Env)(O:List aj):Prop:=
 match x with
 | .exit _=>False
 |_=>fm e O rs [] λ xs=>∃e',WK n0 (λ t=>if t=0 then cv xs else .top) O e' O'/\e' 0=res
def vn(ops:Array Oper)(nt:Nat)(g:Option (Nat×Bool)):Option (Option (Nat×Bool)):=
 match g with
 |none=>some none
 |some (j,b)=>match(ops[j]?).bind (·.dst)with
  |some t=>if t<nt then some (some (t,b))else none
  |none=>none
def rowsOf(ops:Array Oper):List (List Nat):=ops.toList.map λ o=>(o.after.toList.filter (Region.binds .any)).map (·.on)
def tW(P:Program)(nt:Nat)(ops:Array Oper)(o:Oper):Option aQ:=
 match cOp P o.type o.op,vn ops nt o.guard with
 |some op,some g=>if o.dst.all (·<nt)=true then some ⟨g,o.dst,op⟩else none
 |_,_=>none
def iR(P:Program)(nt:Nat):Code->Option ba
 | .skip=>some .skip
 | .region _ ops false=>(ops.toList.mapM (tW P nt ops)).map (.region none)
 | .region _ ops true=>if Region.departs ops=true/\P.follows .mixedOrders=false then none else(ops.toList.mapM (tW P nt ops)).map (.region (some (rowsOf ops)))
 | .seq a b=>match iR P nt a,iR P nt b with
   |some a,some b=>some (.seq a b)
   |_,_=>none
 | .cond c t f=>match dQ c,iR P nt t,iR P nt f with
   |some c,some t,some f=>some (.cond c t f)
   |_,_,_=>none
 | .block id b=>(iR P nt b).map (.block id)
 | .loop b=>(iR P nt b).map .loop
 | .exit id=>some (.exit id)
 | .ret=>some .ret
 |_=>none
def auN(P:Program)(r:ResultVar):Option ff:=
 match r with
 | .tmp t=>some (.tmp t)
 | .cell t ty=>(aa4 P ty).map (.cell t)
structure vw where
 iz:Nat
 nt:Nat
 code:ba
 res:List ff
def qw(args:List AV):Env:=λ t=>args.getD t (.aZ [])
def gj.cls:gj->Nat
 | .ep _ _ _ _ _| .bD _| .pick _ _ _| .build _ _| .bin _ _ _| .beq _ _ _| .un _ _| .mS _ _| .zq _ _ _| .lU _ _| .fX _ _ _| .cj _ _ _ _| .acQ _ _ _ _| .ext _ _| .aau _ _| .oz _| .fA _ _=>0
 | .load _ _| .bX _ _| .acu _| .dO _ _ _| .ch _| .pu _ _| .p9 _ _=>1
 | .alloc _ _ _| .box _ _ _| .buildSlice _ _ _ _ _| .gq _ _ _ _ _=>2
 |_=>3
def agree(l:List Nat)(e e':Env):Prop:=∀t∈l,e t=e' t
theorem agree.ev{x:bj}{e e':Env}{l:List Nat}(h:agree l e e')(hx:∀t∈x.rd,t∈l):x.ev e=x.ev e':=by
 cases x with
 |t n=>exact h n (hx n (by simp[bj.rd]))
 |c a=>rfl
theorem agree.bn{xs:List bj}{e e':Env}{l:List Nat}(h:agree l e e')(hx:∀t∈xs.flatMap bj.rd,t∈l):xs.map (bj.ev e)=xs.map (bj.ev e'):=by
 apply map_congr_left;intro x hm;exact h.ev λ t ht=>hx t (List.mem_flatMap.2 ⟨x,hm,ht⟩)
theorem kV{d:Int}{e e':Env}{x:Option bj}{l:List Nat}(h:agree l e e')(hx:∀t∈axQ x,t∈l)(K:Int->Prop):iw d e x K=iw d e' x K:=by
 cases x with
 |none=>rfl
 |some o=>simp only[iw];rw[h.ev hx]
theorem zD{e e':Env}{l:List Nat}(h:agree l e e'):∀(ps:List (Nat×Nat×bj)) (z:List AV) (K:AV->Prop),(∀t∈ps.flatMap (λ p=>p.2.2.rd),t∈l)->lW e z ps K=lW e' z ps K
 | [],_,_,_=>rfl
 |(off,size,x)::r,z,K,hx=>by
  simp only[lW];rw[h.ev (x:=x) λ t ht=>hx t (by simp[ht]),zD h r _ K λ t ht=>hx t (by simp only[List.flatMap_cons,mem_append];exact .inr ht)]
theorem xt{e e':Env}{l:List Nat}(h:agree l e e')(s:Nat):∀(ps:List (Nat×bj)) (z:List AV) (K:List AV->Prop),(∀t∈ps.flatMap (λ p=>p.2.rd),t∈l)->uO e s z ps K=uO e' s z ps K
 | [],_,_,_=>rfl
 |(i,x)::r,z,K,hx=>by
  simp only[uO];rw[h.ev (x:=x) λ t ht=>hx t (by simp[ht]),xt h s r _ K λ t ht=>hx t (by simp only[List.flatMap_cons,mem_append];exact .inr ht)]
theorem aoR{P:Program}{o:gj}{e e':Env}(h:agree o.reads e e')(O:List aj)(K:AV->List aj->Prop):wpOp P o e O K=wpOp P o e' O K:=by
 cases o<;>simp only[gj.reads]at h<;>simp only[wpOp]
 case bD x=>rw[h.ev λ t ht=>ht]
 case pick c a b=>rw[h.ev (x:=c) (by simp+contextual),h.ev (x:=a) (by simp+contextual),h.ev (x:=b) (by simp+contextual)]
 case box t s x=>rw[h.ev λ t ht=>ht]
 case build z ps=>exact zD h ps z _ λ t ht=>ht
 case buildSlice t s len z ps=>exact xt h s ps _ _ λ t ht=>ht
 case ep t s len z ps=>exact xt h s ps _ _ λ t ht=>ht
 case pu o as=>
  have hm:(as.map λ x=>lh O (x.ev e))=as.map λ x=>lh O (x.ev e'):=map_congr_left λ x hx=>by rw[h.ev (x:=x) λ t ht=>List.mem_flatMap.2 ⟨x,hx,ht⟩]
  rw[hm]
 case load n x=>rw[h.ev λ t ht=>ht]
 case store m x y=>rw[h.ev (x:=x) (by simp+contextual),h.ev (x:=y) (by simp+contextual)]
 case bin op x y=>rw[h.ev (x:=x) (by simp+contextual),h.ev (x:=y) (by simp+contextual)]
 case beq neg x y=>rw[h.ev (x:=x) (by simp+contextual),h.ev (x:=y) (by simp+contextual)]
 case un op x=>rw[h.ev λ t ht=>ht]
 case mS k x=>rw[h.ev λ t ht=>ht]
 case bX k x=>rw[h.ev λ t ht=>ht]
 case zq k n x=>rw[h.ev λ t ht=>ht]
 case dO s x y=>rw[h.ev (x:=x) (by simp+contextual),h.ev (x:=y) (by simp+contextual)]
 case lU x y=>rw[h.ev (x:=x) (by simp+contextual),h.ev (x:=y) (by simp+contextual)]
 case fX x lo hi=>
  have e1:=λ d K=>kV (d:=d) (x:=lo) h (by simp+contextual) K
  have e2:=λ d K=>kV (d:=d) (x:=hi) h (by simp+contextual) K
  rw[h.ev (x:=x) (by simp+contextual)];simp only[e1,e2]
 case cj s x lo hi=>
  have e1:=λ d K=>kV (d:=d) (x:=lo) h (by simp+contextual) K
  have e2:=λ d K=>kV (d:=d) (x:=hi) h (by simp+contextual) K
  rw[h.ev (x:=x) (by simp+contextual)];simp only[e1,e2]
 case alh t s b z x y=>rw[h.ev (x:=x) (by simp+contextual),h.ev (x:=y) (by simp+contextual)]
 case acQ s x a b=>rw[h.ev (x:=x) (by simp+contextual),h.ev (x:=a) (by simp+contextual),h.ev (x:=b) (by simp+contextual)]
 case cut s x lo hi=>
  have e1:=λ d K=>kV (d:=d) (x:=lo) h (by simp+contextual) K
  have e2:=λ d K=>kV (d:=d) (x:=hi) h (by simp+contextual) K
  rw[h.ev (x:=x) (by simp+contextual)];simp only[e1,e2]
 case oz x=>rw[h.ev λ t ht=>ht]
 case ch x=>rw[h.ev λ t ht=>ht]
 case app t s b x y=>rw[h.ev (x:=x) (by simp+contextual),h.ev (x:=y) (by simp+contextual)]
 case ext x i=>rw[h.ev λ t ht=>ht]
 case acu x=>rw[h.ev λ t ht=>ht]
 case aau f cs=>rw[h.bn λ t ht=>ht]
 case call f as=>rw[h.bn λ t ht=>ht]
 case ib x as=>rw[h.ev (x:=x) (by simp+contextual),h.bn (xs:=as) (by simp+contextual)]
 case qd f as=>
  have hm:(as.map λ x=>lh O (x.ev e))=as.map λ x=>lh O (x.ev e'):=map_congr_left λ x hx=>by rw[h.ev (x:=x) λ t ht=>List.mem_flatMap.2 ⟨x,hx,ht⟩]
  rw[hm,h.bn λ t ht=>ht]
 case mN x as=>
  have hm:(as.map λ x=>lh O (x.ev e))=as.map λ x=>lh O (x.ev e'):=map_congr_left λ x hx=>by rw[h.ev (x:=x) λ t ht=>List.mem_append_right _ (List.mem_flatMap.2 ⟨x,hx,ht⟩)]
  rw[hm,h.ev (x:=x) (by simp+contextual),h.bn (xs:=as) (by simp+contextual)]
 case fA f as=>rw[h.bn λ t ht=>ht]
 case p9 f as=>
  have hm:(as.map λ x=>lh O (x.ev e))=as.map λ x=>lh O (x.ev e'):=map_congr_left λ x hx=>by rw[h.ev (x:=x) λ t ht=>List.mem_flatMap.2 ⟨x,hx,ht⟩]
  rw[hm]
 case gq nl t s f as=>rw[h.bn λ t ht=>ht]
 case n6 rd f as=>rw[h.bn λ t ht=>ht]
 case aY gs f as=>rw[h.bn λ t ht=>ht]
 case mM gs f as=>
  have hm:(as.flatMap λ x=>refs (x.ev e))=as.flatMap λ x=>refs (x.ev e'):=by
   simp only[←List.flatMap_map (bj.ev e) refs,←List.flatMap_map (bj.ev e') refs];rw[h.bn λ t ht=>ht]
  rw[h.bn λ t ht=>ht,hm]
def Ex(P:Program)(o:gj)(e:Env)(O:List aj)(x:AV)(O':List aj):Prop:=∀K:AV->List aj->Prop,K x O'->wpOp P o e O K
theorem ajq{e:Env}:∀(ps:List (Nat×Nat×bj)) (z:List AV) {K:AV->Prop},lW e z ps K->∃x,K x/\∀K':AV->Prop,K' x->lW e z ps K'
 | [],_,_,h=>⟨_,h,λ _ h=>h⟩
 |(off,size,x)::r,z,K,h=>by
  obtain⟨h1,h2,h3,h4⟩:=h;obtain⟨y,h5,h6⟩:=ajq r _ h4;exact⟨y,h5,λ K' h=>⟨h1,h2,h3,h6 K' h⟩⟩
theorem aj6{e:Env}{s:Nat}:∀(ps:List (Nat×bj)) (z:List AV) {K:List AV->Prop},uO e s z ps K->∃x,K x/\∀K':List AV->Prop,K' x->uO e s z ps K'
 | [],_,_,h=>⟨_,h,λ _ h=>h⟩
 |(i,x)::r,z,K,h=>by
  obtain⟨h1,h2,h3,h4⟩:=h;obtain⟨y,h5,h6⟩:=aj6 r _ h4;exact⟨y,h5,λ K' h=>⟨h1,h2,h3,h6 K' h⟩⟩
theorem mq{d:Int}{e:Env}{x:Option bj}{K:Int->Prop}(h:iw d e x K):∃i,K i/\∀K':Int->Prop,K' i->iw d e x K':=by
 cases x with
 |none=>exact⟨_,h,λ _ h=>h⟩
 |some o=>
  simp only[iw]at h⊢
  split at h
  ·exact⟨_,h,λ _ h=>h⟩
  ·exact h.elim
theorem ex0{P:Program}{o:gj}(hc:o.cls=0){e:Env}{O:List aj}{K:AV->List aj->Prop}(h:wpOp P o e O K):
  ∃x,K x O/\∀O',Ex P o e O' x O':=by
 cases o<;>simp only[gj.cls]at hc<;>first|(cases hc;done)|skip
 case bD x=>exact⟨_,h,λ O' K' h'=>h'⟩
 case pick c a b=>
  simp only[wpOp]at h
  split at h
  ·rename_i t ht;exact⟨_,h,λ O' K' h'=>by simp only[wpOp,ht];exact h'⟩
  ·exact h.elim
 case build z ps=>
  obtain⟨x,h1,h2⟩:=ajq ps z h;exact⟨x,h1,λ O' K' h'=>h2 (λ a=>K' a O') h'⟩
 case ep t s len z ps=>
  obtain⟨xs,⟨cJ,h1⟩,h2⟩:=aj6 ps _ h;exact⟨_,h1,λ O' K' h'=>h2 (λ xs=>AV.ae xs=true/\K' (.sl xs) O') ⟨cJ,h'⟩⟩
 case beq neg x y=>
  simp only[wpOp]at h
  split at h
  ·rename_i a b ha hb;exact⟨_,h,λ O' K' h'=>by simp only[wpOp,ha,hb];exact h'⟩
  ·exact h.elim
 case bin op x y=>
  simp only[wpOp]at h
  split at h
  ·rename_i a b ha hb
   split at h
   ·rename_i z hz;exact⟨_,h,λ O' K' h'=>by simp only[wpOp,ha,hb,hz];exact h'⟩
   ·exact h.elim
  ·exact h.elim
 case un op x=>
  simp only[wpOp]at h
  split at h
  ·rename_i a ha
   split at h
   ·rename_i z hz;exact⟨_,h,λ O' K' h'=>by simp only[wpOp,ha,hz];exact h'⟩
   ·exact h.elim
  ·exact h.elim
 case mS k x=>
  simp only[wpOp]at h
  split at h
  ·rename_i k' n ha;exact⟨_,h,λ O' K' h'=>by simp only[wpOp,ha];exact h'⟩
  ·exact h.elim
 case zq off n x=>exact⟨_,h.2.2,λ O' K' h'=>⟨h.1,h.2.1,h'⟩⟩
 case lU x i=>
  simp only[wpOp]at h
  split at h
  ·rename_i s k j ha hb;exact⟨_,h.2.2,λ O' K' h'=>by simp only[wpOp,ha,hb];exact⟨h.1,h.2.1,h'⟩⟩
  ·exact h.elim
 case acQ s x a b=>
  simp only[wpOp]at h
  split at h
  ·rename_i xs k i k' j hx ha hb;exact⟨_,h.2.2.2.2,λ O' K' h'=>by simp only[wpOp,hx,ha,hb];exact⟨h.1,h.2.1,h.2.2.1,h.2.2.2.1,h'⟩⟩
  ·exact h.elim
 case fX x lo hi=>
  simp only[wpOp]at h
  split at h
  ·rename_i s ha;obtain⟨l,h1,h2⟩:=mq h;obtain⟨u,h3,h4⟩:=mq h1;exact⟨_,h3.2.2.2,λ O' K' h'=>by simp only[wpOp,ha];exact h2 _ (h4 _ ⟨h3.1,h3.2.1,h3.2.2.1,h'⟩)⟩
  ·exact h.elim
 case cj s x lo hi=>
  simp only[wpOp]at h
  split at h
  ·rename_i s ha;obtain⟨l,h1,h2⟩:=mq h;obtain⟨u,h3,h4⟩:=mq h1;exact⟨_,h3.2.2.2.2,λ O' K' h'=>by simp only[wpOp,ha];exact h2 _ (h4 _ ⟨h3.1,h3.2.1,h3.2.2.1,h3.2.2.2.1,h'⟩)⟩
  ·exact h.elim
 case oz x=>
  simp only[wpOp]at h
  split at h
  ·rename_i s ha;exact⟨_,h,λ O' K' h'=>by simp only[wpOp,ha];exact h'⟩
  ·exact h.elim
 case ext x i=>
  simp only[wpOp]at h
  split at h
  ·rename_i vs ha;exact⟨_,h.2,λ O' K' h'=>by simp only[wpOp,ha];exact⟨h.1,h'⟩⟩
  ·exact h.elim
 case aau f cs=>exact⟨_,h,λ O' K' h'=>h'⟩
 case fA f as=>
  obtain⟨r,h1,h2,h3⟩:=h;exact⟨r,h3,λ O' K' h'=>⟨r,h1,h2,h'⟩⟩
def tu(rd:List Nat)(O O':List aj):Prop:=∀n∈rd,O'[n]? =O[n]?
theorem aum{O O':List aj}{a:AV}(h:tu (refs a) O O'):lh O' a=lh O a:=by
 cases a with
 |row n len=>simp only[lh,h n (by simp[refs])]
 |own n=>simp only[lh,h n (by simp[refs])]
 |_=>rfl
theorem afL{O O':List aj}{e:Env}{as:List bj}(h:tu (as.flatMap λ x=>refs (x.ev e)) O O'):(as.map λ x=>lh O' (x.ev e))=as.map λ x=>lh O (x.ev e):=
 map_congr_left λ x hx=>aum λ n hn=>h n (List.mem_flatMap.2 ⟨x,hx,hn⟩)
theorem ex1{P:Program}{o:gj}(hc:o.cls=1){e:Env}{O:List aj}{K:AV->List aj->Prop}(h:wpOp P o e O K):
  ∃x,K x O/\∀O' N,tu (eX o e N).rd O O'->Ex P o e O' x O':=by
 cases o<;>simp only[gj.cls]at hc<;>first|(cases hc;done)|skip
 case pu o as=>
  obtain⟨hn,hk⟩:=h;unfold puK at hk
  split at hk
  ·rename_i v hv;refine⟨v,hk,λ O' N ha K' h'=> ?_⟩;have hm:=afL (O:=O) (O':=O') (e:=e) (as:=as) ha;exact⟨by rw[hm];exact hn,by rw[hm];unfold puK;rw[hv];exact h'⟩
  ·exact hk.elim
 case p9 f as=>
  obtain⟨r,h1,h2,h3,h4⟩:=h;refine⟨r,h4,λ O' N ha K' h'=> ?_⟩;have hm:=afL (O:=O) (O':=O') (e:=e) (as:=as) ha;exact⟨r,h1,by rw[hm];exact h2,by rw[hm];exact h3,h'⟩
 case load n x=>
  simp only[wpOp]at h
  split at h
  ·rename_i y f ha;exact⟨_,h.2,λ O' N hg K' h'=>by simp only[wpOp,ha];exact⟨h.1,h'⟩⟩
  ·rename_i k len i f ha
   split at h
   ·rename_i t s xs hO;obtain⟨h1,h2,h3,h4⟩:=h
    exact⟨_,h4,λ O' N hg K' h'=>by
     have hO':=hg k (by simp[eX,yT,ha,refs]);simp only[wpOp,ha,hO',hO];exact⟨h1,h2,h3,h'⟩⟩
   ·exact h.elim
  ·exact h.elim
 case bX off x=>
  simp only[wpOp]at h
  split at h
  ·rename_i y f ha;exact⟨_,h,λ O' N hg K' h'=>by simp only[wpOp,ha];exact h'⟩
  ·rename_i k len i f ha
   split at h
   ·rename_i t s xs hO
    exact⟨_,h.2,λ O' N hg K' h'=>by
     have hO':=hg k (by simp[eX,yT,ha,refs]);simp only[wpOp,ha,hO',hO];exact⟨h.1,h'⟩⟩
   ·exact h.elim
  ·exact h.elim
 case acu x=>
  simp only[wpOp]at h
  split at h
  ·rename_i y f ha;exact⟨_,h,λ O' N hg K' h'=>by simp only[wpOp,ha];exact h'⟩
  ·rename_i y f ha;exact⟨_,h,λ O' N hg K' h'=>by simp only[wpOp,ha];exact h'⟩
  ·rename_i k len i f ha
   split at h
   ·rename_i t s xs hO
    exact⟨_,h.2,λ O' N hg K' h'=>by
     have hO':=hg k (by simp[eX,yT,ha,refs]);simp only[wpOp,ha,hO',hO];exact⟨h.1,h'⟩⟩
   ·exact h.elim
  ·exact h.elim
 case dO s x y=>
  simp only[wpOp]at h
  split at h
  ·rename_i xs k i ha hb;obtain⟨h1,h2,h3,h4⟩:=h;exact⟨_,h4,λ O' N hg K' h'=>by simp only[wpOp,ha,hb];exact⟨h1,h2,h3,h'⟩⟩
  ·rename_i n len k i ha hb
   split at h
   ·rename_i t s' xs hO;obtain⟨h1,h2,h3,h4,h5⟩:=h
    exact⟨_,h5,λ O' N hg K' h'=>by
     have hO':=hg n (by simp[eX,yT,ha,refs]);simp only[wpOp,ha,hb,hO',hO];exact⟨h1,h2,h3,h4,h'⟩⟩
   ·exact h.elim
  ·exact h.elim
 case ch x=>
  simp only[wpOp]at h
  split at h
  ·rename_i ha;exact⟨_,h,λ O' N hg K' h'=>by simp only[wpOp,ha];exact h'⟩
  ·rename_i xs ha;exact⟨_,h,λ O' N hg K' h'=>by simp only[wpOp,ha];exact h'⟩
  ·rename_i k len ha;have hO':∀O' N,tu (eX (.ch x) e N).rd O O'->O'[k]? =O[k]? :=λ O' N hg=>hg k (by simp[eX,yT,ha,refs])
   split at h
   ·rename_i t s xs hO;exact⟨_,h.2,λ O' N hg K' h'=>by simp only[wpOp,ha,hO' O' N hg,hO];exact⟨h.1,h'⟩⟩
   ·rename_i t s hO;exact⟨_,h.2,λ O' N hg K' h'=>by simp only[wpOp,ha,hO' O' N hg,hO];exact⟨h.1,h'⟩⟩
   ·exact h.elim
  ·exact h.elim
theorem ex2{P:Program}{o:gj}(hc:o.cls=2){e:Env}{O:List aj}{K:AV->List aj->Prop}(h:wpOp P o e O K):
  ∃x b,K x (O++ [b])/\∀O',O'.length=O.length->Ex P o e O' x (O'++ [b]):=by
 cases o<;>simp only[gj.cls]at hc<;>first|(cases hc;done)|skip
 case alloc t s z=>exact⟨_,_,h,λ O' hl K' h'=>by simp only[wpOp,hl];exact h'⟩
 case box t s x=>exact⟨_,_,h.2.2,λ O' hl K' h'=>by simp only[wpOp,hl];exact⟨h.1,h.2.1,h'⟩⟩
 case buildSlice t s len z ps=>
  obtain⟨xs,h1,h2⟩:=aj6 ps _ h;exact⟨.row O.length len,.live t s xs,h1,λ O' hl K' h'=>by simp only[wpOp];exact h2 (λ ys=>K' (.row O'.length len) (O'++ [aj.live t s ys])) (by rw[hl];exact h')⟩
 case gq nl t s f as=>
  obtain⟨res,ob,h1,h2,h3⟩:=h;exact⟨_,_,h3,λ O' hl K' h'=>⟨res,ob,h1,h2,by rw[hl];exact h'⟩⟩
theorem aBa{O:List aj}{y:AV}{K:List AV->Prop}(h:xg O y K):∃ys,K ys/\∀K':List AV->Prop,K' ys->xg O y K':=by
 unfold xg at h
 split at h
 ·exact⟨_,h,λ K' h'=>h'⟩
 ·exact⟨_,h,λ K' h'=>h'⟩
 ·rename_i n len
  split at h
  ·rename_i t s xs hO;exact⟨_,h.2,λ K' h'=>by simp only[xg,hO];exact⟨h.1,h'⟩⟩
  ·rename_i t s hO;exact⟨_,h.2,λ K' h'=>by simp only[xg,hO];exact⟨h.1,h'⟩⟩
  ·exact h.elim
 ·exact h.elim
theorem aDg{O:List aj}{x:AV}{t s b:Nat}{ys:List AV}{K:AV->List aj->Prop}(h:qC O x t s b ys K):∃r O',K r O'/\∀K':AV->List aj->Prop,K' r O'->qC O x t s b ys K':=by
 unfold qC at h
 split at h
 ·obtain⟨h1,h2,h3,h4⟩:=h;by_cases hy:ys= []
  ·exact⟨_,_,h3 hy,λ K' h'=>⟨h1,h2,λ _=>h',λ hn=>(hn hy).elim⟩⟩
  ·exact⟨_,_,h4 hy,λ K' h'=>⟨h1,h2,λ hn=>(hy hn).elim,λ _=>h'⟩⟩
 ·rename_i n len
  split at h
  ·rename_i t' s' xs hO;obtain⟨h1,h2,h3,h4,h5,h6⟩:=h;exact⟨_,_,h6,λ K' h'=>by simp only[qC,hO];exact⟨h1,h2,h3,h4,h5,h'⟩⟩
  ·rename_i t' s' hO;obtain⟨h1,h2,h3,h4,h5,h6,h7⟩:=h;by_cases hy:ys= []
   ·exact⟨_,_,h6 hy,λ K' h'=>by simp only[qC,hO];exact⟨h1,h2,h3,h4,h5,λ _=>h',λ hn=>(hn hy).elim⟩⟩
   ·exact⟨_,_,h7 hy,λ K' h'=>by simp only[qC,hO];exact⟨h1,h2,h3,h4,h5,λ hn=>(hy hn).elim,λ _=>h'⟩⟩
  ·exact h.elim
 ·exact h.elim
theorem abS{P:Program}{o:gj}{e:Env}{O:List aj}{K:AV->List aj->Prop}(h:wpOp P o e O K):∃x O',K x O'/\Ex P o e O x O':=by
 by_cases h0:o.cls=0
 ·obtain⟨x,h1,h2⟩:=ex0 h0 h;exact⟨x,O,h1,h2 O⟩
 by_cases h1:o.cls=1
 ·obtain⟨x,h1,h2⟩:=ex1 h1 h;exact⟨x,O,h1,h2 O 0 λ _ _=>rfl⟩
 by_cases h2:o.cls=2
 ·obtain⟨x,b,h1,h2⟩:=ex2 h2 h;exact⟨x,_,h1,h2 O rfl⟩
 cases o<;>first|(exact(h0 rfl).elim)|(exact(h1 rfl).elim)|(exact(h2 rfl).elim)|skip
 case stuck=>exact h.elim
 case alh t s b z x y=>
  simp only[wpOp]at h
  split at h
  ·rename_i k ha hb;exact⟨_,_,h.2.2.2,λ K' h'=>by simp only[wpOp,ha,hb];exact⟨h.1,h.2.1,h.2.2.1,h'⟩⟩
  ·exact h.elim
 case cut s x lo hi=>
  simp only[wpOp]at h
  split at h
  ·rename_i ha;obtain⟨l,h1,h2⟩:=mq h;obtain⟨u,h3,h4⟩:=mq h1;exact⟨_,_,h3.2.2,λ K' h'=>by simp only[wpOp,ha];exact h2 _ (h4 _ ⟨h3.1,h3.2.1,h'⟩)⟩
  ·rename_i n len ha
   split at h
   ·rename_i t s' xs hO;obtain⟨q1,q2,h⟩:=h;obtain⟨l,h1,h2⟩:=mq h;obtain⟨u,h3,h4⟩:=mq h1;exact⟨_,_,h3.2.2,λ K' h'=>by simp only[wpOp,ha,hO];exact⟨q1,q2,h2 _ (h4 _ ⟨h3.1,h3.2.1,h'⟩)⟩⟩
   ·exact h.elim
  ·exact h.elim
 case store m x y=>
  simp only[wpOp]at h
  split at h
  ·rename_i k len i f ha
   split at h
   ·rename_i t s xs hO;obtain⟨q1,q2,q3,q4,q5,q6⟩:=h;exact⟨_,_,q6,λ K' h'=>by simp only[wpOp,ha,hO];exact⟨q1,q2,q3,q4,q5,h'⟩⟩
   ·exact h.elim
  ·exact h.elim
 case app t s b x y=>
  simp only[wpOp]at h;obtain⟨ys,q1,q2⟩:=aBa h;obtain⟨r,O',q3,q4⟩:=aDg q1.2;exact⟨r,O',q3,λ K' h'=>by simp only[wpOp];exact q2 _ ⟨q1.1,q4 K' h'⟩⟩
 case call f as=>
  obtain⟨r,O',q1,q2⟩:=h;exact⟨r,O',q2,λ K' h'=>⟨r,O',q1,h'⟩⟩
 case jo k t s z=>exact⟨_,_,h.2.2,λ K' h'=>⟨h.1,h.2.1,h'⟩⟩
 case aY gs f as=>
  obtain⟨r,O',q1,q2⟩:=h;exact⟨r,O',q2,λ K' h'=>⟨r,O',q1,h'⟩⟩
 case n6 rd f as=>
  obtain⟨r,O',q1,q2,q3⟩:=h;exact⟨r,O',q3,λ K' h'=>⟨r,O',q1,q2,h'⟩⟩
 case mM gs f as=>
  obtain⟨n,a0,ob,r,ob',q1,q2,q3,q4,q5,q6,q7,q8,q9⟩:=h;exact⟨r,_,q9,λ K' h'=>⟨n,a0,ob,r,ob',q1,q2,q3,q4,q5,q6,q7,q8,h'⟩⟩
 case ib x as=>
  simp only[wpOp]at h
  split at h
  ·rename_i f bl ha;obtain⟨r,O',q1,q2⟩:=h;exact⟨r,O',q2,λ K' h'=>by simp only[wpOp,ha];exact⟨r,O',q1,h'⟩⟩
  ·exact h.elim
 case qd f as=>
  obtain⟨r,q1,q2,q3⟩:=h;exact⟨r,_,q3,λ K' h'=>⟨r,q1,q2,h'⟩⟩
 case mN x as=>
  simp only[wpOp]at h
  split at h
  ·rename_i f bl ha;obtain⟨r,q1,q2,q3⟩:=h;exact⟨r,_,q3,λ K' h'=>by simp only[wpOp,ha];exact⟨r,q1,q2,h'⟩⟩
  ·exact h.elim
theorem atS{o:gj}(h:∀kp f as,o≠ .n6 kp f as)(e:Env)(N:Nat):(eX o e N).k.keeps= []:=by
 cases o<;>first|rfl|(exact(h _ _ _ rfl).elim)|(simp only[eX,yT];split<;>rfl)
theorem aHY{P:Program}{o:gj}{e:Env}{O:List aj}{K:AV->List aj->Prop}(h:wpOp P o e O K):∃x O',K x O'/\Ex P o e O x O'/\∀n∈(eX o e O.length).k.keeps,O'[n]? =O[n]? :=by
 by_cases hu:∃kp f as,o= .n6 kp f as
 ·obtain⟨kp,f,as,rfl⟩:=hu;obtain⟨r,O',q1,q2,q3⟩:=h;exact⟨r,O',q3,λ K' h'=>⟨r,O',q1,q2,h'⟩,q2⟩
 ·obtain⟨x,O',h1,h2⟩:=abS h;refine⟨x,O',h1,h2,λ n hn=> ?_⟩;rw[atS λ kp f as he=>hu ⟨kp,f,as,he⟩]at hn;simp at hn
theorem axh{O:List aj}{y:AV}{K:List AV->Prop}(h:xg O y K):∃ys,K ys/\∀O',tu (refs y) O O'->∀K':List AV->Prop,K' ys->xg O' y K':=by
 unfold xg at h
 split at h
 ·exact⟨_,h,λ O' _ K' h'=>h'⟩
 ·exact⟨_,h,λ O' _ K' h'=>h'⟩
 ·rename_i n len;have hg:∀O',tu (refs (.row n len)) O O'->O'[n]? =O[n]? :=λ O' hg=>hg n (by simp[refs])
  split at h
  ·rename_i t s xs hO;exact⟨_,h.2,λ O' ha K' h'=>by simp only[xg,hg O' ha,hO];exact⟨h.1,h'⟩⟩
  ·rename_i t s hO;exact⟨_,h.2,λ O' ha K' h'=>by simp only[xg,hg O' ha,hO];exact⟨h.1,h'⟩⟩
  ·exact h.elim
 ·exact h.elim
inductive Eff where
 |vZ
 |set (n:Nat) (b:aj)
 |push (b:aj)
def Eff.app:Eff->List aj->List aj
 | .vZ,O=>O
 | .set n b,O=>O.set n b
 | .push b,O=>O++ [b]
def Fit:EK->Eff->List aj->Prop
 | .vZ,.vZ,_=>True
 | .set _,.vZ,_=>True
 | .set n,.set m _,O=>m=n/\n<O.length
 | .push N,.push _,O=>O.length=N
 |_,_,_=>False
theorem aAu{O:List aj}{n len:Nat}{t s b:Nat}{ys:List AV}{K:AV->List aj->Prop}(h:qC O (.row n len) t s b ys K):
  ∃r zt,Fit (.set n) zt O/\K r (zt.app O)/\∀O',O'[n]? =O[n]? ->∀K':AV->List aj->Prop,K' r (zt.app O')->qC O' (.row n len) t s b ys K':=by
 simp only[qC]at h
 split at h
 ·rename_i t' s' xs hO;obtain⟨h1,h2,h3,h4,h5,h6⟩:=h;exact⟨_,.set n _,⟨rfl,(List.getElem?_eq_some_iff.1 hO).1⟩,h6,λ O' ho K' h'=>by simp only[qC,ho,hO];exact⟨h1,h2,h3,h4,h5,h'⟩⟩
 ·rename_i t' s' hO;obtain⟨h1,h2,h3,h4,h5,h6,h7⟩:=h;by_cases hy:ys= []
  ·exact⟨_,.vZ,trivial,h6 hy,λ O' ho K' h'=>by simp only[qC,ho,hO];exact⟨h1,h2,h3,h4,h5,λ _=>h',λ hn=>(hn hy).elim⟩⟩
  ·exact⟨_,.set n _,⟨rfl,(List.getElem?_eq_some_iff.1 hO).1⟩,h7 hy,λ O' ho K' h'=>by simp only[qC,ho,hO];exact⟨h1,h2,h3,h4,h5,λ hn=>(hy hn).elim,λ _=>h'⟩⟩
 ·exact h.elim
theorem amN{a:AV}{n:Nat}(h:refs a= [n]):(∃len,a= .row n len)∨(∃len i f,a= .ptr n len i f)∨a= .own n:=by
 cases a<;>simp[refs]at h
 ·subst h;exact .inl ⟨_,rfl⟩
 ·subst h;exact .inr (.inl ⟨_,_,_,rfl⟩)
 ·subst h;exact .inr (.inr rfl)
theorem atM{P:Program}{o:gj}{e:Env}{O:List aj}{K:AV->List aj->Prop}(hk:(eX o e O.length).k.isAny=false)(h:wpOp P o e O K):
  ∃x zt,Fit (eX o e O.length).k zt O/\(∀n,(eX o e O.length).k= .set n->n∈(eX o e O.length).rd)/\K x (zt.app O)/\
   ∀O',tu (eX o e O.length).rd O O'->((eX o e O.length).k.ku=true->O'.length=O.length)->Ex P o e O' x (zt.app O'):=by
 by_cases h0:o.cls=0
 ·have hl:eX o e O.length=⟨[],.vZ⟩:=by cases o<;>first|(simp[gj.cls]at h0;done)|rfl
  obtain⟨x,h1,h2⟩:=ex0 h0 h;exact⟨x,.vZ,by rw[hl];trivial,by rw[hl];simp,h1,λ O' _ _=>h2 O'⟩
 by_cases h1:o.cls=1
 ·have hl:(eX o e O.length).k= .vZ:=by cases o<;>first|(simp[gj.cls]at h1;done)|rfl
  obtain⟨x,h2,h3⟩:=ex1 h1 h;exact⟨x,.vZ,by rw[hl];trivial,by rw[hl];simp,h2,λ O' ha _=>h3 O' _ ha⟩
 by_cases h2:o.cls=2
 ·have hl:eX o e O.length=⟨[],.push O.length⟩:=by cases o<;>first|(simp[gj.cls]at h2;done)|rfl
  obtain⟨x,b,h3,h4⟩:=ex2 h2 h;exact⟨x,.push b,by rw[hl];exact rfl,by rw[hl];simp,h3,λ O' _ hp=>h4 O' (hp (by rw[hl];rfl))⟩
 cases o<;>first|(exact(h0 rfl).elim)|(exact(h1 rfl).elim)|(exact(h2 rfl).elim)|(simp[eX,yT,EK.isAny]at hk;done)|skip
 case jo k t s z=>
  obtain⟨h1,h2,h3⟩:=h;exact⟨_,.set k _,⟨rfl,(List.getElem?_eq_some_iff.1 h2).1⟩,by simp[eX,yT],h3,λ O' ha _ K' h'=>⟨h1,by rw[ha k (by simp[eX,yT])];exact h2,h'⟩⟩
 case mM gs f as=>
  simp only[eX,yT]at hk⊢;obtain⟨n,a0,ob,r,ob',q1,q2,q3,q4,q5,q6,q7,q8,q9⟩:=h;simp only[q3];exact⟨r,.set n ob',⟨rfl,(List.getElem?_eq_some_iff.1 q4).1⟩,by simp,q9,λ O' ha _ K' h'=>⟨n,a0,ob,r,ob',q1,q2,q3,by rw[ha n (by simp)];exact q4,q5,q6,q7,q8,h'⟩⟩
 case store m x y=>
  simp only[eX,yT]at hk⊢
  split at hk
  ·rename_i n hn;simp only[hn];rcases amN hn with⟨len,hx⟩|⟨len,i,f,hx⟩|hx;rotate_left 2
   ·simp only[wpOp,hx]at h
   ·simp only[wpOp,hx]at h
   ·simp only[wpOp,hx]at h
    split at h
    ·rename_i t s xs hO;obtain⟨q1,q2,q3,q4,q5,q6⟩:=h
     exact⟨_,.set n _,⟨rfl,(List.getElem?_eq_some_iff.1 hO).1⟩,by simp,q6,λ O' ha _ K' h'=>by
      simp only[wpOp,hx,ha n (by simp),hO];exact⟨q1,q2,q3,q4,q5,h'⟩⟩
    ·exact h.elim
  ·simp[EK.isAny]at hk
 case app t s b x y=>
  simp only[eX,yT]at hk⊢
  split at hk
  ·rename_i n hn;simp only[hn];simp only[wpOp]at h;obtain⟨ys,⟨q0,q1⟩,q2⟩:=axh h;rcases amN hn with⟨len,hx⟩|⟨len,i,f,hx⟩|hx
   ·rw[hx]at q1;obtain⟨r,zt,q3,q4,q5⟩:=aAu q1
    exact⟨r,zt,q3,by simp,q4,λ O' ha _ K' h'=>by
     simp only[wpOp,hx];exact q2 O' (λ m hm=>ha m (by simp[hm])) _ ⟨q0,q5 O' (ha n (by simp)) K' h'⟩⟩
   ·rw[hx]at q1;exact q1.elim
   ·rw[hx]at q1;exact q1.elim
  ·simp[EK.isAny]at hk
inductive Step(P:Program)(o:aQ)(e:Env)(O:List aj):Env->List aj->Prop
 |run (x:AV) (O':List aj):(∀t want,o.guard=some (t,want)->e t= .v (.bool want))->Ex P o.op e O x O'->Step P o e O (cq e o.dst x) O'
 |skip (t:Nat) (want:Bool):o.guard=some (t,want)->(e t= .v (.bool (!want))∨e t= .aZ [])->Step P o e O (cq e o.dst (.aZ [])) O
inductive Run(P:Program):List aQ->Env->List aj->Env->List aj->Prop
 |nil (e:Env) (O:List aj):Run P [] e O e O
 |cons {o:aQ} {l:List aQ} {e e1 e2:Env} {O O1 O2:List aj}:Step P o e O e1 O1->Run P l e1 O1 e2 O2->Run P (o::l) e O e2 O2
theorem aer{e:Env}{t:Nat}{a:AV}(h:e t=a):e.set t a=e:=by
 funext k;unfold Env.set;split
 ·rename_i hk;subst hk;exact h.symm
 ·rfl
theorem me{e:Env}{d d':Option Nat}{a b:AV}(h:d=none∨d≠d'):cq (cq e d a) d' b=cq (cq e d' b) d a:=by
 cases d<;>cases d'<;>simp only[cq]
 rename_i t t'
 have ej:t≠t':=by
  rcases h with h|h
  ·cases h
  ·intro he;exact h (by rw[he])
 funext k
 simp only[Env.set];by_cases h1:k=t
 ·subst h1;rw[if_neg ej,if_pos rfl,if_pos rfl]
 ·rw[if_neg h1,if_neg h1]
theorem tt{l:List Nat}{e:Env}{d:Option Nat}{a:AV}(h:∀t,d=some t->t∉l):agree l (cq e d a) e:=by
 intro t ht;cases d with
 |none=>rfl
 |some d=>
  simp only[cq,Env.set];rw[if_neg];intro he;subst he;exact h _ rfl ht
theorem Ex.congr{P:Program}{o:gj}{e e':Env}{O O':List aj}{x:AV}(h:Ex P o e O x O')(ha:agree o.reads e' e):Ex P o e' O x O':=by
 intro K hk;rw[aoR ha];exact h K hk
inductive sC(P:Program)(o:aQ)(l:lK)(e:Env)(O:List aj):Env->List aj->Prop
 |any (x:AV) (O':List aj):l.k.isAny=true->(∀n∈l.k.keeps,O'[n]? =O[n]?)->(∀t want,o.guard=some (t,want)->e t= .v (.bool want))->Ex P o.op e O x O'->sC P o l e O (cq e o.dst x) O'
 |lab (x:AV) (zt:Eff):l.k.isAny=false->Fit l.k zt O->(∀n,l.k= .set n->n∈l.rd)->(∀t want,o.guard=some (t,want)->e t= .v (.bool want))->
  (∀O',tu l.rd O O'->(l.k.ku=true->O'.length=O.length)->Ex P o.op e O' x (zt.app O'))->sC P o l e O (cq e o.dst x) (zt.app O)
 |skip (t:Nat) (want:Bool):o.guard=some (t,want)->(e t= .v (.bool (!want))∨e t= .aZ [])->sC P o l e O (cq e o.dst (.aZ [])) O
theorem sC.step{P:Program}{o:aQ}{l:lK}{e e':Env}{O O':List aj}(h:sC P o l e O e' O'):Step P o e O e' O':=by
 cases h with
 |any x _ _ _ hg hx=>exact .run x _ hg hx
 |lab x zt _ _ _ hg hx=>exact .run x _ hg (hx O (λ _ _=>rfl) λ _=>rfl)
 |skip t want hg hb=>exact .skip t want hg hb
inductive pD(P:Program):List (aQ×lK)->Env->List aj->Env->List aj->Prop
 |nil (e:Env) (O:List aj):pD P [] e O e O
 |cons {o:aQ×lK} {l:List (aQ×lK)} {e e1 e2:Env} {O O1 O2:List aj}:sC P o.1 o.2 e O e1 O1->pD P l e1 O1 e2 O2->pD P (o::l) e O e2 O2
theorem pD.run{P:Program}{l:List (aQ×lK)}{e e':Env}{O O':List aj}(h:pD P l e O e' O'):Run P (l.map (·.1)) e O e' O':=by
 induction h with
 |nil=>exact .nil _ _
 |cons hs _ ih=>exact .cons hs.step ih
theorem amt{P:Program}{o:aQ}{e:Env}{O:List aj}{K:AV->List aj->Prop}(hg:∀t want,o.guard=some (t,want)->e t= .v (.bool want))(h:wpOp P o.op e O K):
  ∃x O',K x O'/\sC P o (eX o.op e O.length) e O (cq e o.dst x) O':=by
 cases hk:(eX o.op e O.length).k.isAny with
 |true=>
  obtain⟨x,O',h1,h2,h3⟩:=aHY h;exact⟨x,O',h1,.any x O' hk h3 hg h2⟩
 |false=>
  obtain⟨x,zt,h1,h2,h3,h4⟩:=atM hk h;exact⟨x,_,h3,.lab x zt hk h1 h2 hg h4⟩
theorem nz{P:Program}:∀(l:List aQ) {acc:List lK} {e:Env} {O:List aj} {K:List lK->Env->List aj->Prop},cN P l acc e O K->∃ir e' O',ir.length=l.length/\pD P (l.zip ir) e O e' O'/\K (acc++ir) e' O'
 | [],acc,e,O,K,h=>⟨[],e,O,rfl,.nil e O,by rw[List.append_nil];exact h⟩
 |o::l,acc,e,O,K,h=>by
  simp only[cN]at h;cases hg:o.guard with
  |none=>
   rw[hg]at h;obtain⟨x,O',h1,h2⟩:=amt (λ t want h=>by rw[hg]at h;cases h) h;obtain⟨ir,e2,O2,h0,h3,h4⟩:=nz l h1;exact⟨eX o.op e O.length::ir,e2,O2,by simp[h0],.cons h2 h3,by rw[append_assoc]at h4;exact h4⟩
  |some g=>
   obtain⟨t,want⟩:=g;rw[hg]at h;simp only at h
   split at h
   ·rename_i b hb;by_cases pz:b=want
    ·have hs:e.set t (.v (.bool want))=e:=aer (by rw[hb,pz]);rw[hs]at h;obtain⟨x,O',h1,h2⟩:=amt (λ t' oV h=>by rw[hg]at h;cases h;rw[hb,pz]) (h.1 pz);obtain⟨ir,e2,O2,h0,h3,h4⟩:=nz l h1;exact⟨eX o.op e O.length::ir,e2,O2,by simp[h0],.cons h2 h3,by rw[append_assoc]at h4;exact h4⟩
    ·have hbn:b= !want:=by cases b<;>cases want<;>simp_all
     have hs:e.set t (.v (.bool (!want)))=e:=aer (by rw[hb,hbn]);rw[hs]at h;obtain⟨ir,e2,O2,h0,h3,h4⟩:=nz l (h.2 hbn);exact⟨⟨[],.vZ⟩::ir,e2,O2,by simp[h0],.cons (.skip t want hg (.inl (by rw[hb,hbn]))) h3,by rw[append_assoc]at h4;exact h4⟩
   ·rename_i hb;obtain⟨ir,e2,O2,h0,h3,h4⟩:=nz l h;exact⟨⟨[],.vZ⟩::ir,e2,O2,by simp[h0],.cons (.skip t want hg (.inr hb)) h3,by rw[append_assoc]at h4;exact h4⟩
   ·exact h.elim
theorem apV{p i:aQ×lK}(h:sX p i=true):
  (∀t,p.1.dst=some t->t∉i.1.reads)/\(p.1.dst=none∨p.1.dst≠i.1.dst)/\(∀t,i.1.dst=some t->t∉p.1.reads)/\apm p.2 i.2=true:=by
 unfold sX at h;simp only[and_eq_true]at h;obtain⟨⟨h1,h2⟩,h3⟩:=h;refine⟨λ t ht=> ?_,?_,λ t ht=> ?_,h3⟩
 ·rw[ht]at h1;simp at h1;exact h1.1
 ·cases hp:p.1.dst with
  |none=>exact .inl rfl
  |some t=>rw[hp]at h1;simp at h1;exact .inr λ he=>h1.2 he.symm
 ·rw[ht]at h2;simpa using h2
theorem amR{kp:List Nat}{l:lK}(h:l.pure kp=true):(∀n∈l.rd,n∈kp)/\l.k= .vZ:=by
 unfold lK.pure at h;simp only[and_eq_true,all_eq_true]at h;refine⟨λ n hn=>by simpa using h.1 n hn,?_⟩;have:=h.2
 split at this
 ·assumption
 ·cases this
theorem ajh{k:EK}{zt:Eff}{O:List aj}(hf:Fit k zt O){rd:List Nat}(h:k.ahA rd=false):tu rd O (zt.app O):=by
 intro n hn;cases k<;>cases zt<;>simp only[Fit]at hf<;>simp only[EK.ahA]at h<;>simp only[Eff.app]
 ·rename_i k m b;obtain⟨rfl,aK⟩:=hf;have:n≠m:=by rintro rfl;simp at h;exact h hn
  rw[getElem?_set_ne (λ he=>this he.symm)]
 ·rename_i N b;have:n≠N:=by rintro rfl;simp at h;exact h hn
  by_cases aK:n<O.length
  ·rw[getElem?_append_left aK]
  ·rw[List.getElem?_eq_none (l:=O++ [b]) (by simp;omega),List.getElem?_eq_none (by omega)]
theorem asE{k:EK}{zt:Eff}{O:List aj}(hf:Fit k zt O)(h:k.ku=false):∀O':List aj,(zt.app O').length=O'.length:=by
 intro O';cases k<;>cases zt<;>simp only[Fit]at hf<;>simp[Eff.app]
 simp[EK.ku]at h
theorem azP{kp ki:EK}{p i:Eff}{O:List aj}(hp:Fit kp p O)(hi:Fit ki i (p.app O))(aM9:(kp.ku&&ki.ku)=false)(u2:∀n m,kp= .set n->ki= .set m->n≠m)(hps:∀n m,kp= .push n->ki= .set m->n≠m):
  Fit ki i O/\Fit kp p (i.app O)/\i.app (p.app O)=p.app (i.app O):=by
 cases kp<;>cases p<;>simp only[Fit]at hp<;>cases ki<;>cases i<;>simp only[Fit]at hi<;>simp only[Fit,Eff.app,true_and,and_true]<;>(try simp only[Eff.app]at hi)<;>try trivial
 case set.set.set.set n _ b m _ c=>
  obtain⟨rfl,h1⟩:=hp;obtain⟨rfl,h2⟩:=hi;have:=u2 _ _ rfl rfl;refine⟨⟨rfl,by simpa using h2⟩,⟨rfl,by simpa using h1⟩,List.set_comm _ _ (λ he=>this he)⟩
 case set.set.push.push n _ b m c=>
  obtain⟨rfl,h1⟩:=hp;refine⟨by simpa using hi,⟨rfl,by simp;omega⟩,?_⟩;rw[List.set_append_left _ _ h1]
 case push.push.set.set=>
  obtain⟨rfl,h2⟩:=hi;have:=hps _ _ rfl rfl;have aK:_<O.length:=Nat.lt_of_le_of_ne (by simp at h2;omega) (λ he=>this (hp.symm.trans he.symm));refine⟨⟨rfl,aK⟩,by simpa using hp,?_⟩;rw[List.set_append_left _ _ aK]
 all_goals simp[EK.ku]at aM9
theorem aoZ{P:Program}{p i:aQ×lK}(hd:sX p i=true){e e1 e2:Env}{O O1 O2:List aj}(h1:sC P p.1 p.2 e O e1 O1)(h2:sC P i.1 i.2 e1 O1 e2 O2):
  ∃e1' oS,sC P i.1 i.2 e O e1' oS/\sC P p.1 p.2 e1' oS e2 O2:=by
 obtain⟨p,lp⟩:=p;obtain⟨i,li⟩:=i;obtain⟨d1,d2,d3,d4⟩:=apV hd;simp only at d1 d2 d3 d4 h1 h2⊢
 have gi:∀{t want a},i.guard=some (t,want)->cq e p.dst a t=e t:=by
  intro t want a hg;exact tt (l:=i.reads) d1 t (by simp[aQ.reads,hg])
 have gp:∀{t want} {e':Env} {a},p.guard=some (t,want)->cq e' i.dst a t=e' t:=by
  intro t want e' a hg;exact tt (l:=p.reads) d3 t (by simp[aQ.reads,hg])
 have ri:∀{a},agree i.op.reads e (cq e p.dst a):=λ {a} t ht=>(tt (l:=i.reads) d1 t (by simp[aQ.reads,ht])).symm
 have rp:∀{e' a},agree p.op.reads (cq e' i.dst a) e':=λ {e' a} t ht=>tt (l:=p.reads) d3 t (by simp[aQ.reads,ht])
 have ayV:(lp.k.isAny=true/\li.pure lp.k.keeps=true)∨(lp.k.isAny=false/\li.k.isAny=true/\lp.pure li.k.keeps=true)∨(lp.k.isAny=false/\li.k.isAny=false/\lp.k.ahA li.rd=false/\li.k.ahA lp.rd=false/\(lp.k.ku&&li.k.ku)=false):=by
  unfold apm at d4
  split at d4
  ·rename_i h;exact .inl ⟨h,d4⟩
  ·rename_i h
   split at d4
   ·rename_i h';exact .inr (.inl ⟨by simpa using h,h',d4⟩)
   ·rename_i h';simp only[and_eq_true,not_eq_true']at d4;exact .inr (.inr ⟨by simpa using h,by simpa using h',d4.1.1,d4.1.2,d4.2⟩)
 cases h1 with
 |skip t want hg hb=>
  have hp':∀{e':Env} {O':List aj} {y:AV},e'=cq e i.dst y->sC P p lp e' O' (cq e' p.dst (.aZ [])) O':=by
   rintro e' O' y rfl;exact .skip t want hg (by rw[gp hg];exact hb)
  cases h2 with
  |skip t' oV j6 wW=>
   rw[gi j6]at wW;refine⟨_,_,.skip t' oV j6 wW,?_⟩;rw[me d2];exact hp' rfl
  |any y _ ha hkp hq hy=>
   refine⟨_,_,.any y O2 ha hkp (λ t' oV j6=>by rw[←gi j6];exact hq t' oV j6) (hy.congr ri),?_⟩;rw[me d2];exact hp' rfl
  |lab y zt ha hf hm hq hy=>
   refine⟨_,_,.lab y zt ha hf hm (λ t' oV j6=>by rw[←gi j6];exact hq t' oV j6) (λ O' h1 h2=>(hy O' h1 h2).congr ri),?_⟩;rw[me d2];exact hp' rfl
 |any x _ hap hkp hqp hx=>
  have hp':∀{e':Env} {y:AV},e'=cq e i.dst y->sC P p lp e' O (cq e' p.dst x) O1:=by
   rintro e' y rfl;exact .any x O1 hap hkp (λ t want hg=>by rw[gp hg];exact hqp t want hg) (hx.congr rp)
  have hpu:li.pure lp.k.keeps=true:=by
   rcases ayV with⟨_,h⟩|⟨h,_⟩|⟨h,_⟩
   ·exact h
   ·rw[hap]at h;cases h
   ·rw[hap]at h;cases h
  obtain⟨hrd,mA⟩:=amR hpu;cases h2 with
  |skip t' oV j6 wW=>
   rw[gi j6]at wW;refine⟨_,_,.skip t' oV j6 wW,?_⟩;rw[me d2];exact hp' rfl
  |any y _ ha _ hq hy=>rw[mA]at ha;cases ha
  |lab y zt ha hf hm hq hy=>
   have he:zt= .vZ:=by rw[mA]at hf;cases zt<;>simp[Fit]at hf;rfl
   subst he;refine⟨_,_,.lab y .vZ ha (by rw[mA];trivial) hm (λ t' oV j6=>by rw[←gi j6];exact hq t' oV j6) (λ O' h1 h2=>(hy O' (λ n hn=>(h1 n hn).trans (hkp n (hrd n hn)).symm) (by rw[mA];simp[EK.ku])).congr ri),?_⟩;rw[me d2];exact hp' rfl
 |lab x aCQ hap hfp hmp hqp hx=>
  cases h2 with
  |skip t' oV j6 wW=>
   rw[gi j6]at wW;refine⟨_,_,.skip t' oV j6 wW,?_⟩;rw[me d2];exact .lab x aCQ hap hfp hmp (λ t want hg=>by rw[gp hg];exact hqp t want hg) (λ O' h1 h2=>(hx O' h1 h2).congr rp)
  |any y _ ha hkp hq hy=>
   have hpu:lp.pure li.k.keeps=true:=by
    rcases ayV with⟨h,_⟩|⟨_,_,h⟩|⟨_,h,_⟩
    ·rw[hap]at h;cases h
    ·exact h
    ·rw[ha]at h;cases h
   obtain⟨hrd,mA⟩:=amR hpu;have he:aCQ= .vZ:=by rw[mA]at hfp;cases aCQ<;>simp[Fit]at hfp;rfl
   subst he;refine⟨_,_,.any y O2 ha hkp (λ t' oV j6=>by rw[←gi j6];exact hq t' oV j6) (hy.congr ri),?_⟩;rw[me d2];exact .lab x .vZ hap (by rw[mA];trivial) hmp (λ t want hg=>by rw[gp hg];exact hqp t want hg) (λ O' h1 h2=>(hx O' (λ n hn=>(h1 n hn).trans (hkp n (hrd n hn))) (by rw[mA];simp[EK.ku])).congr rp)
  |lab y aRG ha hf hm hq hy=>
   have hh:lp.k.ahA li.rd=false/\li.k.ahA lp.rd=false/\(lp.k.ku&&li.k.ku)=false:=by
    rcases ayV with⟨h,_⟩|⟨_,h,_⟩|⟨_,_,h⟩
    ·rw[hap]at h;cases h
    ·rw[ha]at h;cases h
    ·exact h
   obtain⟨hh1,hh2,hh3⟩:=hh
   have u2:∀n m,lp.k= .set n->li.k= .set m->n≠m:=by
    rintro n m hn hm' rfl;have:=hm n hm';rw[hn]at hh1;simp[EK.ahA]at hh1;exact hh1 this
   have hps:∀n m,lp.k= .push n->li.k= .set m->n≠m:=by
    rintro n m hn hm' rfl;have:=hm n hm';rw[hn]at hh1;simp[EK.ahA]at hh1;exact hh1 this
   obtain⟨c1,c2,c3⟩:=azP hfp hf hh3 u2 hps;have a1:=ajh hfp hh1;have a2:=ajh c1 hh2;refine⟨_,_,.lab y aRG ha c1 hm (λ t' oV j6=>by rw[←gi j6];exact hq t' oV j6) (λ O' h1 h2=>(hy O' (λ n hn=>(h1 n hn).trans (a1 n hn).symm) λ hpu=> ?_).congr ri),?_⟩
   ·rw[h2 hpu,asE hfp (by cases hlp:lp.k.ku with|false=>rfl|true=>rw[hlp,hpu]at hh3;cases hh3)]
   ·rw[me d2,c3];refine .lab x aCQ hap c2 hmp (λ t want hg=>by rw[gp hg];exact hqp t want hg) (λ O' h1 h2=>(hx O' (λ n hn=>(h1 n hn).trans (a2 n hn)) λ hpu=> ?_).congr rp);rw[h2 hpu,asE c1 (by cases hli:li.k.ku with|false=>rfl|true=>rw[hli,hpu]at hh3;cases hh3)]
theorem xq{P:Program}{i:aQ×lK}{post:List (aQ×lK)}:∀(pre:List (aQ×lK)),(∀p∈pre,sX p i=true)->∀{e e2:Env} {O O2:List aj},pD P (pre++i::post) e O e2 O2->pD P (i::(pre++post)) e O e2 O2
 | [],_,_,_,_,_,h=>h
 |p::pre,hp,e,e2,O,O2,h=>by
  cases h with
  |cons hs hr=>
   have:=xq pre (λ q hq=>hp q (by simp[hq])) hr;cases this with
   |cons hi lV=>
    obtain⟨e1',oS,s1,s2⟩:=aoZ (hp p (by simp)) hs hi;exact .cons s1 (.cons s2 lV)
theorem vk(rows:List (List Nat))(n:Nat):(aa2 rows n).length=n:=by
 induction n with
 |zero=>rfl
 |succ n ih=>simp[aa2,ih]
theorem af0(rows:List (List Nat)){i n:Nat}(h:i<n):(aa2 rows n).getD i 0=(rows.getD i []).foldl (λ s j=>s|||(2^j|||(aa2 rows i).getD j 0)) 0:=by
 induction n with
 |zero=>omega
 |succ n ih=>
  simp only[aa2];by_cases hi:i<n
  ·rw[List.getD,getElem?_append_left (by rw[vk];exact hi)];exact ih hi
  ·obtain rfl:i=n:=by omega
   rw[List.getD,getElem?_append_right (by rw[vk];exact le_refl _)];simp[vk]
theorem an0(rows:List (List Nat)){i n m:Nat}(h:i<n)(h':i<m):(aa2 rows n).getD i 0=(aa2 rows m).getD i 0:=by
 rw[af0 rows h,af0 rows h']
theorem yp(f:Nat->Nat)(p:Nat):∀(l:List Nat) (s:Nat),(l.foldl (λ s j=>s|||(2^j|||f j)) s).testBit p=true->s.testBit p=true∨∃j∈l,p=j∨(f j).testBit p=true
 | [],s,h=> .inl h
 |j::l,s,h=>by
  rcases yp f p l _ h with h1|⟨k,hk,h1⟩
  ·rw[Nat.testBit_or,Nat.testBit_or]at h1;simp only[or_eq_true]at h1;rcases h1 with h1|h1|h1
   ·exact .inl h1
   ·rw[Nat.testBit_two_pow]at h1;exact .inr ⟨j,by simp,.inl (by simpa using(of_decide_eq_true h1).symm)⟩
   ·exact .inr ⟨j,by simp,.inr h1⟩
  ·exact .inr ⟨k,by simp[hk],h1⟩
theorem az2{rows:List (List Nat)}{n:Nat}{S:Nat->Prop}(aM5:∀i,i<n->∀d∈rows.getD i [],d<i)(hS:∀j,j<n->S j->∀d∈rows.getD j [],S d):
  ∀i,i<n->(∀d∈rows.getD i [],S d)->∀p,((aa2 rows n).getD i 0).testBit p=true->S p:=by
 intro i
 induction i using Nat.strongRecOn with
 |_ i ih=>
  intro hi hd p hp;rw[af0 rows hi]at hp;rcases yp _ p _ _ hp with h|⟨j,hj,h⟩
  ·simp at h
  ·have hji:=aM5 i hi j hj;rcases h with rfl|h
   ·exact hd p hj
   ·exact ih j hji (by omega) (hS j (by omega) (hd j hj)) p (by rw[an0 rows (show j<n by omega) hji];exact h)
section
variable {P:Program} {ops:Array Oper} {al:List (aQ×lK)}
theorem yD{i:Nat}{o:Oper}(h:ops[i]? =some o):(rowsOf ops).getD i []=(o.after.toList.filter (Region.binds .any)).map (·.on):=by
 have:ops.toList[i]? =some o:=by simpa using h
 simp[rowsOf,List.getD,this]
theorem aHI(hlen:al.length=ops.size)(vM:nT (rowsOf ops) al=true){e2:Env}{O2:List aj}:
  ∀(fuel t:Nat) (bC:Array Bool) (acc rem:List Nat) (e:Env) (O:List aj),bC.size=ops.size->rem.length<=fuel->rem.Pairwise (·<·)->(∀j,j∈rem↔j<ops.size/\bC.getD j true=false)->
   (∀j,j<ops.size->bC.getD j true=true->∀d∈(rowsOf ops).getD j [],bC.getD d true=true)->
   pD P (rem.map λ i=>al.getD i (⟨none,none,.bD (.c .top)⟩,⟨[],.any⟩)) e O e2 O2->
   ∃l,Region.linearise.go .any ops fuel t bC acc=acc.reverse++l/\pD P (l.map λ i=>al.getD i (⟨none,none,.bD (.c .top)⟩,⟨[],.any⟩)) e O e2 O2/\∀i∈l,i<ops.size:=by
 have akR:∀i,i<ops.size->(∀d∈(rowsOf ops).getD i [],d<i)/\∀p,p<i->((aa2 (rowsOf ops) ops.size).getD i 0).testBit p=true∨sX (al.getD p (⟨none,none,.bD (.c .top)⟩,⟨[],.any⟩)) (al.getD i (⟨none,none,.bD (.c .top)⟩,⟨[],.any⟩))=true:=by
  intro i hi;unfold nT at vM;simp only[all_eq_true,mem_range,and_eq_true,or_eq_true,decide_eq_true_eq,hlen]at vM;obtain⟨h1,h2⟩:=vM i hi;refine⟨h1,λ p hp=> ?_⟩;rcases h2 p hp with h|h
  ·exact .inl h
  ·refine .inr ?_;have e1:al[p]? =some (al.getD p (⟨none,none,.bD (.c .top)⟩,⟨[],.any⟩)):=by simp[List.getD,show p<al.length by omega]
   have e2:al[i]? =some (al.getD i (⟨none,none,.bD (.c .top)⟩,⟨[],.any⟩)):=by simp[List.getD,show i<al.length by omega]
   rw[e1,e2]at h;exact h
 intro fuel
 induction fuel with
 |zero=>
  intro t bC acc rem e O rI hf hpw gI nR hr;obtain rfl:rem= []:=List.eq_nil_of_length_eq_zero (by omega);exact⟨[],by simp[Region.linearise.go],hr,by simp⟩
 |succ fuel ih=>
  intro t bC acc rem e O rI hf hpw gI nR hr;simp only[Region.linearise.go];generalize hrs:(List.range ops.size).filter (λ i=> !bC.getD i true&&((ops[i]?).map (·.after.all λ e=> !Region.binds .any e||bC.getD e.on false)).getD false)=rs;cases hg:rs[t%rs.length]? with
  |none=>
   have aqc:rs= []:=by
    by_cases h0:rs.length=0
    ·exact List.eq_nil_of_length_eq_zero h0
    ·have:=Nat.mod_lt t (Nat.pos_of_ne_zero h0);rw[List.getElem?_eq_getElem this]at hg;cases hg
   have acN:rem= []:=by
    cases rem with
    |nil=>rfl
    |cons i r=>
     exfalso;obtain⟨hi,hli⟩:=(gI i).1 (by simp)
     have aHn:∀d,d<i->bC.getD d true=true:=by
      intro d hdi;cases hld:bC.getD d true with
      |true=>rfl
      |false=>
       have hm:=(gI d).2 ⟨by omega,hld⟩;rcases List.mem_cons.1 hm with rfl|hm
       ·omega
       ·have:=List.rel_of_pairwise_cons hpw hm;omega
     have:i∈rs:=by
      rw[←hrs,mem_filter];refine⟨List.mem_range.2 hi,?_⟩;have ho:ops[i]? =some ops[i]:=by simp[hi]
      simp only[hli,Bool.not_false,Bool.true_and,ho,map_some,getD_some,Array.all_eq_true,or_eq_true];intro j hj;by_cases hbj:Region.binds .any (ops[i].after[j])=true;rotate_left
      ·exact .inl (by simpa using hbj)
      refine .inr ?_;have hdi:(ops[i].after[j]).on<i:=(akR i hi).1 _ (by rw[yD ho];exact List.mem_map.2 ⟨_,List.mem_filter.2 ⟨Array.getElem_mem_toList hj,hbj⟩,rfl⟩);have:=aHn _ hdi;have aK:(ops[i].after[j]).on<bC.size:=by omega
      simp[Array.getD,aK]at this⊢;exact this
     rw[aqc]at this;cases this
   subst acN;exact⟨[],by simp,hr,by simp⟩
  |some i=>
   have hmi:i∈rs:=mem_of_getElem? hg;rw[←hrs,mem_filter]at hmi;obtain⟨hi,abN⟩:=hmi;have hi:i<ops.size:=List.mem_range.1 hi;have ho:ops[i]? =some ops[i]:=by simp[hi]
   simp only[ho,map_some,getD_some,and_eq_true,not_eq_true',Array.all_eq_true,or_eq_true]at abN;obtain⟨hli,wi⟩:=abN
   have lF:∀d∈(rowsOf ops).getD i [],bC.getD d true=true:=by
    intro d hdm;rw[yD ho]at hdm;obtain⟨ed,aHB,rfl⟩:=List.mem_map.1 hdm;obtain⟨hed,hbe⟩:=List.mem_filter.1 aHB;obtain⟨j,hj⟩:=getElem?_of_mem hed;obtain⟨hjl,hje⟩:=List.getElem?_eq_some_iff.1 hj;have aHu:j<ops[i].after.size:=by simpa using hjl
    have ay4:ops[i].after[j]=ed:=by simpa using hje
    rcases wi j aHu with h|h
    ·rw[ay4,hbe]at h;simp at h
    ·rw[ay4]at h;by_cases aK:ed.on<bC.size
     ·simp[Array.getD,aK]at h⊢;exact h
     ·simp[Array.getD,aK]at h
   have aNz:i∈rem:=(gI i).2 ⟨hi,hli⟩;obtain⟨pre,post,rfl⟩:=List.append_of_mem aNz;have aaS:=List.pairwise_append.1 hpw;have ap6:∀p∈pre,p<i:=λ p hp=>aaS.2.2 p hp i (by simp)
   have aNb:∀p∈post,i<p:=λ p hp=>List.rel_of_pairwise_cons aaS.2.1 hp
   have aHz:=xq (P:=P) (i:=al.getD i (⟨none,none,.bD (.c .top)⟩,⟨[],.any⟩)) (post:=post.map λ i=>al.getD i (⟨none,none,.bD (.c .top)⟩,⟨[],.any⟩)) (pre.map λ i=>al.getD i (⟨none,none,.bD (.c .top)⟩,⟨[],.any⟩)) (by
    intro q hq;obtain⟨p,hp,rfl⟩:=List.mem_map.1 hq;rcases(akR i hi).2 p (ap6 p hp)with h|h
    ·exfalso;have:=az2 (S:=λ j=>bC.getD j true=true) (λ j hj=>(akR j hj).1) nR i hi lF p h;have hpm:=((gI p).1 (by simp[hp])).2;rw[hpm]at this;cases this
    ·exact h) (by simpa using hr)
   cases aHz with
   |cons hs zh=>
    have ej:∀j,j∈pre++post->j≠i:=by
     intro j hj he;subst he;rcases List.mem_append.1 hj with h|h
     ·have:=ap6 j h;omega
     ·have:=aNb j h;omega
    have u2:∀j,(bC.setIfInBounds i true).getD j true=if j=i then true else bC.getD j true:=by
     intro j;simp only[Array.getD_eq_getD_getElem?,Array.getElem?_setIfInBounds];by_cases hji:i=j
     ·subst hji;simp[rI,hi]
     ·rw[if_neg hji,if_neg (λ h=>hji h.symm)]
    obtain⟨l,h1,h2,h3⟩:=ih (t/rs.length) (bC.setIfInBounds i true) (i::acc) (pre++post) _ _ (by simp[rI]) (by simp at hf⊢;omega)
     (List.pairwise_append.2 ⟨aaS.1,(List.pairwise_cons.1 aaS.2.1).2,λ x hx y hy=>aaS.2.2 x hx y (by simp[hy])⟩)
     (by
      intro j;rw[u2];constructor
      ·intro hj;rw[if_neg (ej j hj)];exact(gI j).1 (by rcases List.mem_append.1 hj with h|h<;>simp[h])
      ·rintro⟨hj1,hj2⟩;by_cases hji:j=i
       ·rw[if_pos hji]at hj2;cases hj2
       ·rw[if_neg hji]at hj2;have:=(gI j).2 ⟨hj1,hj2⟩;simp only[mem_append,List.mem_cons]at this⊢;rcases this with h|h|h
        ·exact .inl h
        ·exact(hji h).elim
        ·exact .inr h)
     (by
      intro j hj hlj d hd;rw[u2]at hlj⊢
      split
      ·rfl
      ·by_cases hji:j=i
       ·subst hji;exact lF d hd
       ·rw[if_neg hji]at hlj;exact nR j hj hlj d hd)
     (by simpa using zh)
    refine⟨i::l,by simp[h1],?_,λ j hj=> ?_⟩
    ·exact .cons hs h2
    ·rcases List.mem_cons.1 hj with rfl|h
     ·exact hi
     ·exact h3 j h
theorem aj3{mixed:Bool}(hd:Region.departs ops=false∨mixed=true)(hlen:al.length=ops.size)(vM:nT (rowsOf ops) al=true){e e2:Env}{O O2:List aj}(hr:pD P al e O e2 O2)(t:Nat):
  pD P ((Region.schedule mixed ops t).map λ i=>al.getD i (⟨none,none,.bD (.c .top)⟩,⟨[],.any⟩)) e O e2 O2/\∀i∈Region.schedule mixed ops t,i<ops.size:=by
 have hs:Region.schedule mixed ops t=Region.linearise .any ops t:=by rcases hd with hd|hd<;>simp[Region.schedule,hd]
 rw[hs]
 have wi:(List.range ops.size).map (λ i=>al.getD i (⟨none,none,.bD (.c .top)⟩,⟨[],.any⟩))=al:=by
  apply ext_getElem
  ·simp[hlen]
  ·intro i h1 h2;simp[List.getD,h2]
 obtain⟨l,h1,h2,h3⟩:=aHI (P:=P) hlen vM ops.size t (Array.replicate ops.size false) [] (List.range ops.size) e O (by simp) (by simp) List.pairwise_lt_range
  (λ j=>by
   rw[mem_range];constructor
   ·intro h;exact⟨h,by simp[Array.getD,h]⟩
   ·exact λ h=>h.1)
  (λ j hj h=>by simp[Array.getD,hj]at h)
  (by rw[wi];exact hr)
 simp only[Region.linearise];rw[h1];simpa using⟨h2,h3⟩
end
section
variable {P:Program} {ops:Array Oper}
structure aln(ops:Array Oper)(bC:Array Bool)(rem:List Nat):Prop where
 sz:bC.size=ops.size
 mem:∀j,j∈rem↔j<ops.size/\bC.getD j true=false
 cl:∀j,j<ops.size->bC.getD j true=true->∀d∈(rowsOf ops).getD j [],bC.getD d true=true
def alo(ops:Array Oper):Prop:=∀i,i<ops.size->∀d∈(rowsOf ops).getD i [],d<i
theorem aiR:∀(l:List Nat),l≠[]->∃i∈l,∀j∈l,i<=j
 | [],h=>(h rfl).elim
 | [a],_=>⟨a,by simp,by simp⟩
 |a::b::l,_=>by
  obtain⟨i,hi,hm⟩:=aiR (b::l) (by simp);rcases Nat.le_total a i with h|h
  ·refine⟨a,by simp,λ j hj=> ?_⟩;rcases List.mem_cons.1 hj with rfl|hj
   ·exact le_refl _
   ·exact Nat.le_trans h (hm j hj)
  ·refine⟨i,by simp[hi],λ j hj=> ?_⟩;rcases List.mem_cons.1 hj with rfl|hj
   ·exact h
   ·exact hm j hj
theorem asv(hd:alo ops){fuel t:Nat}{bC:Array Bool}{acc rem:List Nat}(h:aln ops bC rem)(ej:rem≠[]):
  ∃i t',i∈rem/\(∀d∈(rowsOf ops).getD i [],bC.getD d true=true)/\Region.linearise.go .any ops (fuel+1) t bC acc=Region.linearise.go .any ops fuel t' (bC.setIfInBounds i true) (i::acc):=by
 obtain⟨rI,gI,nR⟩:=h;simp only[Region.linearise.go];generalize hrs:(List.range ops.size).filter (λ i=> !bC.getD i true&&((ops[i]?).map (·.after.all λ e=> !Region.binds .any e||bC.getD e.on false)).getD false)=rs;cases hg:rs[t%rs.length]? with
 |none=>
  exfalso
  have aqc:rs= []:=by
   by_cases h0:rs.length=0
   ·exact List.eq_nil_of_length_eq_zero h0
   ·have:=Nat.mod_lt t (Nat.pos_of_ne_zero h0);rw[List.getElem?_eq_getElem this]at hg;cases hg
  obtain⟨i,him,aHq⟩:=aiR rem ej;obtain⟨hi,hli⟩:=(gI i).1 him
  have aHn:∀d,d<i->bC.getD d true=true:=by
   intro d hdi;cases hld:bC.getD d true with
   |true=>rfl
   |false=>
    have hm:=(gI d).2 ⟨by omega,hld⟩;have:=aHq d hm;omega
  have:i∈rs:=by
   rw[←hrs,mem_filter];refine⟨List.mem_range.2 hi,?_⟩;have ho:ops[i]? =some ops[i]:=by simp[hi]
   simp only[hli,Bool.not_false,Bool.true_and,ho,map_some,getD_some,Array.all_eq_true,or_eq_true];intro j hj;by_cases hbj:Region.binds .any (ops[i].after[j])=true;rotate_left
   ·exact .inl (by simpa using hbj)
   refine .inr ?_;have hdi:(ops[i].after[j]).on<i:=hd i hi _ (by rw[yD ho];exact List.mem_map.2 ⟨_,List.mem_filter.2 ⟨Array.getElem_mem_toList hj,hbj⟩,rfl⟩);have:=aHn _ hdi;have aK:(ops[i].after[j]).on<bC.size:=by omega
   simp[Array.getD,aK]at this⊢;exact this
  rw[aqc]at this;cases this
 |some i=>
  have hmi:i∈rs:=mem_of_getElem? hg;rw[←hrs,mem_filter]at hmi;obtain⟨hi,abN⟩:=hmi;have hi:i<ops.size:=List.mem_range.1 hi;have ho:ops[i]? =some ops[i]:=by simp[hi]
  simp only[ho,map_some,getD_some,and_eq_true,not_eq_true',Array.all_eq_true,or_eq_true]at abN;obtain⟨hli,wi⟩:=abN
  have lF:∀d∈(rowsOf ops).getD i [],bC.getD d true=true:=by
   intro d hdm;rw[yD ho]at hdm;obtain⟨ed,aHB,rfl⟩:=List.mem_map.1 hdm;obtain⟨hed,hbe⟩:=List.mem_filter.1 aHB;obtain⟨j,hj⟩:=getElem?_of_mem hed;obtain⟨hjl,hje⟩:=List.getElem?_eq_some_iff.1 hj;have aHu:j<ops[i].after.size:=by simpa using hjl
   have ay4:ops[i].after[j]=ed:=by simpa using hje
   rcases wi j aHu with h|h
   ·rw[ay4,hbe]at h;simp at h
   ·rw[ay4]at h;by_cases aK:ed.on<bC.size
    ·simp[Array.getD,aK]at h⊢;exact h
    ·simp[Array.getD,aK]at h
  exact⟨i,_,(gI i).2 ⟨hi,hli⟩,lF,rfl⟩
theorem aln.set{bC:Array Bool}{rem acr:List Nat}{i:Nat}(h:aln ops bC rem)(hi:i∈rem)(lF:∀d∈(rowsOf ops).getD i [],bC.getD d true=true)(hr:∀j,j∈acr↔j∈rem/\j≠i):aln ops (bC.setIfInBounds i true) acr:=by
 obtain⟨rI,gI,nR⟩:=h;have hil:=((gI i).1 hi).1
 have u2:∀j,(bC.setIfInBounds i true).getD j true=if j=i then true else bC.getD j true:=by
  intro j;simp only[Array.getD_eq_getD_getElem?,Array.getElem?_setIfInBounds];by_cases hji:i=j
  ·subst hji;simp[rI,hil]
  ·rw[if_neg hji,if_neg (λ h=>hji h.symm)]
 refine⟨by simp[rI],λ j=> ?_,λ j hj hlj d hdm=> ?_⟩
 ·rw[u2,hr,gI];constructor
  ·rintro⟨⟨h1,h2⟩,h3⟩;exact⟨h1,by rw[if_neg h3];exact h2⟩
  ·rintro⟨h1,h2⟩;by_cases hji:j=i
   ·rw[if_pos hji]at h2;cases h2
   ·rw[if_neg hji]at h2;exact⟨⟨h1,h2⟩,hji⟩
 ·rw[u2]at hlj⊢
  split
  ·rfl
  ·by_cases hji:j=i
   ·subst hji;exact lF d hdm
   ·rw[if_neg hji]at hlj;exact nR j hj hlj d hdm
def Swp(ops:Array Oper)(g:Nat->aQ×lK)(p i:Nat):Prop:=((aa2 (rowsOf ops) ops.size).getD i 0).testBit p=true∨sX (g p) (g i)=true
theorem ad1{rem:List Nat}{i:Nat}(hn:rem.Nodup)(hi:i∈rem):∃pre post,rem=pre++i::post/\(pre++post).Nodup/\∀j,j∈pre++post↔j∈rem/\j≠i:=by
 obtain⟨pre,post,rfl⟩:=List.append_of_mem hi;have h:=List.nodup_append.1 hn;have h2:=List.nodup_cons.1 h.2.1;refine⟨pre,post,rfl,List.nodup_append.2 ⟨h.1,h2.2,λ a ha b hb=>h.2.2 a ha b (by simp[hb])⟩,λ j=> ?_⟩;constructor
 ·intro hj;refine⟨by rcases List.mem_append.1 hj with h|h<;>simp[h],λ e=> ?_⟩;subst e;rcases List.mem_append.1 hj with hj|hj
  ·exact h.2.2 j hj j (by simp) rfl
  ·exact h2.1 hj
 ·rintro⟨hj,ej⟩;rcases List.mem_append.1 hj with hj|hj
  ·simp[hj]
  ·rcases List.mem_cons.1 hj with hj|hj
   ·exact(ej hj).elim
   ·simp[hj]
theorem u6(hd:alo ops){g:Nat->aQ×lK}{bC:Array Bool}{rem pre post:List Nat}{i:Nat}(h:aln ops bC rem)(acN:rem=pre++i::post)(lF:∀d∈(rowsOf ops).getD i [],bC.getD d true=true)
  (hs:∀p∈pre,Swp ops g p i) {e e2:Env} {O O2:List aj} (hr:pD P (rem.map g) e O e2 O2):pD P (g i::(pre++post).map g) e O e2 O2:=by
 subst acN;have hi:i<ops.size:=((h.mem i).1 (by simp)).1
 have:=xq (P:=P) (i:=g i) (post:=post.map g) (pre.map g) (λ q hq=>by
  obtain⟨p,hp,rfl⟩:=List.mem_map.1 hq;rcases hs p hp with h1|h1
  ·exfalso;have:=az2 (S:=λ j=>bC.getD j true=true) hd h.cl i hi lF p h1;have hpm:=((h.mem p).1 (by simp[hp])).2;rw[hpm]at this;cases this
  ·exact h1) (by simpa using hr)
 simpa using this
theorem asu(hd:alo ops)(g:Nat->aQ×lK){e2:Env}{O2:List aj}:∀(fuel t:Nat) (bC:Array Bool) (acc rem:List Nat) (e:Env) (O:List aj),aln ops bC rem->rem.length<=fuel->rem.Nodup->rem.Pairwise (Swp ops g)->
   pD P (rem.map g) e O e2 O2->∃l,Region.linearise.go .any ops fuel t bC acc=acc.reverse++l/\pD P (l.map g) e O e2 O2/\∀i∈l,i<ops.size:=by
 intro fuel
 induction fuel with
 |zero=>
  intro t bC acc rem e O h hf hn hp hr;obtain rfl:rem= []:=List.eq_nil_of_length_eq_zero (by omega);exact⟨[],by simp[Region.linearise.go],hr,by simp⟩
 |succ fuel ih=>
  intro t bC acc rem e O h hf hn hp hr;by_cases ej:rem= []
  ·subst ej;simp only[Region.linearise.go];generalize hrs:(List.range ops.size).filter (λ i=> !bC.getD i true&&((ops[i]?).map (·.after.all λ e=> !Region.binds .any e||bC.getD e.on false)).getD false)=rs;cases hg:rs[t%rs.length]? with
   |none=>exact⟨[],by simp,hr,by simp⟩
   |some i=>
    exfalso;have hmi:i∈rs:=mem_of_getElem? hg;rw[←hrs,mem_filter]at hmi;obtain⟨hi,abN⟩:=hmi;simp only[and_eq_true,not_eq_true']at abN;have:=(h.mem i).2 ⟨List.mem_range.1 hi,abN.1⟩;cases this
  ·obtain⟨i,t',him,lF,hgo⟩:=asv (fuel:=fuel) (t:=t) (acc:=acc) hd h ej;obtain⟨pre,post,acN,pH,anF⟩:=ad1 hn him;have hpw:=hp;rw[acN]at hpw;have aaS:=List.pairwise_append.1 hpw;have hf1:=u6 (P:=P) hd h acN lF (λ p hp=>aaS.2.2 p hp i (by simp)) hr;cases hf1 with
   |cons hs zh=>
    have hlen:rem.length=(pre++post).length+1:=by rw[acN];simp;omega
    obtain⟨l,h1,h2,h3⟩:=ih t' (bC.setIfInBounds i true) (i::acc) (pre++post) _ _ (h.set him lF anF) (by omega) pH
     (List.pairwise_append.2 ⟨aaS.1,(List.pairwise_cons.1 aaS.2.1).2,λ x hx y hy=>aaS.2.2 x hx y (by simp[hy])⟩) zh
    refine⟨i::l,by rw[hgo,h1];simp,.cons hs h2,λ j hj=> ?_⟩;rcases List.mem_cons.1 hj with rfl|hj
    ·exact((h.mem j).1 him).1
    ·exact h3 j hj
theorem aCE(hd:alo ops)(g1 g2:Nat->aQ×lK){p0 i0:Nat}(hpi:p0≠i0){e1 e2:Env}{O1 O2:List aj}:∀(fuel t:Nat) (bC:Array Bool) (acc rem acr:List Nat) (e e':Env) (O O':List aj),aln ops bC rem->(∀j,j∈rem↔j∈acr)->rem.length<=fuel->acr.length<=fuel->rem.Nodup->acr.Nodup->
   rem.Pairwise (λ p i=>(p=p0/\i=i0)∨Swp ops g1 p i)->acr.Pairwise (λ p i=>(p=i0/\i=p0)∨Swp ops g2 p i)->p0∈rem->i0∈rem->
   pD P (rem.map g1) e O e1 O1->pD P (acr.map g2) e' O' e2 O2->
   ∃l,Region.linearise.go .any ops fuel t bC acc=acc.reverse++l/\(pD P (l.map g1) e O e1 O1∨pD P (l.map g2) e' O' e2 O2)/\∀i∈l,i<ops.size:=by
 intro fuel
 induction fuel with
 |zero=>
  intro t bC acc rem acr e e' O O' h hmm hf hf' hn pH hp hp' h0 h0' hr lV;obtain rfl:rem= []:=List.eq_nil_of_length_eq_zero (by omega);cases h0
 |succ fuel ih=>
  intro t bC acc rem acr e e' O O' h hmm hf hf' hn pH hp hp' h0 h0' hr lV;have ej:rem≠[]:=λ e=>by rw[e]at h0;cases h0
  obtain⟨i,t',him,lF,hgo⟩:=asv (fuel:=fuel) (t:=t) (acc:=acc) hd h ej;have hil:=((h.mem i).1 him).1;have h':aln ops bC acr:=⟨h.sz,λ j=>by rw[←hmm];exact h.mem j,h.cl⟩;obtain⟨pre,post,acN,hnd,gI⟩:=ad1 hn him;obtain⟨aGE,axI,aso,aNh,anF⟩:=ad1 pH ((hmm i).1 him);have hpw:=hp;rw[acN]at hpw;have ayU:=List.pairwise_append.1 hpw;have aaS:=hp';rw[aso]at aaS;have anC:=List.pairwise_append.1 aaS;have ayR:=List.pairwise_append.2 ⟨ayU.1,(List.pairwise_cons.1 ayU.2.1).2,λ x hx y hy=>ayU.2.2 x hx y (by simp[hy])⟩;have ayQ:=List.pairwise_append.2 ⟨anC.1,(List.pairwise_cons.1 anC.2.1).2,λ x hx y hy=>anC.2.2 x hx y (by simp[hy])⟩;have hlen:rem.length=(pre++post).length+1:=by rw[acN];simp;omega
  have aFG:acr.length=(aGE++axI).length+1:=by rw[aso];simp;omega
  have fin:∀l:List Nat,(∀j∈l,j<ops.size)->∀j∈i::l,j<ops.size:=λ l hl j hj=>by
   rcases List.mem_cons.1 hj with rfl|hj
   ·exact hil
   ·exact hl j hj
  by_cases hip:i=i0
  ·
   have hf2:=u6 (P:=P) hd h' aso lF (λ p hp=>by
    rcases anC.2.2 p hp i (by simp)with hh|hh
    ·exact absurd (hh.2.symm.trans hip) hpi
    ·exact hh) lV
   cases hf2 with
   |cons hs zh=>
    obtain⟨l,h1,h2,h3⟩:=asu (P:=P) hd g2 fuel t' (bC.setIfInBounds i true) (i::acc) (aGE++axI) _ _ (h'.set ((hmm i).1 him) lF anF) (by omega) aNh
     (ayQ.imp_of_mem λ {a b} ha hb hab=>by
      rcases hab with hab|hab
      ·exact absurd (hab.1.trans hip.symm) ((anF a).1 ha).2
      ·exact hab) zh
    exact⟨i::l,by rw[hgo,h1];simp,.inr (.cons hs h2),fin l h3⟩
  by_cases aHv:i=p0
  ·have hf1:=u6 (P:=P) hd h acN lF (λ p hp=>by
     rcases ayU.2.2 p hp i (by simp)with hh|hh
     ·exact absurd hh.2 hip
     ·exact hh) hr
   cases hf1 with
   |cons hs zh=>
    obtain⟨l,h1,h2,h3⟩:=asu (P:=P) hd g1 fuel t' (bC.setIfInBounds i true) (i::acc) (pre++post) _ _ (h.set him lF gI) (by omega) hnd
     (ayR.imp_of_mem λ {a b} ha hb hab=>by
      rcases hab with hab|hab
      ·exact absurd (hab.1.trans aHv.symm) ((gI a).1 ha).2
      ·exact hab) zh
    exact⟨i::l,by rw[hgo,h1];simp,.inl (.cons hs h2),fin l h3⟩
  ·have hf1:=u6 (P:=P) hd h acN lF (λ p hp=>by
     rcases ayU.2.2 p hp i (by simp)with hh|hh
     ·exact absurd hh.2 hip
     ·exact hh) hr
   have hf2:=u6 (P:=P) hd h' aso lF (λ p hp=>by
    rcases anC.2.2 p hp i (by simp)with hh|hh
    ·exact absurd hh.2 aHv
    ·exact hh) lV
   cases hf1 with
   |cons hs zh=>
    cases hf2 with
    |cons hs' aHe=>
     obtain⟨l,h1,h2,h3⟩:=ih t' (bC.setIfInBounds i true) (i::acc) (pre++post) (aGE++axI) _ _ _ _ (h.set him lF gI) (λ j=>by rw[gI,anF,hmm]) (by omega) (by omega) hnd aNh ayR ayQ
      ((gI p0).2 ⟨h0,λ e=>aHv e.symm⟩) ((gI i0).2 ⟨h0',λ e=>hip e.symm⟩) zh aHe
     refine⟨i::l,by rw[hgo,h1];simp,?_,fin l h3⟩;rcases h2 with h2|h2
     ·exact .inl (.cons hs h2)
     ·exact .inr (.cons hs' h2)
theorem aAS{al':List aQ}{oA:List lK}{ord:List Nat}(hn:ord.Nodup)(hl:oA.length=ord.length):(ord.map λ i=>al'.getD i ⟨none,none,.bD (.c .top)⟩).zip oA=ord.map (apo al' oA ord):=by
 apply ext_getElem
 ·simp[hl]
 ·intro k h1 h2;simp only[List.getElem_zip,List.getElem_map,apo];have hk:k<ord.length:=by simpa using h2
  have hix:ord.idxOf ord[k]=k:=hn.idxOf_getElem k hk;rw[hix];congr 1;simp[List.getD,show k<oA.length by omega]
theorem aha{mixed:Bool}(hd:Region.departs ops=false∨mixed=true){al:List (aQ×lK)}{al':List aQ}{oA:List lK}{ord:List Nat}{p0 i0:Nat}(hlen:al.length=ops.size)(vM:zv (rowsOf ops) al al' oA ord p0 i0=true){e e1 e2:Env}{O O1 O2:List aj}
  (hr:pD P al e O e1 O1) (lV:pD P (ord.map (apo al' oA ord)) e O e2 O2) (t:Nat):
  (pD P ((Region.schedule mixed ops t).map λ i=>al.getD i (⟨none,none,.bD (.c .top)⟩,⟨[],.any⟩)) e O e1 O1∨pD P ((Region.schedule mixed ops t).map (apo al' oA ord)) e O e2 O2)/\∀i∈Region.schedule mixed ops t,i<ops.size:=by
 have hs:Region.schedule mixed ops t=Region.linearise .any ops t:=by rcases hd with hd|hd<;>simp[Region.schedule,hd]
 rw[hs];unfold zv at vM;simp only[and_eq_true,decide_eq_true_eq,all_eq_true,mem_range,or_eq_true,hlen]at vM;obtain⟨⟨⟨⟨⟨⟨⟨⟨⟨hp0,hi0⟩,hpi⟩,aSu⟩,hnd⟩,aK⟩,hcn⟩,lF⟩,h1⟩,h2⟩:=vM
 have gI:∀j,j∈List.range ops.size↔j∈ord:=by
  intro j;rw[mem_range];refine⟨λ hj=> ?_,λ hj=>aK j hj⟩;simpa using hcn j hj
 have wi:(List.range ops.size).map (λ i=>al.getD i (⟨none,none,.bD (.c .top)⟩,⟨[],.any⟩))=al:=by
  apply ext_getElem
  ·simp[hlen]
  ·intro i h1 h2;simp[List.getD,h2]
 have nQ:aln ops (Array.replicate ops.size false) (List.range ops.size):=by
  refine⟨by simp,λ j=> ?_,λ j hj h=>by simp[Array.getD,hj]at h⟩;rw[mem_range];constructor
  ·intro h;exact⟨h,by simp[Array.getD,h]⟩
  ·exact λ h=>h.1
 obtain⟨l,g1,g2,g3⟩:=aCE (P:=P) (ops:=ops) (λ i hi d hdm=>lF i hi d hdm) (λ i=>al.getD i (⟨none,none,.bD (.c .top)⟩,⟨[],.any⟩)) (apo al' oA ord) hpi ops.size t (Array.replicate ops.size false) [] (List.range ops.size) ord e e O O nQ gI (by simp) (by omega) List.nodup_range hnd
  (by
   rw[List.pairwise_iff_getElem];intro a b ha hb hab;simp only[List.length_range]at ha hb;simp only[List.getElem_range];rcases h1 b hb a hab with(h|h)|h
   ·exact .inl h
   ·exact .inr (.inl (by simpa [hlen]using h))
   ·exact .inr (.inr h))
  (by
   rw[List.pairwise_iff_getElem];intro a b ha hb hab;have e1:ord.getD a 0=ord[a]:=by simp[List.getD,ha]
   have e2:ord.getD b 0=ord[b]:=by simp[List.getD,hb]
   have:=h2 b (by omega) a hab;rw[e1,e2]at this;rcases this with(h|h)|h
   ·exact .inl h
   ·exact .inr (.inl (by simpa [hlen]using h))
   ·exact .inr (.inr h))
  (List.mem_range.2 hp0) (List.mem_range.2 hi0) (by rw[wi];exact hr) lV
 simp only[Region.linearise];rw[g1];simpa using⟨g2,g3⟩
end
end Go.Ab
