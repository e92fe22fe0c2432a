/- Part of a proof: the functions that the law reaches, walked by the abstract logic of the texts Ab. -/
import Derived.Test.YtkinchcjijhmgaaGreatDoorAbM1
import Derived.Laws.BytesArg
open Nat(add_assoc le_refl zero_le lt_or_ge sub_self)
open Bool(and_eq_true or_eq_true)
open Option(bind_eq_bind bind_eq_some_iff getD_none getD_some map_eq_some_iff map_some)
open List(getElem?_of_mem mem_of_getElem? getElem?_set getElem?_append_left getElem?_map getElem?_append_right length_map all_eq_true map_congr_left getElem?_set_ne getElem?_set_self map_cons map_nil mem_append append_assoc)
set_option linter.unusedVariables false
set_option linter.unusedSimpArgs false
namespace Go.Ab
section
variable {P:Program} {I:da} {L:Nat->Loc} {O:List ae} {w:World} {K:AV->List ae->Prop} {e:Env} {a:Act}
variable {d:Option Tmp} {ty:TypeId} {pos:String} {af:Array Edge} {g:Option (Nat×Bool)} {ao:dZ}
theorem anP(hi:Inv I L O w)(he:∀t,R I L O (e t) (a.tmps.getD t undef)){op:BinOp}{t u:TypeId}{x y:Operand}(hc:bR P ty (.binOp op t x y u)=some ao)(hk:wpOp P ao e O K):
  fx P I L O w (execOp a.eval ⟨d,.binOp op t x y u,ty,pos,af,g⟩) K:=by
 simp only[bR]at hc
 split at hc
 ·rename_i hb;simp only[bind_eq_bind,bind_eq_some_iff,Option.some.injEq]at hc;obtain⟨ax,hx,ay,hy,rfl⟩:=hc;have rx:=an hx he;have ry:=an hy he;simp only[wpOp]at hk
  split at hk
  ·rename_i p q hp hq;rw[hp]at rx;rw[hq]at ry;have h1:=rx.bool;have h2:=ry.bool
   have key:(op= .eql∨op= .neq)/\P.underlying t=some .bool:=by
    unfold ac9 at hb
    split at hb
    ·rename_i h;exact⟨.inl rfl,h⟩
    ·rename_i h;exact⟨.inr rfl,h⟩
    ·cases hb
   obtain⟨hop,ht⟩:=key;refine fx.same hi hk (.v _ rfl) ?_;simp only[execOp,h1,h2]
   have he:(Op.equal t (.bool p) (.bool q)).run P w= .ok (p==q) w:=by
    have e1:Op.equal t (.bool p) (.bool q)=Op.equalIn (9999+1) t (.bool p) (.bool q):=rfl;rw[e1,Op.equalIn];simp[run_underlying ht]
   rcases hop with rfl|rfl
   ·simp[eqGuard,Go.binOp,he,iS]
   ·simp[eqGuard,Go.binOp,he,iS]
  ·exact hk.elim
 split at hc
 ·rename_i _ hp;simp only[agL,and_eq_true]at hp;obtain⟨hop,hbx⟩:=hp;obtain⟨el,inf,ht,kJ,lj⟩:=tu hbx;simp only[bind_eq_bind,bind_eq_some_iff,Option.some.injEq]at hc;obtain⟨ax,hx,ay,hy,rfl⟩:=hc;have rx:=an hx he;have ry:=an hy he;simp only[wpOp]at hk
  split at hk
  ·rename_i n m hn hm;rw[hn]at rx;rw[hm]at ry;obtain⟨k1,k2,hk⟩:=hk;have h1:=pa k1 rx;have h2:=pa k2 ry;have heq:=zB (P:=P) (w:=w) ht kJ lj (ac6 (P:=P) hi k1 k2);refine fx.same hi hk (.v _ rfl) ?_;have ho:op= .eql∨op= .neq:=by cases op<;>first|exact .inl rfl|exact .inr rfl|(simp[kZ]at hop;done)
   rcases ho with rfl|rfl
   ·simp[execOp,h1,h2,eqGuard,Go.binOp,heq,iS]
   ·simp[execOp,h1,h2,eqGuard,Go.binOp,heq,iS]
  ·exact hk.elim
 simp only[bind_eq_bind,bind_eq_some_iff,Option.some.injEq]at hc;obtain⟨ax,hx,ay,hy,rfl⟩:=hc;have rx:=an hx he;have ry:=an hy he;simp only[wpOp]at hk;generalize ax.ev e=A at rx hk;generalize ay.ev e=B at ry hk;cases A<;>cases B<;>simp only at hk
 rename_i p q;cases hz:j8 op p q with
 |none=>simp only[hz]at hk
 |some z=>
  simp only[hz]at hk;have h1:=rx.exact;have h2:=ry.exact;obtain⟨hr,ho⟩:=ajR (P:=P) hz t x y w;refine fx.same hi hk (.v z ho) ?_;simp only[execOp,h1,h2];rw[Sem.run_bind,hr]
  rfl
theorem aq0(hi:Inv I L O w)(he:∀t,R I L O (e t) (a.tmps.getD t undef)){op:UnOp}{t:TypeId}{x:Operand}(hc:bR P ty (.unOp op t x)=some ao)(hk:wpOp P ao e O K):
  fx P I L O w (execOp a.eval ⟨d,.unOp op t x,ty,pos,af,g⟩) K:=by
 simp only[bR,bind_eq_bind,bind_eq_some_iff,Option.some.injEq]at hc;obtain⟨ax,hx,rfl⟩:=hc;have rx:=an hx he;simp only[wpOp]at hk;generalize ax.ev e=A at rx hk;cases A<;>simp only at hk
 rename_i p;cases hz:sun op p with
 |none=>simp only[hz]at hk
 |some z=>
  simp only[hz]at hk;have h1:=rx.exact;obtain⟨hr,ho⟩:=ant (P:=P) hz w;refine fx.same hi hk (.v z ho) ?_;simp only[execOp,h1];rw[Sem.run_bind,hr]
  rfl
theorem acx(hi:Inv I L O w)(he:∀t,R I L O (e t) (a.tmps.getD t undef)){s t:TypeId}{x:Operand}(hc:bR P ty (.convert s t x)=some ao)(hk:wpOp P ao e O K):
  fx P I L O w (execOp a.eval ⟨d,.convert s t x,ty,pos,af,g⟩) K:=by
 simp only[bR]at hc
 split at hc
 ·rename_i k1 k2 hs ht;simp only[bind_eq_bind,bind_eq_some_iff,Option.some.injEq]at hc;obtain⟨ax,hx,rfl⟩:=hc;have rx:=an hx he;simp only[wpOp]at hk;generalize ax.ev e=A at rx hk;cases A
  case v p=>
   cases p
   case int k n=>
    have h1:=rx.exact;refine fx.same hi hk (.v _ rfl) ?_;simp only[execOp,h1];simp[convert,run_underlying hs,run_underlying ht,Conv.intToInt]
   all_goals exact hk.elim
  all_goals exact hk.elim
 ·rename_i el hs ht
  split at hc
  ·rename_i hu;simp only[bind_eq_bind,bind_eq_some_iff,Option.some.injEq]at hc;obtain⟨ax,hx,rfl⟩:=hc;exact anI hi hs ht hu he hx hk
  ·cases hc
 ·rename_i el0 el hs ht
  split at hc
  ·rename_i hu;simp only[bind_eq_bind,bind_eq_some_iff,Option.some.injEq]at hc;obtain⟨ax,hx,rfl⟩:=hc;obtain⟨hu,rfl⟩:=hu;exact ahF hi ht hu he hx hk
  ·cases hc
 ·cases hc
theorem ahI(hi:Inv I L O w)(he:∀t,R I L O (e t) (a.tmps.getD t undef)){t:TypeId}{x:Operand}{f:Nat}(hc:bR P ty (.fieldAddr t x f)=some ao)(hk:wpOp P ao e O K):
  fx P I L O w (execOp a.eval ⟨d,.fieldAddr t x f,ty,pos,af,g⟩) K:=by
 simp only[bR]at hc
 split at hc
 ·rename_i fs hs;simp only[bind_eq_bind,bind_eq_some_iff]at hc;obtain⟨fd,hf,i,hfi,hc⟩:=hc
  split at hc
  ·rename_i tN;simp only[bind_eq_some_iff,Option.some.injEq]at hc;obtain⟨ax,hx,rfl⟩:=hc;have rx:=an hx he;simp only[wpOp]at hk;generalize ax.ev e=A at rx hk;generalize hX:a.eval x=X at rx
   have bJ:∀b o,(Instr.fieldAt t (.pointer (some ⟨b,o,none⟩)) f).run P w= .ok (.pointer (some ⟨b,o+fd.offset,none⟩)) w:=by
    intro b o;simp[Instr.fieldAt,run_underlying hs,hf,Instr.sureAddr,fieldPlace,sizeOf,typeInfo,hfi,Nat.ne_of_gt tN,add_lit]
   cases A
   case bW y q=>
    cases rx with
    |bW _ _ bc base bB hv hr=>
     refine fx.same hi hk (.bW y (q+fd.offset) bc base bB hv hr) ?_;simp only[execOp,hX];simp[bJ,add_assoc]
   case ptr n len j q=>
    cases hO:O[n]? with
    |none=>simp only[hO]at hk
    |some ob=>
     cases ob with
     |dead=>simp only[hO]at hk
     |own a=>simp only[hO]at hk
     |cN g=>simp only[hO]at hk
     |nil t' s'=>simp only[hO]at hk
     |live t' s xs=>
      simp only[hO]at hk;have:=rx.gP hO hk.1;subst this;refine fx.same hi hk.2 (.di n len j (q+fd.offset) t' s xs hO hk.1) ?_;simp only[execOp,hX];simp[bJ,add_assoc]
   all_goals exact hk.elim
  ·cases hc
 ·cases hc
theorem anL(hi:Inv I L O w)(he:∀t,R I L O (e t) (a.tmps.getD t undef)){t:TypeId}{x:Operand}{f:Nat}(hc:bR P ty (.field t x f)=some ao)(hk:wpOp P ao e O K):
  fx P I L O w (execOp a.eval ⟨d,.field t x f,ty,pos,af,g⟩) K:=by
 simp only[bR]at hc
 split at hc
 ·rename_i fs hs;simp only[bind_eq_bind,bind_eq_some_iff,Option.some.injEq]at hc;obtain⟨fd,hf,n,hn,ax,hx,rfl⟩:=hc;have rx:=an hx he;obtain⟨h1,h2,h3⟩:=hk;generalize ax.ev e=A at rx h1 h2 h3;generalize hX:a.eval x=X at rx;rw[AV.uc h1]at rx;cases rx with
  |agg _ vs hl hr=>
   have lW:fd.offset+n.getD 1<=vs.size:=by omega
   refine fx.same hi h3 (y:=rN n λ j=>vs.getD (fd.offset+j) undef) (lF h2 λ j c hj au=>hr _ c _ hj (by simp[Array.getD,show fd.offset+j<vs.size by omega])) ?_;unfold tZ at hn;simp only[bind_eq_bind,bind_eq_some_iff]at hn;obtain⟨dd,hd,i,hii,hn⟩:=hn;simp only[execOp,hX];cases n with
   |none=>
    have hag:yE dd=false:=by
     by_cases h:yE dd=true
     ·rw[if_pos h]at hn;split at hn<;>simp at hn
     ·simpa using h
    have au:fd.offset<vs.size:=by simp only[getD_none]at lW;omega
    have h0:vs[fd.offset]? =some (vs.getD fd.offset undef):=by rw[Array.getElem?_eq_getElem au];simp[Array.getD,au]
    generalize vs.getD fd.offset undef=q at h0;simp[Instr.field,run_underlying hs,hf,asAgg,part,oZ hd,hag,h0,rN]
   |some m=>
    have hag:yE dd=true/\i.size=m:=by
     by_cases h:yE dd=true
     ·rw[if_pos h]at hn;split at hn<;>simp at hn;exact⟨h,hn⟩
     ·rw[if_neg h]at hn;simp at hn
    have hex:vs.extract fd.offset (fd.offset+m)=((List.range m).map λ j=>vs.getD (fd.offset+j) undef).toArray:=by
     apply Array.ext
     ·simp only[getD_some]at lW;simp;omega
     ·intro j hj1 hj2;simp only[getD_some]at lW;simp at hj1 hj2;simp[Array.getD,show fd.offset+j<vs.size by omega]
    simp[Instr.field,run_underlying hs,hf,asAgg,part,oZ hd,hag.1,sizeOf,typeInfo,hii,hag.2,hex,rN]
 ·cases hc
theorem aj6(hi:Inv I L O w)(he:∀t,R I L O (e t) (a.tmps.getD t undef)){x:Operand}(hc:bR P ty (.nilCheck x)=some ao)(hk:wpOp P ao e O K):
  fx P I L O w (execOp a.eval ⟨d,.nilCheck x,ty,pos,af,g⟩) K:=by
 simp only[bR,bind_eq_bind,bind_eq_some_iff,Option.some.injEq]at hc;obtain⟨ax,hx,rfl⟩:=hc;have rx:=an hx he;simp only[wpOp]at hk;generalize ax.ev e=A at rx hk;generalize hX:a.eval x=X at rx;cases A
 case bW y q=>
  cases rx with
  |bW _ _ bc base bB hv hr=>
   exact fx.same hi hk (.bW y q bc base bB hv hr) (by simp only[execOp,hX];simp)
 case fn f aX=>
  cases rx with
  |fn _ _ vs h1 h2=>
   exact fx.same hi hk (.fn f aX vs h1 h2) (by simp only[execOp,hX];simp)
 case ptr n len j q=>
  cases hO:O[n]? with
  |none=>simp only[hO]at hk
  |some ob=>
   cases ob with
   |dead=>simp only[hO]at hk
   |own a=>simp only[hO]at hk
   |cN g=>simp only[hO]at hk
   |nil t' s'=>simp only[hO]at hk
   |live t' s xs=>
    simp only[hO]at hk;have:=rx.gP hO hk.1;subst this;exact fx.same hi hk.2 rx (by simp only[execOp,hX];simp)
 all_goals exact hk.elim
theorem anM(hi:Inv I L O w)(he:∀t,R I L O (e t) (a.tmps.getD t undef)){x:Operand}{i:Nat}(hc:bR P ty (.extract x i)=some ao)(hk:wpOp P ao e O K):
  fx P I L O w (execOp a.eval ⟨d,.extract x i,ty,pos,af,g⟩) K:=by
 simp only[bR,bind_eq_bind,bind_eq_some_iff,Option.some.injEq]at hc;obtain⟨ax,hx,rfl⟩:=hc;have rx:=an hx he;simp only[wpOp]at hk;generalize ax.ev e=A at rx hk;generalize hX:a.eval x=X at rx;cases A<;>simp only at hk
 rename_i vs;obtain⟨au,hk⟩:=hk;cases rx with
 |aK _ us h1 h2=>
  have hu:us[i]? =some (us[i]'(by omega)):=by simp
  refine fx.same hi hk (h2 i _ _ (by simp[List.getD,au]) hu) ?_;generalize us[i]'(by omega)=q at hu;simp only[execOp,hX];simp[Instr.extract,hu]
theorem aj7(hi:Inv I L O w)(he:∀t,R I L O (e t) (a.tmps.getD t undef)){fn:Fn}{first aX:Array Operand}(hc:bR P ty (.makeFunc fn first aX)=some ao)(hk:wpOp P ao e O K):
  fx P I L O w (execOp a.eval ⟨d,.makeFunc fn first aX,ty,pos,af,g⟩) K:=by
 cases fn<;>simp only[bR]at hc
 case func f=>
  split at hc
  ·rename_i hfe;simp only[bind_eq_bind,bind_eq_some_iff,Option.some.injEq]at hc;obtain⟨as,has,rfl⟩:=hc;obtain rfl:first= #[]:=by simpa using hfe
   obtain⟨h1,h2⟩:=uZ has he;refine fx.same hi hk (y:= .func (.func f) #[] (aX.map a.eval)) (.fn f _ _ (by simpa using h1) λ i c x hc hx=>h2 i c x hc (by simpa using hx)) ?_;simp[execOp,Instr.makeFunc]
  ·cases hc
 all_goals cases hc
end
end Go.Ab
namespace Go.Ab
section
variable {P:Program} {I:da} {L:Nat->Loc} {O:List ae} {w:World} {K:AV->List ae->Prop} {e:Env} {a:Act}
variable {d:Option Tmp} {ty:TypeId} {pos:String} {af:Array Edge} {g:Option (Nat×Bool)} {ao:dZ}
theorem gq{t el:TypeId}(h:nn P t=some el):P.underlying t=some (.slice el):=by
 unfold nn at h
 split at h
 ·rename_i x hx;cases h;exact hx
 ·cases h
theorem ahJ(hi:Inv I L O w)(he:∀t,R I L O (e t) (a.tmps.getD t undef)){t:TypeId}{parts:Array (Nat×Operand)}(hc:bR P ty (.build t parts)=some ao)(hk:wpOp P ao e O K):
  fx P I L O w (execOp a.eval ⟨d,.build t parts,ty,pos,af,g⟩) K:=by
 simp only[bR]at hc
 split at hc
 ·rename_i fs hs;simp only[bind_eq_bind,bind_eq_some_iff,Option.some.injEq]at hc;obtain⟨⟨s,b,z⟩,hz,places,hpl,ps,hps,rfl⟩:=hc;obtain⟨i,z0,h1,h2,h3,rfl,rfl,h4,h5,h6,h7⟩:=eV hz;have rz:=(eK (I:=I) (L:=L) (O:=O) h3).cells (kP h7);have hz0:RCs I L O z.cells z0.cells:=⟨rz.1,λ j c y hj hy=>by obtain⟨y',pN,hr⟩:=rz.2 j c hj;rw[hy]at pN;cases pN;exact hr⟩;obtain⟨zs,l5,m1,m2,m3⟩:=sA he parts.toList ps z.cells z0.cells hz0 hps hk
  have avt:=m3 (λ i=>places.toArray[i]?) (λ j f n hj hn=>by
   obtain⟨q1,q2⟩:=mapM_some hpl;have au:j<places.length:=by rw[q1];simpa using(Array.getElem?_eq_some_iff.1 hj).1
   have:=q2 j f places[j] (by simpa using hj) (by simp);rw[hn]at this;simp at this;simp[au,this])
  have hb:P.built t (parts.map λ (i,x)=>(i,a.eval x)).toList=some l5:=by
   simp only[Program.built,h1,hs,h2,hpl];simpa using avt
  refine fx.same hi m1 (y:= .agg l5) (.agg _ _ m2.1 m2.2) ?_;simp only[execOp];rw[Sem.run_bind,run_build w t _ l5 hb]
  rfl
 ·rename_i m el hs
  split at hc
  ·rename_i ayd;simp only[bind_eq_bind,bind_eq_some_iff,Option.some.injEq]at hc;obtain⟨⟨s,b,z⟩,hz,ie,hie,rfl⟩:=hc;obtain⟨i,z0,h1,h2,h3,rfl,rfl,h4,h5,h6,h7⟩:=eV hz;have rz:=(eK (I:=I) (L:=L) (O:=O) h3).cells (kP h7);have hp:parts= #[]:=by simpa using ayd
   subst hp
   have hb:P.built t (Array.map (λ (i,x)=>(i,a.eval x)) #[]).toList=some z0.cells:=by
    simp only[Program.built,h1,hs,h2,hie];simp[Instr.fill]
   simp only[wpOp,iO]at hk;refine fx.same hi hk (y:= .agg z0.cells) (.agg _ _ rz.1 λ j c y hj hy=>by obtain⟨y',pN,hr⟩:=rz.2 j c hj;rw[hy]at pN;cases pN;exact hr) ?_;simp only[execOp];rw[Sem.run_bind,run_build w t _ z0.cells hb]
   rfl
  ·cases hc
 ·cases hc
theorem wY(hi:Inv I L O w)(he:∀t,R I L O (e t) (a.tmps.getD t undef)){t:TypeId}{len:Nat}{parts:Array (Nat×Operand)}(hc:bR P ty (.buildSlice t len parts)=some ao)(hk:wpOp P ao e O K):
  fx P I L O w (execOp a.eval ⟨d,.buildSlice t len parts,ty,pos,af,g⟩) K:=by
 simp only[bR,bind_eq_bind,bind_eq_some_iff]at hc;obtain⟨el,kJ,⟨s,b,z⟩,hz,ps,hps,hc⟩:=hc
 split at hc
 ·rename_i aoV;simp only[Option.some.injEq]at hc;subst hc;have ht:=gq kJ;obtain⟨i,z0,h1,h2,h3,rfl,rfl,h4,h5,h6,h7⟩:=eV hz;have xX:=fe.made (I:=I) (L:=L) (O:=O) (cap:=len) (n:=len) (eK h3) h7 h4 h5 (le_refl _);obtain⟨hZ,c',m1,m2,m3,m4,m5⟩:=qn he parts.toList ps _ _ xX (by simp) hps hk
  have avE:len<=maxLen:=by
   have h8:len*1<=len*i.size:=Nat.mul_le_mul_left _ h5;simp only at aoV;simp only[maxLen];omega
  have dP:=hi.new (e:=el) (s:=i.size) (xs:=hZ) c' len (by rw[m4];simp) (by simpa using(Nat.le_of_eq m3)) avE h5 m2;have hr:=R.bV (I:=I) (L:=λ k=>if k=O.length then Loc.at w.heap.size (len)else L k) (O:=O++ [.live el i.size hZ]) O.length len el i.size hZ (by simp) (by simpa using m3);refine⟨_,_,.slice (some ⟨w.heap.size,0,none⟩) len len,_,_,_,m1,dP,by simpa using hr,.inl ?_⟩;have hns:¬(len*i.size>2^24):=by simpa using aoV
  simp only[execOp];by_cases h0:len*i.size=0
  ·have hl0:len=0:=by rcases Nat.mul_eq_zero.1 h0 with h|h<;>omega
   subst hl0;simp[Array.range_zero']at m5;simp[Instr.buildSlice,run_underlying ht,sizeOf,typeInfo,h1,m5,newRow,Array.range_zero']
  ·simp[Instr.buildSlice,run_underlying ht,sizeOf,typeInfo,h1,hns,h0,zeroValue,h2,m5,newRow]
 ·cases hc
theorem Inv.auw(h:Inv I L O w){el s:Nat}{xs:List AV}(c:Array Value)(cap:Nat)(hx:xs.length<=cap)(hn:∀(i:Nat) x,xs[i]? =some x->∀(j:Nat) a,x.cells[j]? =some a->∀{I':da} {L':Nat->Loc} {O':List ae} {v:Value},(∀b o x,I b o=some x->I' b o=some x)->R I L O a v->R I' L' O' a v)
  (hr:∀(i:Nat) x,xs[i]? =some x->x.cells.length=s/\∀(j:Nat) a,x.cells[j]? =some a->∃y,c[i*s+j]? =some y/\y.oneCell'=true/\R I L O a y):
  ∃I',Good I L O w I' L O (w.alloc (.cells c el))/\R I' L O (.sl xs) (.slice (some ⟨w.heap.size,0,none⟩) xs.length cap):=by
 have fw:(w.alloc (.cells c el)).heap[w.heap.size]? =some (.cells c el (0,0)):=heap_alloc_new w _;have hold:∀b,b<w.heap.size->(w.alloc (.cells c el)).heap[b]? =w.heap[b]? :=λ b hb=>heap_alloc_old w _ b hb
 have au:∀{b o x},I b o=some x->b<w.heap.size:=λ hx=>gm (h.iy _ _ _ hx)
 have dp:∀b o x,I b o=some x->(λ b o=>if b=w.heap.size then(w.alloc (.cells c el)).cell? ⟨b,o,none⟩else I b o) b o=some x:=by
  intro b o x hx;have:=au hx
  show(if b=w.heap.size then _ else I b o)=_;rw[if_neg (by omega)];exact hx
 have nE:∀{b o},b<w.heap.size->(w.alloc (.cells c el)).cell? ⟨b,o,none⟩=w.cell? ⟨b,o,none⟩:=by
  intro b o hb;simp only[World.cell?];rw[hold b hb]
 have hE:Ext I L O (λ b o=>if b=w.heap.size then(w.alloc (.cells c el)).cell? ⟨b,o,none⟩else I b o) L O:=
  ⟨dp,le_refl _,λ n hn e k ys hy=> .inl ⟨ys,hy,le_refl _,λ _=>rfl⟩,λ _ _ _ _ h=>h,λ _ _ a h=>⟨⟨a,h⟩,rfl⟩,λ _ _ a h=>⟨⟨a,h,rfl⟩,rfl⟩⟩
 have k8:∀{n e k ys},O[n]? =some (.live e k ys)->(L n).bc<w.heap.size:=by
  intro n e k ys hn;obtain⟨c',⟨_,h1,_⟩,_⟩:=h.obj n e k ys hn;exact(Array.getElem?_eq_some_iff.1 h1).1
 refine⟨λ b o=>if b=w.heap.size then(w.alloc (.cells c el)).cell? ⟨b,o,none⟩else I b o,⟨⟨λ b o x hx=> ?_,λ n e k ys hn=> ?_,h.sep,λ n e k ys o hn=> ?_,λ p hp=>dp _ _ _ (h.fix p hp),h.lM (λ b hb _=>hold b hb) dp,h.ow.step (λ _ _ h=>⟨h,rfl⟩) (λ b o v hv=> ?_) (λ m e s xs hm=> .inl ⟨m,e,s,xs,hm,rfl⟩) (λ b hb _=>hold b hb),h.gh.step (λ _ _ h=>⟨h,rfl⟩) (λ _ _ hr=>hr.mono hE) λ b hb=>hold b hb.1⟩,hE,⟨rfl,rfl,rfl,by simp,λ b hb _=>hold b hb⟩,λ _ hb=> .inl hb,λ b o x hx=> ?_⟩,?_⟩
 ·by_cases hb:b=w.heap.size
  ·rw[if_pos hb]at hx;exact hx
  ·rw[if_neg hb]at hx;rw[nE (au hx)];exact h.iy b o x hx
 ·exact(h.obj n e k ys hn).congr (hold _ (k8 hn)) λ _ _ hr=>hr.mono hE
 ·have:=k8 hn
  show(if(L n).bc=w.heap.size then _ else I (L n).bc o)=_;rw[if_neg (by omega)];exact h.dT n e k ys o hn
 ·by_cases hb:b=w.heap.size
  ·exact .inr (.inr (by omega))
  ·rw[if_neg hb]at hv;exact .inl ⟨o,v,hv⟩
 ·by_cases hb:b=w.heap.size
  ·exact .inr (.inr (by omega))
  ·rw[if_neg hb]at hx;exact .inl hx
 ·by_cases pO:xs= []
  ·subst pO;exact .me _ _
  ·refine(.sl xs w.heap.size 0 cap s (λ i j=>(c[i*s+j]?).getD undef) hx pO (λ i x hx=>(hr i x hx).1) (λ i x j d hx hj=> ?_) λ i x j d hx hj=> ?_)
   ·obtain⟨y,hy,ho,_⟩:=(hr i x hx).2 j d hj
    show(if w.heap.size=w.heap.size then _ else _)=_/\_;rw[if_pos rfl,Nat.zero_add,dV fw,hy];exact⟨rfl,ho⟩
   ·obtain⟨y,hy,ho,lI⟩:=(hr i x hx).2 j d hj;rw[hy];exact hn i x hx j d hj dp lI
end
end Go.Ab
namespace Go.Ab
section
variable {P:Program} {I:da} {L:Nat->Loc} {O:List ae} {w:World} {K:AV->List ae->Prop} {e:Env} {a:Act}
variable {d:Option Tmp} {ty:TypeId} {pos:String} {af:Array Edge} {g:Option (Nat×Bool)} {ao:dZ}
theorem ahH(hi:Inv I L O w)(he:∀t,R I L O (e t) (a.tmps.getD t undef)){t:TypeId}{x y:Operand}(hc:bR P ty (.indexAddr t x y)=some ao)(hk:wpOp P ao e O K):
  fx P I L O w (execOp a.eval ⟨d,.indexAddr t x y,ty,pos,af,g⟩) K:=by
 simp only[bR]at hc
 split at hc
 ·rename_i m el ht;simp only[bind_eq_bind,bind_eq_some_iff,Option.some.injEq]at hc;obtain⟨inf,sj,ax,hx,ay,hy,rfl⟩:=hc;have rx:=an hx he;have ry:=an hy he;simp only[wpOp]at hk;generalize ax.ev e=A at rx hk;generalize ay.ev e=B at ry hk;generalize hX:a.eval x=X at rx;generalize hY:a.eval y=Y at ry
  have bJ:∀(kk:IntKind) (b o:Nat) (j:Int),0<=j->j<m->(Instr.indexAt t (.pointer (some ⟨b,o,none⟩)) (.int kk j)).run P w= .ok (.pointer (some ⟨b,o+j.toNat*inf.size,none⟩)) w:=by
   intro kk b o j h0 h1;simp[Instr.indexAt,Instr.sureAddr,asIntOf,run_underlying ht,sizeOf,typeInfo,sj,h0,h1,add_lit]
  cases A
  case bW z q=>
   cases B
   case v p=>
    cases p
    case int kk j=>
     obtain⟨h0,h1,hk⟩:=hk;have:=ry.exact;subst this;cases rx with
     |bW _ _ bc base bB hv hr=>
      refine fx.same hi hk (.bW z (q+j.toNat*inf.size) bc base bB hv hr) ?_;simp only[execOp,hX,hY];simp[bJ _ _ _ _ h0 h1,add_assoc]
    all_goals exact hk.elim
   all_goals exact hk.elim
  case ptr n len i q=>
   cases B
   case v p=>
    cases p
    case int kk j=>
     have:=ry.exact;subst this;cases hO:O[n]? with
     |none=>simp only[hO]at hk
     |some ob=>
      cases ob with
      |dead=>simp only[hO]at hk
      |own a=>simp only[hO]at hk
      |cN g=>simp only[hO]at hk
      |nil t' s'=>simp only[hO]at hk
      |live t' s xs=>
       simp only[hO]at hk;obtain⟨hl,h0,h1,hk⟩:=hk;have:=rx.gP hO hl;subst this;refine fx.same hi hk (.di n len i (q+j.toNat*inf.size) t' s xs hO hl) ?_;simp only[execOp,hX,hY];simp[bJ _ _ _ _ h0 h1,add_assoc]
    all_goals exact hk.elim
   all_goals exact hk.elim
  all_goals exact hk.elim
 simp only[bind_eq_bind,bind_eq_some_iff,Option.some.injEq]at hc;obtain⟨el,kJ,inf,sj,ax,hx,ay,hy,rfl⟩:=hc;have ht:=gq kJ;have rx:=an hx he;have ry:=an hy he;simp only[wpOp]at hk;generalize ax.ev e=A at rx hk;generalize ay.ev e=B at ry hk;generalize hX:a.eval x=X at rx;generalize hY:a.eval y=Y at ry
 have bJ:∀(kk:IntKind) (b o n c:Nat) (j:Int),0<=j->j<n->(Instr.indexAt t (.slice (some ⟨b,o,none⟩) n c) (.int kk j)).run P w= .ok (.pointer (some ⟨b,o+j.toNat*inf.size,none⟩)) w:=by
  intro kk b o n c j h0 h1;simp[Instr.indexAt,asIntOf,run_underlying ht,sizeOf,typeInfo,sj,h0,h1,add_lit]
 cases A
 case sl xs=>
  cases B
  case v p=>
   cases p
   case int kk j=>
    obtain⟨h0,h1,h2,hk⟩:=hk;have:=ry.exact;subst this;have au:j.toNat<xs.length:=by omega
    have yH:xs[j.toNat]? =some (xs.getD j.toNat .top):=by simp[List.getD,au]
    cases rx with
    |me=>simp at h1;omega
    |sl _ bc off cap s bB q1 q2 q3 q4 q5=>
     have hs:s=inf.size:=by rw[←q3 _ _ yH,h2]
     subst hs;refine fx.same hi hk (y:= .pointer (some ⟨bc,off+j.toNat*inf.size+0,none⟩)) (.bW _ 0 bc (off+j.toNat*inf.size) (bB j.toNat) (λ k c hc=>q4 _ _ k c yH hc) (λ k c hc=>q5 _ _ k c yH hc)) ?_;simp only[execOp,hX,hY];simp[bJ _ _ _ _ _ _ h0 h1]
   all_goals exact hk.elim
  all_goals exact hk.elim
 case row n len=>
  cases B
  case v p=>
   cases p
   case int kk j=>
    have:=ry.exact;subst this;cases hO:O[n]? with
    |none=>simp only[hO]at hk
    |some ob=>
     cases ob with
     |dead=>simp only[hO]at hk
     |own a=>simp only[hO]at hk
     |cN g=>simp only[hO]at hk
     |nil t' s'=>simp only[hO]at hk
     |live t' s xs=>
      simp only[hO]at hk;obtain⟨rfl,hl,h0,h1,hk⟩:=hk;have:=rx.e9 hO hl;subst this;refine fx.same hi hk (.di n len j.toNat 0 t' inf.size xs hO hl) ?_;simp only[execOp,hX,hY];simp[bJ _ _ _ _ _ _ h0 h1]
   all_goals exact hk.elim
  all_goals exact hk.elim
 all_goals exact hk.elim
theorem ahG(hi:Inv I L O w)(he:∀t,R I L O (e t) (a.tmps.getD t undef)){t:TypeId}{x y:Operand}(hc:bR P ty (.index t x y)=some ao)(hk:wpOp P ao e O K):
  fx P I L O w (execOp a.eval ⟨d,.index t x y,ty,pos,af,g⟩) K:=by
 simp only[bR]at hc
 split at hc
 ·rename_i ht;simp only[bind_eq_bind,bind_eq_some_iff,Option.some.injEq]at hc;obtain⟨ax,hx,ay,hy,rfl⟩:=hc;have rx:=an hx he;have ry:=an hy he;simp only[wpOp]at hk;generalize ax.ev e=A at rx hk;generalize ay.ev e=B at ry hk;generalize hX:a.eval x=X at rx;generalize hY:a.eval y=Y at ry;cases A
  case v p=>
   cases p
   case string s=>
    cases B
    case v q=>
     cases q
     case int kk j=>
      obtain⟨h0,h1,hk⟩:=hk;have e1:=rx.exact;have e2:=ry.exact;subst e1;subst e2;have au:j.toNat<s.size:=by omega
      have hb:s[j.toNat]? =some (s.data.toList.getD j.toNat 0):=by
       rw[getElem?_pos s j.toNat au];have hl2:j.toNat<s.data.toList.length:=by simpa using au
       simp only[List.getD,List.getElem?_eq_getElem hl2,getD_some,Option.some.injEq]
       rfl
      refine fx.same hi hk (.v _ rfl) ?_;simp only[execOp,hX,hY];generalize s.data.toList.getD j.toNat 0=q at hb;simp[Instr.index,asIntOf,run_underlying ht,h0,hb]
     all_goals exact hk.elim
    all_goals exact hk.elim
   all_goals exact hk.elim
  all_goals exact hk.elim
 ·cases hc
theorem aka(hi:Inv I L O w)(he:∀t,R I L O (e t) (a.tmps.getD t undef)){t:TypeId}{x:Operand}(ht:P.underlying t=some .string){ax:aE}(hx:bC x=some ax)(hk:wpOp P (.dI ax) e O K):
  ∃x' y,K x' O/\R I L O x' y/\(Builtin.len_ #[t] ty #[a.eval x]).run P w= .ok y w:=by
 have rx:=an hx he;simp only[wpOp]at hk;generalize ax.ev e=A at rx hk;generalize a.eval x=X at rx;cases A
 case v p=>
  cases p
  case string s=>
   have e1:=rx.exact;subst e1;exact⟨_,.int .i64 s.size,hk,.v _ rfl,by simp[Builtin.len_,run_underlying ht,goInt]⟩
  all_goals exact hk.elim
 all_goals exact hk.elim
theorem akb(hi:Inv I L O w)(he:∀t,R I L O (e t) (a.tmps.getD t undef)){t el:TypeId}{x:Operand}(ht:P.underlying t=some (.slice el)){ax:aE}(hx:bC x=some ax)(hk:wpOp P (.cz ax) e O K):
  ∃x' y,K x' O/\R I L O x' y/\(Builtin.len_ #[t] ty #[a.eval x]).run P w= .ok y w:=by
 have rx:=an hx he;simp only[wpOp]at hk;generalize ax.ev e=A at rx hk;generalize a.eval x=X at rx
 have hs:∀b n c,(Builtin.len_ #[t] ty #[.slice b n c]).run P w= .ok (.int .i64 n) w:=by
  intro b n c;simp[Builtin.len_,run_underlying ht,goInt]
 cases A
 case aQ=>cases rx;exact⟨_,.int .i64 0,hk,.v _ rfl,hs none 0 0⟩
 case sl xs=>
  cases rx with
  |me b c=>exact⟨_,.int .i64 0,hk,.v _ rfl,hs b 0 c⟩
  |sl _ bc off cap s bB=>exact⟨_,.int .i64 xs.length,hk,.v _ rfl,hs _ _ _⟩
 case row n len=>
  cases hO:O[n]? with
  |none=>simp only[hO]at hk
  |some ob=>
   cases ob with
   |dead=>simp only[hO]at hk
   |own a=>simp only[hO]at hk
   |cN g=>simp only[hO]at hk
   |nil t' s'=>
    simp only[hO]at hk;obtain⟨rfl,hk⟩:=hk;obtain⟨rfl,_⟩:=rx.lz hO;exact⟨_,.int .i64 0,hk,.v _ rfl,hs _ _ _⟩
   |live t' s xs=>
    simp only[hO]at hk;have:=rx.e9 hO hk.1;subst this;exact⟨_,.int .i64 len,hk.2,.v _ rfl,hs _ _ _⟩
 all_goals exact hk.elim
theorem yT(hi:Inv I L O w)(he:∀t,R I L O (e t) (a.tmps.getD t undef)){t:TypeId}{x y:Operand}(hc:bR P ty (.makeSlice t x y)=some ao)(hk:wpOp P ao e O K):
  fx P I L O w (execOp a.eval ⟨d,.makeSlice t x y,ty,pos,af,g⟩) K:=by
 simp only[bR,bind_eq_bind,bind_eq_some_iff,Option.some.injEq]at hc;obtain⟨el,kJ,⟨s,b,z⟩,hz,ax,hx,ay,hy,rfl⟩:=hc;have ht:=gq kJ;obtain⟨i,z0,h1,h2,h3,rfl,rfl,h4,h5,h6,h7⟩:=eV hz;have rx:=an hx he;have ry:=an hy he;simp only[wpOp]at hk;generalize ax.ev e=A at rx hk;generalize ay.ev e=B at ry hk;generalize hX:a.eval x=X at rx;generalize hY:a.eval y=Y at ry
 split at hk
 ·rename_i n c;obtain⟨q1,q2,q3,q4,hk⟩:=hk;have e1:=rx.exact;have e2:=ry.exact;subst e1;subst e2;have hm:c<=9223372036854775807:=by simpa [maxLen]using q4
  have bJ:=run_make (P:=P) w t el i z0 ht h1 h2 .i64 .i64 n c q1 q2 (by omega) hm;have xX:=fe.made (I:=I) (L:=L) (O:=O) (cap:=c.toNat) (n:=n.toNat) (eK h3) h7 h4 h5 (by omega);have dP:=hi.new (e:=el) (s:=i.size) (xs:=List.replicate n.toNat z) (madeCells z0.cells (c.toNat*i.size)) c.toNat (size_madeCells _ _) (by simp;omega) (by simp only[maxLen]at q4⊢;omega) h5 xX;have hr:=R.bV (I:=I) (L:=λ k=>if k=O.length then Loc.at w.heap.size (c.toNat)else L k) (O:=O++ [.live el i.size (List.replicate n.toNat z)]) O.length n.toNat el i.size (List.replicate n.toNat z) (by simp) (by simp);refine⟨_,_,_,_,_,_,hk,dP,hr,.inl ?_⟩;simp only[execOp,hX,hY];rw[Sem.run_bind,bJ];simp
 ·exact hk.elim
theorem iU{x:Option Operand}{ax:Option aE}(hx:x.mapM bC=some ax)(he:∀t,R I L O (e t) (a.tmps.getD t undef)){asv:Int}{M:Int->Prop}(h:fq asv e ax M):
  ∃i:Int,M i/\((x=none/\i=asv)∨∃o k,x=some o/\a.eval o= .int k i):=by
 cases x with
 |none=>simp at hx;subst hx;exact⟨asv,h,.inl ⟨rfl,rfl⟩⟩
 |some o=>
  simp only[Option.mapM_some,Option.map_eq_map,map_eq_some_iff]at hx;obtain⟨ao,hao,rfl⟩:=hx;have r:=an hao he;simp only[fq]at h;generalize ao.ev e=A at r h;cases A
  case v p=>
   cases p
   case int k i=>exact⟨i,h,.inr ⟨o,k,rfl,r.exact⟩⟩
   all_goals exact h.elim
  all_goals exact h.elim
theorem run_sliceBound{k:IntKind}{i:Int}{y:Nat}{code:BoundsCode}(h0:0<=i)(h1:i<=y)(w:World):(Instr.sliceBound (.int k i) y code).run P w= .ok i.toNat w:=by
 simp[Instr.sliceBound,asIntOf,h0,h1]
theorem gy{sl:Bool}{len cap:Nat}{lo hi:Option Operand}{l h:Int}(hlc:len<=cap)
  (hlo:(lo=none/\l=0)∨∃o k,lo=some o/\a.eval o= .int k l) (hhi:(hi=none/\h=len)∨∃o k,hi=some o/\a.eval o= .int k h)
  (h0:0<=l) (h1:l<=h) (h2:h<=len) (w:World):
  (Instr.sliceBounds sl len cap (lo.map a.eval) (hi.map a.eval) none).run P w= .ok (l.toNat,h.toNat,cap) w:=by
 rcases hhi with⟨rfl,rfl⟩|⟨o,k,rfl,ho⟩<;>rcases hlo with⟨rfl,rfl⟩|⟨o',k',rfl,ho'⟩
 ·simp[Instr.sliceBounds]
 ·simp[Instr.sliceBounds,ho',run_sliceBound (P:=P) (k:=k') (i:=l) (y:=len) h0 (by omega) w]
 ·simp[Instr.sliceBounds,ho,run_sliceBound (P:=P) (k:=k) (i:=h) (y:=cap) (by omega) (by omega) w]
 ·simp[Instr.sliceBounds,ho,ho',run_sliceBound (P:=P) (k:=k) (i:=h) (y:=cap) (by omega) (by omega) w,run_sliceBound (P:=P) (k:=k') (i:=l) (y:=h.toNat) h0 (by omega) w]
theorem ahD(hi:Inv I L O w)(he:∀t,R I L O (e t) (a.tmps.getD t undef)){t:TypeId}{x:Operand}{lo ej mx:Option Operand}(hc:bR P ty (.slice t x lo ej mx)=some ao)(hk:wpOp P ao e O K):
  fx P I L O w (execOp a.eval ⟨d,.slice t x lo ej mx,ty,pos,af,g⟩) K:=by
 simp only[bR]at hc
 split at hc
 ·cases hc
 ·rename_i jj;obtain rfl:mx=none:=by cases mx<;>simp at jj⊢
  split at hc
  ·rename_i ht;simp only[bind_eq_bind,bind_eq_some_iff,Option.some.injEq]at hc;obtain⟨ax,hx,al,hl,ah,hh,rfl⟩:=hc;have rx:=an hx he;simp only[wpOp]at hk;generalize ax.ev e=A at rx hk;generalize hX:a.eval x=X at rx;cases A
   case v p=>
    cases p
    case string s=>
     have e1:=rx.exact;subst e1;obtain⟨l,hk,hlo⟩:=iU hl he hk;obtain⟨h,hk,hhi⟩:=iU hh he hk;obtain⟨q1,q2,q3,hk⟩:=hk;have hb:=gy (P:=P) (sl:=false) (cap:=s.size) (le_refl _) hlo hhi q1 q2 q3 w;refine fx.same hi hk (.v _ rfl) ?_;simp only[execOp,hX];simp[Instr.sliceAt,Instr.slice,run_underlying ht,hb]
    all_goals exact hk.elim
   all_goals exact hk.elim
  ·rename_i el ht;simp only[bind_eq_bind,bind_eq_some_iff,Option.some.injEq]at hc;obtain⟨inf,sj,ax,hx,al,hl,ah,hh,rfl⟩:=hc;have rx:=an hx he;simp only[wpOp]at hk;generalize ax.ev e=A at rx hk;generalize hX:a.eval x=X at rx;cases A
   case sl xs=>
    obtain⟨l,hk,hlo⟩:=iU hl he hk;obtain⟨h,hk,hhi⟩:=iU hh he hk;obtain⟨q1,q2,q3,q4,hk⟩:=hk;cases rx with
    |me b cap=>
     simp at q3 hhi;obtain rfl:l=0:=by omega
     obtain rfl:h=0:=by omega
     have hb:=gy (P:=P) (sl:=true) (len:=0) (cap:=cap) (zero_le _) hlo (by simpa using hhi) q1 q2 (by simp) w;refine fx.same hi hk (y:= .slice (if cap=0 then b else b.map (·.add (0*inf.size))) 0 (cap- 0)) (.me _ _) ?_;simp only[execOp,hX];simp at hb;simp[Instr.sliceAt,Instr.slice,run_underlying ht,hb,sizeOf,typeInfo,sj]
    |sl _ bc off cap s bB r1 r2 r3 r4 r5=>
     have hb:=gy (P:=P) (sl:=true) (len:=xs.length) (cap:=cap) r1 hlo hhi q1 q2 q3 w
     have hs:s=inf.size:=by
      obtain⟨y,hy⟩:=List.exists_mem_of_ne_nil _ r2;obtain⟨j,hj⟩:=getElem?_of_mem hy;rw[←r3 j y hj,q4 y hy]
     subst hs;by_cases hlen:l=h
     ·subst hlen;have vG:(xs.take l.toNat).drop l.toNat= []:=by simp
      rw[vG]at hk;refine fx.same hi hk (y:= .slice (if cap=l.toNat then some ⟨bc,off,none⟩else some ⟨bc,off+l.toNat*inf.size,none⟩) 0 (cap- l.toNat)) (.me _ _) ?_;simp only[execOp,hX];simp[Instr.sliceAt,Instr.slice,run_underlying ht,hb,sizeOf,typeInfo,sj,add_lit]
     ·have hlh:l.toNat<h.toNat:=by omega
      have lX:¬(cap=l.toNat):=by omega
      have agR:((xs.take h.toNat).drop l.toNat).length=h.toNat- l.toNat:=by simp;omega
      have alk:∀(i:Nat) y,((xs.take h.toNat).drop l.toNat)[i]? =some y->xs[l.toNat+i]? =some y:=by
       intro i y hy;rw[List.getElem?_drop,List.getElem?_take]at hy
       split at hy
       ·exact hy
       ·cases hy
      have cr:(xs.take h.toNat).drop l.toNat≠[]:=by
       intro h0;have:=congrArg List.length h0;rw[agR]at this;simp at this;omega
      have hr:=R.sl (I:=I) (L:=L) (O:=O) ((xs.take h.toNat).drop l.toNat) bc (off+l.toNat*inf.size) (cap- l.toNat) inf.size (λ i=>bB (l.toNat+i)) (by omega) cr
       (λ i y hy=>r3 _ y (alk i y hy))
       (λ i y j c hy hj=>by have:=r4 _ y j c (alk i y hy) hj;rwa [Nat.add_mul,←add_assoc]at this)
       (λ i y j c hy hj=>r5 _ y j c (alk i y hy) hj)
      rw[agR]at hr;refine fx.same hi hk hr ?_;simp only[execOp,hX];simp[Instr.sliceAt,Instr.slice,run_underlying ht,hb,sizeOf,typeInfo,sj,add_lit,lX]
   all_goals exact hk.elim
  ·cases hc
end
end Go.Ab
namespace Go.Ab
theorem a8{xs:List AV}(h:AV.ad xs=true):∀x∈xs,x.ag=true:=by
 induction xs with
 |nil=>simp
 |cons y ys ih=>
  simp only[AV.ad,and_eq_true]at h;intro x hx;rcases List.mem_cons.1 hx with rfl|hx
  ·exact h.1
  ·exact ih h.2 x hx
theorem fb{x:AV}(h:x.ag=true):∀c∈x.cells,c.ag=true:=by
 cases x<;>simp only[AV.cells]<;>try (intro c hc;simp at hc;subst hc;exact h)
 simp only[AV.ag]at h;exact a8 h
theorem R.ag{I I':da}{L L':Nat->Loc}{O O':List ae}(hI:∀b o x,I b o=some x->I' b o=some x){a:AV}{x:Value}(hr:R I L O a x)(h:a.ag=true):R I' L' O' a x:=by
 induction hr with
 |top x=>exact .top x
 |v x hx=>exact .v x hx
 |aQ=>exact .aQ
 |oF t x=>exact .oF t x
 |me a cap=>exact .me a cap
 |sl xs bc off cap s bB h1 h2 h3 h4 _ ih=>
  refine .sl xs bc off cap s bB h1 h2 h3 (λ i x j c hi hj=>⟨hI _ _ _ (h4 i x j c hi hj).1,(h4 i x j c hi hj).2⟩) λ i x j c hi hj=>ih i x j c hi hj ?_
  exact fb (a8 (by simpa [AV.ag]using h) x (mem_of_getElem? hi)) c (mem_of_getElem? hj)
 |bW x f bc base bB h1 _ ih=>
  refine .bW x f bc base bB (λ j c hj=>⟨hI _ _ _ (h1 j c hj).1,(h1 j c hj).2⟩) λ j c hj=>ih j c hj ?_
  exact fb (by simpa [AV.ag]using h) c (mem_of_getElem? hj)
 |bV=>simp[AV.ag]at h
 |eb=>simp[AV.ag]at h
 |dN=>simp[AV.ag]at h
 |di=>simp[AV.ag]at h
 |fa=>simp[AV.ag]at h
 |fn f aX vs h1 _ ih=>exact .fn f aX vs h1 λ i c x hi hx=>ih i c x hi hx (a8 (by simpa [AV.ag]using h) c (mem_of_getElem? hi))
 |agg cs vs h1 _ ih=>exact .agg cs vs h1 λ i c x hi hx=>ih i c x hi hx (a8 (by simpa [AV.ag]using h) c (mem_of_getElem? hi))
 |aK cs vs h1 _ ih=>exact .aK cs vs h1 λ i c x hi hx=>ih i c x hi hx (a8 (by simpa [AV.ag]using h) c (mem_of_getElem? hi))
 |eL=>simp[AV.ag]at h
 |fD=>simp[AV.ag]at h
 |dO=>simp[AV.ag]at h
theorem R.of_nil{I:da}{L L':Nat->Loc}{O':List ae}{a:AV}{x:Value}(hr:R I L [] a x):R I L' O' a x:=by
 generalize hO:([]:List ae)=O at hr
 induction hr with
 |top x=>exact .top x
 |v x hx=>exact .v x hx
 |aQ=>exact .aQ
 |oF t x=>exact .oF t x
 |me a cap=>exact .me a cap
 |sl xs bc off cap s bB h1 h2 h3 h4 _ ih=>exact .sl xs bc off cap s bB h1 h2 h3 h4 λ i x j c hi hj=>ih i x j c hi hj
 |bW x f bc base bB h1 _ ih=>exact .bW x f bc base bB h1 λ j c hj=>ih j c hj
 |bV n len e s xs hn=>subst hO;simp at hn
 |eb n e s hn=>subst hO;simp at hn
 |dN n len x hn=>subst hO;simp at hn
 |di n len i f e s xs hn=>subst hO;simp at hn
 |fa n len i f x hn=>subst hO;simp at hn
 |fn f aX vs h1 _ ih=>exact .fn f aX vs h1 λ i c x hi hx=>ih i c x hi hx
 |agg cs vs h1 _ ih=>exact .agg cs vs h1 λ i c x hi hx=>ih i c x hi hx
 |aK cs vs h1 _ ih=>exact .aK cs vs h1 λ i c x hi hx=>ih i c x hi hx
 |eL n a hn=>subst hO;simp at hn
 |fD n a hn=>subst hO;simp at hn
 |dO n x hn=>subst hO;simp at hn
theorem R.flat{I I':da}{L L':Nat->Loc}{O O':List ae}{a:AV}{x:Value}(hr:R I L O a x)(h:a.flat=true):R I' L' O' a x:=by
 cases hr<;>simp only[AV.flat]at h<;>first|(simp at h;done)|skip
 ·exact .v _ (by assumption)
 ·rename_i cs vs h1 h2;refine .aK _ _ h1 λ i c x hc hx=> ?_
  have hm:=List.all_eq_true.1 h c (mem_of_getElem? hc);have hr:=h2 i c x hc hx;cases c<;>simp at hm
  cases hr;exact .v _ (by assumption)
theorem xI(O:List ae)(a:AV):(eM O a).length=O.length:=by
 cases a<;>simp[eM]
theorem ac5(as:List AV)(O:List ae):(as.foldl eM O).length=O.length:=by
 induction as generalizing O with
 |nil=>rfl
 |cons a as ih=>simp[ih,xI]
theorem jI(as:List AV)(O:List ae){n e s:Nat}{xs:List AV}(h:(as.foldl eM O)[n]? =some (.live e s xs)):
  O[n]? =some (.live e s xs)/\∀len,AV.row n len∉as:=by
 induction as generalizing O with
 |nil=>exact⟨h,by simp⟩
 |cons a as ih=>
  obtain⟨h1,h2⟩:=ih (eM O a) h;cases a with
  |row m ml=>
   simp only[eM,getElem?_set]at h1;by_cases hm:m=n
   ·subst hm;simp at h1
   ·rw[if_neg hm]at h1;refine⟨h1,λ len lV=> ?_⟩;rcases List.mem_cons.1 lV with h3|h3
    ·cases h3;exact hm rfl
    ·exact h2 len h3
  |own m=>
   simp only[eM,getElem?_set]at h1;by_cases hm:m=n
   ·subst hm;simp at h1
   ·rw[if_neg hm]at h1;refine⟨h1,λ len lV=> ?_⟩;rcases List.mem_cons.1 lV with h3|h3
    ·cases h3
    ·exact h2 len h3
  |_=>exact⟨h1,λ len hm=>by rcases List.mem_cons.1 hm with h3|h3;cases h3;exact h2 len h3⟩
section
variable {P:Program} {I:da} {L:Nat->Loc} {O:List ae} {w:World}
open Classical in
noncomputable def tm (I:da) (L:Nat->Loc) (O:List ae) (w:World) (as:List AV):da:=λ b o=>
 if(∃(n len e s:Nat) (xs:List AV),AV.row n len∈as/\O[n]? =some (.live e s xs)/\xs.length=len/\(L n).bc=b)∨(∃(n:Nat) (a:AV) (o:Nat) (v:Value),AV.own n∈as/\O[n]? =some (.own a)/\(L n).mem b o=some v)then w.cell? ⟨b,o,none⟩else I b o
theorem ak1(as:List AV)(O:List ae){n e s:Nat}(h:(as.foldl eM O)[n]? =some (.nil e s)):O[n]? =some (.nil e s):=by
 induction as generalizing O with
 |nil=>exact h
 |cons a as ih=>
  have h0:=ih _ h;cases a<;>try exact h0
  all_goals
   simp only[eM,getElem?_set]at h0
   split at h0
   ·split at h0<;>cases h0
   ·exact h0
theorem rY(as:List AV)(O:List ae){n:Nat}{a:AV}(h:(as.foldl eM O)[n]? =some (.own a)):O[n]? =some (.own a):=by
 induction as generalizing O with
 |nil=>exact h
 |cons a as ih=>
  have h0:=ih _ h;cases a<;>try exact h0
  all_goals
   simp only[eM,getElem?_set]at h0
   split at h0
   ·split at h0<;>cases h0
   ·exact h0
theorem xH(as:List AV)(O:List ae){n:Nat}{a:fT}(h:(as.foldl eM O)[n]? =some (.cN a)):O[n]? =some (.cN a):=by
 induction as generalizing O with
 |nil=>exact h
 |cons a as ih=>
  have h0:=ih _ h;cases a<;>try exact h0
  all_goals
   simp only[eM,getElem?_set]at h0
   split at h0
   ·split at h0<;>cases h0
   ·exact h0
theorem aic(as:List AV)(O:List ae){n:Nat}{c:AV}(h:(as.foldl eM O)[n]? =some (.own c)):AV.own n∉as:=by
 induction as generalizing O with
 |nil=>simp
 |cons a as ih=>
  intro hm;rcases List.mem_cons.1 hm with h3|h3
  ·subst h3;have h1:=rY as _ h;simp only[eM,getElem?_set]at h1
   split at h1
   ·split at h1<;>cases h1
   ·rename_i cr;exact(cr trivial).elim
  ·exact ih _ h h3
theorem vV(hi:Inv I L O w)(as:List AV):∀b o x,I b o=some x->tm I L O w as b o=some x:=by
 intro b o x hx;unfold tm
 split
 ·exact hi.iy b o x hx
 ·exact hx
theorem akR(hi:Inv I L O w){as:List AV}{n len:Nat}(hm:AV.row n len∈as){e s:Nat}{xs:List AV}(hO:O[n]? =some (.live e s xs))(hl:xs.length=len)(o:Nat):
  tm I L O w as (L n).bc o=w.cell? ⟨(L n).bc,o,none⟩:=by
 unfold tm;rw[if_pos (.inl ⟨n,len,e,s,xs,hm,hO,hl,rfl⟩)]
theorem aah(hi:Inv I L O w){as:List AV}{a:AV}(ha:a∈as){x:Value}(hr:R I L O a x)(hn:(jl O a).ag=true):R (tm I L O w as) L [] (jl O a) x:=by
 have hle:=vV hi as;cases a
 case row n len=>
  simp only[jl]at hn⊢;cases hO:O[n]? with
  |none=>simp only[hO]at hn;simp[AV.ag]at hn
  |some ob=>
   cases ob with
   |dead=>simp only[hO]at hn;simp[AV.ag]at hn
   |own a=>simp only[hO]at hn;simp[AV.ag]at hn
   |cN g=>simp only[hO]at hn;simp[AV.ag]at hn
   |nil e s=>
    simp only[hO]at hn⊢;obtain⟨rfl,rfl⟩:=hr.lz hO;rw[if_pos rfl];exact .me _ _
   |live e s xs=>
    simp only[hO]at hn⊢;by_cases hl:xs.length=len
    ·rw[if_pos hl]at hn⊢;have:=hr.e9 hO hl;subst this;obtain⟨c,⟨j5,h1,dn⟩,h2,h3,h4,h5,h6⟩:=hi.obj n e s xs hO;by_cases hx:xs= []
     ·subst hx;simp at hl;subst hl;exact .me _ _
     ·subst hl;refine(.sl xs (L n).bc 0 (L n).cap s (λ i j=>(c[i*s+j]?).getD undef) h3 hx (λ i x hx=>(h6 i x hx).1) (λ i x j d hx hj=> ?_) λ i x j d hx hj=> ?_)
      ·obtain⟨y,hy,ho,_⟩:=(h6 i x hx).2 j d hj;rw[akR hi ha hO rfl,Nat.zero_add,dV h1,hy];exact⟨rfl,ho⟩
      ·obtain⟨y,hy,ho,lI⟩:=(h6 i x hx).2 j d hj;rw[hy];exact lI.ag hle (fb (a8 (by simpa [AV.ag]using hn) x (mem_of_getElem? hx)) d (mem_of_getElem? hj))
    ·rw[if_neg hl]at hn;simp[AV.ag]at hn
 case own n=>
  simp only[jl]at hn⊢;cases hr with
  |eL _ b hO=>
   simp only[hO]at hn⊢;refine(hi.ow.tree n b hO L []).ag (λ p o v hv=> ?_) hn;unfold tm;rw[if_pos (.inr ⟨n,b,o,v,ha,hO,hv⟩)];exact hi.ow.cell n b hO p o v hv
  |fD _ g hO=>simp only[hO]at hn;simp[AV.ag]at hn
  |dO _ _ au cd=>
   cases hO:O[n]? with
   |none=>simp only[hO]at hn;simp[AV.ag]at hn
   |some ob=>
    cases ob with
    |own b=>exact(cd b hO).elim
    |_=>simp only[hO]at hn;simp[AV.ag]at hn
 all_goals exact hr.ag hle hn
theorem jY{f:FuncId}{as aX:List AV}{vs:Array Value}{res:AV}(hi:Inv I L O w)(hr:RL I L O (as++aX) vs)(hn:AV.ad (as.map (jl O)++aX)=true)(hc:aI P f (as.map (jl O)++aX) res):
  Calls P f vs w λ e w'=>∃y I' L',e= .returned y/\R I' L' (yK O as res) res y/\Good I L O w I' L' (yK O as res) w':=by
 have hle:=vV hi as
 have hinv:Inv (tm I L O w as) L [] w:=by
  refine⟨λ b o x hx=> ?_,by simp,by simp,by simp,λ p hp=>hle _ _ _ (hi.fix p hp),hi.sC hle,.no (by simp),.no (by simp)⟩;unfold tm at hx
  split at hx
  ·exact hx
  ·exact hi.iy b o x hx
 have nF:RL (tm I L O w as) L [] (as.map (jl O)++aX) vs:=by
  refine⟨by have:=hr.1;simpa using this,λ i a x ha hx=> ?_⟩;have hna:=a8 hn a (mem_of_getElem? ha);by_cases au:i<as.length
  ·rw[getElem?_append_left (by simpa using au)]at ha;simp only[getElem?_map,map_eq_some_iff]at ha;obtain⟨a0,ha0,rfl⟩:=ha;exact aah hi (mem_of_getElem? ha0) (hr.2 i a0 x (by rw[getElem?_append_left au];exact ha0) hx) hna
  ·rw[getElem?_append_right (by simp;omega)]at ha;simp only[length_map]at ha;exact(hr.2 i a x (by rw[getElem?_append_right (by omega)];exact ha) hx).ag hle hna
 refine(hc.2 _ _ _ _ hinv nF).mono ?_;rintro e w' ⟨y,I',L',rfl,hry,hg⟩;have k8:∀b,b<w.heap.size->w'.heap[b]? =w.heap[b]? :=λ b hb=>hg.mE.block b hb oU
 have hold:∀{n e s xs},O[n]? =some (.live e s xs)->(L n).bc<w.heap.size:=by
  intro n e s xs h;obtain⟨c,⟨j5,h1,dn⟩,_⟩:=hi.obj n e s xs h;exact(Array.getElem?_eq_some_iff.1 h1).1
 by_cases hf:res.flat=true
 ·rw[yK,if_pos hf];refine⟨y,I,L,rfl,hry.flat hf,⟨⟨λ b o x hx=> ?_,λ n e s xs hn=> ?_,hi.sep,hi.dT,hi.fix,hi.lM (λ b hb _=>k8 b hb) (λ _ _ _ h=>h),hi.ow.aU λ b hb _=>k8 b hb,hi.gh.step (λ _ _ h=>⟨h,rfl⟩) (λ _ _ h=>h) λ b hb=>k8 b hb.1⟩,.refl _ _ _,⟨hg.mE.os,hg.mE.tape,hg.mE.output,hg.mE.size,λ b hb _=>k8 b hb⟩,λ _ h=> .inl h,λ _ _ _ h=> .inl h⟩⟩
  ·have:=hi.iy b o x hx;rw[←this];exact World.cell?_of_block (a:=⟨b,o,none⟩) (k8 b (gm this))
  ·exact(hi.obj n e s xs hn).congr (k8 _ (hold hn)) λ _ _ h=>h
 ·rw[yK,if_neg hf];have arX:∀b o x,I b o=some x->I' b o=some x:=λ b o x h=>hg.ext.iy _ _ _ (hle b o x h)
  have dp:Ext I L O I' L (as.foldl eM O):=⟨arX,by rw[ac5];exact le_refl _,λ n _ e s xs h=> .inl ⟨xs,(jI as O h).1,le_refl _,λ _=>rfl⟩,λ n _ e s h=>ak1 as O h,λ n _ a h=>⟨⟨a,rY as O h⟩,rfl⟩,λ n _ a h=>⟨⟨a,xH as O h,rfl⟩,rfl⟩⟩
  have fw:∀b o x,I' b o=some x->I b o=some x∨(∃(n len e s:Nat) (xs:List AV),AV.row n len∈as/\O[n]? =some (.live e s xs)/\xs.length=len/\(L n).bc=b)∨w.heap.size<=b∨(∃(n:Nat) (a:AV) (o:Nat) (v:Value),AV.own n∈as/\O[n]? =some (.own a)/\(L n).mem b o=some v):=by
   intro b o x h;rcases hg.iM b o x h with h1|h1|h1
   ·unfold tm at h1
    split at h1
    ·rename_i hh;rcases hh with hh|hh
     ·exact .inr (.inl hh)
     ·exact .inr (.inr (.inr hh))
    ·exact .inl h1
   ·exact(oU h1).elim
   ·exact .inr (.inr (.inl h1))
  refine⟨y,I',L,rfl,hry.of_nil,⟨⟨hg.inv.iy,λ n e s xs hn=> ?_,λ n m e s xs e' s' ys h1 h2=>hi.sep n m _ _ _ _ _ _ (jI as O h1).1 (jI as O h2).1,λ n e s xs o h=> ?_,hg.inv.fix,hg.inv.bc,hi.ow.apJ (λ n a h=>⟨rY as O h,rfl⟩) (λ b o v hv=> ?_) (λ m e s xs hm=> .inl ⟨m,e,s,xs,(jI as O hm).1,rfl⟩) (λ b hb _=>k8 b hb),hi.gh.step (λ n a h=>⟨xH as O h,rfl⟩) (λ _ _ h=>h.mono dp) λ b hb=>k8 b hb.1⟩,dp,⟨hg.mE.os,hg.mE.tape,hg.mE.output,hg.mE.size,λ b hb _=>k8 b hb⟩,?_,?_⟩⟩
  ·have h0:=(jI as O hn).1;exact(hi.obj n e s xs h0).congr (k8 _ (hold h0)) λ _ _ h=>h.mono dp
  ·obtain⟨h0,h1⟩:=jI as O h;cases hx:I' (L n).bc o with
   |none=>rfl
   |some x=>
    rcases fw _ _ _ hx with h2|⟨m,len,e',s',hZ,h2,h3,h4,h5⟩|h2|⟨m,c,o2,v2,h2,h3,h4⟩
    ·rw[hi.dT n e s xs o h0]at h2;cases h2
    ·have:=hi.sep m n _ _ _ _ _ _ h3 h0 h5;subst this;exact(h1 len h2).elim
    ·have:=hold h0;omega
    ·exact(hi.ow.live m c h3 _ o2 v2 h4 n _ _ _ h0 rfl).elim
  ·rcases fw b o v hv with h1|⟨n,len,e,s,xs,_,h2,_,h3⟩|h1|⟨m,c,o2,v2,h2,h3,h4⟩
   ·exact .inl ⟨o,v,h1⟩
   ·exact .inr (.inl ⟨n,e,s,xs,h2,h3⟩)
   ·exact .inr (.inr (.inl h1))
   ·exact .inr (.inr (.inr ⟨m,c,o2,v2,h3,h4,λ d hd=>aic as O hd h2⟩))
  ·rintro b (⟨n,e,s,xs,h,hb⟩|⟨n,a,o,v,h,hb⟩|⟨n,a,h,hb⟩)
   ·exact .inl (.inl ⟨n,e,s,xs,(jI as O h).1,hb⟩)
   ·exact .inl (.inr (.inl ⟨n,a,o,v,rY as O h,hb⟩))
   ·exact .inl (.inr (.inr ⟨n,a,xH as O h,hb⟩))
  ·intro b o x h;rcases fw b o x h with h1|⟨n,len,e,s,xs,_,h2,_,h3⟩|h1|⟨m,c,o2,v2,h2,h3,h4⟩
   ·exact .inl h1
   ·exact .inr (.inl (.inl ⟨n,e,s,xs,h2,h3⟩))
   ·exact .inr (.inr h1)
   ·exact .inr (.inl (.inr (.inl ⟨m,c,o2,v2,h3,h4⟩)))
end
section
variable {P:Program} {I:da} {L:Nat->Loc} {O:List ae} {w:World} {K:AV->List ae->Prop} {e:Env} {a:Act}
variable {d:Option Tmp} {ty:TypeId} {pos:String} {af:Array Edge} {g:Option (Nat×Bool)}
theorem aeP(hi:Inv I L O w)(he:∀t,R I L O (e t) (a.tmps.getD t undef)){t:TypeId}{len:Nat}{parts:Array (Nat×Operand)}{el' s' l':Nat}{z':AV}{ps':List (Nat×aE)}
  (hc:bR P ty (.buildSlice t len parts)=some (.buildSlice el' s' l' z' ps')) (hk:wpOp P (.ir el' s' l' z' ps') e O K):
  fx P I L O w (execOp a.eval ⟨d,.buildSlice t len parts,ty,pos,af,g⟩) K:=by
 simp only[bR,bind_eq_bind,bind_eq_some_iff]at hc;obtain⟨el,kJ,⟨s,b,z⟩,hz,ps,hps,hc⟩:=hc
 split at hc
 ·rename_i aoV;simp only[Option.some.injEq,dZ.buildSlice.injEq]at hc;obtain⟨rfl,rfl,rfl,rfl,rfl⟩:=hc;have ht:=gq kJ;obtain⟨i,z0,h1,h2,h3,rfl,rfl,h4,h5,h6,h7⟩:=eV hz;have xX:=fe.made (I:=I) (L:=L) (O:=O) (cap:=len) (n:=len) (eK h3) h7 h4 h5 (le_refl _);obtain⟨hZ,c',⟨cd,m1⟩,m2,m3,m4,m5⟩:=qn he parts.toList ps _ _ xX (by simp) hps hk;have hlx:hZ.length=len:=by simpa using m3
  obtain⟨I',hg,hr⟩:=hi.auw (el:=el) (s:=i.size) (xs:=hZ) c' len (by omega) (λ k x hx j c hj I' L' O' v hI hv=>hv.ag hI (fb (a8 cd x (mem_of_getElem? hx)) c (mem_of_getElem? hj))) m2;rw[hlx]at hr;refine⟨_,_,.slice (some ⟨w.heap.size,0,none⟩) len len,_,_,_,m1,hg,hr,.inl ?_⟩;have hns:¬(len*i.size>2^24):=by simpa using aoV
  simp only[execOp];by_cases h0:len*i.size=0
  ·have hl0:len=0:=by rcases Nat.mul_eq_zero.1 h0 with h|h<;>omega
   subst hl0;simp[Array.range_zero']at m5;simp[Instr.buildSlice,run_underlying ht,sizeOf,typeInfo,h1,m5,newRow,Array.range_zero']
  ·simp[Instr.buildSlice,run_underlying ht,sizeOf,typeInfo,h1,hns,h0,zeroValue,h2,m5,newRow]
 ·cases hc
end
end Go.Ab
namespace Go.Ab
mutual
def AV.inScope(k:Nat):AV->Bool
 | .top| .v _| .aQ| .oF=>true
 | .sl xs=>AV.cA k xs
 | .bW x _=>x.inScope k
 | .row n _=>n<k
 | .ptr n _ _ _=>n<k
 | .fn _ cs=>AV.cA k cs
 | .agg cs=>AV.cA k cs
 | .aK vs=>AV.cA k vs
 | .own n=>n<k
def AV.cA(k:Nat):List AV->Bool
 | []=>true
 |x::xs=>x.inScope k&&AV.cA k xs
end
theorem bP{k:Nat}{xs:List AV}(h:AV.cA k xs=true):∀x∈xs,x.inScope k=true:=by
 induction xs with
 |nil=>simp
 |cons y ys ih=>
  simp only[AV.cA,and_eq_true]at h;intro x hx;rcases List.mem_cons.1 hx with rfl|hx
  ·exact h.1
  ·exact ih h.2 x hx
mutual
theorem bF{k:Nat}:∀(x:AV),x.ag=true->x.inScope k=true
 | .top,_| .v _,_| .aQ,_| .oF,_=>rfl
 | .sl xs,h=>by simp only[AV.ag,AV.inScope]at*;exact ca xs h
 | .bW x _,h=>by simp only[AV.ag,AV.inScope]at*;exact bF x h
 | .row _ _,h=>by simp[AV.ag]at h
 | .ptr _ _ _ _,h=>by simp[AV.ag]at h
 | .fn _ cs,h=>by simp only[AV.ag,AV.inScope]at*;exact ca cs h
 | .agg cs,h=>by simp only[AV.ag,AV.inScope]at*;exact ca cs h
 | .aK cs,h=>by simp only[AV.ag,AV.inScope]at*;exact ca cs h
 | .own _,h=>by simp[AV.ag]at h
theorem ca{k:Nat}:∀(xs:List AV),AV.ad xs=true->AV.cA k xs=true
 | [],_=>rfl
 |x::xs,h=>by
  simp only[AV.ad,AV.cA,and_eq_true]at*;exact⟨bF x h.1,ca xs h.2⟩
end
theorem b7{k:Nat}{x:AV}(h:x.inScope k=true):∀c∈x.cells,c.inScope k=true:=by
 cases x<;>simp only[AV.cells]<;>try (intro c hc;simp at hc;subst hc;exact h)
 simp only[AV.inScope]at h;exact bP h
def ae.inScope(k:Nat):ae->Bool
 | .dead=>true
 | .own _=>true
 | .nil _ _=>true
 | .live _ _ xs=>AV.cA k xs
 | .cN (.mp es)=>es.all λ p=>p.1.inScope k&&p.2.inScope k
 | .cN (.it _ _)=>true
theorem ec(s:Nat->Nat)(xs:List AV):AV.pv s xs=xs.map (AV.bO s):=by
 induction xs with
 |nil=>rfl
 |cons x xs ih=>simp[AV.pv,ih]
mutual
theorem cO{s:Nat->Nat}:∀(a:AV),a.ag=true->a.bO s=a
 | .top,_| .v _,_| .aQ,_| .oF,_=>rfl
 | .sl xs,h=>by simp only[AV.bO];rw[dG xs (by simpa [AV.ag]using h)]
 | .bW x _,h=>by simp only[AV.bO];rw[cO x (by simpa [AV.ag]using h)]
 | .row _ _,h=>by simp[AV.ag]at h
 | .ptr _ _ _ _,h=>by simp[AV.ag]at h
 | .fn _ cs,h=>by simp only[AV.bO];rw[dG cs (by simpa [AV.ag]using h)]
 | .agg cs,h=>by simp only[AV.bO];rw[dG cs (by simpa [AV.ag]using h)]
 | .aK cs,h=>by simp only[AV.bO];rw[dG cs (by simpa [AV.ag]using h)]
 | .own _,h=>by simp[AV.ag]at h
theorem dG{s:Nat->Nat}:∀(xs:List AV),AV.ad xs=true->AV.pv s xs=xs
 | [],_=>rfl
 |x::xs,h=>by
  simp only[AV.ad,and_eq_true]at h;simp only[AV.pv];rw[cO x h.1,dG xs h.2]
end
theorem du(s:Nat->Nat)(a:AV):(a.bO s).cells=a.cells.map (AV.bO s):=by
 cases a<;>simp[AV.bO,AV.cells,ec]
theorem gI{s:Nat->Nat}{xs:List AV}{i:Nat}{y:AV}(h:(xs.map (AV.bO s))[i]? =some y):∃x,xs[i]? =some x/\y=x.bO s:=by
 simp only[getElem?_map,map_eq_some_iff]at h;obtain⟨x,hx,rfl⟩:=h;exact⟨x,hx,rfl⟩
theorem R.bO{I:da}{L L':Nat->Loc}{O O':List ae}{s:Nat->Nat}(hn:∀n,n<O'.length->s n<O.length)
  (hg:∀n,n<O'.length->O[s n]? =(O'[n]?).map (ae.bO s)) (hL:∀n,n<O'.length->L (s n)=L' n) {a:AV} {x:Value} (hr:R I L' O' a x):R I L O (a.bO s) x:=by
 have live:∀{n e k xs},O'[n]? =some (.live e k xs)->O[s n]? =some (.live e k (xs.map (AV.bO s)))/\L (s n)=L' n:=by
  intro n e k xs h;have au:=(List.getElem?_eq_some_iff.1 h).1;exact⟨by rw[hg n au,h];rfl,hL n au⟩
 have back:∀{n e k xs},n<O'.length->O[s n]? =some (.live e k xs)->∃ys,O'[n]? =some (.live e k ys)/\ys.length=xs.length:=by
  intro n e k xs au h;rw[hg n au,map_eq_some_iff]at h;obtain⟨ob,h1,h2⟩:=h;cases ob with
  |dead=>cases h2
  |own a=>cases h2
  |cN g=>cases h2
  |nil=>cases h2
  |live e' k' ys=>cases h2;exact⟨ys,h1,by simp⟩
 have aut:∀{n e k},n<O'.length->O'[n]? ≠some (.nil e k)->O[s n]? ≠some (.nil e k):=by
  intro n e k au cr h;rw[hg n au,map_eq_some_iff]at h;obtain⟨ob,h1,h2⟩:=h;cases ob with
  |dead=>cases h2
  |own a=>cases h2
  |cN g=>cases h2
  |nil=>cases h2;exact cr h1
  |live=>cases h2
 induction hr with
 |top x=>exact .top x
 |v x hx=>exact .v x hx
 |aQ=>exact .aQ
 |oF t x=>exact .oF t x
 |me a cap=>exact .me a cap
 |sl xs bc off cap k bB h1 h2 h3 h4 _ ih=>
  simp only[AV.bO,ec];rw[show xs.length=(xs.map (AV.bO s)).length by simp];refine .sl _ bc off cap k bB (by simpa using h1) (by simpa using h2) (λ i x hx=> ?_) (λ i x j c hx hc=> ?_) (λ i x j c hx hc=> ?_)
  ·obtain⟨y,hy,rfl⟩:=gI hx;rw[du,length_map];exact h3 i y hy
  ·obtain⟨y,hy,rfl⟩:=gI hx;rw[du]at hc;obtain⟨d,hd,rfl⟩:=gI hc;exact h4 i y j d hy hd
  ·obtain⟨y,hy,rfl⟩:=gI hx;rw[du]at hc;obtain⟨d,hd,rfl⟩:=gI hc;exact ih i y j d hy hd
 |bW x f bc base bB h1 _ ih=>
  simp only[AV.bO];refine .bW _ f bc base bB (λ j c hc=> ?_) (λ j c hc=> ?_)
  ·rw[du]at hc;obtain⟨d,hd,rfl⟩:=gI hc;exact h1 j d hd
  ·rw[du]at hc;obtain⟨d,hd,rfl⟩:=gI hc;exact ih j d hd
 |bV n len e k xs hx hl=>
  obtain⟨h1,h2⟩:=live hx;simp only[AV.bO];rw[←h2];exact .bV (s n) len e k _ h1 (by simpa using hl)
 |eb n e k hx=>
  simp only[AV.bO];refine .eb (s n) e k ?_;rw[hg n (List.getElem?_eq_some_iff.1 hx).1,hx];rfl
 |dN n len x au vW hs hx=>
  simp only[AV.bO];refine .dN (s n) len x (hn n au) (λ e k he=>aut au (vW e k) he) (λ e k xs pO=> ?_) hx;obtain⟨ys,hy,he⟩:=back au pO;rw[←he];exact hs e k ys hy
 |di n len i f e k xs hx hl=>
  obtain⟨h1,h2⟩:=live hx;simp only[AV.bO];rw[←h2];exact .di (s n) len i f e k _ h1 (by simpa using hl)
 |fa n len i f x au vW hs hx=>
  simp only[AV.bO];refine .fa (s n) len i f x (hn n au) (λ e k he=>aut au (vW e k) he) (λ e k xs pO=> ?_) hx;obtain⟨ys,hy,he⟩:=back au pO;rw[←he];exact hs e k ys hy
 |fn f aX vs h1 _ ih=>
  simp only[AV.bO,ec];refine .fn f _ vs (by simpa using h1) λ i c x hc hx=> ?_
  obtain⟨d,hd,rfl⟩:=gI hc;exact ih i d x hd hx
 |agg cs vs h1 _ ih=>
  simp only[AV.bO,ec];refine .agg _ vs (by simpa using h1) λ i c x hc hx=> ?_
  obtain⟨d,hd,rfl⟩:=gI hc;exact ih i d x hd hx
 |aK cs vs h1 _ ih=>
  simp only[AV.bO,ec];refine .aK _ vs (by simpa using h1) λ i c x hc hx=> ?_
  obtain⟨d,hd,rfl⟩:=gI hc;exact ih i d x hd hx
 |eL n a h h1=>
  have au:=(List.getElem?_eq_some_iff.1 h).1;rw[←hL n au]at h1⊢;exact .eL (s n) a (by rw[hg n au,h];rfl) h1
 |fD n g h=>
  have au:=(List.getElem?_eq_some_iff.1 h).1;have:g.val (L' n).bc=(g.bO s).val (L (s n)).bc:=by unfold fT.val;rw[fT.wW,hL n au]
  rw[this];exact .fD (s n) (g.bO s) (by rw[hg n au,h];rfl)
 |dO n x au cd hng h1=>
  refine .dO (s n) x (hn n au) (λ a ha=> ?_) (λ a ha=> ?_) h1
  ·rw[hg n au,map_eq_some_iff]at ha;obtain⟨ob,h1,h2⟩:=ha;cases ob with
   |own c=>exact cd c h1
   |_=>cases h2
  ·rw[hg n au,map_eq_some_iff]at ha;obtain⟨ob,h1,h2⟩:=ha;cases ob with
   |cN c=>exact hng c h1
   |_=>cases h2
theorem R.ajF{I:da}{L L':Nat->Loc}{O O':List ae}{s:Nat->Nat}(hg:∀n,n<O'.length->O[s n]? =(O'[n]?).map (ae.bO s))(hL:∀n,n<O'.length->L (s n)=L' n)
  {b:AV} {x:Value} (hr:R I L O b x):∀a:AV,b=a.bO s->a.inScope O'.length=true->R I L' O' a x:=by
 have live:∀{n e k xs},n<O'.length->O[s n]? =some (.live e k xs)->∃ys,O'[n]? =some (.live e k ys)/\xs=ys.map (AV.bO s):=by
  intro n e k xs au h;rw[hg n au,map_eq_some_iff]at h;obtain⟨ob,h1,h2⟩:=h;cases ob with
  |dead=>cases h2
  |own a=>cases h2
  |cN g=>cases h2
  |nil=>cases h2
  |live e' k' ys=>cases h2;exact⟨ys,h1,rfl⟩
 have fwd:∀{n e k ys},O'[n]? =some (.live e k ys)->O[s n]? =some (.live e k (ys.map (AV.bO s))):=by
  intro n e k ys h;rw[hg n (List.getElem?_eq_some_iff.1 h).1,h];rfl
 have avQ:∀{n e k},O'[n]? =some (.nil e k)->O[s n]? =some (.nil e k):=by
  intro n e k h;rw[hg n (List.getElem?_eq_some_iff.1 h).1,h];rfl
 have cm:∀{y:AV} {j:Nat} {d:AV},y.cells[j]? =some d->(y.bO s).cells[j]? =some (d.bO s):=by
  intro y j d h;rw[du,getElem?_map,h];rfl
 have mm:∀{ys:List AV} {j:Nat} {d:AV},ys[j]? =some d->(ys.map (AV.bO s))[j]? =some (d.bO s):=by
  intro ys j d h;rw[getElem?_map,h];rfl
 induction hr with
 |top x=>intro a h;cases a<;>simp[AV.bO]at h;intro _;exact .top x
 |v x hx=>intro a h;cases a<;>simp[AV.bO]at h;intro _;subst h;exact .v x hx
 |aQ=>intro a h;cases a<;>simp[AV.bO]at h;intro _;exact .aQ
 |oF t x=>intro a h;cases a<;>simp[AV.bO]at h;intro _;exact .oF t x
 |me a cap=>
  intro a h;cases a<;>simp[AV.bO,ec]at h;intro _;subst h;exact .me _ cap
 |sl xs bc off cap k bB h1 h2 h3 h4 _ ih=>
  intro a h;cases a<;>simp[AV.bO,ec]at h
  rename_i ys;subst h;intro hs;have hs':=bP (by simpa [AV.inScope]using hs);rw[length_map];refine .sl ys bc off cap k bB (by simpa using h1) (by simpa using h2) (λ i x hx=> ?_) (λ i x j c hx hc=>h4 i _ j _ (mm hx) (cm hc)) (λ i x j c hx hc=> ?_)
  ·have:=h3 i _ (mm hx);rwa [du,length_map]at this
  ·exact ih i _ j _ (mm hx) (cm hc) c rfl (b7 (hs' x (mem_of_getElem? hx)) c (mem_of_getElem? hc))
 |bW x f bc base bB h1 _ ih=>
  intro a h;cases a<;>simp[AV.bO]at h
  rename_i y g;obtain⟨rfl,rfl⟩:=h;intro hs;refine .bW y f bc base bB (λ j c hc=>h1 j _ (cm hc)) (λ j c hc=>ih j _ (cm hc) c rfl (b7 (by simpa [AV.inScope]using hs) c (mem_of_getElem? hc)))
 |bV n len e k xs hx hl=>
  intro a h;cases a<;>simp[AV.bO]at h
  rename_i n' l';obtain⟨rfl,rfl⟩:=h;intro hs;have au:n'<O'.length:=by simpa [AV.inScope]using hs
  obtain⟨ys,hy,rfl⟩:=live au hx;rw[hL n' au];exact .bV n' len e k ys hy (by simpa using hl)
 |eb n e k hx=>
  intro a h;cases a<;>simp[AV.bO]at h
  rename_i n' l';obtain⟨rfl,rfl⟩:=h;intro hs;have au:n'<O'.length:=by simpa [AV.inScope]using hs
  rw[hg n' au,map_eq_some_iff]at hx;obtain⟨ob,h1,h2⟩:=hx;cases ob with
  |dead=>cases h2
  |own a=>cases h2
  |cN g=>cases h2
  |live=>cases h2
  |nil=>cases h2;exact .eb n' e k h1
 |dN n len x aip vW hd hx=>
  intro a h;cases a<;>simp[AV.bO]at h
  rename_i n' l';obtain⟨rfl,rfl⟩:=h;intro hs;refine .dN n' len x (by simpa [AV.inScope]using hs) (λ e k he=>vW e k (avQ he)) (λ e k ys hys=> ?_) hx;have:=hd e k _ (fwd hys);simpa using this
 |di n len i f e k xs hx hl=>
  intro a h;cases a<;>simp[AV.bO]at h
  rename_i n' l' i' f';obtain⟨rfl,rfl,rfl,rfl⟩:=h;intro hs;have au:n'<O'.length:=by simpa [AV.inScope]using hs
  obtain⟨ys,hy,rfl⟩:=live au hx;rw[hL n' au];exact .di n' len i f e k ys hy (by simpa using hl)
 |fa n len i f x aip vW hd hx=>
  intro a h;cases a<;>simp[AV.bO]at h
  rename_i n' l' i' f';obtain⟨rfl,rfl,rfl,rfl⟩:=h;intro hs;refine .fa n' len i f x (by simpa [AV.inScope]using hs) (λ e k he=>vW e k (avQ he)) (λ e k ys hys=> ?_) hx;have:=hd e k _ (fwd hys);simpa using this
 |fn f aX vs h1 _ ih=>
  intro a h;cases a<;>simp[AV.bO,ec]at h
  rename_i f' ys;obtain⟨rfl,rfl⟩:=h;intro hs;exact .fn f ys vs (by simpa using h1) λ i c x hc hx=>ih i _ x (mm hc) hx c rfl (bP (by simpa [AV.inScope]using hs) c (mem_of_getElem? hc))
 |agg cs vs h1 _ ih=>
  intro a h;cases a<;>simp[AV.bO,ec]at h
  rename_i ys;subst h;intro hs;exact .agg ys vs (by simpa using h1) λ i c x hc hx=>ih i _ x (mm hc) hx c rfl (bP (by simpa [AV.inScope]using hs) c (mem_of_getElem? hc))
 |aK cs vs h1 _ ih=>
  intro a h;cases a<;>simp[AV.bO,ec]at h
  rename_i ys;subst h;intro hs;exact .aK ys vs (by simpa using h1) λ i c x hc hx=>ih i _ x (mm hc) hx c rfl (bP (by simpa [AV.inScope]using hs) c (mem_of_getElem? hc))
 |eL n a hx xW=>
  intro b h;cases b<;>simp[AV.bO]at h
  rename_i n';subst h;intro hs;have au:n'<O'.length:=by simpa [AV.inScope]using hs
  rw[hg n' au,map_eq_some_iff]at hx;obtain⟨ob,h1,h2⟩:=hx;rw[hL n' au]at xW⊢;cases ob with
  |own c=>exact .eL n' c h1 xW
  |_=>cases h2
 |fD n g hx=>
  intro b h;cases b<;>simp[AV.bO]at h
  rename_i n';subst h;intro hs;have au:n'<O'.length:=by simpa [AV.inScope]using hs
  rw[hg n' au,map_eq_some_iff]at hx;obtain⟨ob,h1,h2⟩:=hx;rw[hL n' au];cases ob with
  |cN c=>
   cases h2;have:(c.bO s).val (L' n').bc=c.val (L' n').bc:=by unfold fT.val;rw[fT.wW]
   rw[this];exact .fD n' c h1
  |_=>cases h2
 |dO n x aip cd hng xW=>
  intro b h;cases b<;>simp[AV.bO]at h
  rename_i n';subst h;intro hs;have au:n'<O'.length:=by simpa [AV.inScope]using hs
  exact .dO n' x au (λ a ha=>cd a (by rw[hg n' au,ha];rfl)) (λ a ha=>hng (a.bO s) (by rw[hg n' au,ha];rfl)) xW
theorem pU.un{I:da}{L L1:Nat->Loc}{O O1:List ae}{w:World}{l:Loc}{g:fT}{s:Nat->Nat}{k:Nat}(un:∀a x,R I L O (a.bO s) x->a.inScope k=true->R I L1 O1 a x)(h:pU I L O w l (g.bO s))(hs:(ae.cN g).inScope k=true):pU I L1 O1 w l g:=by
 cases g with
 |it a b=>exact h
 |mp es=>
  obtain⟨en,c,q1,q2,q3⟩:=h;refine⟨en,c,q1,by simpa using q2,λ i k' v hx=> ?_⟩;obtain⟨e,q4,q5,q6⟩:=q3 i (k'.bO s) (v.bO s) (by rw[getElem?_map,hx];rfl);have afI:=List.all_eq_true.1 (show es.all (λ p=>p.1.inScope k&&p.2.inScope k)=true from hs) (k',v) (mem_of_getElem? hx);simp only[and_eq_true]at afI;exact⟨e,q4,un _ _ q5 afI.1,un _ _ q6 afI.2⟩
theorem js.frame{P:Program}{f:FuncId}{args:List AV}{O1:List ae}{res:AV}{lv:List ae}(h:js P f args O1 res lv){O pC:List ae}(s:Nat->Nat)
  (hs:∀i,i<O1.length->s i<O.length) (hg:∀i,i<O1.length->O[s i]? =(O1[i]?).map (ae.bO s)) (abv:∀i j,i<O1.length->j<O1.length->s i=s j->i=j)
  (fw:∀i,O1.length<=i->s i=O.length+(i- O1.length)) (hsc:∀a∈args,a.inScope O1.length=true) (hsO:∀ob∈O1,ob.inScope O1.length=true)
  (hl:pC.length=O.length+(lv.length- O1.length)) (h1:∀i,i<lv.length->pC[s i]? =(lv[i]?).map (ae.bO s)) (h2:∀n,n<O.length->(∀i,i<O1.length->s i≠n)->pC[n]? =O[n]?):
  js P f (args.map (AV.bO s)) O (res.bO s) pC:=by
 refine⟨h.1,λ I L w vs hi hr=> ?_⟩
 have inj:∀i j,s i=s j->i=j:=by
  intro i j he;by_cases hi:i<O1.length<;>by_cases hj:j<O1.length
  ·exact abv i j hi hj he
  ·have:=hs i hi;have:=fw j (by omega);omega
  ·have:=hs j hj;have:=fw i (by omega);omega
  ·have:=fw i (by omega);have:=fw j (by omega);omega
 let L1:Nat->Loc:=λ n=>L (s n)
 have gz:∀{n e k ys},O1[n]? =some (.live e k ys)->O[s n]? =some (.live e k (ys.map (AV.bO s))):=by
  intro n e k ys hn;rw[hg n (List.getElem?_eq_some_iff.1 hn).1,hn];rfl
 have un:∀{a:AV} {x:Value},R I L O (a.bO s) x->a.inScope O1.length=true->R I L1 O1 a x:=λ hr hsc=>R.ajF hg (λ _ _=>rfl) hr _ rfl hsc
 have iI:∀{n:Nat} {a:AV},O1[n]? =some (.own a)->O[s n]? =some (.own a):=by
  intro n a hn;rw[hg n (List.getElem?_eq_some_iff.1 hn).1,hn];rfl
 have mZ:∀{n:Nat} {g:fT},O1[n]? =some (.cN g)->O[s n]? =some (.cN (g.bO s)):=by
  intro n a hn;rw[hg n (List.getElem?_eq_some_iff.1 hn).1,hn];rfl
 have hi1:Inv I L1 O1 w:=by
  refine⟨hi.iy,λ n e k ys hn=> ?_,λ n n' e k ys e' k' pV hn mw hb=> ?_,λ n e k ys o hn=>hi.dT _ _ _ _ o (gz hn),hi.fix,hi.bc,
   ⟨λ n a hn=>hi.ow.tree _ a (iI hn),λ n a hn=>hi.ow.cell _ a (iI hn),λ n a hn=>hi.ow.iy _ a (iI hn),λ n a hn b o v hv m e k xs hm=>hi.ow.live _ a (iI hn) b o v hv _ _ _ _ (gz hm),
    λ n m a c hn hm b o o' v v' hv qX=>inj _ _ (hi.ow.sep _ _ a c (iI hn) (iI hm) b o o' v v' hv qX),λ n a hn=>hi.ow.deep _ a (iI hn)⟩,⟨λ n g hn=> ?_,λ n m g g' hn hm hb=>inj _ _ (hi.gh.sep _ _ _ _ (mZ hn) (mZ hm) hb)⟩⟩
  rotate_right
  ·have q:=hi.gh.ok _ _ (mZ hn);cases g with
   |it a b=>exact q
   |mp es=>
    obtain⟨en,c,q1,q2,q3⟩:=q;refine⟨en,c,q1,by simpa using q2,λ i k v hx=> ?_⟩;obtain⟨e,q4,q5,q6⟩:=q3 i (k.bO s) (v.bO s) (by rw[getElem?_map,hx];rfl);have hbo:=hsO _ (mem_of_getElem? hn);have afI:=List.all_eq_true.1 (show es.all (λ p=>p.1.inScope O1.length&&p.2.inScope O1.length)=true from hbo) (k,v) (mem_of_getElem? hx);simp only[and_eq_true]at afI;exact⟨e,q4,un q5 afI.1,un q6 afI.2⟩
  ·obtain⟨c,⟨j5,q1,dn⟩,q2,q3,q4,q5,q6⟩:=hi.obj _ _ _ _ (gz hn);refine⟨c,⟨j5,q1,dn⟩,q2,by simpa using q3,q4,q5,λ i x hx=> ?_⟩;have jj:(ys.map (AV.bO s))[i]? =some (x.bO s):=by rw[getElem?_map,hx];rfl
   obtain⟨r1,r2⟩:=q6 i _ jj;rw[du,length_map]at r1;refine⟨r1,λ j a ha=> ?_⟩;obtain⟨y,hy,ho,lI⟩:=r2 j (a.bO s) (by rw[du,getElem?_map,ha];rfl);have hbo:=hsO _ (mem_of_getElem? hn);exact⟨y,hy,ho,un lI (b7 (bP hbo x (mem_of_getElem? hx)) a (mem_of_getElem? ha))⟩
  ·exact inj _ _ (hi.sep _ _ _ _ _ _ _ _ (gz hn) (gz mw) hb)
 have hr1:RL I L1 O1 args vs:=by
  refine⟨by simpa using hr.1,λ i a x ha hx=>un (hr.2 i _ x (by rw[getElem?_map,ha];rfl) hx) (hsc a (mem_of_getElem? ha))⟩
 refine(h.2 I L1 w vs hi1 hr1).mono ?_;rintro e w' ⟨y,I',L1',rfl,hy,iN⟩;have hlen:=iN.ext.len
 open Classical in
 let L'':Nat->Loc:=λ n=>if hx:∃i,i<lv.length/\s i=n then L1' hx.choose else L n
 have qZ:∀i,i<lv.length->L'' (s i)=L1' i:=by
  intro i hi;have hx:∃j,j<lv.length/\s j=s i:=⟨i,hi,rfl⟩
  show(if hx:∃j,j<lv.length/\s j=s i then L1' hx.choose else L (s i))=_;rw[dif_pos hx];rw[inj _ _ hx.choose_spec.2]
 have pB:∀n,(∀i,i<lv.length->s i≠n)->L'' n=L n:=by
  intro n hn;exact dif_neg (by rintro⟨i,hi,he⟩;exact hn i hi he)
 have hsl:∀i,i<lv.length->s i<pC.length:=by
  intro i hi;by_cases hm:i<O1.length
  ·have:=hs i hm;omega
  ·have:=fw i (by omega);omega
 have cls:∀n e k xs,pC[n]? =some (.live e k xs)->(∃i ys,i<lv.length/\s i=n/\lv[i]? =some (.live e k ys)/\xs=ys.map (AV.bO s))∨(n<O.length/\(∀i,i<lv.length->s i≠n)/\O[n]? =some (.live e k xs)):=by
  intro n e k xs hn;by_cases hx:∃i,i<lv.length/\s i=n
  ·obtain⟨i,hi,rfl⟩:=hx;rw[h1 i hi,map_eq_some_iff]at hn;obtain⟨ob,q1,q2⟩:=hn;cases ob with
   |dead=>cases q2
   |own a=>cases q2
   |cN g=>cases q2
   |nil=>cases q2
   |live e' k' ys=>cases q2;exact .inl ⟨i,ys,hi,rfl,q1,rfl⟩
  ·have cd:∀i,i<lv.length->s i≠n:=λ i hi he=>hx ⟨i,hi,he⟩
   have au:n<O.length:=by
    have:=(List.getElem?_eq_some_iff.1 hn).1;rcases lt_or_ge n O.length with h'|h'
    ·exact h'
    ·exact absurd (fw (O1.length+(n- O.length)) (by omega)) (λ he=>cd (O1.length+(n- O.length)) (by omega) (by omega))
   rw[h2 n au (λ i hi=>cd i (by omega))]at hn;exact .inr ⟨au,cd,hn⟩
 have lb1:∀{b},LB L1 O1 b->LB L O b:=by
  rintro b (⟨n,e,k,ys,hn,hb⟩|⟨n,a,o,v,hn,hb⟩|⟨n,g,hn,hb⟩)
  ·exact .inl ⟨s n,e,k,_,gz hn,hb⟩
  ·exact .inr (.inl ⟨s n,a,o,v,iI hn,hb⟩)
  ·exact .inr (.inr ⟨s n,_,mZ hn,hb⟩)
 have mM:∀{n e k xs},O[n]? =some (.live e k xs)->(∀i,i<lv.length->s i≠n)->¬LB L1 O1 (L n).bc/\(L n).bc<w.heap.size:=by
  intro n e k xs hn cd;refine⟨?_,?_⟩
  ·rintro(⟨i,e',k',ys,ej,hb⟩|⟨i,a,o,v,ej,hb⟩|⟨i,g,ej,hb⟩)
   ·have:=hi.sep _ _ _ _ _ _ _ _ (gz ej) hn hb;exact cd i (by have:=(List.getElem?_eq_some_iff.1 ej).1;omega) this
   ·exact hi.ow.live _ a (iI ej) _ o v hb _ _ _ _ hn rfl
   ·obtain⟨c,⟨j5,q1,dn⟩,_⟩:=hi.obj n e k xs hn;have hq:=(hi.gh.ok _ _ (mZ ej)).no.2 c e j5;exact hq (by rw[show(L (s i)).bc=(L n).bc from hb];exact q1)
  ·obtain⟨c,⟨j5,q1,dn⟩,_⟩:=hi.obj n e k xs hn;exact(Array.getElem?_eq_some_iff.1 q1).1
 have ahT:∀{n:Nat} {a:AV} {b o:Nat} {v:Value},O[n]? =some (.own a)->(∀i,i<lv.length->s i≠n)->(L n).mem b o=some v->¬LB L1 O1 b/\b<w.heap.size:=by
  intro n a b o v hn cd hv;refine⟨?_,gm (hi.ow.cell n a hn b o v hv)⟩;rintro(⟨i,e',k',ys,ej,hb⟩|⟨i,c,o',v',ej,hb⟩|⟨i,g,ej,hb⟩)
  ·exact hi.ow.live n a hn b o v hv _ _ _ _ (gz ej) hb
  ·have:=hi.ow.sep _ _ c a (iI ej) hn b o' o v' v hb hv;exact cd i (by have:=(List.getElem?_eq_some_iff.1 ej).1;omega) this
  ·have hq:=(hi.gh.ok _ _ (mZ ej)).no.cell (o:=o);rw[show(L (s i)).bc=b from hb,hi.ow.cell n a hn b o v hv]at hq;cases hq
 have acE:∀{n:Nat} {g:fT},O[n]? =some (.cN g)->(∀i,i<lv.length->s i≠n)->¬LB L1 O1 (L n).bc/\(L n).bc<w.heap.size:=by
  intro n g hn cd;have hq:=(hi.gh.ok _ _ hn).no;refine⟨?_,hq.1⟩;rintro(⟨i,e',k',ys,ej,hb⟩|⟨i,c,o',v',ej,hb⟩|⟨i,g',ej,hb⟩)
  ·obtain⟨c,⟨j5,q1,dn⟩,_⟩:=hi.obj _ _ _ _ (gz ej);exact hq.2 c e' j5 (by rw[←show(L (s i)).bc=(L n).bc from hb];exact q1)
  ·have h0:=hq.cell (o:=o');rw[hi.ow.cell _ c (iI ej) _ o' v' hb]at h0;cases h0
  ·have:=hi.gh.sep _ _ _ _ (mZ ej) hn hb;exact cd i (by have:=(List.getElem?_eq_some_iff.1 ej).1;omega) this
 have abM:∀(n:Nat) (a:AV),pC[n]? =some (.own a)->(∃i,i<lv.length/\s i=n/\lv[i]? =some (.own a))∨(n<O.length/\(∀i,i<lv.length->s i≠n)/\O[n]? =some (.own a)):=by
  intro n a hn;by_cases hx:∃i,i<lv.length/\s i=n
  ·obtain⟨i,hi,rfl⟩:=hx;rw[h1 i hi,map_eq_some_iff]at hn;obtain⟨ob,q1,q2⟩:=hn;cases ob with
   |dead=>cases q2
   |live=>cases q2
   |nil=>cases q2
   |cN g=>cases q2
   |own c=>cases q2;exact .inl ⟨i,hi,rfl,q1⟩
  ·have cd:∀i,i<lv.length->s i≠n:=λ i hi he=>hx ⟨i,hi,he⟩
   have au:n<O.length:=by
    have:=(List.getElem?_eq_some_iff.1 hn).1;rcases lt_or_ge n O.length with h'|h'
    ·exact h'
    ·exact absurd (fw (O1.length+(n- O.length)) (by omega)) (λ he=>cd (O1.length+(n- O.length)) (by omega) (by omega))
   rw[h2 n au (λ i hi=>cd i (by omega))]at hn;exact .inr ⟨au,cd,hn⟩
 have amr:∀(n:Nat) (g:fT),pC[n]? =some (.cN g)->(∃i g',i<lv.length/\s i=n/\lv[i]? =some (.cN g')/\g=g'.bO s)∨(n<O.length/\(∀i,i<lv.length->s i≠n)/\O[n]? =some (.cN g)):=by
  intro n a hn;by_cases hx:∃i,i<lv.length/\s i=n
  ·obtain⟨i,hi,rfl⟩:=hx;rw[h1 i hi,map_eq_some_iff]at hn;obtain⟨ob,q1,q2⟩:=hn;cases ob with
   |dead=>cases q2
   |live=>cases q2
   |nil=>cases q2
   |own c=>cases q2
   |cN g=>cases q2;exact .inl ⟨i,g,hi,rfl,q1,rfl⟩
  ·have cd:∀i,i<lv.length->s i≠n:=λ i hi he=>hx ⟨i,hi,he⟩
   have au:n<O.length:=by
    have:=(List.getElem?_eq_some_iff.1 hn).1;rcases lt_or_ge n O.length with h'|h'
    ·exact h'
    ·exact absurd (fw (O1.length+(n- O.length)) (by omega)) (λ he=>cd (O1.length+(n- O.length)) (by omega) (by omega))
   rw[h2 n au (λ i hi=>cd i (by omega))]at hn;exact .inr ⟨au,cd,hn⟩
 have ext:Ext I L O I' L'' pC:=by
  refine⟨iN.ext.iy,by omega,λ n hn e k xs hx=> ?_,λ n hn e k hx=> ?_,λ n hn a hx=> ?_,λ n hn g hx=> ?_⟩
  rotate_right
  ·rcases amr n g hx with⟨i,g',ej,rfl,q1,rfl⟩|⟨au,cd,q1⟩
   ·have him:i<O1.length:=by
      rcases lt_or_ge i O1.length with h'|h'
      ·exact h'
      ·have:=fw i h';omega
    obtain⟨⟨b,hb,hk⟩,hv⟩:=iN.ext.cN i him g' q1;exact⟨⟨_,mZ hb,by rw[fT.wW,fT.wW];exact hk⟩,by rw[qZ i ej];exact hv⟩
   ·exact⟨⟨g,q1,rfl⟩,by rw[pB n cd]⟩
  rotate_left 2
  ·rcases abM n a hx with⟨i,ej,rfl,q1⟩|⟨au,cd,q1⟩
   ·have him:i<O1.length:=by
      rcases lt_or_ge i O1.length with h'|h'
      ·exact h'
      ·have:=fw i h';omega
    obtain⟨⟨b,hb⟩,hv⟩:=iN.ext.own i him a q1;exact⟨⟨b,iI hb⟩,by rw[qZ i ej];exact hv⟩
   ·exact⟨⟨a,q1⟩,by rw[pB n cd]⟩
  rotate_left
  ·by_cases hex:∃i,i<lv.length/\s i=n
   ·obtain⟨i,ej,rfl⟩:=hex;rw[h1 i ej,map_eq_some_iff]at hx;obtain⟨ob,q1,q2⟩:=hx;cases ob with
    |dead=>cases q2
    |own a=>cases q2
    |cN g=>cases q2
    |live=>cases q2
    |nil=>
     cases q2
     have him:i<O1.length:=by
      rcases lt_or_ge i O1.length with h'|h'
      ·exact h'
      ·have:=fw i h';omega
     rw[hg i him,iN.ext.nil i him e k q1];rfl
   ·rwa [h2 n hn (λ i ej he=>hex ⟨i,by omega,he⟩)]at hx
  rcases cls n e k xs hx with⟨i,ys,ej,rfl,q1,rfl⟩|⟨au,cd,q1⟩
  ·have him:i<O1.length:=by
     rcases lt_or_ge i O1.length with h'|h'
     ·exact h'
     ·have:=fw i h';omega
   rcases iN.ext.obj i him e k ys q1 with⟨zs,z1,z2,z3⟩|⟨z1,z2⟩
   ·refine .inl ⟨_,gz z1,by simpa using z2,λ he=> ?_⟩;rw[qZ i ej,z3 (by simpa using he)]
   ·exact .inr ⟨by rw[hg i him,z1];rfl,by simpa using z2⟩
  ·exact .inl ⟨xs,q1,le_refl _,λ _=>pB n cd⟩
 have fwd:∀{a:AV} {x:Value},R I' L1' lv a x->R I' L'' pC (a.bO s) x:=λ hr=>hr.bO hsl h1 qZ
 have how:Own I' L'' pC w':=by
  have axk:∀{n:Nat} {a:AV},O[n]? =some (.own a)->(∀i,i<lv.length->s i≠n)->∀{b o v},(L n).mem b o=some v->∀o',I' b o'=none:=by
   intro n a hn cd b o v hv o';obtain⟨o1,o2⟩:=ahT hn cd hv;cases hx:I' b o' with
   |none=>rfl
   |some u=>
    rcases iN.iM _ _ _ hx with h'|h'|h'
    ·rw[hi.ow.iy _ _ hn b o v hv]at h';cases h'
    ·exact(o1 h').elim
    ·omega
  refine⟨λ n a hn=> ?_,λ n a hn b o v hv=> ?_,λ n a hn b o v hv o'=> ?_,λ n a hn b o v hv m e k xs hm hb=> ?_,λ n m a c hn hm b o o' v v' hv qX=> ?_,λ n a hn=> ?_⟩
  ·rcases abM n a hn with⟨i,ej,rfl,q1⟩|⟨au,cd,q1⟩
   ·rw[qZ i ej];exact iN.inv.ow.tree _ _ q1
   ·rw[pB n cd];exact hi.ow.tree _ _ q1
  ·rcases abM n a hn with⟨i,ej,rfl,q1⟩|⟨au,cd,q1⟩
   ·rw[qZ i ej]at hv;exact iN.inv.ow.cell _ _ q1 b o v hv
   ·rw[pB n cd]at hv;obtain⟨o1,o2⟩:=ahT q1 cd hv;rw[←hi.ow.cell _ _ q1 b o v hv];exact World.cell?_of_block (a:=⟨b,o,none⟩) (iN.mE.block _ o2 o1)
  ·rcases abM n a hn with⟨i,ej,rfl,q1⟩|⟨au,cd,q1⟩
   ·rw[qZ i ej]at hv;exact iN.inv.ow.iy _ _ q1 b o v hv o'
   ·rw[pB n cd]at hv;exact axk q1 cd hv o'
  ·rcases abM n a hn with⟨i,ej,rfl,q1⟩|⟨au,cd,q1⟩<;>rcases cls m e k xs hm with⟨i',pV,xZ,rfl,vl,rfl⟩|⟨gV,qM,vl⟩
   ·rw[qZ i' xZ]at hb;rw[qZ i ej]at hv;exact iN.inv.ow.live _ _ q1 b o v hv _ _ _ _ vl hb
   ·rw[pB m qM]at hb;rw[qZ i ej]at hv;obtain⟨o1,o2⟩:=mM vl qM;rw[hb]at o1 o2;rcases iN.lb b (.inr (.inl ⟨i,a,o,v,q1,hv⟩))with h'|h'
    ·exact o1 h'
    ·omega
   ·rw[qZ i' xZ]at hb;rw[pB n cd]at hv;obtain⟨o1,o2⟩:=ahT q1 cd hv;rcases iN.lb b (.inl ⟨i',_,_,_,vl,hb⟩)with h'|h'
    ·exact o1 h'
    ·omega
   ·rw[pB m qM]at hb;rw[pB n cd]at hv;exact hi.ow.live _ _ q1 b o v hv _ _ _ _ vl hb
  ·rcases abM n a hn with⟨i,ej,rfl,q1⟩|⟨au,cd,q1⟩<;>rcases abM m c hm with⟨i',xZ,rfl,vl⟩|⟨gV,qM,vl⟩
   ·rw[qZ i ej]at hv;rw[qZ i' xZ]at qX;rw[iN.inv.ow.sep _ _ _ _ q1 vl b o o' v v' hv qX]
   ·rw[qZ i ej]at hv;rw[pB m qM]at qX;obtain⟨o1,o2⟩:=ahT vl qM qX;rcases iN.lb b (.inr (.inl ⟨i,a,o,v,q1,hv⟩))with h'|h'
    ·exact(o1 h').elim
    ·omega
   ·rw[pB n cd]at hv;rw[qZ i' xZ]at qX;obtain⟨o1,o2⟩:=ahT q1 cd hv;rcases iN.lb b (.inr (.inl ⟨i',c,o',v',vl,qX⟩))with h'|h'
    ·exact(o1 h').elim
    ·omega
   ·rw[pB n cd]at hv;rw[pB m qM]at qX;exact hi.ow.sep _ _ _ _ q1 vl b o o' v v' hv qX
  ·rcases abM n a hn with⟨i,ej,rfl,q1⟩|⟨au,cd,q1⟩
   ·rw[qZ i ej];exact iN.inv.ow.deep _ _ q1
   ·rw[pB n cd];obtain⟨S,p1,p2⟩:=hi.ow.deep _ _ q1;refine⟨S,p1.congr λ b hb=> ?_,p2⟩;obtain⟨o,v,hv⟩:=(p2 b).1 hb;obtain⟨o1,o2⟩:=ahT q1 cd hv;exact iN.mE.block _ o2 o1
 have hgh:Gh I' L'' pC w':=by
  refine⟨λ n g hn=> ?_,λ n m g g' hn hm hb=> ?_⟩
  ·rcases amr n g hn with⟨i,g0,ej,rfl,q1,rfl⟩|⟨au,cd,q1⟩
   ·have q:=iN.inv.gh.ok _ _ q1;rw[qZ i ej];cases g0 with
    |it a b=>exact q
    |mp es=>
     obtain⟨en,c,p1,p2,p3⟩:=q;refine⟨en,c,p1,by simpa using p2,λ j k v hx=> ?_⟩;rw[getElem?_map,map_eq_some_iff]at hx;obtain⟨z,hz,hze⟩:=hx;cases hze;obtain⟨e,p4,p5,p6⟩:=p3 j z.1 z.2 hz;exact⟨e,p4,fwd p5,fwd p6⟩
   ·obtain⟨o1,o2⟩:=acE q1 cd;rw[pB n cd];exact(hi.gh.ok _ _ q1).mono rfl (λ _ _ hr=>hr.mono ext) (iN.mE.block _ o2 o1)
  ·rcases amr n g hn with⟨i,g0,ej,rfl,q1,rfl⟩|⟨au,cd,q1⟩<;>rcases amr m g' hm with⟨i',g0',xZ,rfl,vl,rfl⟩|⟨gV,qM,vl⟩
   ·rw[qZ i ej,qZ i' xZ]at hb;rw[iN.inv.gh.sep _ _ _ _ q1 vl hb]
   ·rw[qZ i ej,pB m qM]at hb;obtain⟨o1,o2⟩:=acE vl qM;rcases iN.lb _ (.inr (.inr ⟨i,_,q1,hb⟩))with h'|h'
    ·exact(o1 h').elim
    ·omega
   ·rw[qZ i' xZ,pB n cd]at hb;obtain⟨o1,o2⟩:=acE q1 cd;rcases iN.lb _ (.inr (.inr ⟨i',_,vl,hb.symm⟩))with h'|h'
    ·exact(o1 h').elim
    ·omega
   ·rw[pB n cd,pB m qM]at hb;exact hi.gh.sep _ _ _ _ q1 vl hb
 refine⟨y,I',L'',rfl,fwd hy,⟨⟨iN.inv.iy,λ n e k xs hn=> ?_,λ n n' e k xs e' k' hZ hn mw hb=> ?_,λ n e k xs o hn=> ?_,iN.inv.fix,iN.inv.bc,how,hgh⟩,ext,⟨iN.mE.os,iN.mE.tape,iN.mE.output,iN.mE.size,λ b hb cd=>iN.mE.block b hb λ hc=>cd (lb1 hc)⟩,?_,λ b o x hx=> ?_⟩⟩
 ·rcases cls n e k xs hn with⟨i,ys,ej,rfl,q1,rfl⟩|⟨au,cd,q1⟩
  ·obtain⟨c,⟨j5,q1,dn⟩,q2,q3,q4,q5,q6⟩:=iN.inv.obj _ _ _ _ q1;rw[qZ i ej];refine⟨c,⟨j5,q1,dn⟩,q2,by simpa using q3,q4,q5,λ j x hx=> ?_⟩;obtain⟨z,hz,rfl⟩:=gI hx;rw[du];refine⟨by rw[length_map];exact(q6 j z hz).1,λ l a ha=> ?_⟩;obtain⟨b,hb,rfl⟩:=gI ha;obtain⟨v,hv,ho,lI⟩:=(q6 j z hz).2 l b hb;exact⟨v,hv,ho,fwd lI⟩
  ·obtain⟨o1,o2⟩:=mM q1 cd;rw[pB n cd];obtain⟨c,⟨j5,q1,dn⟩,q2,q3,q4,q5,q6⟩:=hi.obj _ _ _ _ q1;refine⟨c,⟨j5,by rw[iN.mE.block _ o2 o1];exact q1,dn⟩,q2,q3,q4,q5,λ j x hx=>⟨(q6 j x hx).1,λ l a ha=> ?_⟩⟩;obtain⟨v,hv,ho,lI⟩:=(q6 j x hx).2 l a ha;exact⟨v,hv,ho,lI.mono ext⟩
 ·rcases cls n e k xs hn with⟨i,ys,ej,rfl,q1,rfl⟩|⟨au,cd,q1⟩<;>rcases cls n' e' k' hZ mw with⟨i',pV,xZ,rfl,vl,rfl⟩|⟨gV,qM,vl⟩
  ·rw[qZ i ej,qZ i' xZ]at hb;rw[iN.inv.sep _ _ _ _ _ _ _ _ q1 vl hb]
  ·rw[qZ i ej,pB n' qM]at hb;obtain⟨o1,o2⟩:=mM vl qM;rcases iN.lb _ (.inl ⟨i,_,_,_,q1,hb⟩)with h'|h'
   ·exact(o1 h').elim
   ·omega
  ·rw[qZ i' xZ,pB n cd]at hb;obtain⟨o1,o2⟩:=mM q1 cd;rcases iN.lb _ (.inl ⟨i',_,_,_,vl,hb.symm⟩)with h'|h'
   ·exact(o1 h').elim
   ·omega
  ·rw[pB n cd,pB n' qM]at hb;exact hi.sep _ _ _ _ _ _ _ _ q1 vl hb
 ·rcases cls n e k xs hn with⟨i,ys,ej,rfl,q1,rfl⟩|⟨au,cd,q1⟩
  ·rw[qZ i ej];exact iN.inv.dT _ _ _ _ o q1
  ·rw[pB n cd];obtain⟨o1,o2⟩:=mM q1 cd;cases hx:I' (L n).bc o with
   |none=>rfl
   |some x=>
    rcases iN.iM _ _ _ hx with h'|h'|h'
    ·rw[hi.dT _ _ _ _ o q1]at h';cases h'
    ·exact(o1 h').elim
    ·omega
 ·rintro b (⟨n,e,k,xs,hn,hb⟩|⟨n,a,o,v,hn,hb⟩|⟨n,g,hn,hb⟩)
  rotate_right
  ·rcases amr n g hn with⟨i,g',ej,rfl,q1,rfl⟩|⟨au,cd,q1⟩
   ·rw[qZ i ej]at hb;rcases iN.lb b (.inr (.inr ⟨i,_,q1,hb⟩))with h'|h'
    ·exact .inl (lb1 h')
    ·exact .inr h'
   ·rw[pB n cd]at hb;exact .inl (.inr (.inr ⟨n,_,q1,hb⟩))
  ·rcases cls n e k xs hn with⟨i,ys,ej,rfl,q1,rfl⟩|⟨au,cd,q1⟩
   ·rw[qZ i ej]at hb;rcases iN.lb b (.inl ⟨i,_,_,_,q1,hb⟩)with h'|h'
    ·exact .inl (lb1 h')
    ·exact .inr h'
   ·rw[pB n cd]at hb;exact .inl (.inl ⟨n,_,_,_,q1,hb⟩)
  ·rcases abM n a hn with⟨i,ej,rfl,q1⟩|⟨au,cd,q1⟩
   ·rw[qZ i ej]at hb;rcases iN.lb b (.inr (.inl ⟨i,a,o,v,q1,hb⟩))with h'|h'
    ·exact .inl (lb1 h')
    ·exact .inr h'
   ·rw[pB n cd]at hb;exact .inl (.inr (.inl ⟨n,a,o,v,q1,hb⟩))
 ·rcases iN.iM b o x hx with h'|h'|h'
  ·exact .inl h'
  ·exact .inr (.inl (lb1 h'))
  ·exact .inr (.inr h')
theorem js.fresh{P:Program}{f:FuncId}{args:List AV}{res:AV}{lv:List ae}(h:js P f args [] res lv)(hn:AV.ad args=true)(O:List ae):
  js P f args O (res.bO λ n=>O.length+n) (O++lv.map (ae.bO λ n=>O.length+n)):=by
 have:=h.frame (O:=O) (pC:=O++lv.map (ae.bO λ n=>O.length+n)) (λ n=>O.length+n) (by simp) (by simp) (by simp) (by simp) (λ a ha=>bF a (a8 hn a ha)) (by simp) (by simp)
  (λ i hi=>by rw[getElem?_append_right (by omega),getElem?_map,show O.length+i- O.length=i by omega]) (λ n hn _=>by rw[getElem?_append_left hn])
 rwa [←ec,dG args hn]at this
theorem agy{n:Nat}{s:Nat->Nat}(h:s 0=n){a:AV}(ha:a.one=true):a.bO s=a.bO λ _=>n:=by
 cases a<;>simp only[AV.one]at ha
 case row m l=>have:m=0:=by simpa using ha
               subst this;simp only[AV.bO,h]
 case ptr m l i f=>have:m=0:=by simpa using ha
                   subst this;simp only[AV.bO,h]
 case own m=>have:m=0:=by simpa using ha
             subst this;simp only[AV.bO,h]
 all_goals rw[cO _ ha,cO _ ha]
theorem ae6{a:AV}(ha:a.one=true):a.inScope 1=true:=by
 cases a<;>simp only[AV.one]at ha
 case row m l=>have:m=0:=by simpa using ha
               subst this;rfl
 case ptr m l i f=>have:m=0:=by simpa using ha
                   subst this;rfl
 case own m=>have:m=0:=by simpa using ha
             subst this;rfl
 all_goals exact bF _ ha
theorem b9{s:Nat->Nat}{ob:ae}(h:ob.ad=true):ob.bO s=ob:=by
 cases ob<;>try rfl
 ·simp only[ae.ad]at h;simp only[ae.bO];rw[←ec,dG _ h]
 ·rename_i g;cases g with
  |it a b=>rfl
  |mp es=>
   simp only[ae.ad,all_eq_true,and_eq_true]at h;simp only[ae.bO,fT.bO]
   have:(es.map λ p=>(p.1.bO s,p.2.bO s))=es.map id:=map_congr_left λ p hp=>by
    obtain⟨a,b⟩:=p;have:=h _ hp;rw[cO _ this.1,cO _ this.2];rfl
   rw[this,List.map_id]
theorem bf{k:Nat}{ob:ae}(h:ob.ad=true):ob.inScope k=true:=by
 cases ob<;>try rfl
 ·exact ca _ h
 ·rename_i g;cases g with
  |it a b=>rfl
  |mp es=>
   simp only[ae.ad,all_eq_true,and_eq_true]at h;simp only[ae.inScope,all_eq_true,and_eq_true];exact λ p hp=>⟨bF _ (h p hp).1,bF _ (h p hp).2⟩
theorem js.an4{P:Program}{f:FuncId}{a0:List AV}{res:AV}{ob ob':ae}(h:js P f a0 [ob] res [ob'])(ha:a0.all AV.one=true)(hx:ob.ad=true)(hy:ob'.ad=true)(hr:res.ag=true)
  {O:List ae} (k:Nat) (hk:O[k]? =some ob):js P f (a0.map (AV.bO λ _=>k)) O res (O.set k ob'):=by
 have au:k<O.length:=(List.getElem?_eq_some_iff.1 hk).1
 have:=h.frame (O:=O) (pC:=O.set k ob') (λ n=>if n=0 then k else O.length+(n- 1))
  (by intro i hi;simp at hi;subst hi;simpa using au) (by intro i hi;simp at hi;subst hi;simp[hk,b9 hx]) (by intro i j hi hj _;simp at hi hj;omega)
  (by intro i hi;simp at hi;simp;omega) (λ a h'=>ae6 (List.all_eq_true.1 ha a h')) (by intro b ho;simp at ho;subst ho;exact bf hx) (by simp)
  (by intro i hi;simp at hi;subst hi;simp[au,b9 hy]) (by intro n hn cd;have:=cd 0 (by simp);simp at this;rw[getElem?_set_ne this])
 rw[cO _ hr]at this;have he:a0.map (AV.bO λ n=>if n=0 then k else O.length+(n- 1))=a0.map (AV.bO λ _=>k):=map_congr_left λ a h'=>agy (by simp) (List.all_eq_true.1 ha a h')
 rwa [he]at this
mutual
theorem nA{k:Nat}:∀(x:AV),(∀c∈x.cells,c.inScope k=true)->x.inScope k=true
 | .agg cs,h=>by simp only[AV.inScope];exact mH cs h
 | .top,_| .v _,_| .aQ,_| .oF,_=>rfl
 | .sl xs,h=>h (.sl xs) (by simp[AV.cells])
 | .bW x f,h=>h (.bW x f) (by simp[AV.cells])
 | .row n l,h=>h (.row n l) (by simp[AV.cells])
 | .ptr n l i f,h=>h (.ptr n l i f) (by simp[AV.cells])
 | .fn f cs,h=>h (.fn f cs) (by simp[AV.cells])
 | .aK vs,h=>h (.aK vs) (by simp[AV.cells])
 | .own x,h=>h (.own x) (by simp[AV.cells])
theorem mH{k:Nat}:∀(xs:List AV),(∀c∈xs,c.inScope k=true)->AV.cA k xs=true
 | [],_=>rfl
 |x::xs,h=>by simp only[AV.cA,h x (by simp),mH xs λ c hc=>h c (by simp[hc])];rfl
end
theorem R.inScope{I:da}{L:Nat->Loc}{O:List ae}{a:AV}{x:Value}(hr:R I L O a x):a.inScope O.length=true:=by
 have ix:∀{xs:List AV} {vs:Array Value},xs.length=vs.size->(∀(i:Nat) c x,xs[i]? =some c->vs[i]? =some x->c.inScope O.length=true)->AV.cA O.length xs=true:=by
  intro xs vs hl h;refine mH xs λ c hc=> ?_
  obtain⟨i,hi⟩:=getElem?_of_mem hc;have au:=(List.getElem?_eq_some_iff.1 hi).1;exact h i c _ hi (by rw[Array.getElem?_eq_getElem (show i<vs.size by omega)])
 induction hr with
 |top x=>rfl
 |v x _=>rfl
 |aQ=>rfl
 |oF=>rfl
 |me a cap=>rfl
 |sl xs bc off cap s bB h1 h2 h3 h4 _ ih=>
  refine mH xs λ x hx=>nA x λ c hc=> ?_
  obtain⟨i,hi⟩:=getElem?_of_mem hx;obtain⟨j,hj⟩:=getElem?_of_mem hc;exact ih i x j c hi hj
 |bW x f bc base bB h1 _ ih=>
  refine nA x λ c hc=> ?_
  obtain⟨j,hj⟩:=getElem?_of_mem hc;exact ih j c hj
 |bV n len e s xs hn hl=>exact decide_eq_true (List.getElem?_eq_some_iff.1 hn).1
 |eb n e s hn=>exact decide_eq_true (List.getElem?_eq_some_iff.1 hn).1
 |dN n len x hn=>exact decide_eq_true hn
 |di n len i f e s xs hn hl=>exact decide_eq_true (List.getElem?_eq_some_iff.1 hn).1
 |fa n len i f x hn=>exact decide_eq_true hn
 |fn f aX vs h1 _ ih=>exact ix h1 ih
 |agg cs vs h1 _ ih=>exact ix h1 ih
 |aK cs vs h1 _ ih=>exact ix h1 ih
 |eL n a hn=>exact decide_eq_true (List.getElem?_eq_some_iff.1 hn).1
 |fD n a hn=>exact decide_eq_true (List.getElem?_eq_some_iff.1 hn).1
 |dO n x hn=>exact decide_eq_true hn
section
variable {I I':da} {L L':Nat->Loc} {O:List ae} {w w':World} {t s k:Nat} {xs:List AV}
def ke(L:Nat->Loc)(k N:Nat):Nat->Loc:=λ n=>if n=k then L N else L n
theorem R.move(hk:O[k]? =some (.nil t s))(cr:xs≠[]){a:AV}{x:Value}(hr:R I' L' (O++ [.live t s xs]) a x)(h:a.inScope O.length=true):R I' (ke L' k O.length) (O.set k (.live t s xs)) a x:=by
 have hkl:=(List.getElem?_eq_some_iff.1 hk).1;have mM:∀{n:Nat},n<O.length->(O++ [ae.live t s xs])[n]? =O[n]? :=λ {n} hn=>getElem?_append_left hn
 have zF:∀{n:Nat},n≠k->(O.set k (.live t s xs))[n]? =O[n]? :=λ {n} hn=>getElem?_set_ne (λ he=>hn he.symm)
 have self:(O.set k (.live t s xs))[k]? =some (.live t s xs):=getElem?_set_self hkl;have hL:∀{n:Nat},n≠k->ke L' k O.length n=L' n:=λ {n} hn=>if_neg hn
 induction hr with
 |top x=>exact .top x
 |v x hx=>exact .v x hx
 |aQ=>exact .aQ
 |oF t x=>exact .oF t x
 |me a cap=>exact .me a cap
 |sl xs bc off cap s bB h1 h2 h3 h4 _ ih=>
  refine .sl xs bc off cap s bB h1 h2 h3 h4 λ i x j c hi hj=>ih i x j c hi hj ?_
  exact b7 (bP (by simpa [AV.inScope]using h) x (mem_of_getElem? hi)) c (mem_of_getElem? hj)
 |bW x f bc base bB h1 _ ih=>
  refine .bW x f bc base bB h1 λ j c hj=>ih j c hj ?_
  exact b7 (by simpa [AV.inScope]using h) c (mem_of_getElem? hj)
 |bV n len e s' ys hn hl=>
  have au:n<O.length:=by simpa [AV.inScope]using h
  rw[mM au]at hn;have cr:n≠k:=by rintro rfl;rw[hk]at hn;cases hn
  rw[←hL cr];exact .bV n len e s' ys (by rw[zF cr];exact hn) hl
 |eb n e s' hn=>
  have au:n<O.length:=by simpa [AV.inScope]using h
  rw[mM au]at hn;by_cases pb:n=k
  ·subst pb;exact .dN n 0 _ (by simpa using au) (λ e s he=>by rw[self]at he;cases he) (λ e s ys hy=>by rw[self]at hy;cases hy;exact List.length_pos_iff.2 cr) rfl
  ·exact .eb n e s' (by rw[zF pb];exact hn)
 |dN n len x gV vW hs hx=>
  have au:n<O.length:=by simpa [AV.inScope]using h
  have pb:n≠k:=by rintro rfl;exact vW t s (by rw[mM au];exact hk)
  exact .dN n len x (by simpa using au) (λ e s' he=>vW e s' (by rw[mM au];rwa [zF pb]at he)) (λ e s' ys hy=>hs e s' ys (by rw[mM au];rwa [zF pb]at hy)) hx
 |di n len i f e s' ys hn hl=>
  have au:n<O.length:=by simpa [AV.inScope]using h
  rw[mM au]at hn;have cr:n≠k:=by rintro rfl;rw[hk]at hn;cases hn
  rw[←hL cr];exact .di n len i f e s' ys (by rw[zF cr];exact hn) hl
 |fa n len i f x gV vW hs hx=>
  have au:n<O.length:=by simpa [AV.inScope]using h
  have pb:n≠k:=by rintro rfl;exact vW t s (by rw[mM au];exact hk)
  exact .fa n len i f x (by simpa using au) (λ e s' he=>vW e s' (by rw[mM au];rwa [zF pb]at he)) (λ e s' ys hy=>hs e s' ys (by rw[mM au];rwa [zF pb]at hy)) hx
 |fn f aX vs h1 _ ih=>exact .fn f aX vs h1 λ i c x hi hx=>ih i c x hi hx (bP (by simpa [AV.inScope]using h) c (mem_of_getElem? hi))
 |agg cs vs h1 _ ih=>exact .agg cs vs h1 λ i c x hi hx=>ih i c x hi hx (bP (by simpa [AV.inScope]using h) c (mem_of_getElem? hi))
 |aK cs vs h1 _ ih=>exact .aK cs vs h1 λ i c x hi hx=>ih i c x hi hx (bP (by simpa [AV.inScope]using h) c (mem_of_getElem? hi))
 |eL n a hn h1=>
  have au:n<O.length:=by simpa [AV.inScope]using h
  rw[mM au]at hn;have cr:n≠k:=by rintro rfl;rw[hk]at hn;cases hn
  rw[←hL cr]at h1⊢;exact .eL n a (by rw[zF cr];exact hn) h1
 |fD n a hn=>
  have au:n<O.length:=by simpa [AV.inScope]using h
  rw[mM au]at hn;have cr:n≠k:=by rintro rfl;rw[hk]at hn;cases hn
  rw[←hL cr];exact .fD n a (by rw[zF cr];exact hn)
 |dO n x gV cd hng h1=>
  have au:n<O.length:=by simpa [AV.inScope]using h
  refine .dO n x (by simpa using au) (λ a ha=> ?_) (λ a ha=> ?_) h1
  ·by_cases pb:n=k
   ·subst pb;rw[self]at ha;cases ha
   ·exact cd a (by rw[mM au];rwa [zF pb]at ha)
  ·by_cases pb:n=k
   ·subst pb;rw[self]at ha;cases ha
   ·exact hng a (by rw[mM au];rwa [zF pb]at ha)
theorem Good.move(hi:Inv I L O w)(hk:O[k]? =some (.nil t s))(cr:xs≠[])(hsc:∀x∈xs,∀c∈x.cells,c.inScope O.length=true)(hg:Good I L O w I' L' (O++ [.live t s xs]) w'):
  Good I L O w I' (ke L' k O.length) (O.set k (.live t s xs)) w':=by
 have hkl:=(List.getElem?_eq_some_iff.1 hk).1;have mM:∀{n:Nat},n<O.length->(O++ [ae.live t s xs])[n]? =O[n]? :=λ {n} hn=>getElem?_append_left hn
 have zF:∀{n:Nat},n≠k->(O.set k (.live t s xs))[n]? =O[n]? :=λ {n} hn=>getElem?_set_ne (λ he=>hn he.symm)
 have self:(O.set k (.live t s xs))[k]? =some (.live t s xs):=getElem?_set_self hkl;have fw:(O++ [ae.live t s xs])[O.length]? =some (.live t s xs):=by simp
 have src:∀{n e k' ys},(O.set k (.live t s xs))[n]? =some (.live e k' ys)->∃m,(O++ [ae.live t s xs])[m]? =some (.live e k' ys)/\ke L' k O.length n=L' m/\(∀x∈ys,∀c∈x.cells,c.inScope O.length=true)/\((n=k/\m=O.length)∨(n≠k/\m=n/\n<O.length)):=by
  intro n e k' ys hn;by_cases pb:n=k
  ·subst pb;rw[self]at hn;cases hn;exact⟨O.length,fw,if_pos rfl,hsc,.inl ⟨rfl,rfl⟩⟩
  ·rw[zF pb]at hn;have au:=(List.getElem?_eq_some_iff.1 hn).1;refine⟨n,by rw[mM au];exact hn,if_neg pb,λ x hx c hc=> ?_,.inr ⟨pb,rfl,au⟩⟩;obtain⟨_,⟨j5,_,dn⟩,_,_,_,_,q⟩:=hi.obj n e k' ys hn;obtain⟨i,mD⟩:=getElem?_of_mem hx;obtain⟨j,hjc⟩:=getElem?_of_mem hc;obtain⟨_,_,_,hr⟩:=(q i x mD).2 j c hjc;exact hr.inScope
 have aqR:∀{n:Nat} {a:AV},(O.set k (.live t s xs))[n]? =some (.own a)->(O++ [ae.live t s xs])[n]? =some (.own a)/\ke L' k O.length n=L' n:=by
  intro n a hn;by_cases pb:n=k
  ·subst pb;rw[self]at hn;cases hn
  ·rw[zF pb]at hn;rw[mM (List.getElem?_eq_some_iff.1 hn).1];exact⟨hn,if_neg pb⟩
 have ajM:∀{n:Nat} {a:fT},(O.set k (.live t s xs))[n]? =some (.cN a)->(O++ [ae.live t s xs])[n]? =some (.cN a)/\ke L' k O.length n=L' n/\O[n]? =some (.cN a):=by
  intro n a hn;by_cases pb:n=k
  ·subst pb;rw[self]at hn;cases hn
  ·rw[zF pb]at hn;rw[mM (List.getElem?_eq_some_iff.1 hn).1];exact⟨hn,if_neg pb,hn⟩
 have hgh:Gh I' (ke L' k O.length) (O.set k (.live t s xs)) w':=by
  refine⟨λ n g hn=> ?_,λ n m g g' hn hm hb=> ?_⟩
  ·obtain⟨q1,q2,q3⟩:=ajM hn;have h1:=hg.inv.gh.ok n g q1;have h2:=hi.gh.ok n g q3;rw[q2];cases g with
   |it a b=>exact h1
   |mp es=>
    obtain⟨en,c,r1,r2,r3⟩:=h1;obtain⟨en0,c0,s1,s2,s3⟩:=h2;refine⟨en,c,r1,r2,λ i a v hx=> ?_⟩;obtain⟨e,r4,r5,r6⟩:=r3 i a v hx;obtain⟨e0,s4,s5,s6⟩:=s3 i a v hx;exact⟨e,r4,r5.move hk cr s5.inScope,r6.move hk cr s6.inScope⟩
  ·obtain⟨q1,q2,_⟩:=ajM hn;obtain⟨p1,p2,_⟩:=ajM hm;rw[q2,p2]at hb;exact hg.inv.gh.sep _ _ _ _ q1 p1 hb
 refine⟨⟨hg.inv.iy,λ n e k' ys hn=> ?_,λ n m e k' ys e' k'' pV hn hm hb=> ?_,λ n e k' ys o hn=> ?_,hg.inv.fix,hg.inv.bc,hg.inv.ow.same (λ n a hn=>aqR hn) (λ b o v hv=> .inl ⟨o,v,hv⟩) (λ m e k' ys hm=>by obtain⟨m1,h1,h2,_⟩:=src hm;rw[h2];exact .inl ⟨m1,_,_,_,h1,rfl⟩) rfl,hgh⟩,⟨hg.ext.iy,by simp,λ n hn e k' ys hx=> ?_,λ n hn e k' hx=> ?_,λ n hn a hx=>by obtain⟨q1,q2⟩:=aqR hx;rw[q2];exact hg.ext.own n hn a q1,λ n hn a hx=>by obtain⟨q1,q2,_⟩:=ajM hx;rw[q2];exact hg.ext.cN n hn a q1⟩,hg.mE,?_,hg.iM⟩
 ·obtain⟨m,h1,h2,h3,_⟩:=src hn;rw[h2];obtain⟨c,⟨j5,q1,dn⟩,q2,q3,q4,q5,q6⟩:=hg.inv.obj m e k' ys h1;refine⟨c,⟨j5,q1,dn⟩,q2,q3,q4,q5,λ i x hx=>⟨(q6 i x hx).1,λ j a ha=> ?_⟩⟩;obtain⟨y,hy,ho,hr⟩:=(q6 i x hx).2 j a ha;exact⟨y,hy,ho,hr.move hk cr (h3 x (mem_of_getElem? hx) a (mem_of_getElem? ha))⟩
 ·obtain⟨m1,h1,h2,_,h4⟩:=src hn;obtain⟨m2,k1,k2,_,k4⟩:=src hm;rw[h2,k2]at hb;have:=hg.inv.sep m1 m2 _ _ _ _ _ _ h1 k1 hb;rcases h4 with⟨a1,a2⟩|⟨a1,a2,a3⟩<;>rcases k4 with⟨b1,b2⟩|⟨b1,b2,b3⟩<;>omega
 ·obtain⟨m,h1,h2,_⟩:=src hn;rw[h2];exact hg.inv.dT m e k' ys o h1
 ·by_cases pb:n=k
  ·subst pb;rw[self]at hx;cases hx;exact .inr ⟨hk,cr⟩
  ·rw[zF pb]at hx;rcases hg.ext.obj n hn e k' ys (by rw[mM hn];exact hx)with⟨zs,z1,z2,z3⟩|h
   ·exact .inl ⟨zs,z1,z2,λ he=>by rw[show ke L' k O.length n=L' n from if_neg pb];exact z3 he⟩
   ·exact .inr h
 ·by_cases pb:n=k
  ·subst pb;rw[self]at hx;cases hx
  ·rwa [zF pb]at hx
 ·rintro b (⟨n,e,k',ys,hn,hb⟩|⟨n,a,o,v,hn,hb⟩|⟨n,a,hn,hb⟩)
  rotate_right
  ·obtain⟨q1,q2,_⟩:=ajM hn;rw[q2]at hb;exact hg.lb b (.inr (.inr ⟨n,a,q1,hb⟩))
  ·obtain⟨m,h1,h2,_⟩:=src hn;rw[h2]at hb;exact hg.lb b (.inl ⟨m,e,k',ys,h1,hb⟩)
  ·obtain⟨q1,q2⟩:=aqR hn;rw[q2]at hb;exact hg.lb b (.inr (.inl ⟨n,a,o,v,q1,hb⟩))
end
end Go.Ab
namespace Go.Ab
def dZ.strip:dZ->dZ
 | .lA f args=> .call f args
 | .jf x args=> .eJ x args
 | .jX f args=> .call f args
 | .ik x args=> .eJ x args
 | .kS f args=> .call f args
 | .fK _ _ _ f args=> .call f args
 | .ia _ f args=> .call f args
 | .jd _ f args=> .call f args
 | .pJ _ f args=> .call f args
 | .pK _ f args=> .call f args
 | .n8 _ f args=> .call f args
 | .gu _ t s z=> .alloc t s z
 | .lg _ t s x=> .box t s x
 | .gr _ t s l z ps=> .buildSlice t s l z ps
 | .ir t s l z ps=> .buildSlice t s l z ps
 | .cut s x l h=> .cw s x l h
 | .yU neg x=> .pu (.mT neg) [x]
 | .mkF e s b z l c=> .mk e s b z l c
 | .xr _ e s b z l c=> .mk e s b z l c
 |o=>o
section
variable {P:Program} {I:da} {L:Nat->Loc} {O:List ae} {w:World} {K:AV->List ae->Prop} {e:Env} {a:Act}
theorem fx.wp{o:Oper}(h:fx P I L O w (execOp a.eval o) K){next:Act->World->Prop}{Q:Exit->Act->World->Prop}
  (hn:∀x O' y I' L' w',K x O'->Good I L O w I' L' O' w'->R I' L' O' x y->next (a.put o.dst y) w'):o.wp P a w next Q:=by
 obtain⟨x,O',y,I',L',w',hk,hg,hr,h|⟨h,rfl⟩⟩:=h
 ·unfold Oper.wp;rw[h];exact hn _ _ _ _ _ _ hk hg hr
 ·unfold Oper.wp;rw[h];exact hn _ _ _ _ _ _ hk hg hr
theorem hT{o:Oper}{f:FuncId}{vs:Array Value}{next:Act->World->Prop}{Q:Exit->Act->World->Prop}{M:Value->World->Prop}
  (bJ:(execOp a.eval o).run P w= .ok (.enter f vs) w) (hc:Calls P f vs w λ e w'=>∃y,e= .returned y/\M y w') (hn:∀y w',M y w'->next (a.put o.dst y) w'):o.wp P a w next Q:=by
 unfold Oper.wp;rw[bJ]
 show Calls P f vs w _;refine hc.mono λ e w' ⟨y,he,hm⟩=> ?_
 subst he;exact hn y w' hm
theorem aaR{f:FuncId}(h:Enters P f)(vs:Array Value)(w:World):(callFunc f vs).run P w= .ok (.enter f vs) w:=by
 obtain⟨fn,h1,h2,h3⟩:=h;obtain⟨b,hb⟩:=Option.isSome_iff_exists.1 h2;have h4:¬fn.name= "runtime.NumGoroutine" :=by simpa using h3
 simp[callFunc,h1,h4,hb]
theorem dr{c:Call}{fv:Operand}(jk:c.callee= .value fv){f:FuncId}{aX:Array Value}(hfv:a.eval fv= .func (.func f) #[] aX)(he:Enters P f){d:Option Tmp}{ty:TypeId}{pos:String}{af:Array Edge}{g:Option (Nat×Bool)}:
  (execOp a.eval ⟨d,.call c,ty,pos,af,g⟩).run P w= .ok (.enter f (c.args.map a.eval++aX)) w:=by
 simp only[execOp,resolve,jk,hfv,Deferred.ofValue];simp[invoke,aaR he]
def dZ.y4:dZ->Bool
 | .gu _ _ _ _| .lg _ _ _ _| .gr _ _ _ _ _ _| .cut _ _ _ _| .yU _ _| .mkF _ _ _ _ _ _| .xr _ _ _ _ _ _ _=>true
 |_=>false
theorem n9{ao b:dZ}(ha:ao.y4=false)(h:b=ao.strip)(hb:b.xM=false)(hs:∀t s l z ps,b≠ .buildSlice t s l z ps):ao=b:=by
 subst h;cases ao<;>first|rfl|(simp[dZ.strip,dZ.xM]at hb;done)|(simp[dZ.y4]at ha;done)|(exact(hs _ _ _ _ _ rfl).elim)
theorem agw{d:Option Tmp}{op:Op}{ty:TypeId}{pos:String}{af:Array Edge}{g:Option (Nat×Bool)}{ao:dZ}(hc:bR P ty op=some ao)(hi:Inv I L O w)(he:∀t,R I L O (e t) (a.tmps.getD t undef))(hk:wpOp P ao e O K):
  fx P I L O w (execOp a.eval ⟨d,op,ty,pos,af,g⟩) K:=by
 cases op
 case move=>exact anJ hi he hc hk
 case assign=>exact aeQ hi he hc hk
 case pick=>exact aj4 hi he hc hk
 case alloc=>exact ahK hi hc hk
 case box=>exact anO hi he hc hk
 case build=>exact ahJ hi he hc hk
 case buildSlice=>exact wY hi he hc hk
 case load=>exact aj9 hi he hc hk
 case store=>exact ahB hi he hc hk
 case nilCheck=>exact aj6 hi he hc hk
 case binOp=>exact anP hi he hc hk
 case unOp=>exact aq0 hi he hc hk
 case convert=>exact acx hi he hc hk
 case fieldAddr=>exact ahI hi he hc hk
 case field=>exact anL hi he hc hk
 case indexAddr=>exact ahH hi he hc hk
 case index=>exact ahG hi he hc hk
 case slice=>exact ahD hi he hc hk
 case makeSlice=>exact yT hi he hc hk
 case extract=>exact anM hi he hc hk
 case makeMap=>exact ahE hi hc hk
 case lookup=>exact aj8 hi he hc hk
 case mapUpdate=>exact acw hi he hc hk
 case insert=>exact aeO hi he hc hk
 case range=>exact ahA hi he hc hk
 case next=>exact ahC hi he hc hk
 case makeFunc=>exact aj7 hi he hc hk
 all_goals cases hc
theorem ahb(O:List ae)(res:AV):yK O [] res=O:=by simp[yK]
theorem abO{c:Call}{ao:dZ}{d:Option Tmp}{ty:TypeId}{pos:String}{af:Array Edge}{g:Option (Nat×Bool)}(hc:u6 P c=some ao.strip)(hi:Inv I L O w)(he:∀t,R I L O (e t) (a.tmps.getD t undef))(hk:wpOp P ao e O K){next:Act->World->Prop}{Q:Exit->Act->World->Prop}
  (hn:∀x O' y I' L' w',K x O'->Good I L O w I' L' O' w'->R I' L' O' x y->next (a.put d y) w'):Oper.wp P ⟨d,.call c,ty,pos,af,g⟩ a w next Q:=by
 unfold u6 at hc
 split at hc
 ·rename_i fv jk
  have hrl:∀{args},amz c.args=some args->RL I L O (args.map (aE.ev e)) (c.args.map a.eval):=by
   intro args h;have:=uZ (I:=I) (L:=L) (O:=O) (e:=e) (a:=a) h he;have h2:(List.map a.eval c.args.toList).toArray=Array.map a.eval c.args:=by apply Array.ext';simp
   rwa [h2]at this
  split at hc
  ·rename_i f args hf nF;have rf:=an hf he
   have hv:a.eval fv= .func (.func f) #[] #[]:=by
    generalize a.eval fv=X at rf;cases rf with
    |fn _ _ vs h1 h2=>congr 1;exact(Array.eq_empty_of_size_eq_zero h1.symm)
   have uL:=hrl nF;simp only[Option.some.injEq]at hc;cases ao<;>simp only[dZ.strip]at hc<;>first|(cases hc;done)|skip
   case call f' nM=>
    cases hc;obtain⟨res,O',cQ,hk⟩:=hk;refine hT (a:=a) (dr jk hv cQ.1) (M:=λ y w'=>∃I' L',R I' L' O' res y/\Good I L O w I' L' O' w') ?_ λ y w' ⟨I',L',h1,h2⟩=>hn _ _ _ _ _ _ hk h2 h1
    refine(cQ.2 I L w _ hi (by simpa using uL)).mono ?_;rintro e' w' ⟨y,I',L',rfl,h1,h2⟩;exact⟨y,rfl,I',L',h1,h2⟩
   case lA f' nM=>
    cases hc;obtain⟨res,hnr,cQ,hk⟩:=hk;have:=jY (as:=args.map (aE.ev e)) (aX:=[]) (vs:=c.args.map a.eval) hi (by simpa using uL) (by simpa [Function.comp_def]using hnr) (by simpa [Function.comp_def]using cQ);refine hT (a:=a) (dr jk hv cQ.1) (M:=λ y w'=>∃I' L',R I' L' (yK O (args.map (aE.ev e)) res) res y/\Good I L O w I' L' (yK O (args.map (aE.ev e)) res) w') ?_ λ y w' ⟨I',L',h1,h2⟩=>hn _ _ _ _ _ _ hk h2 h1
    simp only[Array.append_empty];refine this.mono ?_;rintro e' w' ⟨y,I',L',rfl,h1,h2⟩;exact⟨y,rfl,I',L',h1,h2⟩
   case jX f' nM=>
    cases hc;obtain⟨res,hnr,cQ,hk⟩:=hk;have:=jY (as:=[]) (aX:=args.map (aE.ev e)) (vs:=c.args.map a.eval) hi (by simpa using uL) (by simpa using hnr) (by simpa using cQ);rw[ahb]at this;refine hT (a:=a) (dr jk hv cQ.1) (M:=λ y w'=>∃I' L',R I' L' O res y/\Good I L O w I' L' O w') ?_ λ y w' ⟨I',L',h1,h2⟩=>hn _ _ _ _ _ _ hk h2 h1
    simp only[Array.append_empty];refine this.mono ?_;rintro e' w' ⟨y,I',L',rfl,h1,h2⟩;exact⟨y,rfl,I',L',h1,h2⟩
   case ia gs f' nM=>
    cases hc;obtain⟨res,O',cQ,hk⟩:=hk;refine hT (a:=a) (dr jk hv cQ.1) (M:=λ y w'=>∃I' L',R I' L' O' res y/\Good I L O w I' L' O' w') ?_ λ y w' ⟨I',L',h1,h2⟩=>hn _ _ _ _ _ _ hk h2 h1
    refine(cQ.2 I L w _ hi (by simpa using uL)).mono ?_;rintro e' w' ⟨y,I',L',rfl,h1,h2⟩;exact⟨y,rfl,I',L',h1,h2⟩
   case jd gs f' nM=>
    cases hc;obtain⟨n,a0,ob,res,ob',q1,q2,q3,q4,q5,q6,q7,q8,hk⟩:=hk;have cQ:=q8.an4 q2 q5 q7 q6 n q4;rw[←q1]at cQ;refine hT (a:=a) (dr jk hv cQ.1) (M:=λ y w'=>∃I' L',R I' L' (O.set n ob') res y/\Good I L O w I' L' (O.set n ob') w') ?_ λ y w' ⟨I',L',h1,h2⟩=>hn _ _ _ _ _ _ hk h2 h1
    refine(cQ.2 I L w _ hi (by simpa using uL)).mono ?_;rintro e' w' ⟨y,I',L',rfl,h1,h2⟩;exact⟨y,rfl,I',L',h1,h2⟩
   case pJ rd' f' nM=>
    cases hc;obtain⟨res,ob,adk,hk⟩:=hk;have cQ:=adk O rfl λ _ _=>rfl
    refine hT (a:=a) (dr jk hv cQ.1) (M:=λ y w'=>∃I' L',R I' L' (O++ [ob]) res y/\Good I L O w I' L' (O++ [ob]) w') ?_ λ y w' ⟨I',L',h1,h2⟩=>hn _ _ _ _ _ _ hk h2 h1
    refine(cQ.2 I L w _ hi (by simpa using uL)).mono ?_;rintro e' w' ⟨y,I',L',rfl,h1,h2⟩;exact⟨y,rfl,I',L',h1,h2⟩
   case n8 rd' f' nM=>
    cases hc;obtain⟨res,O',cQ,_,hk⟩:=hk;refine hT (a:=a) (dr jk hv cQ.1) (M:=λ y w'=>∃I' L',R I' L' O' res y/\Good I L O w I' L' O' w') ?_ λ y w' ⟨I',L',h1,h2⟩=>hn _ _ _ _ _ _ hk h2 h1
    refine(cQ.2 I L w _ hi (by simpa using uL)).mono ?_;rintro e' w' ⟨y,I',L',rfl,h1,h2⟩;exact⟨y,rfl,I',L',h1,h2⟩
   case pK rd' f' nM=>
    cases hc;obtain⟨res,adk,hk⟩:=hk;have cQ:=adk O λ _ _=>rfl
    refine hT (a:=a) (dr jk hv cQ.1) (M:=λ y w'=>∃I' L',R I' L' O res y/\Good I L O w I' L' O w') ?_ λ y w' ⟨I',L',h1,h2⟩=>hn _ _ _ _ _ _ hk h2 h1
    refine(cQ.2 I L w _ hi (by simpa using uL)).mono ?_;rintro e' w' ⟨y,I',L',rfl,h1,h2⟩;exact⟨y,rfl,I',L',h1,h2⟩
   case fK nl' t' s' f' nM=>
    cases hc;obtain⟨res,ob,cd,adk,hk⟩:=hk;have cQ:=adk.fresh cd O;refine hT (a:=a) (dr jk hv cQ.1) (M:=λ y w'=>∃I' L',R I' L' (O++ [ob.bO λ n=>O.length+n]) (res.bO λ n=>O.length+n) y/\Good I L O w I' L' (O++ [ob.bO λ n=>O.length+n]) w') ?_ λ y w' ⟨I',L',h1,h2⟩=>hn _ _ _ _ _ _ hk h2 h1
    refine(cQ.2 I L w _ hi (by simpa using uL)).mono ?_;rintro e' w' ⟨y,I',L',rfl,h1,h2⟩;exact⟨y,rfl,I',L',h1,h2⟩
   case kS f' nM=>
    cases hc;obtain⟨res,hfl,hnr,cQ,hk⟩:=hk;have ayu:yK O (args.map (aE.ev e)) res=O:=if_pos hfl;have:=jY (as:=args.map (aE.ev e)) (aX:=[]) (vs:=c.args.map a.eval) hi (by simpa using uL) (by simpa [Function.comp_def]using hnr) (by simpa [Function.comp_def]using cQ);rw[ayu]at this;refine hT (a:=a) (dr jk hv cQ.1) (M:=λ y w'=>∃I' L',R I' L' O res y/\Good I L O w I' L' O w') ?_ λ y w' ⟨I',L',h1,h2⟩=>hn _ _ _ _ _ _ hk h2 h1
    simp only[Array.append_empty];refine this.mono ?_;rintro e' w' ⟨y,I',L',rfl,h1,h2⟩;exact⟨y,rfl,I',L',h1,h2⟩
  ·rename_i x args cr hf nF;have rf:=an hf he;have uL:=hrl nF;simp only[Option.some.injEq]at hc;cases ao<;>simp only[dZ.strip]at hc<;>first|(cases hc;done)|skip
   case eJ x' nM=>
    cases hc;simp only[wpOp]at hk;generalize hA:x.ev e=A at rf hk;cases A<;>simp only at hk
    rename_i f aX;obtain⟨res,O',cQ,hk⟩:=hk;generalize hX:a.eval fv=X at rf;cases rf with
    |fn _ _ vs h1 h2=>
     refine hT (a:=a) (dr jk hX cQ.1) (M:=λ y w'=>∃I' L',R I' L' O' res y/\Good I L O w I' L' O' w') ?_ λ y w' ⟨I',L',h1,h2⟩=>hn _ _ _ _ _ _ hk h2 h1
     refine(cQ.2 I L w _ hi ?_).mono ?_
     ·refine⟨by simp only[List.length_append,Array.size_append,h1,uL.1],λ i b y hb hy=> ?_⟩;by_cases au:i<(args.map (aE.ev e)).length
      ·rw[getElem?_append_left au]at hb;rw[Array.getElem?_append_left (by rw[←uL.1];exact au)]at hy;exact uL.2 i b y hb hy
      ·rw[getElem?_append_right (by omega)]at hb;rw[Array.getElem?_append_right (by rw[←uL.1];omega),←uL.1]at hy;exact h2 _ b y hb hy
     ·rintro e' w' ⟨y,I',L',rfl,h1,h2⟩;exact⟨y,rfl,I',L',h1,h2⟩
   case jf x' nM=>
    cases hc;simp only[wpOp]at hk;generalize hA:x.ev e=A at rf hk;cases A<;>simp only at hk
    rename_i f aX;obtain⟨res,hnr,cQ,hk⟩:=hk;generalize hX:a.eval fv=X at rf;cases rf with
    |fn _ _ vs h1 h2=>
     have:=jY (as:=args.map (aE.ev e)) (aX:=aX) (vs:=c.args.map a.eval++vs) hi (by
      refine⟨by simp only[List.length_append,Array.size_append,h1,uL.1],λ i b y hb hy=> ?_⟩;by_cases au:i<(args.map (aE.ev e)).length
      ·rw[getElem?_append_left au]at hb;rw[Array.getElem?_append_left (by rw[←uL.1];exact au)]at hy;exact uL.2 i b y hb hy
      ·rw[getElem?_append_right (by omega)]at hb;rw[Array.getElem?_append_right (by rw[←uL.1];omega),←uL.1]at hy;exact h2 _ b y hb hy) (by simpa [Function.comp_def]using hnr) (by simpa [Function.comp_def]using cQ)
     refine hT (a:=a) (dr jk hX cQ.1) (M:=λ y w'=>∃I' L',R I' L' (yK O (args.map (aE.ev e)) res) res y/\Good I L O w I' L' (yK O (args.map (aE.ev e)) res) w') ?_ λ y w' ⟨I',L',h1,h2⟩=>hn _ _ _ _ _ _ hk h2 h1
     refine this.mono ?_;rintro e' w' ⟨y,I',L',rfl,h1,h2⟩;exact⟨y,rfl,I',L',h1,h2⟩
   case ik x' nM=>
    cases hc;simp only[wpOp]at hk;generalize hA:x.ev e=A at rf hk;cases A<;>simp only at hk
    rename_i f aX;obtain⟨res,hnr,cQ,hk⟩:=hk;generalize hX:a.eval fv=X at rf;cases rf with
    |fn _ _ vs h1 h2=>
     have:=jY (as:=[]) (aX:=args.map (aE.ev e)++aX) (vs:=c.args.map a.eval++vs) hi (by
      refine⟨by simp only[List.nil_append,List.length_append,Array.size_append,h1,uL.1],λ i b y hb hy=> ?_⟩;rw[List.nil_append]at hb;by_cases au:i<(args.map (aE.ev e)).length
      ·rw[getElem?_append_left au]at hb;rw[Array.getElem?_append_left (by rw[←uL.1];exact au)]at hy;exact uL.2 i b y hb hy
      ·rw[getElem?_append_right (by omega)]at hb;rw[Array.getElem?_append_right (by rw[←uL.1];omega),←uL.1]at hy;exact h2 _ b y hb hy) (by simpa using hnr) (by simpa using cQ)
     rw[ahb]at this;refine hT (a:=a) (dr jk hX cQ.1) (M:=λ y w'=>∃I' L',R I' L' O res y/\Good I L O w I' L' O w') ?_ λ y w' ⟨I',L',h1,h2⟩=>hn _ _ _ _ _ _ hk h2 h1
     refine this.mono ?_;rintro e' w' ⟨y,I',L',rfl,h1,h2⟩;exact⟨y,rfl,I',L',h1,h2⟩
  ·cases hc
 ·rename_i jk
  split at hc
  ·rename_i t x hts has;have nY:c.argTypes= #[t]:=by apply Array.ext';simpa using hts
   have haa:c.args= #[x]:=by apply Array.ext';simpa using has
   split at hc
   ·rename_i ht;simp only[map_eq_some_iff]at hc;obtain⟨ax,hx,hc⟩:=hc;have:=n9 (by cases ao<;>first|rfl|(simp[dZ.strip]at hc;done)) hc rfl (by simp);subst this;obtain⟨x',y,h1,h2,h3⟩:=aka (ty:=ty) hi he ht hx hk;refine fx.wp (fx.same hi h1 h2 ?_) hn;simp only[execOp,resolve,jk,nY,haa];simp[invoke,builtin,h3]
   ·rename_i el ht;simp only[map_eq_some_iff]at hc;obtain⟨ax,hx,hc⟩:=hc;have:=n9 (by cases ao<;>first|rfl|(simp[dZ.strip]at hc;done)) hc rfl (by simp);subst this;obtain⟨x',y,h1,h2,h3⟩:=akb (ty:=ty) hi he ht hx hk;refine fx.wp (fx.same hi h1 h2 ?_) hn;simp only[execOp,resolve,jk,nY,haa];simp[invoke,builtin,h3]
   ·cases hc
  ·cases hc
 ·rename_i jk
  split at hc
  ·rename_i t u x y hts has
   split at hc
   ·rename_i htu;subst htu;have nY:c.argTypes= #[t,t]:=by apply Array.ext';simpa using hts
    have haa:c.args= #[x,y]:=by apply Array.ext';simpa using has
    simp only[bind_eq_bind,bind_eq_some_iff,Option.some.injEq]at hc;obtain⟨el,kJ,⟨s,b,z⟩,hz,ax,hx,ay,hy,hc⟩:=hc;have:=n9 (by cases ao<;>first|rfl|(simp[dZ.strip]at hc;done)) hc rfl (by simp);subst this;obtain⟨x',O',y',I',L',w',h1,h2,h3,h4⟩:=apB (ty:=ty) (gq kJ) hz hi (an hx he) (an hy he) hk;refine fx.wp ⟨x',O',y',I',L',w',h1,h2,h3,.inl ?_⟩ hn;simp only[execOp,resolve,jk,nY,haa];simp[invoke,builtin,h4]
   ·cases hc
  ·cases hc
 ·cases hc
theorem vJ{ty:TypeId}{op:Op}{t s l:Nat}{z:AV}{ps:List (Nat×aE)}(h:bR P ty op=some (.buildSlice t s l z ps)):∃t len parts,op= .buildSlice t len parts:=by
 cases op<;>simp only[bR]at h
 case buildSlice t len parts=>exact⟨t,len,parts,rfl⟩
 all_goals (repeat' split at h)
 all_goals first
  |(simp[bind_eq_some_iff]at h;done)
  |(rename_i heq;cases heq;done)
  |(exfalso;simp_all;done)
theorem akS(hi:Inv I L O w)(as:List AV):Inv (tm I L O w as) L [] w:=by
 refine⟨λ b o x hx=> ?_,by simp,by simp,by simp,λ p hp=>vV hi as _ _ _ (hi.fix p hp),hi.sC (vV hi as),.no (by simp),.no (by simp)⟩;unfold tm at hx
 split at hx
 ·exact hx
 ·exact hi.iy b o x hx
theorem ac8{t:TypeId}(h:aoD P t=true):∃el,P.underlying t=some (.slice el):=by
 unfold aoD at h;split at h
 ·rename_i x hx;exact⟨_,hx⟩
 ·cases h
theorem zX{t:TypeId}(h:agM P t=true):∃el,P.underlying t=some (.pointer el):=by
 unfold agM at h;split at h
 ·rename_i x hx;exact⟨_,hx⟩
 ·cases h
theorem aih{t:TypeId}(h:ala P t=true):∃el,P.underlying t=some (.interface el):=by
 unfold ala at h;split at h
 ·rename_i x hx;exact⟨_,hx⟩
 ·cases h
theorem ak9{t:TypeId}(h:y3 P t=true):P.underlying t=some (.int .u8):=by
 unfold y3 at h;split at h
 ·rename_i hx;exact hx
 ·cases h
theorem aif{t:TypeId}(h:isInt P t=true):∃k,P.underlying t=some (.int k):=by
 unfold isInt at h;split at h
 ·rename_i k hx;exact⟨k,hx⟩
 ·cases h
theorem zW{t:TypeId}(h:isStr P t=true):P.underlying t=some .string:=by
 unfold isStr at h;split at h
 ·rename_i hx;exact hx
 ·cases h
theorem ku(hi:Inv I L O w){v:AV}{x:Value}(hr:R I L O v x)(hn:(jl O v).ag=true)(as:List AV)(hm:v∈as):R (tm I L O w as) L [] (jl O v) x:=aah hi hm hr hn
theorem ace:∀{xs:List AV} {l:List UInt8},u8s xs=some l->∃ns:List Int,xs=ns.map (λ n=> .v (.int .u8 n))/\l=ns.map λ n=>UInt8.ofNat n.toNat
 | [],l,h=>by simp[u8s]at h;subst h;exact⟨[],rfl,rfl⟩
 |x::r,l,h=>by
  unfold u8s at h
  split at h
  ·rename_i hx;cases hx
  ·rename_i n r' hx;cases hx;simp only[map_eq_some_iff]at h;obtain⟨l',h1,rfl⟩:=h;obtain⟨ns,rfl,rfl⟩:=ace h1;exact⟨n::ns,rfl,rfl⟩
  ·cases h
theorem apy{s d el:TypeId}(hs:P.underlying s=some (.slice el))(he:P.underlying el=some (.int .u8))(hd:P.underlying d=some .string){I':da}{L':Nat->Loc}(hinv:Inv I' L' [] w){v:AV}{x:Value}{y:AV}(hr:R I' L' [] v x)(hp:w8 .b2s [v]=some y):
  ∃z,y= .v z/\z.oneCell'=true/\(convert s d x).run P w= .ok z w:=by
 unfold w8 at hp
 split at hp<;>first|(rename_i ho hv;cases ho;done)|(rename_i ho;cases ho;done)|skip
 ·rename_i ys ho hv;cases hv;simp only[map_eq_some_iff]at hp;obtain⟨l,hl,rfl⟩:=hp;obtain⟨ns,rfl,rfl⟩:=ace hl;generalize hX:(ns.map λ n=>AV.v (.int .u8 n))=X at hr;cases hr with
  |me a cap=>
   have hn:ns= []:=by simpa using hX
   subst hn;refine⟨_,rfl,rfl,?_⟩;rw[run_convert_bytes_string w s d el a 0 cap hs he hd];cases a with
   |none=>simp[Conv.bytesToString];rfl
   |some a=>simp[Conv.bytesToString,loadCells,loadCellsFrom];rfl
  |sl xs bc off cap s' bB h1 h2 h3 h4 h5=>
   subst hX;refine⟨_,rfl,rfl,?_⟩;have hlen:ns.length=(ns.map λ n=>AV.v (.int .u8 n)).length:=by simp
   have:=run_convert_bytes_arg (P:=P) w s el hs he bc off (ns.map λ n=>AV.v (.int .u8 n)).length cap ns hlen (λ i hi=> ?_) d hd
   ·rw[this];rfl
   ·have ej:i<ns.length:=by simpa using hi
    have hx:(ns.map λ n=>AV.v (.int .u8 n))[i]? =some (.v (.int .u8 ns[i])):=by simp[ej]
    have yI:s'=1:=by have:=h3 i _ hx;simpa [AV.cells]using this.symm
    subst yI;have hc0:(AV.v (.int .u8 ns[i])).cells[0]? =some (.v (.int .u8 ns[i])):=rfl;have nE:=(h4 i _ 0 _ hx hc0).1;have ail:=(h5 i _ 0 _ hx hc0).exact;rw[ail]at nE;have:=hinv.iy _ _ _ nE;simp only[Nat.mul_one,Nat.add_zero]at this;rw[this];simp[List.getD,ej]
 ·rename_i ho hv;cases hv;simp only[Option.some.injEq]at hp;subst hp;cases hr;refine⟨_,rfl,rfl,?_⟩;rw[run_convert_bytes_string w s d el none 0 0 hs he hd];simp[Conv.bytesToString];rfl
 ·cases hp
theorem abH{op:BinOp}(h:kZ op=true):op= .eql∨op= .neq:=by
 cases op<;>simp[kZ]at h<;>simp
theorem kL{t:TypeId}{x y:Value}{b:Bool}{op:BinOp}(ho:op= .eql∨op= .neq)(ht:(Op.equalIn (9999+1) t x y).run P w= .ok b w)(ox oy:Operand)
  (hb:∀op:BinOp,op= .eql∨op= .neq->(eqGuard op t ox oy x y).run P w= .ok () w) (h2:∀op:BinOp,op= .eql->binOp op t x y=do pure (.bool (←Op.equal t x y))) (h3:∀op:BinOp,op= .neq->binOp op t x y=do pure (.bool (!(←Op.equal t x y)))):
  (do eqGuard op t ox oy x y;binOp op t x y:Sem Value).run P w= .ok (.bool (iS op !=b)) w:=by
 have e1:(Op.equal t x y).run P w= .ok b w:=ht;rcases ho with rfl|rfl
 ·rw[Sem.run_bind,hb _ (.inl rfl),h2 _ rfl];simp[e1,iS]
 ·rw[Sem.run_bind,hb _ (.inr rfl),h3 _ rfl];simp[e1,iS]
theorem afv{t el:TypeId}(ht:P.underlying t=some (.slice el)){op:BinOp}(ho:kZ op=true){I':da}{L':Nat->Loc}{v:AV}{x:Value}{y:AV}(hr:R I' L' [] v x)(hp:w8 (.tt (iS op)) [v]=some y)(ox oy:Operand):
  ∃z,y= .v z/\z.oneCell'=true/\(do eqGuard op t ox oy x (.slice none 0 0);binOp op t x (.slice none 0 0):Sem Value).run P w= .ok z w:=by
 have ho:=abH ho;unfold w8 at hp
 split at hp<;>first|(rename_i h1 h2;cases h1;done)|(rename_i h1;cases h1;done)|skip
 ·rename_i neg h1 h2;cases h1;cases h2;cases hr;simp only[Option.some.injEq]at hp;subst hp;refine⟨_,rfl,rfl,kL (b:=true) ho ?_ ox oy (λ op ho=> ?_) (λ op ho=> ?_) (λ op ho=> ?_)⟩
  ·rw[Op.equalIn];simp[run_underlying ht]
  ·rcases ho with rfl|rfl<;>simp[eqGuard]
  ·subst ho;rfl
  ·subst ho;rfl
 ·rename_i neg a l h1 h2;cases h1;cases h2;simp only[Option.some.injEq]at hp;subst hp;cases hr with
  |sl xs bc off cap s' bB h1 h2 h3 h4 h5=>
   refine⟨_,rfl,rfl,kL (b:=false) ho ?_ ox oy (λ op ho=> ?_) (λ op ho=> ?_) (λ op ho=> ?_)⟩
   ·rw[Op.equalIn];simp[run_underlying ht]
   ·rcases ho with rfl|rfl<;>simp[eqGuard]
   ·subst ho;rfl
   ·subst ho;rfl
 ·cases hp
theorem afw{t el:TypeId}(ht:P.underlying t=some (.pointer el)){op:BinOp}(ho:kZ op=true){I':da}{L':Nat->Loc}{v:AV}{x:Value}{y:AV}(hr:R I' L' [] v x)(hp:w8 (.mT (iS op)) [v]=some y)(ox oy:Operand):
  ∃z,y= .v z/\z.oneCell'=true/\(do eqGuard op t ox oy x (.pointer none);binOp op t x (.pointer none):Sem Value).run P w= .ok z w:=by
 have ho:=abH ho;unfold w8 at hp
 split at hp<;>first|(rename_i h1 h2;cases h1;done)|(rename_i h1;cases h1;done)|skip
 ·rename_i neg h1 h2;cases h1;cases h2;have:=hr.exact;subst this;simp only[Option.some.injEq]at hp;subst hp;refine⟨_,rfl,rfl,kL (b:=true) ho ?_ ox oy (λ op ho=> ?_) (λ op ho=> ?_) (λ op ho=> ?_)⟩
  ·rw[Op.equalIn];simp[run_underlying ht]
  ·rcases ho with rfl|rfl<;>simp[eqGuard]
  ·subst ho;rfl
  ·subst ho;rfl
 ·rename_i neg a l h1 h2;cases h1;cases h2;simp only[Option.some.injEq]at hp;subst hp;cases hr;refine⟨_,rfl,rfl,kL (b:=false) ho ?_ ox oy (λ op ho=> ?_) (λ op ho=> ?_) (λ op ho=> ?_)⟩
  ·rw[Op.equalIn];simp[run_underlying ht]
  ·rcases ho with rfl|rfl<;>simp[eqGuard]
  ·subst ho;rfl
  ·subst ho;rfl
 ·cases hp
theorem afx{t:TypeId}{el:Array (String×TypeId)}(ht:P.underlying t=some (.interface el)){op:BinOp}(ho:kZ op=true){I':da}{L':Nat->Loc}{v:AV}{x:Value}{y:AV}(hr:R I' L' [] v x)(hp:w8 (.qG (iS op)) [v]=some y)(ox:Operand):
  ∃z,y= .v z/\z.oneCell'=true/\(do eqGuard op t ox (.const .nilIface) x .nilIface;binOp op t x .nilIface:Sem Value).run P w= .ok z w:=by
 have ho:=abH ho;unfold w8 at hp
 split at hp<;>first|(rename_i h1 h2;cases h1;done)|(rename_i h1;cases h1;done)|skip
 ·rename_i neg h1 h2;cases h1;cases h2;have:=hr.exact;subst this;simp only[Option.some.injEq]at hp;subst hp;refine⟨_,rfl,rfl,kL (b:=true) ho ?_ ox (.const .nilIface) (λ op ho=> ?_) (λ op ho=> ?_) (λ op ho=> ?_)⟩
  ·rw[Op.equalIn];simp[run_underlying ht]
  ·rcases ho with rfl|rfl<;>simp[eqGuard]
  ·subst ho;rfl
  ·subst ho;rfl
 ·rename_i neg h1 h2;cases h1;cases h2;simp only[Option.some.injEq]at hp;subst hp;cases hr;refine⟨_,rfl,rfl,kL (b:=false) ho ?_ ox (.const .nilIface) (λ op ho=> ?_) (λ op ho=> ?_) (λ op ho=> ?_)⟩
  ·rw[Op.equalIn];simp[run_underlying ht]
  ·rcases ho with rfl|rfl<;>simp[eqGuard]
  ·subst ho;rfl
  ·subst ho;rfl
 ·cases hp
theorem aoq{I':da}{L':Nat->Loc}{u v:AV}{x x':Value}{y:AV}(hr:R I' L' [] u x)(lI:R I' L' [] v x')(hp:w8 .min [u,v]=some y)(ts:Array TypeId)(ty:TypeId):
  ∃z,y= .v z/\z.oneCell'=true/\(Builtin.min_ ts ty #[x,x']).run P w= .ok z w:=by
 unfold w8 at hp
 split at hp<;>first|(rename_i h1 h2;cases h1;done)|(rename_i h1;cases h1;done)|skip
 ·rename_i k a k' b h1 h2;cases h2;have e1:=hr.exact;have e2:=lI.exact;subst e1;subst e2
  split at hp
  ·rename_i hk;subst hk;simp only[Option.some.injEq]at hp;subst hp;exact⟨_,rfl,rfl,by simp[Builtin.min_,Builtin.min2]⟩
  ·cases hp
 ·cases hp
theorem aos{I':da}{L':Nat->Loc}{u v:AV}{x x':Value}{y:AV}(hr:R I' L' [] u x)(lI:R I' L' [] v x')(hp:w8 .max [u,v]=some y)(ts:Array TypeId)(ty:TypeId):
  ∃z,y= .v z/\z.oneCell'=true/\(Builtin.max_ ts ty #[x,x']).run P w= .ok z w:=by
 unfold w8 at hp
 split at hp<;>first|(rename_i h1 h2;cases h1;done)|(rename_i h1;cases h1;done)|skip
 ·rename_i k a k' b h1 h2;cases h2;have e1:=hr.exact;have e2:=lI.exact;subst e1;subst e2
  split at hp
  ·rename_i hk;subst hk;simp only[Option.some.injEq]at hp;subst hp;exact⟨_,rfl,rfl,by simp[Builtin.max_,Builtin.max2]⟩
  ·cases hp
 ·cases hp
theorem ams{I':da}{L':Nat->Loc}{v:AV}{x:Value}{y:AV}(hr:R I' L' [] v x)(hp:w8 .amt [v]=some y):
  ∃z,y= .v z/\z.oneCell'=true/\x= .slice none 0 0/\z= .int .i64 0:=by
 unfold w8 at hp
 split at hp<;>first|(rename_i h1 h2;cases h1;done)|(rename_i h1;cases h1;done)|skip
 ·rename_i h1 h2;cases h2;cases hr;simp only[Option.some.injEq]at hp;subst hp;exact⟨_,rfl,rfl,rfl,rfl⟩
 ·cases hp
theorem mJ{o:PU}{xs:List AV}{M:AV->Prop}(h:puK o xs M):∃y,w8 o xs=some y/\M y:=by
 unfold puK at h;split at h
 ·rename_i v hv;exact⟨v,hv,h⟩
 ·exact h.elim
theorem an2{d:Option Tmp}{op:Op}{ty:TypeId}{pos:String}{af:Array Edge}{g:Option (Nat×Bool)}{ao:dZ}(hc:aiV P op=some ao)(hi:Inv I L O w)(he:∀t,R I L O (e t) (a.tmps.getD t undef))(hk:wpOp P ao e O K):
  fx P I L O w (execOp a.eval ⟨d,op,ty,pos,af,g⟩) K:=by
 unfold aiV at hc
 split at hc
 ·rename_i op t x u
  split at hc
  ·rename_i hb;simp only[bind_eq_bind,bind_eq_some_iff,Option.some.injEq]at hc;obtain⟨ax,hx,rfl⟩:=hc;obtain⟨el,ht⟩:=ac8 hb.2;obtain⟨hn,hk⟩:=hk;simp only[map_cons,map_nil]at hn hk;obtain⟨y,hy,hk⟩:=mJ hk;have rx:=ku hi (an hx he) (by simpa [AV.ad]using hn) [ax.ev e] (by simp);obtain⟨z,rfl,hz,bJ⟩:=afv (P:=P) (w:=w) ht hb.1 rx hy x (.const (.slice none 0 0));refine fx.same hi hk (.v z hz) ?_;simp only[execOp];have:a.eval (.const (.slice none 0 0))= .slice none 0 0:=rfl;rw[this,Sem.run_bind,bJ];rfl
  ·cases hc
 ·rename_i op t x u
  split at hc
  ·rename_i hb;simp only[bind_eq_bind,bind_eq_some_iff,Option.some.injEq]at hc;obtain⟨ax,hx,rfl⟩:=hc;obtain⟨el,ht⟩:=zX hb.2;obtain⟨hn,hk⟩:=hk;simp only[map_cons,map_nil]at hn hk;obtain⟨y,hy,hk⟩:=mJ hk;have rx:=ku hi (an hx he) (by simpa [AV.ad]using hn) [ax.ev e] (by simp);obtain⟨z,rfl,hz,bJ⟩:=afw (P:=P) (w:=w) ht hb.1 rx hy x (.const (.pointer none));refine fx.same hi hk (.v z hz) ?_;simp only[execOp];have:a.eval (.const (.pointer none))= .pointer none:=rfl;rw[this,Sem.run_bind,bJ];rfl
  ·cases hc
 ·rename_i op t x u
  split at hc
  ·rename_i hb;simp only[bind_eq_bind,bind_eq_some_iff,Option.some.injEq]at hc;obtain⟨ax,hx,rfl⟩:=hc;obtain⟨el,ht⟩:=aih hb.2;obtain⟨hn,hk⟩:=hk;simp only[map_cons,map_nil]at hn hk;obtain⟨y,hy,hk⟩:=mJ hk;have rx:=ku hi (an hx he) (by simpa [AV.ad]using hn) [ax.ev e] (by simp);obtain⟨z,rfl,hz,bJ⟩:=afx (P:=P) (w:=w) ht hb.1 rx hy x;refine fx.same hi hk (.v z hz) ?_;simp only[execOp];have:a.eval (.const .nilIface)= .nilIface:=rfl;rw[this,Sem.run_bind,bJ];rfl
  ·cases hc
 ·rename_i s d' x;simp only[bind_eq_bind,bind_eq_some_iff]at hc;obtain⟨el,kJ,hc⟩:=hc
  split at hc
  ·rename_i hb;simp only[bind_eq_some_iff,Option.some.injEq]at hc;obtain⟨ax,hx,rfl⟩:=hc;obtain⟨hn,hk⟩:=hk;simp only[map_cons,map_nil]at hn hk;obtain⟨y,hy,hk⟩:=mJ hk;have rx:=ku hi (an hx he) (by simpa [AV.ad]using hn) [ax.ev e] (by simp);obtain⟨z,rfl,hz,bJ⟩:=apy (P:=P) (gq kJ) (ak9 hb.1) (zW hb.2) (akS hi [ax.ev e]) rx hy;refine fx.same hi hk (.v z hz) ?_;simp only[execOp];rw[Sem.run_bind,bJ];rfl
  ·cases hc
 ·rename_i c
  split at hc
  ·rename_i t u x y jk hts has;have nY:c.argTypes= #[t,u]:=by apply Array.ext';simpa using hts
   have haa:c.args= #[x,y]:=by apply Array.ext';simpa using has
   split at hc
   ·rename_i hu;simp only[bind_eq_bind,bind_eq_some_iff]at hc;obtain⟨el,kJ,⟨s,b,z⟩,hz,hc⟩:=hc
    split at hc
    ·simp only[bind_eq_some_iff,Option.some.injEq]at hc;obtain⟨ax,hx,ay,hy,rfl⟩:=hc;simp only[wpOp]at hk
     split at hk
     ·rename_i sb hsb;have ry:=an (I:=I) (L:=L) (O:=O) hy he;rw[hsb]at ry;have hv:=ry.exact;obtain⟨x',O',y',I',L',w',h1,h2,h3,h4⟩:=amM (ty:=ty) (gq kJ) (zW hu) hz hi (an hx he) hk.1 hk.2;refine⟨x',O',y',I',L',w',h1,h2,h3,.inl ?_⟩;simp only[execOp,resolve,jk,nY,haa];simp[invoke,builtin,hv,h4]
     ·exact hk.elim
    ·cases hc
   ·split at hc
    ·rename_i hin;obtain⟨ki,hu⟩:=aif hin;simp only[bind_eq_bind,bind_eq_some_iff,Option.some.injEq]at hc;obtain⟨el,kJ,⟨s,b,z⟩,hz,ax,hx,ay,hy,rfl⟩:=hc;simp only[wpOp]at hk;have rx:=an (I:=I) (L:=L) (O:=O) hx he;have ry:=an (I:=I) (L:=L) (O:=O) hy he
     split at hk
     ·rename_i k hA hB;rw[hA]at rx;rw[hB]at ry;have e2:=ry.exact;obtain⟨k0,k1,k2,hk⟩:=hk;obtain⟨n,rfl⟩:∃n:Nat,k=n:=⟨k.toNat,by omega⟩;obtain⟨i,z0,h1,h2,h3,rfl,rfl,h4,h5,h6,h7⟩:=eV hz
      have k1':n*i.bytes<=281474976710656:=by
       have:((i.bytes*n:Nat):Int)<=281474976710656:=by rw[Int.natCast_mul];omega
       rw[Nat.mul_comm];omega
      obtain⟨y',I',L',w',g1,g2,g3⟩:=amL (P:=P) (w:=w) (t:=t) (u:=u) (ty:=ty) (gq kJ) hu h1 h2 h3 h5 h6 h7 h4 hi (by omega) k1' (by omega);simp only[Int.toNat_natCast]at hk;refine⟨_,_,y',I',L',w',hk,g1,g2,.inl ?_⟩;have e1:a.eval x= .slice none 0 0:=by generalize a.eval x=X at rx;cases rx;rfl
      simp only[execOp,resolve,jk,nY,haa];simp[invoke,builtin,e1,e2,g3]
     ·exact hk.elim
    ·cases hc
  ·rename_i t x jk hts has;have nY:c.argTypes= #[t]:=by apply Array.ext';simpa using hts
   have haa:c.args= #[x]:=by apply Array.ext';simpa using has
   split at hc
   ·rename_i hsl;obtain⟨el,ht⟩:=ac8 hsl;simp only[bind_eq_bind,bind_eq_some_iff,Option.some.injEq]at hc;obtain⟨ax,hx,rfl⟩:=hc;obtain⟨hn,hk⟩:=hk;simp only[map_cons,map_nil]at hn hk;simp only[AV.ad,Bool.and_true]at hn;obtain⟨v,hv,hk⟩:=mJ hk;have rx:=ku hi (an hx he) hn [ax.ev e] (by simp);obtain⟨z,rfl,hz,hX,rfl⟩:=ams rx hv;refine fx.same hi hk (.v _ hz) ?_;simp only[execOp,resolve,jk,nY,haa];simp[invoke,builtin,hX,Builtin.cap_,run_underlying ht]
    rfl
   ·cases hc
  ·rename_i t u x y jk hts has;have nY:c.argTypes= #[t,u]:=by apply Array.ext';simpa using hts
   have haa:c.args= #[x,y]:=by apply Array.ext';simpa using has
   simp only[bind_eq_bind,bind_eq_some_iff,Option.some.injEq]at hc;obtain⟨ax,hx,ay,hy,rfl⟩:=hc;obtain⟨hn,hk⟩:=hk;simp only[map_cons,map_nil]at hn hk;simp only[AV.ad,Bool.and_true,and_eq_true]at hn;obtain⟨v,hv,hk⟩:=mJ hk;have rx:=ku hi (an hx he) hn.1 [ax.ev e,ay.ev e] (by simp);have ry:=ku hi (an hy he) hn.2 [ax.ev e,ay.ev e] (by simp);obtain⟨z,rfl,hz,bJ⟩:=aoq (P:=P) (w:=w) rx ry hv #[t,u] ty;refine fx.same hi hk (.v z hz) ?_;simp only[execOp,resolve,jk,nY,haa];simp[invoke,builtin,bJ]
  ·rename_i t u x y jk hts has;have nY:c.argTypes= #[t,u]:=by apply Array.ext';simpa using hts
   have haa:c.args= #[x,y]:=by apply Array.ext';simpa using has
   simp only[bind_eq_bind,bind_eq_some_iff,Option.some.injEq]at hc;obtain⟨ax,hx,ay,hy,rfl⟩:=hc;obtain⟨hn,hk⟩:=hk;simp only[map_cons,map_nil]at hn hk;simp only[AV.ad,Bool.and_true,and_eq_true]at hn;obtain⟨v,hv,hk⟩:=mJ hk;have rx:=ku hi (an hx he) hn.1 [ax.ev e,ay.ev e] (by simp);have ry:=ku hi (an hy he) hn.2 [ax.ev e,ay.ev e] (by simp);obtain⟨z,rfl,hz,bJ⟩:=aos (P:=P) (w:=w) rx ry hv #[t,u] ty;refine fx.same hi hk (.v z hz) ?_;simp only[execOp,resolve,jk,nY,haa];simp[invoke,builtin,bJ]
  ·cases hc
 ·cases hc
theorem ahS{o:Oper}{b ao:dZ}(nY:ao.y4=false)(hc:vK P o.type o.op=some b)(hab:b=ao.strip)(hi:Inv I L O w)(he:∀t,R I L O (e t) (a.tmps.getD t undef))(hk:wpOp P ao e O K){next:Act->World->Prop}{Q:Exit->Act->World->Prop}
  (hn:∀x O' y I' L' w',K x O'->Good I L O w I' L' O' w'->R I' L' O' x y->next (a.put o.dst y) w'):o.wp P a w next Q:=by
 obtain⟨dst,op,ty,pos,af,g⟩:=o;subst hab;unfold vK at hc;simp only at hc
 split at hc
 ·exact abO hc hi he hk hn
 ·simp only[bind_eq_some_iff]at hc;obtain⟨b,hb,hc⟩:=hc
  split at hc
  ·cases hc
  ·rename_i gf;simp only[Option.some.injEq]at hc;by_cases hbs:∃t s l z ps,b= .buildSlice t s l z ps
   ·obtain⟨t,s,l,z,ps,rfl⟩:=hbs;obtain⟨t',len,parts,rfl⟩:=vJ hb;cases ao<;>simp only[dZ.strip]at hc<;>first|(cases hc;done)|(simp[dZ.y4]at nY;done)|skip
    case buildSlice=>cases hc;exact(agw hb hi he hk).wp hn
    case ir=>cases hc;exact(aeP hi he hb hk).wp hn
   ·have:=n9 nY hc (by simpa using gf) (λ t s l z ps h=>hbs ⟨t,s,l,z,ps,h⟩);subst this;exact(agw hb hi he hk).wp hn
theorem np{op:Op}{b:dZ}(h:aiV P op=some b):(∃o as,b= .pu o as)∨(∃t s by_ x y,b= .jN t s by_ x y)∨∃t s by_ z x y,b= .abS t s by_ z x y:=by
 unfold aiV at h
 split at h
 ·split at h
  ·simp only[bind_eq_bind,bind_eq_some_iff,Option.some.injEq]at h;obtain⟨_,_,rfl⟩:=h;exact .inl ⟨_,_,rfl⟩
  ·cases h
 ·split at h
  ·simp only[bind_eq_bind,bind_eq_some_iff,Option.some.injEq]at h;obtain⟨_,_,rfl⟩:=h;exact .inl ⟨_,_,rfl⟩
  ·cases h
 ·split at h
  ·simp only[bind_eq_bind,bind_eq_some_iff,Option.some.injEq]at h;obtain⟨_,_,rfl⟩:=h;exact .inl ⟨_,_,rfl⟩
  ·cases h
 ·simp only[bind_eq_bind,bind_eq_some_iff]at h;obtain⟨_,_,h⟩:=h
  split at h
  ·simp only[bind_eq_some_iff,Option.some.injEq]at h;obtain⟨_,_,rfl⟩:=h;exact .inl ⟨_,_,rfl⟩
  ·cases h
 ·split at h
  ·split at h
   ·simp only[bind_eq_bind,bind_eq_some_iff]at h;obtain⟨_,_,_,_,h⟩:=h
    split at h
    ·simp only[bind_eq_some_iff,Option.some.injEq]at h;obtain⟨_,_,_,_,rfl⟩:=h;exact .inr (.inl ⟨_,_,_,_,_,rfl⟩)
    ·cases h
   ·split at h
    ·simp only[bind_eq_bind,bind_eq_some_iff,Option.some.injEq]at h;obtain⟨_,_,_,_,_,_,_,_,rfl⟩:=h;exact .inr (.inr ⟨_,_,_,_,_,_,rfl⟩)
    ·cases h
  ·split at h
   ·simp only[bind_eq_bind,bind_eq_some_iff,Option.some.injEq]at h;obtain⟨_,_,rfl⟩:=h;exact .inl ⟨_,_,rfl⟩
   ·cases h
  ·simp only[bind_eq_bind,bind_eq_some_iff,Option.some.injEq]at h;obtain⟨_,_,_,_,rfl⟩:=h;exact .inl ⟨_,_,rfl⟩
  ·simp only[bind_eq_bind,bind_eq_some_iff,Option.some.injEq]at h;obtain⟨_,_,_,_,rfl⟩:=h;exact .inl ⟨_,_,rfl⟩
  ·cases h
 ·cases h
theorem mo{o:Oper}{ao:dZ}(nY:ao.y4=false)(hc:cOp P o.type o.op=some ao.strip)(hi:Inv I L O w)(he:∀t,R I L O (e t) (a.tmps.getD t undef))(hk:wpOp P ao e O K){next:Act->World->Prop}{Q:Exit->Act->World->Prop}
  (hn:∀x O' y I' L' w',K x O'->Good I L O w I' L' O' w'->R I' L' O' x y->next (a.put o.dst y) w'):o.wp P a w next Q:=by
 unfold cOp aiW at hc;simp only[Option.some.injEq]at hc
 split at hc
 ·rename_i b hb;have hx:=np hb
  have hab:ao=b:=by
   refine n9 nY hc ?_ ?_
   ·rcases hx with⟨_,_,rfl⟩|⟨_,_,_,_,_,rfl⟩|⟨_,_,_,_,_,_,rfl⟩<;>rfl
   ·rcases hx with⟨_,_,rfl⟩|⟨_,_,_,_,_,rfl⟩|⟨_,_,_,_,_,_,rfl⟩<;>simp
  subst hab;obtain⟨dst,op,ty,pos,af,g⟩:=o;exact(an2 hb hi he hk).wp hn
 ·cases h0:vK P o.type o.op with
  |some b=>rw[h0]at hc;exact ahS nY h0 hc hi he hk hn
  |none=>
   rw[h0]at hc;simp only[getD_none]at hc;cases ao<;>simp only[dZ.strip]at hc<;>first|(cases hc;done)|(simp[dZ.y4]at nY;done)|exact hk.elim
theorem aE.zr(he:∀t,R I L O (e t) (a.tmps.getD t undef)){x:aE}(h:x.okc=true):(x.ev e).inScope O.length=true:=by
 cases x with
 |t n=>exact(he n).inScope
 |c y=>exact bF y h
theorem ur(he:∀t,R I L O (e t) (a.tmps.getD t undef)){s:Nat}:∀(ps:List (Nat×aE)) (zs:List AV) {M:List AV->Prop},ps.all (λ p=>p.2.okc)=true->(∀x∈zs,∀c∈x.cells,c.inScope O.length=true)->lP e s zs ps M->
  lP e s zs ps λ xs=>(∀x∈xs,∀c∈x.cells,c.inScope O.length=true)/\M xs
 | [],zs,M,_,hz,h=>⟨hz,h⟩
 |(i,x)::ps,zs,M,hp,hz,h=>by
  simp only[List.all_cons,and_eq_true]at hp;obtain⟨h1,h2,h3,h4⟩:=h;refine⟨h1,h2,h3,ur he ps _ hp.2 (λ y hy c hc=> ?_) h4⟩;rcases List.mem_or_eq_of_mem_set hy with hy|rfl
  ·exact hz y hy c hc
  ·exact b7 (aE.zr he hp.1) c hc
theorem Good.cut(hi:Inv I L O w){n t s:Nat}{xs:List AV}(hO:O[n]? =some (.live t s xs)):
  Good I L O w I (λ k=>if k=O.length then L n else L k) (O.set n .dead++ [.live t s []]) w/\R I (λ k=>if k=O.length then L n else L k) (O.set n .dead++ [.live t s []]) (.row O.length 0) (.slice (some ⟨(L n).bc,0,none⟩) 0 (L n).cap):=by
 have au:=(List.getElem?_eq_some_iff.1 hO).1
 have dc:∀{m e k ys},(O.set n .dead++ [ae.live t s []])[m]? =some (.live e k ys)->(m=O.length/\e=t/\k=s/\ys= [])∨(m<O.length/\m≠n/\O[m]? =some (.live e k ys)):=by
  intro m e k ys hm;by_cases hml:m<O.length
  ·rw[getElem?_append_left (by simpa using hml)]at hm;by_cases l6:m=n
   ·subst l6;rw[getElem?_set_self au]at hm;cases hm
   ·rw[getElem?_set_ne (λ h=>l6 h.symm)]at hm;exact .inr ⟨hml,l6,hm⟩
  ·rw[getElem?_append_right (by simp;omega),List.length_set]at hm
   have:m- O.length=0:=by
    rcases Nat.eq_zero_or_pos (m- O.length)with h|h
    ·exact h
    ·rw[List.getElem?_eq_none (by simp;omega)]at hm;cases hm
   rw[this]at hm;simp at hm;obtain⟨rfl,rfl,rfl⟩:=hm;exact .inl ⟨by omega,rfl,rfl,rfl⟩
 have x5:∀{m:Nat} {a:AV},(O.set n .dead++ [ae.live t s []])[m]? =some (.own a)->O[m]? =some (.own a)/\(if m=O.length then L n else L m)=L m:=by
  intro m a hm;by_cases hml:m<O.length
  ·rw[getElem?_append_left (by simpa using hml)]at hm;by_cases l6:m=n
   ·subst l6;rw[getElem?_set_self hml]at hm;cases hm
   ·rw[getElem?_set_ne (λ h=>l6 h.symm)]at hm;exact⟨hm,if_neg (by omega)⟩
  ·rw[getElem?_append_right (by simp;omega)]at hm;cases hq:m- (O.set n .dead).length with
   |zero=>rw[hq]at hm;cases hm
   |succ q=>rw[hq]at hm;simp at hm
 have pQ:∀{m:Nat} {a:fT},(O.set n .dead++ [ae.live t s []])[m]? =some (.cN a)->O[m]? =some (.cN a)/\(if m=O.length then L n else L m)=L m:=by
  intro m a hm;by_cases hml:m<O.length
  ·rw[getElem?_append_left (by simpa using hml)]at hm;by_cases l6:m=n
   ·subst l6;rw[getElem?_set_self hml]at hm;cases hm
   ·rw[getElem?_set_ne (λ h=>l6 h.symm)]at hm;exact⟨hm,if_neg (by omega)⟩
  ·rw[getElem?_append_right (by simp;omega)]at hm;cases hq:m- (O.set n .dead).length with
   |zero=>rw[hq]at hm;cases hm
   |succ q=>rw[hq]at hm;simp at hm
 have fw:(O.set n .dead++ [ae.live t s []])[O.length]? =some (.live t s []):=by
  rw[getElem?_append_right (by simp)];simp
 have hL:∀{m},m<O.length->(if m=O.length then L n else L m)=L m:=λ {m} hm=>if_neg (by omega)
 have dp:Ext I L O I (λ k=>if k=O.length then L n else L k) (O.set n .dead++ [.live t s []]):=by
  refine⟨λ _ _ _ h=>h,by simp,λ m hm e k ys hx=> ?_,λ m hm e k hx=> ?_,λ m hm a hx=>by obtain⟨q1,q2⟩:=x5 hx;exact⟨⟨a,q1⟩,by rw[q2]⟩,λ m hm a hx=>by obtain⟨q1,q2⟩:=pQ hx;exact⟨⟨a,q1,rfl⟩,by rw[q2]⟩⟩
  ·rcases dc hx with⟨h1,_⟩|⟨_,_,h3⟩
   ·omega
   ·exact .inl ⟨ys,h3,le_refl _,λ _=>hL hm⟩
  ·rw[getElem?_append_left (by simpa using hm)]at hx;by_cases l6:m=n
   ·subst l6;rw[getElem?_set_self au]at hx;cases hx
   ·rwa [getElem?_set_ne (λ h=>l6 h.symm)]at hx
 refine⟨⟨⟨hi.iy,λ m e k ys hm=> ?_,λ m m' e k ys e' k' pV hm hm' hb=> ?_,λ m e k ys o hm=> ?_,hi.fix,hi.bc,hi.ow.same (λ m a hm=>x5 hm) (λ b o v hv=> .inl ⟨o,v,hv⟩) (λ m e k ys hm=> ?_) rfl,hi.gh.step (λ m a hm=>⟨(pQ hm).1,by rw[(pQ hm).2]⟩) (λ _ _ hr=>hr.mono dp) λ _ _=>rfl⟩,dp,Frm.refl _ _,?_,λ _ _ _ h=> .inl h⟩,?_⟩
 ·rcases dc hm with⟨rfl,rfl,rfl,rfl⟩|⟨h1,h2,h3⟩
  ·obtain⟨c,⟨j5,q1,dn⟩,q2,q3,q4,q5,q6⟩:=hi.obj n _ _ _ hO;simp only[if_true];exact⟨c,⟨_,q1,dn⟩,q2,zero_le _,q4,q5,by simp⟩
  ·simp only[hL h1];exact(hi.obj m _ _ _ h3).congr rfl λ _ _ h=>h.mono dp
 ·rcases dc hm with⟨rfl,rfl,rfl,rfl⟩|⟨h1,h2,h3⟩<;>rcases dc hm' with⟨h4,_,_,_⟩|⟨h4,h5,h6⟩
  ·exact h4.symm
  ·simp only[if_true,hL h4]at hb;exact(h5 (hi.sep _ _ _ _ _ _ _ _ h6 hO hb.symm)).elim
  ·subst h4;simp only[if_true,hL h1]at hb;exact(h2 (hi.sep _ _ _ _ _ _ _ _ h3 hO hb)).elim
  ·simp only[hL h1,hL h4]at hb;exact hi.sep _ _ _ _ _ _ _ _ h3 h6 hb
 ·rcases dc hm with⟨rfl,rfl,rfl,rfl⟩|⟨h1,h2,h3⟩
  ·simp only[if_true];exact hi.dT n _ _ _ o hO
  ·simp only[hL h1];exact hi.dT m _ _ _ o h3
 ·rcases dc hm with⟨rfl,rfl,rfl,rfl⟩|⟨h1,h2,h3⟩
  ·simp only[if_true];exact .inl ⟨n,_,_,_,hO,rfl⟩
  ·simp only[hL h1];exact .inl ⟨m,_,_,_,h3,rfl⟩
 ·rintro b (⟨m,e,k,ys,hm,hb⟩|⟨m,a,o,v,hm,hb⟩|⟨m,a,hm,hb⟩)
  rotate_right
  ·obtain⟨q1,q2⟩:=pQ hm;simp only[q2]at hb;exact .inl (.inr (.inr ⟨m,a,q1,hb⟩))
  ·rcases dc hm with⟨rfl,rfl,rfl,rfl⟩|⟨h1,h2,h3⟩
   ·simp only[if_true]at hb;exact .inl (.inl ⟨n,_,_,_,hO,hb⟩)
   ·simp only[hL h1]at hb;exact .inl (.inl ⟨m,_,_,_,h3,hb⟩)
  ·obtain⟨q1,q2⟩:=x5 hm;simp only[q2]at hb;exact .inl (.inr (.inl ⟨m,a,o,v,q1,hb⟩))
 ·have:=R.bV (I:=I) (L:=λ k=>if k=O.length then L n else L k) (O:=O.set n .dead++ [.live t s []]) O.length 0 t s [] fw rfl;simpa using this
theorem adO{ty:TypeId}{op:Op}{s:Nat}{x:aE}{lo hi:Option aE}(h:bR P ty op=some (.cw s x lo hi)):
  ∃t el ox olo ohi,op= .slice t ox olo ohi none/\P.underlying t=some (.slice el)/\bC ox=some x/\olo.mapM bC=some lo/\ohi.mapM bC=some hi/\(∃inf,P.info? el=some inf/\inf.size=s):=by
 cases op<;>simp only[bR]at h
 case slice t ox olo ohi mx=>
  split at h
  ·cases h
  ·rename_i jj;obtain rfl:mx=none:=by cases mx<;>simp at jj⊢
   split at h
   ·simp only[bind_eq_bind,bind_eq_some_iff,Option.some.injEq]at h;obtain⟨_,_,_,_,_,_,h⟩:=h;cases h
   ·rename_i el ht;simp only[bind_eq_bind,bind_eq_some_iff,Option.some.injEq]at h;obtain⟨inf,sj,ax,hx,al,hl,ah,hh,h⟩:=h;cases h;exact⟨t,el,ox,olo,ohi,rfl,ht,hx,hl,hh,inf,sj,rfl⟩
   ·cases h
 all_goals (repeat' split at h)
 all_goals first
  |(simp[bind_eq_some_iff]at h;done)
  |(exfalso;simp_all;done)
theorem af4{ty:TypeId}{op:Op}{s:Nat}{x:aE}{lo hi:Option aE}(h:cOp P ty op=some (.cw s x lo hi)):bR P ty op=some (.cw s x lo hi):=by
 unfold cOp aiW at h;simp only[Option.some.injEq]at h
 split at h
 ·rename_i b hb;rcases np hb with⟨_,_,rfl⟩|⟨_,_,_,_,_,rfl⟩|⟨_,_,_,_,_,_,rfl⟩<;>cases h
 ·cases h0:vK P ty op with
  |none=>rw[h0]at h;cases h
  |some b=>
   rw[h0]at h;simp only[getD_some]at h;subst h;unfold vK at h0
   split at h0
   ·rename_i c;exfalso;unfold u6 at h0
    split at h0
    ·split at h0
     ·cases h0
     ·cases h0
     ·cases h0
    ·split at h0
     ·split at h0
      ·simp only[map_eq_some_iff]at h0;obtain⟨_,_,h⟩:=h0;cases h
      ·simp only[map_eq_some_iff]at h0;obtain⟨_,_,h⟩:=h0;cases h
      ·cases h0
     ·cases h0
    ·split at h0
     ·split at h0
      ·simp only[bind_eq_bind,bind_eq_some_iff,Option.some.injEq]at h0;obtain⟨_,_,_,_,_,_,_,_,h⟩:=h0;cases h
      ·cases h0
     ·cases h0
    ·cases h0
   ·rw[bind_eq_some_iff]at h0;obtain⟨b',hb,jr⟩:=h0
    split at jr
    ·cases jr
    ·cases jr;exact hb
theorem asH{ty:TypeId}{op:Op}{el s b:Nat}{z:AV}{x y:aE}(h:cOp P ty op=some (.mk el s b z x y)):bR P ty op=some (.mk el s b z x y):=by
 unfold cOp aiW at h;simp only[Option.some.injEq]at h
 split at h
 ·rename_i b hb;rcases np hb with⟨_,_,rfl⟩|⟨_,_,_,_,_,rfl⟩|⟨_,_,_,_,_,_,rfl⟩<;>cases h
 ·cases h0:vK P ty op with
  |none=>rw[h0]at h;cases h
  |some bb=>
   rw[h0]at h;simp only[getD_some]at h;subst h;unfold vK at h0
   split at h0
   ·rename_i c;exfalso;unfold u6 at h0
    split at h0
    ·split at h0
     ·cases h0
     ·cases h0
     ·cases h0
    ·split at h0
     ·split at h0
      ·simp only[map_eq_some_iff]at h0;obtain⟨_,_,h⟩:=h0;cases h
      ·simp only[map_eq_some_iff]at h0;obtain⟨_,_,h⟩:=h0;cases h
      ·cases h0
     ·cases h0
    ·split at h0
     ·split at h0
      ·simp only[bind_eq_bind,bind_eq_some_iff,Option.some.injEq]at h0;obtain⟨_,_,_,_,_,_,_,_,h⟩:=h0;cases h
      ·cases h0
     ·cases h0
    ·cases h0
   ·rw[bind_eq_some_iff]at h0;obtain⟨b',hb,jr⟩:=h0
    split at jr
    ·cases jr
    ·cases jr;exact hb
theorem qx{z:AV}(h:z.ag=true):∀n:Nat,AV.ad (List.replicate n z)=true
 |0=>rfl
 |n+1=>by simp only[List.replicate_succ,AV.ad,h,qx h n,Bool.and_self]
theorem apt{ty:TypeId}{op:Op}{el s b:Nat}{z:AV}{x y:aE}(h:bR P ty op=some (.mk el s b z x y)):∃t ox oy,op= .makeSlice t ox oy:=by
 cases op<;>simp only[bR]at h
 case makeSlice t ox oy=>exact⟨t,ox,oy,rfl⟩
 all_goals (repeat' split at h)
 all_goals first
  |(cases h;done)
  |(simp[bind_eq_some_iff]at h;done)
  |(exfalso;simp_all;done)
theorem anK(hi:Inv I L O w)(he:∀t,R I L O (e t) (a.tmps.getD t undef)){ty:TypeId}{op:Op}{d:Option Tmp}{pos:String}{af:Array Edge}{g:Option (Nat×Bool)}{el s b:Nat}{z:AV}{x y:aE}(hc:bR P ty op=some (.mk el s b z x y))(hk:wpOp P (.mkF el s b z x y) e O K):
  fx P I L O w (execOp a.eval ⟨d,op,ty,pos,af,g⟩) K:=by
 obtain⟨t,ox,oy,rfl⟩:=apt hc;simp only[bR,bind_eq_bind,bind_eq_some_iff,Option.some.injEq,dZ.mk.injEq]at hc;obtain⟨el',kJ,⟨s',b',z'⟩,hz,ax,hx,ay,hy,hq⟩:=hc;obtain⟨rfl,rfl,rfl,rfl,rfl,rfl⟩:=hq;have ht:=gq kJ;obtain⟨i,z0,h1,h2,h3,rfl,rfl,h4,h5,h6,h7⟩:=eV hz;have rx:=an hx he;have ry:=an hy he;simp only[wpOp]at hk;generalize ax.ev e=A at rx hk;generalize ay.ev e=B at ry hk;generalize hX:a.eval ox=X at rx;generalize hY:a.eval oy=Y at ry
 split at hk
 ·rename_i n c;obtain⟨q1,q2,q3,q4,q5,hk⟩:=hk;have e1:=rx.exact;have e2:=ry.exact;subst e1;subst e2;have hm:c<=9223372036854775807:=by simpa [maxLen]using q4
  have bJ:=run_make (P:=P) w t el' i z0 ht h1 h2 .i64 .i64 n c q1 q2 (by omega) hm;have xX:=fe.made (I:=I) (L:=L) (O:=O) (cap:=c.toNat) (n:=n.toNat) (eK h3) h7 h4 h5 (by omega);have cd:AV.ad (List.replicate n.toNat z')=true:=qx q5 _;obtain⟨I',hg,hr⟩:=hi.auw (el:=el') (s:=i.size) (xs:=List.replicate n.toNat z') (madeCells z0.cells (c.toNat*i.size)) c.toNat (by simp;omega) (λ k x hx j c hj I' L' O' v hI hv=>hv.ag hI (fb (a8 cd x (mem_of_getElem? hx)) c (mem_of_getElem? hj))) xX;rw[List.length_replicate]at hr;refine⟨_,_,_,_,_,_,hk,hg,hr,.inl ?_⟩;simp only[execOp,hX,hY];rw[Sem.run_bind,bJ];simp
 ·exact hk.elim
theorem af5{ty:TypeId}{op:Op}{neg:Bool}{x:aE}(h:cOp P ty op=some (.pu (.mT neg) [x])):
  ∃o t y u,op= .binOp o t y (.const (.pointer none)) u/\kZ o=true/\agM P t=true/\bC y=some x/\neg=iS o:=by
 unfold cOp aiW at h;simp only[Option.some.injEq]at h
 split at h
 ·rename_i b hb;subst h;unfold aiV at hb
  split at hb
  case h_2 o t y u=>
   split at hb
   ·rename_i hq;simp only[bind_eq_bind,bind_eq_some_iff,Option.some.injEq]at hb;obtain⟨ax,hx,hb⟩:=hb;cases hb;exact⟨o,t,y,u,rfl,hq.1,hq.2,hx,rfl⟩
   ·cases hb
  all_goals (repeat' split at hb)
  all_goals first
   |(cases hb;done)
   |(simp[bind_eq_some_iff]at hb;done)
   |(exfalso;simp only[bind_eq_bind,bind_eq_some_iff,Option.some.injEq]at hb;obtain⟨_,_,hb⟩:=hb;cases hb;done)
   |(exfalso;simp only[bind_eq_bind,bind_eq_some_iff,Option.some.injEq]at hb;obtain⟨_,_,hb⟩:=hb;split at hb<;>simp[bind_eq_some_iff]at hb;done)
 ·exfalso;cases h0:vK P ty op with
  |none=>rw[h0]at h;cases h
  |some b=>
   rw[h0]at h;simp only[getD_some]at h;subst h;unfold vK at h0
   split at h0
   ·rename_i c;unfold u6 at h0
    split at h0
    ·split at h0
     ·cases h0
     ·cases h0
     ·cases h0
    ·split at h0
     ·split at h0
      ·simp only[map_eq_some_iff]at h0;obtain⟨_,_,h⟩:=h0;cases h
      ·simp only[map_eq_some_iff]at h0;obtain⟨_,_,h⟩:=h0;cases h
      ·cases h0
     ·cases h0
    ·split at h0
     ·split at h0
      ·simp only[bind_eq_bind,bind_eq_some_iff,Option.some.injEq]at h0;obtain⟨_,_,_,_,_,_,_,_,h⟩:=h0;cases h
      ·cases h0
     ·cases h0
    ·cases h0
   ·rw[bind_eq_some_iff]at h0;obtain⟨b',hb,jr⟩:=h0
    split at jr
    ·cases jr
    ·cases jr;cases op<;>simp only[bR]at hb
     all_goals (repeat' split at hb)
     all_goals first
      |(cases hb;done)
      |(simp[bind_eq_some_iff]at hb;done)
      |(exfalso;simp_all;done)
theorem aj3(hi:Inv I L O w)(he:∀t,R I L O (e t) (a.tmps.getD t undef)){ty:TypeId}{op:Op}{d:Option Tmp}{pos:String}{af:Array Edge}{g:Option (Nat×Bool)}{neg:Bool}{x:aE}(hc:cOp P ty op=some (.pu (.mT neg) [x]))(hk:wpOp P (.yU neg x) e O K):
  fx P I L O w (execOp a.eval ⟨d,op,ty,pos,af,g⟩) K:=by
 obtain⟨o,t,y,u,rfl,ho,ht,hy,rfl⟩:=af5 hc;obtain⟨el,ht⟩:=zX ht;have rx:=an (I:=I) (L:=L) (O:=O) hy he
 have key:∀(b:Bool) (v:Option Addr),a.eval y= .pointer v->v.isNone=b->fx P I L O w (execOp a.eval ⟨d,.binOp o t y (.const (.pointer none)) u,ty,pos,af,g⟩) K∨¬K (.v (.bool (iS o !=b))) O:=by
  intro b v hv hb;by_cases hK:K (.v (.bool (iS o !=b))) O
  ·left;refine fx.same hi hK (.v _ rfl) ?_;have he0:a.eval (.const (.pointer none))= .pointer none:=rfl
   have heq:(Op.equal t (.pointer v) (.pointer none)).run P w= .ok b w:=by
    have e1:Op.equal t (.pointer v) (.pointer none)=Op.equalIn (9999+1) t (.pointer v) (.pointer none):=rfl;rw[e1,Op.equalIn];cases v<;>simp at hb<;>subst hb<;>simp[run_underlying ht]
   rcases abH ho with rfl|rfl
   ·simp[execOp,he0,hv,eqGuard,Go.binOp,heq,iS]
   ·simp[execOp,he0,hv,eqGuard,Go.binOp,heq,iS]
  ·exact .inr hK
 simp only[wpOp]at hk
 split at hk
 ·rename_i hx;rw[hx]at rx;have hv:=rx.exact;rcases key true none hv rfl with h|h
  ·exact h
  ·exact(h hk).elim
 ·rename_i n len i f hx;rw[hx]at rx
  split at hk
  ·rename_i t' s xs hO;have hv:=rx.gP hO hk.1;rcases key false _ hv rfl with h|h
   ·exact h
   ·exact(h hk.2).elim
  ·exact hk.elim
 ·exact hk.elim
theorem anN(hi:Inv I L O w)(he:∀t,R I L O (e t) (a.tmps.getD t undef)){ty:TypeId}{op:Op}{d:Option Tmp}{pos:String}{af:Array Edge}{g:Option (Nat×Bool)}{s:Nat}{x:aE}{lo ej:Option aE}(hc:bR P ty op=some (.cw s x lo ej))(hk:wpOp P (.cut s x lo ej) e O K):
  fx P I L O w (execOp a.eval ⟨d,op,ty,pos,af,g⟩) K:=by
 obtain⟨t,el,ox,olo,ohi,rfl,ht,hx,hl,hh,inf,sj,rfl⟩:=adO hc;have rx:=an hx he;simp only[wpOp]at hk;generalize x.ev e=A at rx hk;generalize hX:a.eval ox=X at rx;cases A
 case aQ=>
  obtain⟨l,hk,hlo⟩:=iU hl he hk;obtain⟨h,hk,hhi⟩:=iU hh he hk;obtain⟨rfl,rfl,hk⟩:=hk;cases rx;have hb:=gy (P:=P) (sl:=true) (len:=0) (cap:=0) (zero_le _) hlo (by simpa using hhi) (Int.le_refl _) (Int.le_refl _) (by simp) w;refine fx.same hi hk (y:= .slice none 0 0) .aQ ?_;simp only[execOp,hX];simp at hb;simp[Instr.sliceAt,Instr.slice,run_underlying ht,hb,sizeOf,typeInfo,sj]
 case row n len=>
  simp only at hk
  split at hk
  ·rename_i t' s' xs hO;obtain⟨hlen,rfl,hk⟩:=hk;obtain⟨l,hk,hlo⟩:=iU hl he hk;obtain⟨h,hk,hhi⟩:=iU hh he hk;obtain⟨rfl,rfl,hk⟩:=hk;have hv:=rx.e9 hO hlen;subst hv;obtain⟨c,⟨j5,q1,dn⟩,q2,q3,q4,q5,q6⟩:=hi.obj n _ _ _ hO;have hb:=gy (P:=P) (sl:=true) (len:=len) (cap:=(L n).cap) (by omega) hlo hhi (Int.le_refl _) (Int.le_refl _) (by omega) w;obtain⟨hg,hr⟩:=Good.cut hi hO;refine⟨_,_,_,_,_,_,hk,hg,hr,.inl ?_⟩;simp only[execOp,hX];simp at hb;simp[Instr.sliceAt,Instr.slice,run_underlying ht,hb,sizeOf,typeInfo,sj,add_lit]
  ·exact hk.elim
 all_goals exact hk.elim
theorem xj{o:Oper}{ao:dZ}(hc:cOp P o.type o.op=some ao.strip)(hi:Inv I L O w)(he:∀t,R I L O (e t) (a.tmps.getD t undef))(hk:wpOp P ao e O K){next:Act->World->Prop}{Q:Exit->Act->World->Prop}
  (hn:∀x O' y I' L' w',K x O'->Good I L O w I' L' O' w'->R I' L' O' x y->next (a.put o.dst y) w'):o.wp P a w next Q:=by
 cases nY:ao.y4 with
 |false=>exact mo nY hc hi he hk hn
 |true=>
  cases ao<;>first|(simp[dZ.y4]at nY;done)|skip
  case cut s x lo ej=>
   obtain⟨dst,op,ty,pos,af,g⟩:=o;exact(anN hi he (af4 hc) hk).wp hn
  case mkF el s b z x y=>
   obtain⟨dst,op,ty,pos,af,g⟩:=o;exact(anK hi he (asH hc) hk).wp hn
  case xr k t s b z x y=>
   simp only[wpOp]at hk
   split at hk
   ·rename_i n c hx hy;obtain⟨q1,q2,q3,q4,q5,hO,hK⟩:=hk;have cd:AV.ad (List.replicate n.toNat z)=true:=qx q5 _;refine mo (ao:= .mk t s b z x y) rfl hc hi he (K:=λ v O'=>v= .row O.length n.toNat/\O'=O++ [.live t s (List.replicate n.toNat z)]) (by simp only[wpOp,hx,hy];exact⟨by omega,q2,q3,q4,by simp⟩) ?_;rintro x' O' y' I' L' w' ⟨rfl,rfl⟩ hg hr;have hv:=hr.e9 (show _=_ from by rw[getElem?_append_right (le_refl _),sub_self];rfl) (by simp);refine hn _ _ y' _ _ w' hK (hg.move hi hO (by simp;omega) (λ z' hz' c hcc=> ?_)) ?_
    ·rw[(List.mem_replicate.1 hz').2]at hcc;exact b7 (bF _ q5) c hcc
    ·rw[hv];have:=R.bV (I:=I') (L:=ke L' k O.length) (O:=O.set k (.live t s (List.replicate n.toNat z))) k n.toNat t s (List.replicate n.toNat z) (getElem?_set_self (List.getElem?_eq_some_iff.1 hO).1) (by simp);simpa [ke]using this
   ·exact hk.elim
  case yU neg x=>
   obtain⟨dst,op,ty,pos,af,g⟩:=o;exact(aj3 hi he hc hk).wp hn
  case gu k t s z=>
   obtain⟨hz,hO,hK⟩:=hk;refine mo (ao:= .alloc t s z) rfl hc hi he (K:=λ x O'=>x= .ptr O.length 1 0 0/\O'=O++ [.live t s [z]]) ⟨rfl,rfl⟩ ?_;rintro x O' y I' L' w' ⟨rfl,rfl⟩ hg hr;have hv:=hr.gP (show _=_ from by rw[getElem?_append_right (le_refl _),sub_self];rfl) rfl;refine hn _ _ y _ _ w' hK (hg.move hi hO (by simp) (λ x hx c hcc=> ?_)) ?_
   ·simp at hx;subst hx;exact b7 (bF _ hz) c hcc
   ·rw[hv];have:=R.di (I:=I') (L:=ke L' k O.length) (O:=O.set k (.live t s [z])) k 1 0 0 t s [z] (getElem?_set_self (List.getElem?_eq_some_iff.1 hO).1) rfl;simpa [ke]using this
  case lg k t s x=>
   obtain⟨hx,hO,h1,h2,hK⟩:=hk;refine mo (ao:= .box t s x) rfl hc hi he (K:=λ y O'=>y= .ptr O.length 1 0 0/\O'=O++ [.live t s [x.ev e]]) ⟨h1,h2,rfl,rfl⟩ ?_;rintro x' O' y I' L' w' ⟨rfl,rfl⟩ hg hr;have hv:=hr.gP (show _=_ from by rw[getElem?_append_right (le_refl _),sub_self];rfl) rfl;refine hn _ _ y _ _ w' hK (hg.move hi hO (by simp) (λ z hz c hcc=> ?_)) ?_
   ·simp at hz;subst hz;exact b7 (aE.zr he hx) c hcc
   ·rw[hv];have:=R.di (I:=I') (L:=ke L' k O.length) (O:=O.set k (.live t s [x.ev e])) k 1 0 0 t s [x.ev e] (getElem?_set_self (List.getElem?_eq_some_iff.1 hO).1) rfl;simpa [ke]using this
  case gr k t s len z ps=>
   obtain⟨hz,hp,eH⟩:=hk
   have eH:=ur he ps _ hp (λ x hx c hc=>by
    rw[List.mem_replicate]at hx;rw[hx.2]at hc;exact b7 (bF _ hz) c hc) eH
   have hlen:∀(ps:List (Nat×aE)) (zs:List AV) {M:List AV->Prop},lP e s zs ps M->lP e s zs ps λ xs=>xs.length=zs.length/\M xs:=by
    intro ps
    induction ps with
    |nil=>intro zs M h;exact⟨rfl,h⟩
    |cons p ps ih=>
     intro zs M h;obtain⟨h1,h2,h3,h4⟩:=h;have:=ih _ h4;rw[List.length_set]at this;exact⟨h1,h2,h3,this⟩
   have eH:=hlen ps _ eH;rw[List.length_replicate]at eH;refine mo (ao:= .buildSlice t s len z ps) rfl hc hi he (K:=λ y O'=>∃xs,(xs.length=len/\(∀x∈xs,∀c∈x.cells,c.inScope O.length=true)/\O[k]? =some (.nil t s)/\xs≠[]/\K (.row k len) (O.set k (.live t s xs)))/\y= .row O.length len/\O'=O++ [.live t s xs]) ?_ ?_
   ·have au7:∀(ps:List (Nat×aE)) (zs:List AV) {M M':List AV->Prop},(∀xs,M xs->M' xs)->lP e s zs ps M->lP e s zs ps M':=by
      intro ps
      induction ps with
      |nil=>intro zs M M' hm h;exact hm _ h
      |cons p ps ih=>intro zs M M' hm h;obtain⟨h1,h2,h3,h4⟩:=h;exact⟨h1,h2,h3,ih _ hm h4⟩
    exact au7 ps _ (λ xs h=>⟨xs,h,rfl,rfl⟩) eH
   ·rintro x' O' y I' L' w' ⟨xs,⟨hl,hsc,hO,cr,hK⟩,rfl,rfl⟩ hg hr;have hv:=hr.e9 (show _=_ from by rw[getElem?_append_right (le_refl _),sub_self];rfl) hl;refine hn _ _ y _ _ w' hK (hg.move hi hO cr hsc) ?_;rw[hv];have:=R.bV (I:=I') (L:=ke L' k O.length) (O:=O.set k (.live t s xs)) k len t s xs (getElem?_set_self (List.getElem?_eq_some_iff.1 hO).1) hl;simpa [ke]using this
end
end Go.Ab
namespace Go.Ab
structure aN where
 guard:Option (Nat×Bool)
 dst:Option Nat
 op:dZ
def aN.strip(o:aN):aN:={o with op:=o.op.strip}
def bI(e:Env)(d:Option Nat)(a:AV):Env:=
 match d with
 |some t=>e.set t a
 |none=>e
def wpOps(P:Program):List aN->Env->List ae->(Env->List ae->Prop)->Prop
 | [],e,O,K=>K e O
 |o::r,e,O,K=>
  match o.guard with
  |none=>wpOp P o.op e O λ x O'=>wpOps P r (bI e o.dst x) O' K
  |some (t,want)=>
   match e t with
   | .v (.bool b)=>
     (b=want->wpOp P o.op (e.set t (.v (.bool want))) O λ x O'=>wpOps P r (bI (e.set t (.v (.bool want))) o.dst x) O' K)/\
     (b= !want->wpOps P r (bI (e.set t (.v (.bool (!want)))) o.dst (.aK [])) O K)
   | .aK []=>wpOps P r (bI e o.dst (.aK [])) O K
   |_=>False
inductive EK where
 |ou
 |set (n:Nat)
 |push (n:Nat)
 |any
 |apF (kp:List Nat)
structure ll where
 rd:List Nat
 k:EK
instance:Inhabited ll:=⟨⟨[],.any⟩⟩
def kz(o:dZ)(rf:aE->List Nat)(N:Nat):ll:=
 match o with
 | .mkF _ _ _ _ _ _| .ir _ _ _ _ _| .bt _| .pick _ _ _| .build _ _| .bin _ _ _| .beq _ _ _| .un _ _| .jo _ _| .yg _ _ _| .eB _ _| .cL _ _ _| .cw _ _ _ _| .ext _ _| .tj _ _| .dI _| .jX _ _| .ik _ _=>⟨[],.ou⟩
 | .load _ x| .dz _ x| .ov x| .cz x=>⟨rf x,.ou⟩
 | .kf _ x _| .u7 _ _ x _=>⟨rf x,.ou⟩
 | .pu _ as| .kS _ as=>⟨as.flatMap rf,.ou⟩
 | .alloc _ _ _| .box _ _ _| .buildSlice _ _ _ _ _| .mk _ _ _ _ _ _| .fK _ _ _ _ _=>⟨[],.push N⟩
 | .xr k _ _ _ _ _ _| .gu k _ _ _| .lg k _ _ _| .gr k _ _ _ _ _=>⟨[k],.set k⟩
 | .pJ rd _ _=>⟨rd,.push N⟩
 | .pK rd _ _=>⟨rd,.ou⟩
 | .n8 kp _ _=>⟨[],.apF kp⟩
 | .jd _ _ as=>match as.flatMap rf with
   | [n]=>⟨[n],.set n⟩
   |_=>⟨[],.any⟩
 | .store _ x _=>match rf x with
   | [n]=>⟨[n],.set n⟩
   |_=>⟨[],.any⟩
 | .app _ _ _ x y=>match rf x with
   | [n]=>⟨n::rf y,.set n⟩
   |_=>⟨[],.any⟩
 | .jN _ _ _ x y=>match rf x with
   | [n]=>⟨n::rf y,.set n⟩
   |_=>⟨[],.any⟩
 |_=>⟨[],.any⟩
def ck(o:dZ)(e:Env)(N:Nat):ll:=kz o (λ x=>refs (x.ev e)) N
def EK.keeps:EK->List Nat
 | .apF kp=>kp
 |_=>[]
def ll.pure(kp:List Nat)(l:ll):Bool:=l.rd.all (λ n=>kp.contains n)&&(match l.k with| .ou=>true|_=>false)
def EK.zb:EK->List Nat->Bool
 | .ou,_=>false
 | .set n,rd=>rd.contains n
 | .push n,rd=>rd.contains n
 | .any,_=>true
 | .apF _,_=>true
def EK.isAny:EK->Bool
 | .any=>true
 | .apF _=>true
 |_=>false
def EK.gR:EK->Bool
 | .push _=>true
 |_=>false
def ae4(p i:ll):Bool:=
 if p.k.isAny=true then i.pure p.k.keeps else if i.k.isAny=true then p.pure i.k.keeps else
  !(p.k.zb i.rd)&& !(i.k.zb p.rd)&& !(p.k.gR&&i.k.gR)
def aE.rd:aE->List Nat
 | .t n=>[n]
 | .c _=>[]
def ako:Option aE->List Nat
 |some x=>x.rd
 |none=>[]
def dZ.reads:dZ->List Nat
 | .zP=>[]
 | .afh _ _ _ m k=>m.rd++k.rd
 | .lT _ m k v=>m.rd++k.rd++v.rd
 | .ae1 _ _ m k=>m.rd++k.rd
 | .qp m k v=>m.rd++k.rd++v.rd
 | .uj x| .uq x| .xu _ x| .s2b _ x| .yU _ x=>x.rd
 | .peq _ x y=>x.rd++y.rd
 | .stuck=>[]
 | .ir _ _ _ _ ps=>ps.flatMap λ p=>p.2.rd
 | .pu _ as=>as.flatMap aE.rd
 | .bt x| .box _ _ x| .load _ x| .un _ x| .jo _ x| .dz _ x| .yg _ _ x| .dI x| .cz x| .ext x _| .ov x=>x.rd
 | .alloc _ _ _| .gu _ _ _ _=>[]
 | .lg _ _ _ x=>x.rd
 | .gr _ _ _ _ _ ps=>ps.flatMap λ p=>p.2.rd
 | .pick c a b=>c.rd++a.rd++b.rd
 | .build _ ps=>ps.flatMap λ p=>p.2.2.rd
 | .buildSlice _ _ _ _ ps=>ps.flatMap λ p=>p.2.rd
 | .store _ x y| .bin _ x y| .beq _ x y| .kf _ x y| .u7 _ _ x y| .eB x y| .app _ _ _ x y| .jN _ _ _ x y| .abS _ _ _ _ x y| .mk _ _ _ _ x y| .mkF _ _ _ _ x y| .xr _ _ _ _ _ x y=>x.rd++y.rd
 | .cL x l h| .cw _ x l h| .cut _ x l h=>x.rd++ako l++ako h
 | .tj _ cs=>cs.flatMap aE.rd
 | .call _ as| .lA _ as| .jX _ as| .kS _ as| .fK _ _ _ _ as| .ia _ _ as| .jd _ _ as| .pJ _ _ as| .pK _ _ as| .n8 _ _ as=>as.flatMap aE.rd
 | .eJ x as| .jf x as| .ik x as=>x.rd++as.flatMap aE.rd
def aN.reads(o:aN):List Nat:=(match o.guard with|some (t,_)=>[t]|none=>[])++o.op.reads
def tx(p i:aN×ll):Bool:=
 (match p.1.dst with
  |some t=> !(i.1.reads.contains t)&& !(i.1.dst==some t)
  |none=>true)&&
 (match i.1.dst with
  |some t=> !(p.1.reads.contains t)
  |none=>true)&&ae4 p.2 i.2
def yw(rows:List (List Nat)):Nat->List Nat
 |0=>[]
 |n+1=>let acc:=yw rows n;acc++ [(rows.getD n []).foldl (λ s j=>s|||(2^j|||acc.getD j 0)) 0]
def kD(rows:List (List Nat))(al:List (aN×ll)):Bool:=
 let c:=yw rows al.length
 (List.range al.length).all λ i=>(rows.getD i []).all (·<i)&&
  (List.range i).all λ p=>(c.getD i 0).testBit p||(match al[p]?,al[i]? with|some x,some y=>tx x y|_,_=>false)
def dq(P:Program):List aN->List ll->Env->List ae->(List ll->Env->List ae->Prop)->Prop
 | [],acc,e,O,K=>K acc e O
 |o::r,acc,e,O,K=>
  match o.guard with
  |none=>wpOp P o.op e O λ x O'=>dq P r (acc++ [ck o.op e O.length]) (bI e o.dst x) O' K
  |some (t,want)=>
   match e t with
   | .v (.bool b)=>
     (b=want->wpOp P o.op (e.set t (.v (.bool want))) O λ x O'=>dq P r (acc++ [ck o.op (e.set t (.v (.bool want))) O.length]) (bI (e.set t (.v (.bool want))) o.dst x) O' K)/\
     (b= !want->dq P r (acc++ [⟨[],.ou⟩]) (bI (e.set t (.v (.bool (!want)))) o.dst (.aK [])) O K)
   | .aK []=>dq P r (acc++ [⟨[],.ou⟩]) (bI e o.dst (.aK [])) O K
   |_=>False
inductive AX where
 |normal
 |exit (id:Nat)
 |ret
inductive aO where
 |skip
 |region (rows:Option (List (List Nat))) (ops:List aN)
 |seq (a b:aO)
 |cond (c:aE) (t f:aO)
 |block (id:Nat) (b:aO)
 |loop (b:aO)
 |exit (id:Nat)
 |ret
 |aU (live:List Nat) (c:aO)
 |j6 (c:aO)
 |hD (ops:List aN)
def aO.strip:aO->aO
 | .region d ops=> .region d (ops.map aN.strip)
 | .seq a b=> .seq a.strip b.strip
 | .cond c t f=> .cond c t.strip f.strip
 | .block id b=> .block id b.strip
 | .loop b=> .loop b.strip
 | .aU _ c=>c.strip
 | .j6 c=>c.strip
 | .hD ops=> .region none (ops.map aN.strip)
 |c=>c
def r7(live:List Nat)(e:Env):Env:=λ t=>if live.contains t then e t else .top
def WK(n0:Nat)(e:Env)(O:List ae)(e':Env)(O':List ae):Prop:=
 ∀(I0:da) (L0:Nat->Loc) (O0:List ae) (w0:World) (I:da) (L:Nat->Loc) (w:World) (f:Nat->Value),O0.length=n0->Good I0 L0 O0 w0 I L O w->(∀t,R I L O (e t) (f t))->
  ∃I' L',Good I0 L0 O0 w0 I' L' O' w/\∀t,R I' L' O' (e' t) (f t)
theorem WK.refl(n0:Nat)(e:Env)(O:List ae):WK n0 e O e O:=λ _ _ _ _ I L _ _ _ h k=>⟨I,L,h,k⟩
theorem WK.trans{n0:Nat}{e e' e'':Env}{O O' pC:List ae}(h:WK n0 e O e' O')(k:WK n0 e' O' e'' pC):WK n0 e O e'' pC:=by
 intro I0 L0 O0 w0 I L w f h0 hg hr;obtain⟨I1,L1,g1,r1⟩:=h I0 L0 O0 w0 I L w f h0 hg hr;exact k I0 L0 O0 w0 I1 L1 w f h0 g1 r1
def ij(P:Program)(n0:Nat):List aN->Env->List ae->(Env->List ae->Prop)->Prop
 | [],e,O,K=>∃e' O',WK n0 e O e' O'/\K e' O'
 |o::r,e0,O0,K=>∃e O,WK n0 e0 O0 e O/\
  match o.guard with
  |none=>wpOp P o.op e O λ x O'=>ij P n0 r (bI e o.dst x) O' K
  |some (t,want)=>
   match e t with
   | .v (.bool b)=>
     (b=want->wpOp P o.op (e.set t (.v (.bool want))) O λ x O'=>ij P n0 r (bI (e.set t (.v (.bool want))) o.dst x) O' K)/\
     (b= !want->ij P n0 r (bI (e.set t (.v (.bool (!want)))) o.dst (.aK [])) O K)
   | .aK []=>ij P n0 r (bI e o.dst (.aK [])) O K
   |_=>False
def ln(P:Program)(n0:Nat):aO->(AX->Env->List ae->Prop)->Env->List ae->Prop
 | .skip,Q,e,O=>Q .normal e O
 | .region none ops,Q,e,O=>wpOps P ops e O (Q .normal)
 | .region (some rows) ops,Q,e,O=>∃al,al.map aN.strip=ops.map aN.strip/\dq P al [] e O λ jZ e O=>kD rows (al.zip jZ)=true/\Q .normal e O
 | .seq a b,Q,e,O=>ln P n0 a (λ x e O=>match x with| .normal=>ln P n0 b Q e O|x=>Q x e O) e O
 | .cond c t f,Q,e,O=>match c.ev e with
   | .v (.bool b)=>(b=true->ln P n0 t Q e O)/\(b=false->ln P n0 f Q e O)
   |_=>False
 | .block id b,Q,e,O=>ln P n0 b (λ x e O=>match x with| .exit i=>if i=id then Q .normal e O else Q (.exit i) e O|x=>Q x e O) e O
 | .loop b,Q,e,O=>∃(J:Nat->Env->List ae->Prop) (n:Nat),(∃e' O',WK n0 e O e' O'/\J n e' O')/\
  ∀n e O,J n e O->ln P n0 b (λ x e O=>match x with| .normal=>∃m e' O',m<n/\WK n0 e O e' O'/\J m e' O'|x=>Q x e O) e O
 | .exit id,Q,e,O=>Q (.exit id) e O
 | .ret,Q,e,O=>Q .ret e O
 | .aU live c,Q,e,O=>ln P n0 c (λ x e O=>match x with| .normal=>Q .normal (r7 live e) O|x=>Q x e O) e O
 | .j6 c,Q,e,O=>∃e' O',WK n0 e O e' O'/\ln P n0 c Q e' O'
 | .hD ops,Q,e,O=>ij P n0 ops e O (Q .normal)
inductive ff where
 |tmp (t:Nat)
 |cell (t:Nat) (n:Option Nat)
def ff.get(e:Env)(O:List ae)(r:ff)(K:AV->Prop):Prop:=
 match r with
 | .tmp t=>K (e t)
 | .cell t n=>match e t with
   | .ptr k 1 0 0=>match O[k]? with
     |some (.live _ _ [x])=>n.getD 1<=x.cells.length/\K (dH n x 0)
     |_=>False
   |_=>False
def fi(e:Env)(O:List ae):List ff->List AV->(List AV->Prop)->Prop
 | [],acc,K=>K acc.reverse
 |r::rs,acc,K=>r.get e O λ x=>fi e O rs (x::acc) K
def b4:List AV->AV
 | [x]=>x
 |xs=> .aK xs
def lQ(n0:Nat)(rs:List ff)(res:AV)(O':List ae)(x:AX)(e:Env)(O:List ae):Prop:=
 match x with
 | .exit _=>False
 |_=>fi e O rs [] λ xs=>∃e',WK n0 (λ t=>if t=0 then b4 xs else .top) O e' O'/\e' 0=res
def oS(ops:Array Oper)(nt:Nat)(g:Option (Nat×Bool)):Option (Option (Nat×Bool)):=
 match g with
 |none=>some none
 |some (j,b)=>match(ops[j]?).bind (·.dst)with
  |some t=>if t<nt then some (some (t,b))else none
  |none=>none
def rowsOf(ops:Array Oper):List (List Nat):=ops.toList.map λ o=>(o.after.toList.filter (Region.binds .any)).map (·.on)
def nK(P:Program)(nt:Nat)(ops:Array Oper)(o:Oper):Option aN:=
 match cOp P o.type o.op,oS ops nt o.guard with
 |some op,some g=>if o.dst.all (·<nt)=true then some ⟨g,o.dst,op⟩else none
 |_,_=>none
def fO(P:Program)(nt:Nat):Code->Option aO
 | .skip=>some .skip
 | .region _ ops false=>(ops.toList.mapM (nK P nt ops)).map (.region none)
 | .region _ ops true=>if Region.departs ops=true/\P.follows .mixedOrders=false then none else(ops.toList.mapM (nK P nt ops)).map (.region (some (rowsOf ops)))
 | .seq a b=>match fO P nt a,fO P nt b with
   |some a,some b=>some (.seq a b)
   |_,_=>none
 | .cond c t f=>match bC c,fO P nt t,fO P nt f with
   |some c,some t,some f=>some (.cond c t f)
   |_,_,_=>none
 | .block id b=>(fO P nt b).map (.block id)
 | .loop b=>(fO P nt b).map .loop
 | .exit id=>some (.exit id)
 | .ret=>some .ret
 |_=>none
def aiT(P:Program)(r:ResultVar):Option ff:=
 match r with
 | .tmp t=>some (.tmp t)
 | .cell t ty=>(tZ P ty).map (.cell t)
structure sG where
 iw:Nat
 nt:Nat
 code:aO
 res:List ff
def nh(args:List AV):Env:=λ t=>args.getD t (.aK [])
end Go.Ab
namespace Go.Ab
def dZ.cls:dZ->Nat
 | .mkF _ _ _ _ _ _| .ir _ _ _ _ _| .bt _| .pick _ _ _| .build _ _| .bin _ _ _| .beq _ _ _| .un _ _| .jo _ _| .yg _ _ _| .eB _ _| .cL _ _ _| .cw _ _ _ _| .ext _ _| .tj _ _| .dI _| .jX _ _| .ik _ _=>0
 | .load _ _| .dz _ _| .ov _| .kf _ _ _| .u7 _ _ _ _| .cz _| .pu _ _| .kS _ _=>1
 | .alloc _ _ _| .box _ _ _| .buildSlice _ _ _ _ _| .mk _ _ _ _ _ _| .fK _ _ _ _ _=>2
 |_=>3
def agree(l:List Nat)(e e':Env):Prop:=∀t∈l,e t=e' t
theorem agree.ev{x:aE}{e e':Env}{l:List Nat}(h:agree l e e')(hx:∀t∈x.rd,t∈l):x.ev e=x.ev e':=by
 cases x with
 |t n=>exact h n (hx n (by simp[aE.rd]))
 |c a=>rfl
theorem agree.aY{xs:List aE}{e e':Env}{l:List Nat}(h:agree l e e')(hx:∀t∈xs.flatMap aE.rd,t∈l):xs.map (aE.ev e)=xs.map (aE.ev e'):=by
 apply map_congr_left;intro x hm;exact h.ev λ t ht=>hx t (List.mem_flatMap.2 ⟨x,hm,ht⟩)
theorem hU{d:Int}{e e':Env}{x:Option aE}{l:List Nat}(h:agree l e e')(hx:∀t∈ako x,t∈l)(K:Int->Prop):fq d e x K=fq d e' x K:=by
 cases x with
 |none=>rfl
 |some o=>simp only[fq];rw[h.ev hx]
theorem sB{e e':Env}{l:List Nat}(h:agree l e e'):∀(ps:List (Nat×Nat×aE)) (z:List AV) (K:AV->Prop),(∀t∈ps.flatMap (λ p=>p.2.2.rd),t∈l)->iO e z ps K=iO e' z ps K
 | [],_,_,_=>rfl
 |(off,size,x)::r,z,K,hx=>by
  simp only[iO];rw[h.ev (x:=x) λ t ht=>hx t (by simp[ht]),sB h r _ K λ t ht=>hx t (by simp only[List.flatMap_cons,mem_append];exact .inr ht)]
theorem mI{e e':Env}{l:List Nat}(h:agree l e e')(s:Nat):∀(ps:List (Nat×aE)) (z:List AV) (K:List AV->Prop),(∀t∈ps.flatMap (λ p=>p.2.rd),t∈l)->lP e s z ps K=lP e' s z ps K
 | [],_,_,_=>rfl
 |(i,x)::r,z,K,hx=>by
  simp only[lP];rw[h.ev (x:=x) λ t ht=>hx t (by simp[ht]),mI h s r _ K λ t ht=>hx t (by simp only[List.flatMap_cons,mem_append];exact .inr ht)]
theorem aex{P:Program}{o:dZ}{e e':Env}(h:agree o.reads e e')(O:List ae)(K:AV->List ae->Prop):wpOp P o e O K=wpOp P o e' O K:=by
 cases o<;>simp only[dZ.reads]at h<;>simp only[wpOp]
 case bt x=>rw[h.ev λ t ht=>ht]
 case pick c a b=>rw[h.ev (x:=c) (by simp+contextual),h.ev (x:=a) (by simp+contextual),h.ev (x:=b) (by simp+contextual)]
 case box t s x=>rw[h.ev λ t ht=>ht]
 case build z ps=>exact sB h ps z _ λ t ht=>ht
 case buildSlice t s len z ps=>exact mI h s ps _ _ λ t ht=>ht
 case ir t s len z ps=>exact mI h s ps _ _ λ t ht=>ht
 case pu o as=>
  have hm:(as.map λ x=>jl O (x.ev e))=as.map λ x=>jl O (x.ev e'):=map_congr_left λ x hx=>by rw[h.ev (x:=x) λ t ht=>List.mem_flatMap.2 ⟨x,hx,ht⟩]
  rw[hm]
 case jN t s b x y=>rw[h.ev (x:=x) (by simp+contextual),h.ev (x:=y) (by simp+contextual)]
 case load n x=>rw[h.ev λ t ht=>ht]
 case store m x y=>rw[h.ev (x:=x) (by simp+contextual),h.ev (x:=y) (by simp+contextual)]
 case bin op x y=>rw[h.ev (x:=x) (by simp+contextual),h.ev (x:=y) (by simp+contextual)]
 case beq neg x y=>rw[h.ev (x:=x) (by simp+contextual),h.ev (x:=y) (by simp+contextual)]
 case un op x=>rw[h.ev λ t ht=>ht]
 case jo k x=>rw[h.ev λ t ht=>ht]
 case dz k x=>rw[h.ev λ t ht=>ht]
 case yg k n x=>rw[h.ev λ t ht=>ht]
 case kf s x y=>rw[h.ev (x:=x) (by simp+contextual),h.ev (x:=y) (by simp+contextual)]
 case u7 m s x y=>rw[h.ev (x:=x) (by simp+contextual),h.ev (x:=y) (by simp+contextual)]
 case eB x y=>rw[h.ev (x:=x) (by simp+contextual),h.ev (x:=y) (by simp+contextual)]
 case cL x lo hi=>
  have e1:=λ d K=>hU (d:=d) (x:=lo) h (by simp+contextual) K
  have e2:=λ d K=>hU (d:=d) (x:=hi) h (by simp+contextual) K
  rw[h.ev (x:=x) (by simp+contextual)];simp only[e1,e2]
 case cw s x lo hi=>
  have e1:=λ d K=>hU (d:=d) (x:=lo) h (by simp+contextual) K
  have e2:=λ d K=>hU (d:=d) (x:=hi) h (by simp+contextual) K
  rw[h.ev (x:=x) (by simp+contextual)];simp only[e1,e2]
 case abS t s b z x y=>rw[h.ev (x:=x) (by simp+contextual),h.ev (x:=y) (by simp+contextual)]
 case cut s x lo hi=>
  have e1:=λ d K=>hU (d:=d) (x:=lo) h (by simp+contextual) K
  have e2:=λ d K=>hU (d:=d) (x:=hi) h (by simp+contextual) K
  rw[h.ev (x:=x) (by simp+contextual)];simp only[e1,e2]
 case mkF t s b z x y=>rw[h.ev (x:=x) (by simp+contextual),h.ev (x:=y) (by simp+contextual)]
 case xr k t s b z x y=>rw[h.ev (x:=x) (by simp+contextual),h.ev (x:=y) (by simp+contextual)]
 case mk t s b z x y=>rw[h.ev (x:=x) (by simp+contextual),h.ev (x:=y) (by simp+contextual)]
 case dI x=>rw[h.ev λ t ht=>ht]
 case cz x=>rw[h.ev λ t ht=>ht]
 case app t s b x y=>rw[h.ev (x:=x) (by simp+contextual),h.ev (x:=y) (by simp+contextual)]
 case ext x i=>rw[h.ev λ t ht=>ht]
 case ov x=>rw[h.ev λ t ht=>ht]
 case tj f cs=>rw[h.aY λ t ht=>ht]
 case call f as=>rw[h.aY λ t ht=>ht]
 case eJ x as=>rw[h.ev (x:=x) (by simp+contextual),h.aY (xs:=as) (by simp+contextual)]
 case lA f as=>
  have hm:(as.map λ x=>jl O (x.ev e))=as.map λ x=>jl O (x.ev e'):=map_congr_left λ x hx=>by rw[h.ev (x:=x) λ t ht=>List.mem_flatMap.2 ⟨x,hx,ht⟩]
  rw[hm,h.aY λ t ht=>ht]
 case jf x as=>
  have hm:(as.map λ x=>jl O (x.ev e))=as.map λ x=>jl O (x.ev e'):=map_congr_left λ x hx=>by rw[h.ev (x:=x) λ t ht=>List.mem_append_right _ (List.mem_flatMap.2 ⟨x,hx,ht⟩)]
  rw[hm,h.ev (x:=x) (by simp+contextual),h.aY (xs:=as) (by simp+contextual)]
 case jX f as=>rw[h.aY λ t ht=>ht]
 case kS f as=>
  have hm:(as.map λ x=>jl O (x.ev e))=as.map λ x=>jl O (x.ev e'):=map_congr_left λ x hx=>by rw[h.ev (x:=x) λ t ht=>List.mem_flatMap.2 ⟨x,hx,ht⟩]
  rw[hm]
 case fK nl t s f as=>rw[h.aY λ t ht=>ht]
 case afh ok d z m k=>rw[h.ev (x:=m) (by simp+contextual),h.ev (x:=k) (by simp+contextual)]
 case ae1 ok z m k=>rw[h.ev (x:=m) (by simp+contextual),h.ev (x:=k) (by simp+contextual)]
 case qp m k v=>rw[h.ev (x:=m) (by simp+contextual),h.ev (x:=k) (by simp+contextual),h.ev (x:=v) (by simp+contextual)]
 case uj x=>rw[h.ev λ t ht=>ht]
 case uq x=>rw[h.ev λ t ht=>ht]
 case xu t x=>rw[h.ev λ t ht=>ht]
 case s2b t x=>rw[h.ev λ t ht=>ht]
 case yU neg x=>rw[h.ev λ t ht=>ht]
 case peq neg x y=>rw[h.ev (x:=x) (by simp+contextual),h.ev (x:=y) (by simp+contextual)]
 case lT d m k v=>rw[h.ev (x:=m) (by simp+contextual),h.ev (x:=k) (by simp+contextual),h.ev (x:=v) (by simp+contextual)]
 case pJ rd f as=>rw[h.aY λ t ht=>ht]
 case pK rd f as=>rw[h.aY λ t ht=>ht]
 case n8 rd f as=>rw[h.aY λ t ht=>ht]
 case lg k t s x=>rw[h.ev λ t ht=>ht]
 case gr k t s len z ps=>
  have:=mI h s ps (List.replicate len z) (λ xs=>O[k]? =some (.nil t s)/\xs≠[]/\K (.row k len) (O.set k (.live t s xs))) λ t ht=>ht
  rw[this]
 case ia gs f as=>rw[h.aY λ t ht=>ht]
 case jd gs f as=>
  have hm:(as.flatMap λ x=>refs (x.ev e))=as.flatMap λ x=>refs (x.ev e'):=by
   simp only[←List.flatMap_map (aE.ev e) refs,←List.flatMap_map (aE.ev e') refs];rw[h.aY λ t ht=>ht]
  rw[h.aY λ t ht=>ht,hm]
 case ik x as=>rw[h.ev (x:=x) (by simp+contextual),h.aY (xs:=as) (by simp+contextual)]
def Ex(P:Program)(o:dZ)(e:Env)(O:List ae)(x:AV)(O':List ae):Prop:=∀K:AV->List ae->Prop,K x O'->wpOp P o e O K
theorem aav{e:Env}:∀(ps:List (Nat×Nat×aE)) (z:List AV) {K:AV->Prop},iO e z ps K->∃x,K x/\∀K':AV->Prop,K' x->iO e z ps K'
 | [],_,_,h=>⟨_,h,λ _ h=>h⟩
 |(off,size,x)::r,z,K,h=>by
  obtain⟨h1,h2,h3,h4⟩:=h;obtain⟨y,h5,h6⟩:=aav r _ h4;exact⟨y,h5,λ K' h=>⟨h1,h2,h3,h6 K' h⟩⟩
theorem rD{e:Env}{s:Nat}:∀(ps:List (Nat×aE)) (z:List AV) {K:List AV->Prop},lP e s z ps K->∃x,K x/\∀K':List AV->Prop,K' x->lP e s z ps K'
 | [],_,_,h=>⟨_,h,λ _ h=>h⟩
 |(i,x)::r,z,K,h=>by
  obtain⟨h1,h2,h3,h4⟩:=h;obtain⟨y,h5,h6⟩:=rD r _ h4;exact⟨y,h5,λ K' h=>⟨h1,h2,h3,h6 K' h⟩⟩
theorem iV{d:Int}{e:Env}{x:Option aE}{K:Int->Prop}(h:fq d e x K):∃i,K i/\∀K':Int->Prop,K' i->fq d e x K':=by
 cases x with
 |none=>exact⟨_,h,λ _ h=>h⟩
 |some o=>
  simp only[fq]at h⊢
  split at h
  ·exact⟨_,h,λ _ h=>h⟩
  ·exact h.elim
theorem ex0{P:Program}{o:dZ}(hc:o.cls=0){e:Env}{O:List ae}{K:AV->List ae->Prop}(h:wpOp P o e O K):
  ∃x,K x O/\∀O',Ex P o e O' x O':=by
 cases o<;>simp only[dZ.cls]at hc<;>first|(cases hc;done)|skip
 case bt x=>exact⟨_,h,λ O' K' h'=>h'⟩
 case pick c a b=>
  simp only[wpOp]at h
  split at h
  ·rename_i t ht;exact⟨_,h,λ O' K' h'=>by simp only[wpOp,ht];exact h'⟩
  ·exact h.elim
 case build z ps=>
  obtain⟨x,h1,h2⟩:=aav ps z h;exact⟨x,h1,λ O' K' h'=>h2 (λ a=>K' a O') h'⟩
 case mkF t s b z x y=>
  simp only[wpOp]at h
  split at h
  ·rename_i n c hx hy;obtain⟨h1,h2,h3,h4,h5,h6⟩:=h;exact⟨_,h6,λ O' K' h'=>by simp only[wpOp,hx,hy];exact⟨h1,h2,h3,h4,h5,h'⟩⟩
  ·exact h.elim
 case ir t s len z ps=>
  obtain⟨xs,⟨cd,h1⟩,h2⟩:=rD ps _ h;exact⟨_,h1,λ O' K' h'=>h2 (λ xs=>AV.ad xs=true/\K' (.sl xs) O') ⟨cd,h'⟩⟩
 case beq neg x y=>
  simp only[wpOp]at h
  split at h
  ·rename_i a b ha hb;exact⟨_,h,λ O' K' h'=>by simp only[wpOp,ha,hb];exact h'⟩
  ·exact h.elim
 case bin op x y=>
  simp only[wpOp]at h
  split at h
  ·rename_i a b ha hb
   split at h
   ·rename_i z hz;exact⟨_,h,λ O' K' h'=>by simp only[wpOp,ha,hb,hz];exact h'⟩
   ·exact h.elim
  ·exact h.elim
 case un op x=>
  simp only[wpOp]at h
  split at h
  ·rename_i a ha
   split at h
   ·rename_i z hz;exact⟨_,h,λ O' K' h'=>by simp only[wpOp,ha,hz];exact h'⟩
   ·exact h.elim
  ·exact h.elim
 case jo k x=>
  simp only[wpOp]at h
  split at h
  ·rename_i k' n ha;exact⟨_,h,λ O' K' h'=>by simp only[wpOp,ha];exact h'⟩
  ·exact h.elim
 case yg off n x=>exact⟨_,h.2.2,λ O' K' h'=>⟨h.1,h.2.1,h'⟩⟩
 case eB x i=>
  simp only[wpOp]at h
  split at h
  ·rename_i s k j ha hb;exact⟨_,h.2.2,λ O' K' h'=>by simp only[wpOp,ha,hb];exact⟨h.1,h.2.1,h'⟩⟩
  ·exact h.elim
 case cL x lo hi=>
  simp only[wpOp]at h
  split at h
  ·rename_i s ha;obtain⟨l,h1,h2⟩:=iV h;obtain⟨u,h3,h4⟩:=iV h1;exact⟨_,h3.2.2.2,λ O' K' h'=>by simp only[wpOp,ha];exact h2 _ (h4 _ ⟨h3.1,h3.2.1,h3.2.2.1,h'⟩)⟩
  ·exact h.elim
 case cw s x lo hi=>
  simp only[wpOp]at h
  split at h
  ·rename_i s ha;obtain⟨l,h1,h2⟩:=iV h;obtain⟨u,h3,h4⟩:=iV h1;exact⟨_,h3.2.2.2.2,λ O' K' h'=>by simp only[wpOp,ha];exact h2 _ (h4 _ ⟨h3.1,h3.2.1,h3.2.2.1,h3.2.2.2.1,h'⟩)⟩
  ·exact h.elim
 case dI x=>
  simp only[wpOp]at h
  split at h
  ·rename_i s ha;exact⟨_,h,λ O' K' h'=>by simp only[wpOp,ha];exact h'⟩
  ·exact h.elim
 case ext x i=>
  simp only[wpOp]at h
  split at h
  ·rename_i vs ha;exact⟨_,h.2,λ O' K' h'=>by simp only[wpOp,ha];exact⟨h.1,h'⟩⟩
  ·exact h.elim
 case tj f cs=>exact⟨_,h,λ O' K' h'=>h'⟩
 case jX f as=>
  obtain⟨r,h1,h2,h3⟩:=h;exact⟨r,h3,λ O' K' h'=>⟨r,h1,h2,h'⟩⟩
 case ik x as=>
  simp only[wpOp]at h
  split at h
  ·rename_i f aX ha;obtain⟨r,h1,h2,h3⟩:=h;exact⟨r,h3,λ O' K' h'=>by simp only[wpOp,ha];exact⟨r,h1,h2,h'⟩⟩
  ·exact h.elim
def ny(rd:List Nat)(O O':List ae):Prop:=∀n∈rd,O'[n]? =O[n]?
theorem aiy{O O':List ae}{a:AV}(h:ny (refs a) O O'):jl O' a=jl O a:=by
 cases a with
 |row n len=>simp only[jl,h n (by simp[refs])]
 |own n=>simp only[jl,h n (by simp[refs])]
 |_=>rfl
theorem yb{O O':List ae}{e:Env}{as:List aE}(h:ny (as.flatMap λ x=>refs (x.ev e)) O O'):(as.map λ x=>jl O' (x.ev e))=as.map λ x=>jl O (x.ev e):=
 map_congr_left λ x hx=>aiy λ n hn=>h n (List.mem_flatMap.2 ⟨x,hx,hn⟩)
theorem ex1{P:Program}{o:dZ}(hc:o.cls=1){e:Env}{O:List ae}{K:AV->List ae->Prop}(h:wpOp P o e O K):
  ∃x,K x O/\∀O' N,ny (ck o e N).rd O O'->Ex P o e O' x O':=by
 cases o<;>simp only[dZ.cls]at hc<;>first|(cases hc;done)|skip
 case pu o as=>
  obtain⟨hn,hk⟩:=h;unfold puK at hk
  split at hk
  ·rename_i v hv;refine⟨v,hk,λ O' N ha K' h'=> ?_⟩;have hm:=yb (O:=O) (O':=O') (e:=e) (as:=as) ha;exact⟨by rw[hm];exact hn,by rw[hm];unfold puK;rw[hv];exact h'⟩
  ·exact hk.elim
 case kS f as=>
  obtain⟨r,h1,h2,h3,h4⟩:=h;refine⟨r,h4,λ O' N ha K' h'=> ?_⟩;have hm:=yb (O:=O) (O':=O') (e:=e) (as:=as) ha;exact⟨r,h1,by rw[hm];exact h2,by rw[hm];exact h3,h'⟩
 case load n x=>
  simp only[wpOp]at h
  split at h
  ·rename_i y f ha;exact⟨_,h.2,λ O' N hg K' h'=>by simp only[wpOp,ha];exact⟨h.1,h'⟩⟩
  ·rename_i k len i f ha
   split at h
   ·rename_i t s xs hO;obtain⟨h1,h2,h3,h4⟩:=h
    exact⟨_,h4,λ O' N hg K' h'=>by
     have hO':=hg k (by simp[ck,kz,ha,refs]);simp only[wpOp,ha,hO',hO];exact⟨h1,h2,h3,h'⟩⟩
   ·exact h.elim
  ·exact h.elim
 case dz off x=>
  simp only[wpOp]at h
  split at h
  ·rename_i y f ha;exact⟨_,h,λ O' N hg K' h'=>by simp only[wpOp,ha];exact h'⟩
  ·rename_i k len i f ha
   split at h
   ·rename_i t s xs hO
    exact⟨_,h.2,λ O' N hg K' h'=>by
     have hO':=hg k (by simp[ck,kz,ha,refs]);simp only[wpOp,ha,hO',hO];exact⟨h.1,h'⟩⟩
   ·exact h.elim
  ·exact h.elim
 case ov x=>
  simp only[wpOp]at h
  split at h
  ·rename_i y f ha;exact⟨_,h,λ O' N hg K' h'=>by simp only[wpOp,ha];exact h'⟩
  ·rename_i y f ha;exact⟨_,h,λ O' N hg K' h'=>by simp only[wpOp,ha];exact h'⟩
  ·rename_i k len i f ha
   split at h
   ·rename_i t s xs hO
    exact⟨_,h.2,λ O' N hg K' h'=>by
     have hO':=hg k (by simp[ck,kz,ha,refs]);simp only[wpOp,ha,hO',hO];exact⟨h.1,h'⟩⟩
   ·exact h.elim
  ·exact h.elim
 case kf s x y=>
  simp only[wpOp]at h
  split at h
  ·rename_i xs k i ha hb;obtain⟨h1,h2,h3,h4⟩:=h;exact⟨_,h4,λ O' N hg K' h'=>by simp only[wpOp,ha,hb];exact⟨h1,h2,h3,h'⟩⟩
  ·rename_i n len k i ha hb
   split at h
   ·rename_i t s' xs hO;obtain⟨h1,h2,h3,h4,h5⟩:=h
    exact⟨_,h5,λ O' N hg K' h'=>by
     have hO':=hg n (by simp[ck,kz,ha,refs]);simp only[wpOp,ha,hb,hO',hO];exact⟨h1,h2,h3,h4,h'⟩⟩
   ·exact h.elim
  ·exact h.elim
 case u7 m s x y=>
  simp only[wpOp]at h
  split at h
  ·rename_i b f k i ha hb;obtain⟨h1,h2,h3⟩:=h;exact⟨_,h3,λ O' N hg K' h'=>by simp only[wpOp,ha,hb];exact⟨h1,h2,h'⟩⟩
  ·rename_i n len j f k i ha hb
   split at h
   ·rename_i t s' xs hO;obtain⟨h1,h2,h3,h4⟩:=h
    exact⟨_,h4,λ O' N hg K' h'=>by
     have hO':=hg n (by simp[ck,kz,ha,refs]);simp only[wpOp,ha,hb,hO',hO];exact⟨h1,h2,h3,h'⟩⟩
   ·exact h.elim
  ·exact h.elim
 case cz x=>
  simp only[wpOp]at h
  split at h
  ·rename_i ha;exact⟨_,h,λ O' N hg K' h'=>by simp only[wpOp,ha];exact h'⟩
  ·rename_i xs ha;exact⟨_,h,λ O' N hg K' h'=>by simp only[wpOp,ha];exact h'⟩
  ·rename_i k len ha;have hO':∀O' N,ny (ck (.cz x) e N).rd O O'->O'[k]? =O[k]? :=λ O' N hg=>hg k (by simp[ck,kz,ha,refs])
   split at h
   ·rename_i t s xs hO;exact⟨_,h.2,λ O' N hg K' h'=>by simp only[wpOp,ha,hO' O' N hg,hO];exact⟨h.1,h'⟩⟩
   ·rename_i t s hO;exact⟨_,h.2,λ O' N hg K' h'=>by simp only[wpOp,ha,hO' O' N hg,hO];exact⟨h.1,h'⟩⟩
   ·exact h.elim
  ·exact h.elim
theorem ex2{P:Program}{o:dZ}(hc:o.cls=2){e:Env}{O:List ae}{K:AV->List ae->Prop}(h:wpOp P o e O K):
  ∃x b,K x (O++ [b])/\∀O',O'.length=O.length->Ex P o e O' x (O'++ [b]):=by
 cases o<;>simp only[dZ.cls]at hc<;>first|(cases hc;done)|skip
 case alloc t s z=>exact⟨_,_,h,λ O' hl K' h'=>by simp only[wpOp,hl];exact h'⟩
 case box t s x=>exact⟨_,_,h.2.2,λ O' hl K' h'=>by simp only[wpOp,hl];exact⟨h.1,h.2.1,h'⟩⟩
 case buildSlice t s len z ps=>
  obtain⟨xs,h1,h2⟩:=rD ps _ h;exact⟨.row O.length len,.live t s xs,h1,λ O' hl K' h'=>by simp only[wpOp];exact h2 (λ ys=>K' (.row O'.length len) (O'++ [ae.live t s ys])) (by rw[hl];exact h')⟩
 case fK nl t s f as=>
  obtain⟨res,ob,h1,h2,h3⟩:=h;exact⟨_,_,h3,λ O' hl K' h'=>⟨res,ob,h1,h2,by rw[hl];exact h'⟩⟩
 case mk t s b z x y=>
  simp only[wpOp]at h
  split at h
  ·rename_i n c ha hb;obtain⟨h1,h2,h3,h4,h5⟩:=h;exact⟨_,_,h5,λ O' hl K' h'=>by simp only[wpOp,ha,hb,hl];exact⟨h1,h2,h3,h4,h'⟩⟩
  ·exact h.elim
theorem anv{O:List ae}{y:AV}{K:List AV->Prop}(h:qd O y K):∃ys,K ys/\∀K':List AV->Prop,K' ys->qd O y K':=by
 unfold qd at h
 split at h
 ·exact⟨_,h,λ K' h'=>h'⟩
 ·exact⟨_,h,λ K' h'=>h'⟩
 ·rename_i n len
  split at h
  ·rename_i t s xs hO;exact⟨_,h.2,λ K' h'=>by simp only[qd,hO];exact⟨h.1,h'⟩⟩
  ·rename_i t s hO;exact⟨_,h.2,λ K' h'=>by simp only[qd,hO];exact⟨h.1,h'⟩⟩
  ·exact h.elim
 ·exact h.elim
theorem ag9{O:List ae}{x:AV}{t s b:Nat}{ys:List AV}{K:AV->List ae->Prop}(h:gY O x t s b ys K):∃r O',K r O'/\∀K':AV->List ae->Prop,K' r O'->gY O x t s b ys K':=by
 unfold gY at h
 split at h
 ·obtain⟨h1,h2,h3,h4⟩:=h;by_cases hy:ys= []
  ·exact⟨_,_,h3 hy,λ K' h'=>⟨h1,h2,λ _=>h',λ hn=>(hn hy).elim⟩⟩
  ·exact⟨_,_,h4 hy,λ K' h'=>⟨h1,h2,λ hn=>(hy hn).elim,λ _=>h'⟩⟩
 ·rename_i n len
  split at h
  ·rename_i t' s' xs hO;obtain⟨h1,h2,h3,h4,h5,h6⟩:=h;exact⟨_,_,h6,λ K' h'=>by simp only[gY,hO];exact⟨h1,h2,h3,h4,h5,h'⟩⟩
  ·rename_i t' s' hO;obtain⟨h1,h2,h3,h4,h5,h6,h7⟩:=h;by_cases hy:ys= []
   ·exact⟨_,_,h6 hy,λ K' h'=>by simp only[gY,hO];exact⟨h1,h2,h3,h4,h5,λ _=>h',λ hn=>(hn hy).elim⟩⟩
   ·exact⟨_,_,h7 hy,λ K' h'=>by simp only[gY,hO];exact⟨h1,h2,h3,h4,h5,λ hn=>(hy hn).elim,λ _=>h'⟩⟩
  ·exact h.elim
 ·exact h.elim
theorem aqf{P:Program}{o:dZ}{e:Env}{O:List ae}{K:AV->List ae->Prop}(h:wpOp P o e O K):∃x O',K x O'/\Ex P o e O x O':=by
 by_cases h0:o.cls=0
 ·obtain⟨x,h1,h2⟩:=ex0 h0 h;exact⟨x,O,h1,h2 O⟩
 by_cases h1:o.cls=1
 ·obtain⟨x,h1,h2⟩:=ex1 h1 h;exact⟨x,O,h1,h2 O 0 λ _ _=>rfl⟩
 by_cases h2:o.cls=2
 ·obtain⟨x,b,h1,h2⟩:=ex2 h2 h;exact⟨x,_,h1,h2 O rfl⟩
 cases o<;>first|(exact(h0 rfl).elim)|(exact(h1 rfl).elim)|(exact(h2 rfl).elim)|skip
 case stuck=>exact h.elim
 case abS t s b z x y=>
  simp only[wpOp]at h
  split at h
  ·rename_i k ha hb;exact⟨_,_,h.2.2.2,λ K' h'=>by simp only[wpOp,ha,hb];exact⟨h.1,h.2.1,h.2.2.1,h'⟩⟩
  ·exact h.elim
 case cut s x lo hi=>
  simp only[wpOp]at h
  split at h
  ·rename_i ha;obtain⟨l,h1,h2⟩:=iV h;obtain⟨u,h3,h4⟩:=iV h1;exact⟨_,_,h3.2.2,λ K' h'=>by simp only[wpOp,ha];exact h2 _ (h4 _ ⟨h3.1,h3.2.1,h'⟩)⟩
  ·rename_i n len ha
   split at h
   ·rename_i t s' xs hO;obtain⟨q1,q2,h⟩:=h;obtain⟨l,h1,h2⟩:=iV h;obtain⟨u,h3,h4⟩:=iV h1;exact⟨_,_,h3.2.2,λ K' h'=>by simp only[wpOp,ha,hO];exact⟨q1,q2,h2 _ (h4 _ ⟨h3.1,h3.2.1,h'⟩)⟩⟩
   ·exact h.elim
  ·exact h.elim
 case jN t s b x y=>
  simp only[wpOp]at h
  split at h
  ·rename_i sb hsb;obtain⟨r,O',h1,h2⟩:=ag9 h.2;exact⟨r,O',h1,λ K' h'=>by simp only[wpOp,hsb];exact⟨h.1,h2 K' h'⟩⟩
  ·exact h.elim
 case store m x y=>
  simp only[wpOp]at h
  split at h
  ·rename_i k len i f ha
   split at h
   ·rename_i t s xs hO;obtain⟨q1,q2,q3,q4,q5,q6⟩:=h;exact⟨_,_,q6,λ K' h'=>by simp only[wpOp,ha,hO];exact⟨q1,q2,q3,q4,q5,h'⟩⟩
   ·exact h.elim
  ·exact h.elim
 case app t s b x y=>
  simp only[wpOp]at h;obtain⟨ys,q1,q2⟩:=anv h;obtain⟨r,O',q3,q4⟩:=ag9 q1.2;exact⟨r,O',q3,λ K' h'=>by simp only[wpOp];exact q2 _ ⟨q1.1,q4 K' h'⟩⟩
 case call f as=>
  obtain⟨r,O',q1,q2⟩:=h;exact⟨r,O',q2,λ K' h'=>⟨r,O',q1,h'⟩⟩
 case gu k t s z=>exact⟨_,_,h.2.2,λ K' h'=>⟨h.1,h.2.1,h'⟩⟩
 case xr k t s b z x y=>
  simp only[wpOp]at h
  split at h
  ·rename_i n c hx hy;obtain⟨h1,h2,h3,h4,h5,h6,h7⟩:=h;exact⟨_,_,h7,λ K' h'=>by simp only[wpOp,hx,hy];exact⟨h1,h2,h3,h4,h5,h6,h'⟩⟩
  ·exact h.elim
 case lg k t s x=>exact⟨_,_,h.2.2.2.2,λ K' h'=>⟨h.1,h.2.1,h.2.2.1,h.2.2.2.1,h'⟩⟩
 case gr k t s len z ps=>
  obtain⟨xs,⟨h1,h2,h3⟩,h4⟩:=rD ps _ h.2.2;exact⟨_,_,h3,λ K' h'=>⟨h.1,h.2.1,h4 (λ xs=>O[k]? =some (.nil t s)/\xs≠[]/\K' (.row k len) (O.set k (ae.live t s xs))) ⟨h1,h2,h'⟩⟩⟩
 case ia gs f as=>
  obtain⟨r,O',q1,q2⟩:=h;exact⟨r,O',q2,λ K' h'=>⟨r,O',q1,h'⟩⟩
 case zP=>exact⟨_,_,h,λ K' h'=>h'⟩
 case afh ok d z m k=>
  simp only[wpOp]at h
  split at h
  ·rename_i n kv hm hk
   split at h
   ·rename_i es hO;obtain⟨h1,h2,h3⟩:=h;exact⟨_,_,h3,λ K' h'=>by simp only[wpOp,hm,hk,hO];exact⟨h1,h2,h'⟩⟩
   ·exact h.elim
  ·exact h.elim
 case lT d m k v=>
  simp only[wpOp]at h
  split at h
  ·rename_i n kv hm hk
   split at h
   ·rename_i es hO;obtain⟨h1,h2,h3⟩:=h;exact⟨_,_,h3,λ K' h'=>by simp only[wpOp,hm,hk,hO];exact⟨h1,h2,h'⟩⟩
   ·exact h.elim
  ·exact h.elim
 case ae1 ok z m k=>
  simp only[wpOp]at h
  split at h
  ·rename_i n j hm hk
   split at h
   ·rename_i es hO;obtain⟨h1,h2,h3⟩:=h;exact⟨_,_,h3,λ K' h'=>by simp only[wpOp,hm,hk,hO];exact⟨h1,h2,h'⟩⟩
   ·exact h.elim
  ·exact h.elim
 case qp m k v=>
  simp only[wpOp]at h
  split at h
  ·rename_i n j hm hk
   split at h
   ·rename_i es hO;obtain⟨h1,h2,h3⟩:=h;exact⟨_,_,h3,λ K' h'=>by simp only[wpOp,hm,hk,hO];exact⟨h1,h2,h'⟩⟩
   ·exact h.elim
  ·exact h.elim
 case uj x=>
  simp only[wpOp]at h
  split at h
  ·rename_i s hx;exact⟨_,_,h,λ K' h'=>by simp only[wpOp,hx];exact h'⟩
  ·exact h.elim
 case uq x=>
  simp only[wpOp]at h
  split at h
  ·rename_i n hx
   split at h
   ·rename_i s pos hO;by_cases hp:pos<s.size
    ·exact⟨_,_,h.1 hp,λ K' h'=>by simp only[wpOp,hx,hO];exact⟨λ _=>h',λ q=>(q hp).elim⟩⟩
    ·exact⟨_,_,h.2 hp,λ K' h'=>by simp only[wpOp,hx,hO];exact⟨λ q=>(hp q).elim,λ _=>h'⟩⟩
   ·exact h.elim
  ·exact h.elim
 case s2b t x=>
  simp only[wpOp]at h
  split at h
  ·rename_i s hx;exact⟨_,_,h.2,λ K' h'=>by simp only[wpOp,hx];exact⟨h.1,h'⟩⟩
  ·exact h.elim
 case xu t x=>
  simp only[wpOp]at h
  split at h
  ·rename_i n len hx
   split at h
   ·rename_i t' s xs hO;obtain⟨h1,h2,h3,h4⟩:=h;exact⟨_,_,h4,λ K' h'=>by simp only[wpOp,hx,hO];exact⟨h1,h2,h3,h'⟩⟩
   ·exact h.elim
  ·exact h.elim
 case yU neg x=>
  simp only[wpOp]at h
  split at h
  ·rename_i hx;exact⟨_,_,h,λ K' h'=>by simp only[wpOp,hx];exact h'⟩
  ·rename_i n len i f hx
   split at h
   ·rename_i t s xs hO;exact⟨_,_,h.2,λ K' h'=>by simp only[wpOp,hx,hO];exact⟨h.1,h'⟩⟩
   ·exact h.elim
  ·exact h.elim
 case peq neg x y=>
  simp only[wpOp]at h
  split at h
  ·rename_i n m hx hy;exact⟨_,_,h.2.2,λ K' h'=>by simp only[wpOp,hx,hy];exact⟨h.1,h.2.1,h'⟩⟩
  ·exact h.elim
 case pJ rd f as=>
  obtain⟨r,ob,q1,q2⟩:=h;exact⟨r,_,q2,λ K' h'=>⟨r,ob,q1,h'⟩⟩
 case pK rd f as=>
  obtain⟨r,q1,q2⟩:=h;exact⟨r,_,q2,λ K' h'=>⟨r,q1,h'⟩⟩
 case n8 rd f as=>
  obtain⟨r,O',q1,q2,q3⟩:=h;exact⟨r,O',q3,λ K' h'=>⟨r,O',q1,q2,h'⟩⟩
 case jd gs f as=>
  obtain⟨n,a0,ob,r,ob',q1,q2,q3,q4,q5,q6,q7,q8,q9⟩:=h;exact⟨r,_,q9,λ K' h'=>⟨n,a0,ob,r,ob',q1,q2,q3,q4,q5,q6,q7,q8,h'⟩⟩
 case eJ x as=>
  simp only[wpOp]at h
  split at h
  ·rename_i f aX ha;obtain⟨r,O',q1,q2⟩:=h;exact⟨r,O',q2,λ K' h'=>by simp only[wpOp,ha];exact⟨r,O',q1,h'⟩⟩
  ·exact h.elim
 case lA f as=>
  obtain⟨r,q1,q2,q3⟩:=h;exact⟨r,_,q3,λ K' h'=>⟨r,q1,q2,h'⟩⟩
 case jf x as=>
  simp only[wpOp]at h
  split at h
  ·rename_i f aX ha;obtain⟨r,q1,q2,q3⟩:=h;exact⟨r,_,q3,λ K' h'=>by simp only[wpOp,ha];exact⟨r,q1,q2,h'⟩⟩
  ·exact h.elim
theorem aid{o:dZ}(h:∀kp f as,o≠ .n8 kp f as)(e:Env)(N:Nat):(ck o e N).k.keeps= []:=by
 cases o<;>first|rfl|(exact(h _ _ _ rfl).elim)|(simp only[ck,kz];split<;>rfl)
theorem ass{P:Program}{o:dZ}{e:Env}{O:List ae}{K:AV->List ae->Prop}(h:wpOp P o e O K):∃x O',K x O'/\Ex P o e O x O'/\∀n∈(ck o e O.length).k.keeps,O'[n]? =O[n]? :=by
 by_cases hu:∃kp f as,o= .n8 kp f as
 ·obtain⟨kp,f,as,rfl⟩:=hu;obtain⟨r,O',q1,q2,q3⟩:=h;exact⟨r,O',q3,λ K' h'=>⟨r,O',q1,q2,h'⟩,q2⟩
 ·obtain⟨x,O',h1,h2⟩:=aqf h;refine⟨x,O',h1,h2,λ n hn=> ?_⟩;rw[aid λ kp f as he=>hu ⟨kp,f,as,he⟩]at hn;simp at hn
theorem ajN{O:List ae}{y:AV}{K:List AV->Prop}(h:qd O y K):∃ys,K ys/\∀O',ny (refs y) O O'->∀K':List AV->Prop,K' ys->qd O' y K':=by
 unfold qd at h
 split at h
 ·exact⟨_,h,λ O' _ K' h'=>h'⟩
 ·exact⟨_,h,λ O' _ K' h'=>h'⟩
 ·rename_i n len;have hg:∀O',ny (refs (.row n len)) O O'->O'[n]? =O[n]? :=λ O' hg=>hg n (by simp[refs])
  split at h
  ·rename_i t s xs hO;exact⟨_,h.2,λ O' ha K' h'=>by simp only[qd,hg O' ha,hO];exact⟨h.1,h'⟩⟩
  ·rename_i t s hO;exact⟨_,h.2,λ O' ha K' h'=>by simp only[qd,hg O' ha,hO];exact⟨h.1,h'⟩⟩
  ·exact h.elim
 ·exact h.elim
inductive Eff where
 |ou
 |set (n:Nat) (b:ae)
 |push (b:ae)
def Eff.app:Eff->List ae->List ae
 | .ou,O=>O
 | .set n b,O=>O.set n b
 | .push b,O=>O++ [b]
def Fit:EK->Eff->List ae->Prop
 | .ou,.ou,_=>True
 | .set _,.ou,_=>True
 | .set n,.set m _,O=>m=n/\n<O.length
 | .push N,.push _,O=>O.length=N
 |_,_,_=>False
theorem aec{O:List ae}{n len:Nat}{t s b:Nat}{ys:List AV}{K:AV->List ae->Prop}(h:gY O (.row n len) t s b ys K):
  ∃r qR,Fit (.set n) qR O/\K r (qR.app O)/\∀O',O'[n]? =O[n]? ->∀K':AV->List ae->Prop,K' r (qR.app O')->gY O' (.row n len) t s b ys K':=by
 simp only[gY]at h
 split at h
 ·rename_i t' s' xs hO;obtain⟨h1,h2,h3,h4,h5,h6⟩:=h;exact⟨_,.set n _,⟨rfl,(List.getElem?_eq_some_iff.1 hO).1⟩,h6,λ O' ho K' h'=>by simp only[gY,ho,hO];exact⟨h1,h2,h3,h4,h5,h'⟩⟩
 ·rename_i t' s' hO;obtain⟨h1,h2,h3,h4,h5,h6,h7⟩:=h;by_cases hy:ys= []
  ·exact⟨_,.ou,trivial,h6 hy,λ O' ho K' h'=>by simp only[gY,ho,hO];exact⟨h1,h2,h3,h4,h5,λ _=>h',λ hn=>(hn hy).elim⟩⟩
  ·exact⟨_,.set n _,⟨rfl,(List.getElem?_eq_some_iff.1 hO).1⟩,h7 hy,λ O' ho K' h'=>by simp only[gY,ho,hO];exact⟨h1,h2,h3,h4,h5,λ hn=>(hy hn).elim,λ _=>h'⟩⟩
 ·exact h.elim
theorem wX{a:AV}{n:Nat}(h:refs a= [n]):(∃len,a= .row n len)∨(∃len i f,a= .ptr n len i f)∨a= .own n:=by
 cases a<;>simp[refs]at h
 ·subst h;exact .inl ⟨_,rfl⟩
 ·subst h;exact .inr (.inl ⟨_,_,_,rfl⟩)
 ·subst h;exact .inr (.inr rfl)
theorem aia{P:Program}{o:dZ}{e:Env}{O:List ae}{K:AV->List ae->Prop}(hk:(ck o e O.length).k.isAny=false)(h:wpOp P o e O K):
  ∃x qR,Fit (ck o e O.length).k qR O/\(∀n,(ck o e O.length).k= .set n->n∈(ck o e O.length).rd)/\K x (qR.app O)/\
   ∀O',ny (ck o e O.length).rd O O'->((ck o e O.length).k.gR=true->O'.length=O.length)->Ex P o e O' x (qR.app O'):=by
 by_cases h0:o.cls=0
 ·have hl:ck o e O.length=⟨[],.ou⟩:=by cases o<;>first|(simp[dZ.cls]at h0;done)|rfl
  obtain⟨x,h1,h2⟩:=ex0 h0 h;exact⟨x,.ou,by rw[hl];trivial,by rw[hl];simp,h1,λ O' _ _=>h2 O'⟩
 by_cases h1:o.cls=1
 ·have hl:(ck o e O.length).k= .ou:=by cases o<;>first|(simp[dZ.cls]at h1;done)|rfl
  obtain⟨x,h2,h3⟩:=ex1 h1 h;exact⟨x,.ou,by rw[hl];trivial,by rw[hl];simp,h2,λ O' ha _=>h3 O' _ ha⟩
 by_cases h2:o.cls=2
 ·have hl:ck o e O.length=⟨[],.push O.length⟩:=by cases o<;>first|(simp[dZ.cls]at h2;done)|rfl
  obtain⟨x,b,h3,h4⟩:=ex2 h2 h;exact⟨x,.push b,by rw[hl];exact rfl,by rw[hl];simp,h3,λ O' _ hp=>h4 O' (hp (by rw[hl];rfl))⟩
 cases o<;>first|(exact(h0 rfl).elim)|(exact(h1 rfl).elim)|(exact(h2 rfl).elim)|(simp[ck,kz,EK.isAny]at hk;done)|skip
 case gu k t s z=>
  obtain⟨h1,h2,h3⟩:=h;exact⟨_,.set k _,⟨rfl,(List.getElem?_eq_some_iff.1 h2).1⟩,by simp[ck,kz],h3,λ O' ha _ K' h'=>⟨h1,by rw[ha k (by simp[ck,kz])];exact h2,h'⟩⟩
 case xr k t s b z x y=>
  simp only[wpOp]at h
  split at h
  ·rename_i n c hx hy;obtain⟨h1,h2,h3,h4,h5,h6,h7⟩:=h;exact⟨_,.set k _,⟨rfl,(List.getElem?_eq_some_iff.1 h6).1⟩,by simp[ck,kz],h7,λ O' ha _ K' h'=>by simp only[wpOp,hx,hy];exact⟨h1,h2,h3,h4,h5,by rw[ha k (by simp[ck,kz])];exact h6,h'⟩⟩
  ·exact h.elim
 case lg k t s x=>
  obtain⟨h0,h2,h3,h4,h5⟩:=h;exact⟨_,.set k _,⟨rfl,(List.getElem?_eq_some_iff.1 h2).1⟩,by simp[ck,kz],h5,λ O' ha _ K' h'=>⟨h0,by rw[ha k (by simp[ck,kz])];exact h2,h3,h4,h'⟩⟩
 case gr k t s len z ps=>
  obtain⟨h0,hp,h⟩:=h;obtain⟨xs,⟨h1,h2,h3⟩,h4⟩:=rD ps _ h;exact⟨_,.set k (.live t s xs),⟨rfl,(List.getElem?_eq_some_iff.1 h1).1⟩,by simp[ck,kz],h3,λ O' ha _ K' h'=>⟨h0,hp,h4 (λ xs=>O'[k]? =some (.nil t s)/\xs≠[]/\K' (.row k len) (O'.set k (ae.live t s xs))) ⟨by rw[ha k (by simp[ck,kz])];exact h1,h2,h'⟩⟩⟩
 case pJ rd f as=>
  obtain⟨res,ob,h1,h2⟩:=h;exact⟨res,.push ob,rfl,by simp[ck,kz],h2,λ O' ha hp K' h'=>⟨res,ob,λ pC hl hr=>h1 pC (hl.trans (hp rfl)) λ n hn=>(hr n hn).trans (ha n hn),h'⟩⟩
 case pK rd f as=>
  obtain⟨res,h1,h2⟩:=h;exact⟨res,.ou,trivial,by simp[ck,kz],h2,λ O' ha _ K' h'=>⟨res,λ pC hr=>h1 pC λ n hn=>(hr n hn).trans (ha n hn),h'⟩⟩
 case jd gs f as=>
  simp only[ck,kz]at hk⊢;obtain⟨n,a0,ob,r,ob',q1,q2,q3,q4,q5,q6,q7,q8,q9⟩:=h;simp only[q3];exact⟨r,.set n ob',⟨rfl,(List.getElem?_eq_some_iff.1 q4).1⟩,by simp,q9,λ O' ha _ K' h'=>⟨n,a0,ob,r,ob',q1,q2,q3,by rw[ha n (by simp)];exact q4,q5,q6,q7,q8,h'⟩⟩
 case store m x y=>
  simp only[ck,kz]at hk⊢
  split at hk
  ·rename_i n hn;simp only[hn];rcases wX hn with⟨len,hx⟩|⟨len,i,f,hx⟩|hx;rotate_left 2
   ·simp only[wpOp,hx]at h
   ·simp only[wpOp,hx]at h
   ·simp only[wpOp,hx]at h
    split at h
    ·rename_i t s xs hO;obtain⟨q1,q2,q3,q4,q5,q6⟩:=h
     exact⟨_,.set n _,⟨rfl,(List.getElem?_eq_some_iff.1 hO).1⟩,by simp,q6,λ O' ha _ K' h'=>by
      simp only[wpOp,hx,ha n (by simp),hO];exact⟨q1,q2,q3,q4,q5,h'⟩⟩
    ·exact h.elim
  ·simp[EK.isAny]at hk
 case app t s b x y=>
  simp only[ck,kz]at hk⊢
  split at hk
  ·rename_i n hn;simp only[hn];simp only[wpOp]at h;obtain⟨ys,⟨q0,q1⟩,q2⟩:=ajN h;rcases wX hn with⟨len,hx⟩|⟨len,i,f,hx⟩|hx
   ·rw[hx]at q1;obtain⟨r,qR,q3,q4,q5⟩:=aec q1
    exact⟨r,qR,q3,by simp,q4,λ O' ha _ K' h'=>by
     simp only[wpOp,hx];exact q2 O' (λ m hm=>ha m (by simp[hm])) _ ⟨q0,q5 O' (ha n (by simp)) K' h'⟩⟩
   ·rw[hx]at q1;exact q1.elim
   ·rw[hx]at q1;exact q1.elim
  ·simp[EK.isAny]at hk
 case jN t s b x y=>
  simp only[ck,kz]at hk⊢
  split at hk
  ·rename_i n hn;simp only[hn];simp only[wpOp]at h
   split at h
   ·rename_i sb hsb;obtain⟨q0,q1⟩:=h;rcases wX hn with⟨len,hx⟩|⟨len,i,f,hx⟩|hx
    ·rw[hx]at q1;obtain⟨r,qR,q3,q4,q5⟩:=aec q1
     exact⟨r,qR,q3,by simp,q4,λ O' ha _ K' h'=>by
      simp only[wpOp,hsb,hx];exact⟨q0,q5 O' (ha n (by simp)) K' h'⟩⟩
    ·rw[hx]at q1;exact q1.elim
    ·rw[hx]at q1;exact q1.elim
   ·exact h.elim
  ·simp[EK.isAny]at hk
end Go.Ab
namespace Go.Ab
inductive Step(P:Program)(o:aN)(e:Env)(O:List ae):Env->List ae->Prop
 |run (x:AV) (O':List ae):(∀t want,o.guard=some (t,want)->e t= .v (.bool want))->Ex P o.op e O x O'->Step P o e O (bI e o.dst x) O'
 |skip (t:Nat) (want:Bool):o.guard=some (t,want)->(e t= .v (.bool (!want))∨e t= .aK [])->Step P o e O (bI e o.dst (.aK [])) O
inductive Run(P:Program):List aN->Env->List ae->Env->List ae->Prop
 |nil (e:Env) (O:List ae):Run P [] e O e O
 |cons {o:aN} {l:List aN} {e e1 e2:Env} {O O1 O2:List ae}:Step P o e O e1 O1->Run P l e1 O1 e2 O2->Run P (o::l) e O e2 O2
theorem wP{e:Env}{t:Nat}{a:AV}(h:e t=a):e.set t a=e:=by
 funext k;unfold Env.set;split
 ·rename_i hk;subst hk;exact h.symm
 ·rfl
theorem iP{e:Env}{d d':Option Nat}{a b:AV}(h:d=none∨d≠d'):bI (bI e d a) d' b=bI (bI e d' b) d a:=by
 cases d<;>cases d'<;>simp only[bI]
 rename_i t t'
 have cr:t≠t':=by
  rcases h with h|h
  ·cases h
  ·intro he;exact h (by rw[he])
 funext k
 simp only[Env.set];by_cases h1:k=t
 ·subst h1;rw[if_neg cr,if_pos rfl,if_pos rfl]
 ·rw[if_neg h1,if_neg h1]
theorem nw{l:List Nat}{e:Env}{d:Option Nat}{a:AV}(h:∀t,d=some t->t∉l):agree l (bI e d a) e:=by
 intro t ht;cases d with
 |none=>rfl
 |some d=>
  simp only[bI,Env.set];rw[if_neg];intro he;subst he;exact h _ rfl ht
theorem Ex.congr{P:Program}{o:dZ}{e e':Env}{O O':List ae}{x:AV}(h:Ex P o e O x O')(ha:agree o.reads e' e):Ex P o e' O x O':=by
 intro K hk;rw[aex ha];exact h K hk
inductive mC(P:Program)(o:aN)(l:ll)(e:Env)(O:List ae):Env->List ae->Prop
 |any (x:AV) (O':List ae):l.k.isAny=true->(∀n∈l.k.keeps,O'[n]? =O[n]?)->(∀t want,o.guard=some (t,want)->e t= .v (.bool want))->Ex P o.op e O x O'->mC P o l e O (bI e o.dst x) O'
 |lab (x:AV) (qR:Eff):l.k.isAny=false->Fit l.k qR O->(∀n,l.k= .set n->n∈l.rd)->(∀t want,o.guard=some (t,want)->e t= .v (.bool want))->
  (∀O',ny l.rd O O'->(l.k.gR=true->O'.length=O.length)->Ex P o.op e O' x (qR.app O'))->mC P o l e O (bI e o.dst x) (qR.app O)
 |skip (t:Nat) (want:Bool):o.guard=some (t,want)->(e t= .v (.bool (!want))∨e t= .aK [])->mC P o l e O (bI e o.dst (.aK [])) O
theorem mC.step{P:Program}{o:aN}{l:ll}{e e':Env}{O O':List ae}(h:mC P o l e O e' O'):Step P o e O e' O':=by
 cases h with
 |any x _ _ _ hg hx=>exact .run x _ hg hx
 |lab x qR _ _ _ hg hx=>exact .run x _ hg (hx O (λ _ _=>rfl) λ _=>rfl)
 |skip t want hg hb=>exact .skip t want hg hb
inductive vM(P:Program):List (aN×ll)->Env->List ae->Env->List ae->Prop
 |nil (e:Env) (O:List ae):vM P [] e O e O
 |cons {o:aN×ll} {l:List (aN×ll)} {e e1 e2:Env} {O O1 O2:List ae}:mC P o.1 o.2 e O e1 O1->vM P l e1 O1 e2 O2->vM P (o::l) e O e2 O2
theorem vM.run{P:Program}{l:List (aN×ll)}{e e':Env}{O O':List ae}(h:vM P l e O e' O'):Run P (l.map (·.1)) e O e' O':=by
 induction h with
 |nil=>exact .nil _ _
 |cons hs _ ih=>exact .cons hs.step ih
theorem acg{P:Program}{o:aN}{e:Env}{O:List ae}{K:AV->List ae->Prop}(hg:∀t want,o.guard=some (t,want)->e t= .v (.bool want))(h:wpOp P o.op e O K):
  ∃x O',K x O'/\mC P o (ck o.op e O.length) e O (bI e o.dst x) O':=by
 cases hk:(ck o.op e O.length).k.isAny with
 |true=>
  obtain⟨x,O',h1,h2,h3⟩:=ass h;exact⟨x,O',h1,.any x O' hk h3 hg h2⟩
 |false=>
  obtain⟨x,qR,h1,h2,h3,h4⟩:=aia hk h;exact⟨x,_,h3,.lab x qR hk h1 h2 hg h4⟩
theorem kR{P:Program}:∀(l:List aN) {acc:List ll} {e:Env} {O:List ae} {K:List ll->Env->List ae->Prop},dq P l acc e O K->∃jZ e' O',jZ.length=l.length/\vM P (l.zip jZ) e O e' O'/\K (acc++jZ) e' O'
 | [],acc,e,O,K,h=>⟨[],e,O,rfl,.nil e O,by rw[List.append_nil];exact h⟩
 |o::l,acc,e,O,K,h=>by
  simp only[dq]at h;cases hg:o.guard with
  |none=>
   rw[hg]at h;obtain⟨x,O',h1,h2⟩:=acg (λ t want h=>by rw[hg]at h;cases h) h;obtain⟨jZ,e2,O2,h0,h3,h4⟩:=kR l h1;exact⟨ck o.op e O.length::jZ,e2,O2,by simp[h0],.cons h2 h3,by rw[append_assoc]at h4;exact h4⟩
  |some g=>
   obtain⟨t,want⟩:=g;rw[hg]at h;simp only at h
   split at h
   ·rename_i b hb;by_cases nW:b=want
    ·have hs:e.set t (.v (.bool want))=e:=wP (by rw[hb,nW]);rw[hs]at h;obtain⟨x,O',h1,h2⟩:=acg (λ t' kc h=>by rw[hg]at h;cases h;rw[hb,nW]) (h.1 nW);obtain⟨jZ,e2,O2,h0,h3,h4⟩:=kR l h1;exact⟨ck o.op e O.length::jZ,e2,O2,by simp[h0],.cons h2 h3,by rw[append_assoc]at h4;exact h4⟩
    ·have hbn:b= !want:=by cases b<;>cases want<;>simp_all
     have hs:e.set t (.v (.bool (!want)))=e:=wP (by rw[hb,hbn]);rw[hs]at h;obtain⟨jZ,e2,O2,h0,h3,h4⟩:=kR l (h.2 hbn);exact⟨⟨[],.ou⟩::jZ,e2,O2,by simp[h0],.cons (.skip t want hg (.inl (by rw[hb,hbn]))) h3,by rw[append_assoc]at h4;exact h4⟩
   ·rename_i hb;obtain⟨jZ,e2,O2,h0,h3,h4⟩:=kR l h;exact⟨⟨[],.ou⟩::jZ,e2,O2,by simp[h0],.cons (.skip t want hg (.inr hb)) h3,by rw[append_assoc]at h4;exact h4⟩
   ·exact h.elim
theorem afC{p i:aN×ll}(h:tx p i=true):
  (∀t,p.1.dst=some t->t∉i.1.reads)/\(p.1.dst=none∨p.1.dst≠i.1.dst)/\(∀t,i.1.dst=some t->t∉p.1.reads)/\ae4 p.2 i.2=true:=by
 unfold tx at h;simp only[and_eq_true]at h;obtain⟨⟨h1,h2⟩,h3⟩:=h;refine⟨λ t ht=> ?_,?_,λ t ht=> ?_,h3⟩
 ·rw[ht]at h1;simp at h1;exact h1.1
 ·cases hp:p.1.dst with
  |none=>exact .inl rfl
  |some t=>rw[hp]at h1;simp at h1;exact .inr λ he=>h1.2 he.symm
 ·rw[ht]at h2;simpa using h2
theorem acy{kp:List Nat}{l:ll}(h:l.pure kp=true):(∀n∈l.rd,n∈kp)/\l.k= .ou:=by
 unfold ll.pure at h;simp only[and_eq_true,all_eq_true]at h;refine⟨λ n hn=>by simpa using h.1 n hn,?_⟩;have:=h.2
 split at this
 ·assumption
 ·cases this
theorem aao{k:EK}{qR:Eff}{O:List ae}(hf:Fit k qR O){rd:List Nat}(h:k.zb rd=false):ny rd O (qR.app O):=by
 intro n hn;cases k<;>cases qR<;>simp only[Fit]at hf<;>simp only[EK.zb]at h<;>simp only[Eff.app]
 ·rename_i k m b;obtain⟨rfl,au⟩:=hf;have:n≠m:=by rintro rfl;simp at h;exact h hn
  rw[getElem?_set_ne (λ he=>this he.symm)]
 ·rename_i N b;have:n≠N:=by rintro rfl;simp at h;exact h hn
  by_cases au:n<O.length
  ·rw[getElem?_append_left au]
  ·rw[List.getElem?_eq_none (l:=O++ [b]) (by simp;omega),List.getElem?_eq_none (by omega)]
theorem ag2{k:EK}{qR:Eff}{O:List ae}(hf:Fit k qR O)(h:k.gR=false):∀O':List ae,(qR.app O').length=O'.length:=by
 intro O';cases k<;>cases qR<;>simp only[Fit]at hf<;>simp[Eff.app]
 simp[EK.gR]at h
theorem ami{kp ki:EK}{p i:Eff}{O:List ae}(hp:Fit kp p O)(hi:Fit ki i (p.app O))(au1:(kp.gR&&ki.gR)=false)(mV:∀n m,kp= .set n->ki= .set m->n≠m)(hps:∀n m,kp= .push n->ki= .set m->n≠m):
  Fit ki i O/\Fit kp p (i.app O)/\i.app (p.app O)=p.app (i.app O):=by
 cases kp<;>cases p<;>simp only[Fit]at hp<;>cases ki<;>cases i<;>simp only[Fit]at hi<;>simp only[Fit,Eff.app,true_and,and_true]<;>(try simp only[Eff.app]at hi)<;>try trivial
 case set.set.set.set n _ b m _ c=>
  obtain⟨rfl,h1⟩:=hp;obtain⟨rfl,h2⟩:=hi;have:=mV _ _ rfl rfl;refine⟨⟨rfl,by simpa using h2⟩,⟨rfl,by simpa using h1⟩,List.set_comm _ _ (λ he=>this he)⟩
 case set.set.push.push n _ b m c=>
  obtain⟨rfl,h1⟩:=hp;refine⟨by simpa using hi,⟨rfl,by simp;omega⟩,?_⟩;rw[List.set_append_left _ _ h1]
 case push.push.set.set=>
  obtain⟨rfl,h2⟩:=hi;have:=hps _ _ rfl rfl;have au:_<O.length:=Nat.lt_of_le_of_ne (by simp at h2;omega) (λ he=>this (hp.symm.trans he.symm));refine⟨⟨rfl,au⟩,by simpa using hp,?_⟩;rw[List.set_append_left _ _ au]
 all_goals simp[EK.gR]at au1
theorem aeF{P:Program}{p i:aN×ll}(hd:tx p i=true){e e1 e2:Env}{O O1 O2:List ae}(h1:mC P p.1 p.2 e O e1 O1)(h2:mC P i.1 i.2 e1 O1 e2 O2):
  ∃e1' lv,mC P i.1 i.2 e O e1' lv/\mC P p.1 p.2 e1' lv e2 O2:=by
 obtain⟨p,lp⟩:=p;obtain⟨i,li⟩:=i;obtain⟨d1,d2,d3,d4⟩:=afC hd;simp only at d1 d2 d3 d4 h1 h2⊢
 have gi:∀{t want a},i.guard=some (t,want)->bI e p.dst a t=e t:=by
  intro t want a hg;exact nw (l:=i.reads) d1 t (by simp[aN.reads,hg])
 have gp:∀{t want} {e':Env} {a},p.guard=some (t,want)->bI e' i.dst a t=e' t:=by
  intro t want e' a hg;exact nw (l:=p.reads) d3 t (by simp[aN.reads,hg])
 have ri:∀{a},agree i.op.reads e (bI e p.dst a):=λ {a} t ht=>(nw (l:=i.reads) d1 t (by simp[aN.reads,ht])).symm
 have rp:∀{e' a},agree p.op.reads (bI e' i.dst a) e':=λ {e' a} t ht=>nw (l:=p.reads) d3 t (by simp[aN.reads,ht])
 have alu:(lp.k.isAny=true/\li.pure lp.k.keeps=true)∨(lp.k.isAny=false/\li.k.isAny=true/\lp.pure li.k.keeps=true)∨(lp.k.isAny=false/\li.k.isAny=false/\lp.k.zb li.rd=false/\li.k.zb lp.rd=false/\(lp.k.gR&&li.k.gR)=false):=by
  unfold ae4 at d4
  split at d4
  ·rename_i h;exact .inl ⟨h,d4⟩
  ·rename_i h
   split at d4
   ·rename_i h';exact .inr (.inl ⟨by simpa using h,h',d4⟩)
   ·rename_i h';simp only[and_eq_true,Bool.not_eq_true']at d4;exact .inr (.inr ⟨by simpa using h,by simpa using h',d4.1.1,d4.1.2,d4.2⟩)
 cases h1 with
 |skip t want hg hb=>
  have hp':∀{e':Env} {O':List ae} {y:AV},e'=bI e i.dst y->mC P p lp e' O' (bI e' p.dst (.aK [])) O':=by
   rintro e' O' y rfl;exact .skip t want hg (by rw[gp hg];exact hb)
  cases h2 with
  |skip t' kc sk jr=>
   rw[gi sk]at jr;refine⟨_,_,.skip t' kc sk jr,?_⟩;rw[iP d2];exact hp' rfl
  |any y _ ha hkp hq hy=>
   refine⟨_,_,.any y O2 ha hkp (λ t' kc sk=>by rw[←gi sk];exact hq t' kc sk) (hy.congr ri),?_⟩;rw[iP d2];exact hp' rfl
  |lab y qR ha hf hm hq hy=>
   refine⟨_,_,.lab y qR ha hf hm (λ t' kc sk=>by rw[←gi sk];exact hq t' kc sk) (λ O' h1 h2=>(hy O' h1 h2).congr ri),?_⟩;rw[iP d2];exact hp' rfl
 |any x _ hap hkp hqp hx=>
  have hp':∀{e':Env} {y:AV},e'=bI e i.dst y->mC P p lp e' O (bI e' p.dst x) O1:=by
   rintro e' y rfl;exact .any x O1 hap hkp (λ t want hg=>by rw[gp hg];exact hqp t want hg) (hx.congr rp)
  have hpu:li.pure lp.k.keeps=true:=by
   rcases alu with⟨_,h⟩|⟨h,_⟩|⟨h,_⟩
   ·exact h
   ·rw[hap]at h;cases h
   ·rw[hap]at h;cases h
  obtain⟨hrd,eD⟩:=acy hpu;cases h2 with
  |skip t' kc sk jr=>
   rw[gi sk]at jr;refine⟨_,_,.skip t' kc sk jr,?_⟩;rw[iP d2];exact hp' rfl
  |any y _ ha _ hq hy=>rw[eD]at ha;cases ha
  |lab y qR ha hf hm hq hy=>
   have he:qR= .ou:=by rw[eD]at hf;cases qR<;>simp[Fit]at hf;rfl
   subst he;refine⟨_,_,.lab y .ou ha (by rw[eD];trivial) hm (λ t' kc sk=>by rw[←gi sk];exact hq t' kc sk) (λ O' h1 h2=>(hy O' (λ n hn=>(h1 n hn).trans (hkp n (hrd n hn)).symm) (by rw[eD];simp[EK.gR])).congr ri),?_⟩;rw[iP d2];exact hp' rfl
 |lab x apl hap hfp hmp hqp hx=>
  cases h2 with
  |skip t' kc sk jr=>
   rw[gi sk]at jr;refine⟨_,_,.skip t' kc sk jr,?_⟩;rw[iP d2];exact .lab x apl hap hfp hmp (λ t want hg=>by rw[gp hg];exact hqp t want hg) (λ O' h1 h2=>(hx O' h1 h2).congr rp)
  |any y _ ha hkp hq hy=>
   have hpu:lp.pure li.k.keeps=true:=by
    rcases alu with⟨h,_⟩|⟨_,_,h⟩|⟨_,h,_⟩
    ·rw[hap]at h;cases h
    ·exact h
    ·rw[ha]at h;cases h
   obtain⟨hrd,eD⟩:=acy hpu;have he:apl= .ou:=by rw[eD]at hfp;cases apl<;>simp[Fit]at hfp;rfl
   subst he;refine⟨_,_,.any y O2 ha hkp (λ t' kc sk=>by rw[←gi sk];exact hq t' kc sk) (hy.congr ri),?_⟩;rw[iP d2];exact .lab x .ou hap (by rw[eD];trivial) hmp (λ t want hg=>by rw[gp hg];exact hqp t want hg) (λ O' h1 h2=>(hx O' (λ n hn=>(h1 n hn).trans (hkp n (hrd n hn))) (by rw[eD];simp[EK.gR])).congr rp)
  |lab y ayP ha hf hm hq hy=>
   have hh:lp.k.zb li.rd=false/\li.k.zb lp.rd=false/\(lp.k.gR&&li.k.gR)=false:=by
    rcases alu with⟨h,_⟩|⟨_,h,_⟩|⟨_,_,h⟩
    ·rw[hap]at h;cases h
    ·rw[ha]at h;cases h
    ·exact h
   obtain⟨hh1,hh2,hh3⟩:=hh
   have mV:∀n m,lp.k= .set n->li.k= .set m->n≠m:=by
    rintro n m hn hm' rfl;have:=hm n hm';rw[hn]at hh1;simp[EK.zb]at hh1;exact hh1 this
   have hps:∀n m,lp.k= .push n->li.k= .set m->n≠m:=by
    rintro n m hn hm' rfl;have:=hm n hm';rw[hn]at hh1;simp[EK.zb]at hh1;exact hh1 this
   obtain⟨c1,c2,c3⟩:=ami hfp hf hh3 mV hps;have a1:=aao hfp hh1;have a2:=aao c1 hh2;refine⟨_,_,.lab y ayP ha c1 hm (λ t' kc sk=>by rw[←gi sk];exact hq t' kc sk) (λ O' h1 h2=>(hy O' (λ n hn=>(h1 n hn).trans (a1 n hn).symm) λ hpu=> ?_).congr ri),?_⟩
   ·rw[h2 hpu,ag2 hfp (by cases hlp:lp.k.gR with|false=>rfl|true=>rw[hlp,hpu]at hh3;cases hh3)]
   ·rw[iP d2,c3];refine .lab x apl hap c2 hmp (λ t want hg=>by rw[gp hg];exact hqp t want hg) (λ O' h1 h2=>(hx O' (λ n hn=>(h1 n hn).trans (a2 n hn)) λ hpu=> ?_).congr rp);rw[h2 hpu,ag2 c1 (by cases hli:li.k.gR with|false=>rfl|true=>rw[hli,hpu]at hh3;cases hh3)]
theorem wS{P:Program}{i:aN×ll}{post:List (aN×ll)}:∀(pre:List (aN×ll)),(∀p∈pre,tx p i=true)->∀{e e2:Env} {O O2:List ae},vM P (pre++i::post) e O e2 O2->vM P (i::(pre++post)) e O e2 O2
 | [],_,_,_,_,_,h=>h
 |p::pre,hp,e,e2,O,O2,h=>by
  cases h with
  |cons hs hr=>
   have:=wS pre (λ q hq=>hp q (by simp[hq])) hr;cases this with
   |cons hi lI=>
    obtain⟨e1',lv,s1,s2⟩:=aeF (hp p (by simp)) hs hi;exact .cons s1 (.cons s2 lI)
end Go.Ab
namespace Go.Ab
theorem oO(rows:List (List Nat))(n:Nat):(yw rows n).length=n:=by
 induction n with
 |zero=>rfl
 |succ n ih=>simp[yw,ih]
theorem yv(rows:List (List Nat)){i n:Nat}(h:i<n):(yw rows n).getD i 0=(rows.getD i []).foldl (λ s j=>s|||(2^j|||(yw rows i).getD j 0)) 0:=by
 induction n with
 |zero=>omega
 |succ n ih=>
  simp only[yw];by_cases hi:i<n
  ·rw[List.getD,getElem?_append_left (by rw[oO];exact hi)];exact ih hi
  ·obtain rfl:i=n:=by omega
   rw[List.getD,getElem?_append_right (by rw[oO];exact le_refl _)];simp[oO]
theorem adH(rows:List (List Nat)){i n m:Nat}(h:i<n)(h':i<m):(yw rows n).getD i 0=(yw rows m).getD i 0:=by
 rw[yv rows h,yv rows h']
theorem ra(f:Nat->Nat)(p:Nat):∀(l:List Nat) (s:Nat),(l.foldl (λ s j=>s|||(2^j|||f j)) s).testBit p=true->s.testBit p=true∨∃j∈l,p=j∨(f j).testBit p=true
 | [],s,h=> .inl h
 |j::l,s,h=>by
  rcases ra f p l _ h with h1|⟨k,hk,h1⟩
  ·rw[Nat.testBit_or,Nat.testBit_or]at h1;simp only[or_eq_true]at h1;rcases h1 with h1|h1|h1
   ·exact .inl h1
   ·rw[Nat.testBit_two_pow]at h1;exact .inr ⟨j,by simp,.inl (by simpa using(of_decide_eq_true h1).symm)⟩
   ·exact .inr ⟨j,by simp,.inr h1⟩
  ·exact .inr ⟨k,by simp[hk],h1⟩
theorem asz{rows:List (List Nat)}{n:Nat}{S:Nat->Prop}(auW:∀i,i<n->∀d∈rows.getD i [],d<i)(hS:∀j,j<n->S j->∀d∈rows.getD j [],S d):
  ∀i,i<n->(∀d∈rows.getD i [],S d)->∀p,((yw rows n).getD i 0).testBit p=true->S p:=by
 intro i
 induction i using Nat.strongRecOn with
 |_ i ih=>
  intro hi hd p hp;rw[yv rows hi]at hp;rcases ra _ p _ _ hp with h|⟨j,hj,h⟩
  ·simp at h
  ·have za:=auW i hi j hj;rcases h with rfl|h
   ·exact hd p hj
   ·exact ih j za (by omega) (hS j (by omega) (hd j hj)) p (by rw[adH rows (show j<n by omega) za];exact h)
section
variable {P:Program} {ops:Array Oper} {al:List (aN×ll)}
theorem acn{i:Nat}{o:Oper}(h:ops[i]? =some o):(rowsOf ops).getD i []=(o.after.toList.filter (Region.binds .any)).map (·.on):=by
 have:ops.toList[i]? =some o:=by simpa using h
 simp[rowsOf,List.getD,this]
theorem asc(hlen:al.length=ops.size)(uM:kD (rowsOf ops) al=true){e2:Env}{O2:List ae}:
  ∀(fuel t:Nat) (listed:Array Bool) (acc rem:List Nat) (e:Env) (O:List ae),listed.size=ops.size->rem.length<=fuel->rem.Pairwise (·<·)->(∀j,j∈rem↔j<ops.size/\listed.getD j true=false)->
   (∀j,j<ops.size->listed.getD j true=true->∀d∈(rowsOf ops).getD j [],listed.getD d true=true)->
   vM P (rem.map λ i=>al.getD i (⟨none,none,.bt (.c .top)⟩,⟨[],.any⟩)) e O e2 O2->
   ∃l,Region.linearise.go .any ops fuel t listed acc=acc.reverse++l/\vM P (l.map λ i=>al.getD i (⟨none,none,.bt (.c .top)⟩,⟨[],.any⟩)) e O e2 O2/\∀i∈l,i<ops.size:=by
 have arS:∀i,i<ops.size->(∀d∈(rowsOf ops).getD i [],d<i)/\∀p,p<i->((yw (rowsOf ops) ops.size).getD i 0).testBit p=true∨tx (al.getD p (⟨none,none,.bt (.c .top)⟩,⟨[],.any⟩)) (al.getD i (⟨none,none,.bt (.c .top)⟩,⟨[],.any⟩))=true:=by
  intro i hi;unfold kD at uM;simp only[all_eq_true,List.mem_range,and_eq_true,or_eq_true,decide_eq_true_eq,hlen]at uM;obtain⟨h1,h2⟩:=uM i hi;refine⟨h1,λ p hp=> ?_⟩;rcases h2 p hp with h|h
  ·exact .inl h
  ·refine .inr ?_;have e1:al[p]? =some (al.getD p (⟨none,none,.bt (.c .top)⟩,⟨[],.any⟩)):=by simp[List.getD,show p<al.length by omega]
   have e2:al[i]? =some (al.getD i (⟨none,none,.bt (.c .top)⟩,⟨[],.any⟩)):=by simp[List.getD,show i<al.length by omega]
   rw[e1,e2]at h;exact h
 intro fuel
 induction fuel with
 |zero=>
  intro t listed acc rem e O lj hf hpw lV lX hr;obtain rfl:rem= []:=List.eq_nil_of_length_eq_zero (by omega);exact⟨[],by simp[Region.linearise.go],hr,by simp⟩
 |succ fuel ih=>
  intro t listed acc rem e O lj hf hpw lV lX hr;simp only[Region.linearise.go];generalize hrs:(List.range ops.size).filter (λ i=> !listed.getD i true&&((ops[i]?).map (·.after.all λ e=> !Region.binds .any e||listed.getD e.on false)).getD false)=rs;cases hg:rs[t%rs.length]? with
  |none=>
   have ar4:rs= []:=by
    by_cases h0:rs.length=0
    ·exact List.eq_nil_of_length_eq_zero h0
    ·have:=Nat.mod_lt t (Nat.pos_of_ne_zero h0);rw[List.getElem?_eq_getElem this]at hg;cases hg
   have axD:rem= []:=by
    cases rem with
    |nil=>rfl
    |cons i r=>
     exfalso;obtain⟨hi,hli⟩:=(lV i).1 (by simp)
     have arU:∀d,d<i->listed.getD d true=true:=by
      intro d hdi;cases hld:listed.getD d true with
      |true=>rfl
      |false=>
       have hm:=(lV d).2 ⟨by omega,hld⟩;rcases List.mem_cons.1 hm with rfl|hm
       ·omega
       ·have:=List.rel_of_pairwise_cons hpw hm;omega
     have:i∈rs:=by
      rw[←hrs,List.mem_filter];refine⟨List.mem_range.2 hi,?_⟩;have ho:ops[i]? =some ops[i]:=by simp[hi]
      simp only[hli,Bool.not_false,Bool.true_and,ho,map_some,getD_some,Array.all_eq_true,or_eq_true];intro j hj;by_cases hbj:Region.binds .any (ops[i].after[j])=true;rotate_left
      ·exact .inl (by simpa using hbj)
      refine .inr ?_;have hdi:(ops[i].after[j]).on<i:=(arS i hi).1 _ (by rw[acn ho];exact List.mem_map.2 ⟨_,List.mem_filter.2 ⟨Array.getElem_mem_toList hj,hbj⟩,rfl⟩);have:=arU _ hdi;have au:(ops[i].after[j]).on<listed.size:=by omega
      simp[Array.getD,au]at this⊢;exact this
     rw[ar4]at this;cases this
   subst axD;exact⟨[],by simp,hr,by simp⟩
  |some i=>
   have hmi:i∈rs:=mem_of_getElem? hg;rw[←hrs,List.mem_filter]at hmi;obtain⟨hi,ap2⟩:=hmi;have hi:i<ops.size:=List.mem_range.1 hi;have ho:ops[i]? =some ops[i]:=by simp[hi]
   simp only[ho,map_some,getD_some,and_eq_true,Bool.not_eq_true',Array.all_eq_true,or_eq_true]at ap2;obtain⟨hli,adm⟩:=ap2
   have ap9:∀d∈(rowsOf ops).getD i [],listed.getD d true=true:=by
    intro d hdm;rw[acn ho]at hdm;obtain⟨ed,aye,rfl⟩:=List.mem_map.1 hdm;obtain⟨hed,hbe⟩:=List.mem_filter.1 aye;obtain⟨j,hj⟩:=getElem?_of_mem hed;obtain⟨hjl,hje⟩:=List.getElem?_eq_some_iff.1 hj;have ax4:j<ops[i].after.size:=by simpa using hjl
    have avi:ops[i].after[j]=ed:=by simpa using hje
    rcases adm j ax4 with h|h
    ·rw[avi,hbe]at h;simp at h
    ·rw[avi]at h;by_cases au:ed.on<listed.size
     ·simp[Array.getD,au]at h⊢;exact h
     ·simp[Array.getD,au]at h
   have avm:i∈rem:=(lV i).2 ⟨hi,hli⟩;obtain⟨pre,post,rfl⟩:=List.append_of_mem avm;have als:=List.pairwise_append.1 hpw;have afK:∀p∈pre,p<i:=λ p hp=>als.2.2 p hp i (by simp)
   have au2:∀p∈post,i<p:=λ p hp=>List.rel_of_pairwise_cons als.2.1 hp
   have ar2:=wS (P:=P) (i:=al.getD i (⟨none,none,.bt (.c .top)⟩,⟨[],.any⟩)) (post:=post.map λ i=>al.getD i (⟨none,none,.bt (.c .top)⟩,⟨[],.any⟩)) (pre.map λ i=>al.getD i (⟨none,none,.bt (.c .top)⟩,⟨[],.any⟩)) (by
    intro q hq;obtain⟨p,hp,rfl⟩:=List.mem_map.1 hq;rcases(arS i hi).2 p (afK p hp)with h|h
    ·exfalso;have:=asz (S:=λ j=>listed.getD j true=true) (λ j hj=>(arS j hj).1) lX i hi ap9 p h;have hpm:=((lV p).1 (by simp[hp])).2;rw[hpm]at this;cases this
    ·exact h) (by simpa using hr)
   cases ar2 with
   |cons hs auY=>
    have cr:∀j,j∈pre++post->j≠i:=by
     intro j hj he;subst he;rcases List.mem_append.1 hj with h|h
     ·have:=afK j h;omega
     ·have:=au2 j h;omega
    have mV:∀j,(listed.setIfInBounds i true).getD j true=if j=i then true else listed.getD j true:=by
     intro j;simp only[Array.getD_eq_getD_getElem?,Array.getElem?_setIfInBounds];by_cases za:i=j
     ·subst za;simp[lj,hi]
     ·rw[if_neg za,if_neg (λ h=>za h.symm)]
    obtain⟨l,h1,h2,h3⟩:=ih (t/rs.length) (listed.setIfInBounds i true) (i::acc) (pre++post) _ _ (by simp[lj]) (by simp at hf⊢;omega)
     (List.pairwise_append.2 ⟨als.1,(List.pairwise_cons.1 als.2.1).2,λ x hx y hy=>als.2.2 x hx y (by simp[hy])⟩)
     (by
      intro j;rw[mV];constructor
      ·intro hj;rw[if_neg (cr j hj)];exact(lV j).1 (by rcases List.mem_append.1 hj with h|h<;>simp[h])
      ·rintro⟨hj1,hj2⟩;by_cases za:j=i
       ·rw[if_pos za]at hj2;cases hj2
       ·rw[if_neg za]at hj2;have:=(lV j).2 ⟨hj1,hj2⟩;simp only[mem_append,List.mem_cons]at this⊢;rcases this with h|h|h
        ·exact .inl h
        ·exact(za h).elim
        ·exact .inr h)
     (by
      intro j hj hlj d hd;rw[mV]at hlj⊢
      split
      ·rfl
      ·by_cases za:j=i
       ·subst za;exact ap9 d hd
       ·rw[if_neg za]at hlj;exact lX j hj hlj d hd)
     (by simpa using auY)
    refine⟨i::l,by simp[h1],?_,λ j hj=> ?_⟩
    ·exact .cons hs h2
    ·rcases List.mem_cons.1 hj with rfl|h
     ·exact hi
     ·exact h3 j h
theorem aaQ{mixed:Bool}(hd:Region.departs ops=false∨mixed=true)(hlen:al.length=ops.size)(uM:kD (rowsOf ops) al=true){e e2:Env}{O O2:List ae}(hr:vM P al e O e2 O2)(t:Nat):
  vM P ((Region.schedule mixed ops t).map λ i=>al.getD i (⟨none,none,.bt (.c .top)⟩,⟨[],.any⟩)) e O e2 O2/\∀i∈Region.schedule mixed ops t,i<ops.size:=by
 have hs:Region.schedule mixed ops t=Region.linearise .any ops t:=by rcases hd with hd|hd<;>simp[Region.schedule,hd]
 rw[hs]
 have adm:(List.range ops.size).map (λ i=>al.getD i (⟨none,none,.bt (.c .top)⟩,⟨[],.any⟩))=al:=by
  apply List.ext_getElem
  ·simp[hlen]
  ·intro i h1 h2;simp[List.getD,h2]
 obtain⟨l,h1,h2,h3⟩:=asc (P:=P) hlen uM ops.size t (Array.replicate ops.size false) [] (List.range ops.size) e O (by simp) (by simp) List.pairwise_lt_range
  (λ j=>by
   rw[List.mem_range];constructor
   ·intro h;exact⟨h,by simp[Array.getD,h]⟩
   ·exact λ h=>h.1)
  (λ j hj h=>by simp[Array.getD,hj]at h)
  (by rw[adm];exact hr)
 simp only[Region.linearise];rw[h1];simpa using⟨h2,h3⟩
end
end Go.Ab
