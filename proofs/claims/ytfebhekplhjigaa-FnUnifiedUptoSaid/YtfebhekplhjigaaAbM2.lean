/- Part of a proof: the functions that the law reaches, walked by the abstract logic of the texts Ab. -/
import Derived.Test.YtfebhekplhjigaaAbM1
import Derived.Laws.BytesArg
open Nat(add_assoc le_refl zero_le lt_or_ge sub_self)
open Bool(and_eq_true or_eq_true)
open Option(bind_eq_bind bind_eq_some_iff getD_none getD_some map_eq_some_iff map_some)
open List(getElem?_of_mem mem_of_getElem? getElem?_set getElem?_append_left getElem?_map getElem?_append_right length_map all_eq_true map_congr_left getElem?_set_ne getElem?_set_self map_cons map_nil mem_append append_assoc)
set_option linter.unusedSimpArgs false
set_option linter.unusedVariables false
namespace Go.Ab
section
variable {P:Program} {I:du} {L:Nat->Loc} {O:List ad} {w:World} {K:AV->List ad->Prop} {e:Env} {a:Act}
variable {d:Option Tmp} {ty:TypeId} {pos:String} {af:Array Edge} {g:Option (Nat×Bool)} {ao:ez}
theorem aqA(hi:Inv I L O w)(he:∀t,R I L O (e t) (a.tmps.getD t undef)){op:BinOp}{t u:TypeId}{x y:Operand}(hc:bY P ty (.binOp op t x y u)=some ao)(hk:wpOp P ao e O K):
  fD P I L O w (execOp a.eval ⟨d,.binOp op t x y u,ty,pos,af,g⟩) K:=by
 simp only[bY]at hc
 split at hc
 ·rename_i hb;simp only[bind_eq_bind,bind_eq_some_iff,Option.some.injEq]at hc;obtain⟨ax,hx,ay,hy,rfl⟩:=hc;have rx:=aq hx he;have ry:=aq hy he;simp only[wpOp]at hk
  split at hk
  ·rename_i p q hp hq;rw[hp]at rx;rw[hq]at ry;have h1:=rx.bool;have h2:=ry.bool
   have key:(op= .eql∨op= .neq)/\P.underlying t=some .bool:=by
    unfold afn at hb
    split at hb
    ·rename_i h;exact⟨.inl rfl,h⟩
    ·rename_i h;exact⟨.inr rfl,h⟩
    ·cases hb
   obtain⟨hop,ht⟩:=key;refine fD.same hi hk (.v _ rfl) ?_;simp only[execOp,h1,h2]
   have he:(Op.equal t (.bool p) (.bool q)).run P w= .ok (p==q) w:=by
    have e1:Op.equal t (.bool p) (.bool q)=Op.equalIn (9999+1) t (.bool p) (.bool q):=rfl;rw[e1,Op.equalIn];simp[run_underlying ht]
   rcases hop with rfl|rfl
   ·simp[eqGuard,Go.binOp,he,jF]
   ·simp[eqGuard,Go.binOp,he,jF]
  ·exact hk.elim
 split at hc
 ·rename_i _ hp;simp only[ajl,and_eq_true]at hp;obtain⟨hop,vo⟩:=hp;obtain⟨el,inf,ht,fu,qp⟩:=u7 vo;simp only[bind_eq_bind,bind_eq_some_iff,Option.some.injEq]at hc;obtain⟨ax,hx,ay,hy,rfl⟩:=hc;have rx:=aq hx he;have ry:=aq hy he;simp only[wpOp]at hk
  split at hk
  ·rename_i n m hn hm;rw[hn]at rx;rw[hm]at ry;obtain⟨k1,k2,hk⟩:=hk;have h1:=qX k1 rx;have h2:=qX k2 ry;have heq:=abK (P:=P) (w:=w) ht fu qp (afk (P:=P) hi k1 k2);refine fD.same hi hk (.v _ rfl) ?_;have ho:op= .eql∨op= .neq:=by cases op<;>first|exact .inl rfl|exact .inr rfl|(simp[mR]at hop;done)
   rcases ho with rfl|rfl
   ·simp[execOp,h1,h2,eqGuard,Go.binOp,heq,jF]
   ·simp[execOp,h1,h2,eqGuard,Go.binOp,heq,jF]
  ·exact hk.elim
 simp only[bind_eq_bind,bind_eq_some_iff,Option.some.injEq]at hc;obtain⟨ax,hx,ay,hy,rfl⟩:=hc;have rx:=aq hx he;have ry:=aq hy he;simp only[wpOp]at hk;generalize ax.ev e=A at rx hk;generalize ay.ev e=B at ry hk;cases A<;>cases B<;>simp only at hk
 rename_i p q;cases hz:lC op p q with
 |none=>simp only[hz]at hk
 |some z=>
  simp only[hz]at hk;have h1:=rx.exact;have h2:=ry.exact;obtain⟨hr,ho⟩:=amw (P:=P) hz t x y w;refine fD.same hi hk (.v z ho) ?_;simp only[execOp,h1,h2];rw[Sem.run_bind,hr]
  rfl
theorem at3(hi:Inv I L O w)(he:∀t,R I L O (e t) (a.tmps.getD t undef)){op:UnOp}{t:TypeId}{x:Operand}(hc:bY P ty (.unOp op t x)=some ao)(hk:wpOp P ao e O K):
  fD P I L O w (execOp a.eval ⟨d,.unOp op t x,ty,pos,af,g⟩) K:=by
 simp only[bY,bind_eq_bind,bind_eq_some_iff,Option.some.injEq]at hc;obtain⟨ax,hx,rfl⟩:=hc;have rx:=aq hx he;simp only[wpOp]at hk;generalize ax.ev e=A at rx hk;cases A<;>simp only at hk
 rename_i p;cases hz:sun op p with
 |none=>simp only[hz]at hk
 |some z=>
  simp only[hz]at hk;have h1:=rx.exact;obtain⟨hr,ho⟩:=aqd (P:=P) hz w;refine fD.same hi hk (.v z ho) ?_;simp only[execOp,h1];rw[Sem.run_bind,hr]
  rfl
theorem aeV(hi:Inv I L O w)(he:∀t,R I L O (e t) (a.tmps.getD t undef)){s t:TypeId}{x:Operand}(hc:bY P ty (.convert s t x)=some ao)(hk:wpOp P ao e O K):
  fD P I L O w (execOp a.eval ⟨d,.convert s t x,ty,pos,af,g⟩) K:=by
 simp only[bY]at hc
 split at hc
 ·rename_i k1 k2 hs ht;simp only[bind_eq_bind,bind_eq_some_iff,Option.some.injEq]at hc;obtain⟨ax,hx,rfl⟩:=hc;have rx:=aq hx he;simp only[wpOp]at hk;generalize ax.ev e=A at rx hk;cases A
  case v p=>
   cases p
   case int k n=>
    have h1:=rx.exact;refine fD.same hi hk (.v _ rfl) ?_;simp only[execOp,h1];simp[convert,run_underlying hs,run_underlying ht,Conv.intToInt]
   all_goals exact hk.elim
  all_goals exact hk.elim
 ·rename_i el hs ht
  split at hc
  ·rename_i hu;simp only[bind_eq_bind,bind_eq_some_iff,Option.some.injEq]at hc;obtain⟨ax,hx,rfl⟩:=hc;exact aqt hi hs ht hu he hx hk
  ·cases hc
 ·rename_i el0 el hs ht
  split at hc
  ·rename_i hu;simp only[bind_eq_bind,bind_eq_some_iff,Option.some.injEq]at hc;obtain⟨ax,hx,rfl⟩:=hc;obtain⟨hu,rfl⟩:=hu;exact akj hi ht hu he hx hk
  ·cases hc
 ·cases hc
theorem akm(hi:Inv I L O w)(he:∀t,R I L O (e t) (a.tmps.getD t undef)){t:TypeId}{x:Operand}{f:Nat}(hc:bY P ty (.fieldAddr t x f)=some ao)(hk:wpOp P ao e O K):
  fD P I L O w (execOp a.eval ⟨d,.fieldAddr t x f,ty,pos,af,g⟩) K:=by
 simp only[bY]at hc
 split at hc
 ·rename_i fs hs;simp only[bind_eq_bind,bind_eq_some_iff]at hc;obtain⟨fd,hf,i,hfi,hc⟩:=hc
  split at hc
  ·rename_i sQ;simp only[bind_eq_some_iff,Option.some.injEq]at hc;obtain⟨ax,hx,rfl⟩:=hc;have rx:=aq hx he;simp only[wpOp]at hk;generalize ax.ev e=A at rx hk;generalize hX:a.eval x=X at rx
   have bo:∀b o,(Instr.fieldAt t (.pointer (some ⟨b,o,none⟩)) f).run P w= .ok (.pointer (some ⟨b,o+fd.offset,none⟩)) w:=by
    intro b o;simp[Instr.fieldAt,run_underlying hs,hf,Instr.sureAddr,fieldPlace,sizeOf,typeInfo,hfi,Nat.ne_of_gt sQ,add_lit]
   cases A
   case cj y q=>
    cases rx with
    |cj _ _ bf base bz hv hr=>
     refine fD.same hi hk (.cj y (q+fd.offset) bf base bz hv hr) ?_;simp only[execOp,hX];simp[bo,add_assoc]
   case ptr n len j q=>
    cases hO:O[n]? with
    |none=>simp only[hO]at hk
    |some ob=>
     cases ob with
     |dead=>simp only[hO]at hk
     |own a=>simp only[hO]at hk
     |cZ g=>simp only[hO]at hk
     |nil t' s'=>simp only[hO]at hk
     |live t' s xs=>
      simp only[hO]at hk;have:=rx.ib hO hk.1;subst this;refine fD.same hi hk.2 (.dV n len j (q+fd.offset) t' s xs hO hk.1) ?_;simp only[execOp,hX];simp[bo,add_assoc]
   all_goals exact hk.elim
  ·cases hc
 ·cases hc
theorem aqw(hi:Inv I L O w)(he:∀t,R I L O (e t) (a.tmps.getD t undef)){t:TypeId}{x:Operand}{f:Nat}(hc:bY P ty (.field t x f)=some ao)(hk:wpOp P ao e O K):
  fD P I L O w (execOp a.eval ⟨d,.field t x f,ty,pos,af,g⟩) K:=by
 simp only[bY]at hc
 split at hc
 ·rename_i fs hs;simp only[bind_eq_bind,bind_eq_some_iff,Option.some.injEq]at hc;obtain⟨fd,hf,n,hn,ax,hx,rfl⟩:=hc;have rx:=aq hx he;obtain⟨h1,h2,h3⟩:=hk;generalize ax.ev e=A at rx h1 h2 h3;generalize hX:a.eval x=X at rx;rw[AV.vE h1]at rx;cases rx with
  |agg _ vs hl hr=>
   have ko:fd.offset+n.getD 1<=vs.size:=by omega
   refine fD.same hi h3 (y:=tF n λ j=>vs.getD (fd.offset+j) undef) (nD h2 λ j c hj aF=>hr _ c _ hj (by simp[Array.getD,show fd.offset+j<vs.size by omega])) ?_;unfold vA at hn;simp only[bind_eq_bind,bind_eq_some_iff]at hn;obtain⟨dd,hd,i,hii,hn⟩:=hn;simp only[execOp,hX];cases n with
   |none=>
    have hag:aas dd=false:=by
     by_cases h:aas dd=true
     ·rw[if_pos h]at hn;split at hn<;>simp at hn
     ·simpa using h
    have aF:fd.offset<vs.size:=by simp only[getD_none]at ko;omega
    have h0:vs[fd.offset]? =some (vs.getD fd.offset undef):=by rw[Array.getElem?_eq_getElem aF];simp[Array.getD,aF]
    generalize vs.getD fd.offset undef=q at h0;simp[Instr.field,run_underlying hs,hf,asAgg,part,qR hd,hag,h0,tF]
   |some m=>
    have hag:aas dd=true/\i.size=m:=by
     by_cases h:aas dd=true
     ·rw[if_pos h]at hn;split at hn<;>simp at hn;exact⟨h,hn⟩
     ·rw[if_neg h]at hn;simp at hn
    have hex:vs.extract fd.offset (fd.offset+m)=((List.range m).map λ j=>vs.getD (fd.offset+j) undef).toArray:=by
     apply Array.ext
     ·simp only[getD_some]at ko;simp;omega
     ·intro j hj1 hj2;simp only[getD_some]at ko;simp at hj1 hj2;simp[Array.getD,show fd.offset+j<vs.size by omega]
    simp[Instr.field,run_underlying hs,hf,asAgg,part,qR hd,hag.1,sizeOf,typeInfo,hii,hag.2,hex,tF]
 ·cases hc
theorem amH(hi:Inv I L O w)(he:∀t,R I L O (e t) (a.tmps.getD t undef)){x:Operand}(hc:bY P ty (.nilCheck x)=some ao)(hk:wpOp P ao e O K):
  fD P I L O w (execOp a.eval ⟨d,.nilCheck x,ty,pos,af,g⟩) K:=by
 simp only[bY,bind_eq_bind,bind_eq_some_iff,Option.some.injEq]at hc;obtain⟨ax,hx,rfl⟩:=hc;have rx:=aq hx he;simp only[wpOp]at hk;generalize ax.ev e=A at rx hk;generalize hX:a.eval x=X at rx;cases A
 case cj y q=>
  cases rx with
  |cj _ _ bf base bz hv hr=>
   exact fD.same hi hk (.cj y q bf base bz hv hr) (by simp only[execOp,hX];simp)
 case fn f aX=>
  cases rx with
  |fn _ _ vs h1 h2=>
   exact fD.same hi hk (.fn f aX vs h1 h2) (by simp only[execOp,hX];simp)
 case ptr n len j q=>
  cases hO:O[n]? with
  |none=>simp only[hO]at hk
  |some ob=>
   cases ob with
   |dead=>simp only[hO]at hk
   |own a=>simp only[hO]at hk
   |cZ g=>simp only[hO]at hk
   |nil t' s'=>simp only[hO]at hk
   |live t' s xs=>
    simp only[hO]at hk;have:=rx.ib hO hk.1;subst this;exact fD.same hi hk.2 rx (by simp only[execOp,hX];simp)
 all_goals exact hk.elim
theorem aqx(hi:Inv I L O w)(he:∀t,R I L O (e t) (a.tmps.getD t undef)){x:Operand}{i:Nat}(hc:bY P ty (.extract x i)=some ao)(hk:wpOp P ao e O K):
  fD P I L O w (execOp a.eval ⟨d,.extract x i,ty,pos,af,g⟩) K:=by
 simp only[bY,bind_eq_bind,bind_eq_some_iff,Option.some.injEq]at hc;obtain⟨ax,hx,rfl⟩:=hc;have rx:=aq hx he;simp only[wpOp]at hk;generalize ax.ev e=A at rx hk;generalize hX:a.eval x=X at rx;cases A<;>simp only at hk
 rename_i vs;obtain⟨aF,hk⟩:=hk;cases rx with
 |a9 _ us h1 h2=>
  have hu:us[i]? =some (us[i]'(by omega)):=by simp
  refine fD.same hi hk (h2 i _ _ (by simp[List.getD,aF]) hu) ?_;generalize us[i]'(by omega)=q at hu;simp only[execOp,hX];simp[Instr.extract,hu]
theorem amI(hi:Inv I L O w)(he:∀t,R I L O (e t) (a.tmps.getD t undef)){fn:Fn}{first aX:Array Operand}(hc:bY P ty (.makeFunc fn first aX)=some ao)(hk:wpOp P ao e O K):
  fD P I L O w (execOp a.eval ⟨d,.makeFunc fn first aX,ty,pos,af,g⟩) K:=by
 cases fn<;>simp only[bY]at hc
 case func f=>
  split at hc
  ·rename_i hfe;simp only[bind_eq_bind,bind_eq_some_iff,Option.some.injEq]at hc;obtain⟨as,has,rfl⟩:=hc;obtain rfl:first= #[]:=by simpa using hfe
   obtain⟨h1,h2⟩:=wq has he;refine fD.same hi hk (y:= .func (.func f) #[] (aX.map a.eval)) (.fn f _ _ (by simpa using h1) λ i c x hc hx=>h2 i c x hc (by simpa using hx)) ?_;simp[execOp,Instr.makeFunc]
  ·cases hc
 all_goals cases hc
end
end Go.Ab
namespace Go.Ab
section
variable {P:Program} {I:du} {L:Nat->Loc} {O:List ad} {w:World} {K:AV->List ad->Prop} {e:Env} {a:Act}
variable {d:Option Tmp} {ty:TypeId} {pos:String} {af:Array Edge} {g:Option (Nat×Bool)} {ao:ez}
theorem gE{t el:TypeId}(h:pj P t=some el):P.underlying t=some (.slice el):=by
 unfold pj at h
 split at h
 ·rename_i x hx;cases h;exact hx
 ·cases h
theorem akn(hi:Inv I L O w)(he:∀t,R I L O (e t) (a.tmps.getD t undef)){t:TypeId}{parts:Array (Nat×Operand)}(hc:bY P ty (.build t parts)=some ao)(hk:wpOp P ao e O K):
  fD P I L O w (execOp a.eval ⟨d,.build t parts,ty,pos,af,g⟩) K:=by
 simp only[bY]at hc
 split at hc
 ·rename_i fs hs;simp only[bind_eq_bind,bind_eq_some_iff,Option.some.injEq]at hc;obtain⟨⟨s,b,z⟩,hz,aho,uw,ps,hps,rfl⟩:=hc;obtain⟨i,z0,h1,h2,h3,rfl,rfl,h4,h5,h6,h7⟩:=e8 hz;have rz:=(eO (I:=I) (L:=L) (O:=O) h3).cells (mF h7);have hz0:RCs I L O z.cells z0.cells:=⟨rz.1,λ j c y hj hy=>by obtain⟨y',lN,hr⟩:=rz.2 j c hj;rw[hy]at lN;cases lN;exact hr⟩;obtain⟨zs,nV,m1,m2,m3⟩:=uh he parts.toList ps z.cells z0.cells hz0 hps hk
  have ay4:=m3 (λ i=>aho.toArray[i]?) (λ j f n hj hn=>by
   obtain⟨q1,q2⟩:=mapM_some uw;have aF:j<aho.length:=by rw[q1];simpa using(Array.getElem?_eq_some_iff.1 hj).1
   have:=q2 j f aho[j] (by simpa using hj) (by simp);rw[hn]at this;simp at this;simp[aF,this])
  have hb:P.built t (parts.map λ (i,x)=>(i,a.eval x)).toList=some nV:=by
   simp only[Program.built,h1,hs,h2,uw];simpa using ay4
  refine fD.same hi m1 (y:= .agg nV) (.agg _ _ m2.1 m2.2) ?_;simp only[execOp];rw[Sem.run_bind,run_build w t _ nV hb]
  rfl
 ·rename_i m el hs
  split at hc
  ·rename_i aCf;simp only[bind_eq_bind,bind_eq_some_iff,Option.some.injEq]at hc;obtain⟨⟨s,b,z⟩,hz,ie,hie,rfl⟩:=hc;obtain⟨i,z0,h1,h2,h3,rfl,rfl,h4,h5,h6,h7⟩:=e8 hz;have rz:=(eO (I:=I) (L:=L) (O:=O) h3).cells (mF h7);have hp:parts= #[]:=by simpa using aCf
   subst hp
   have hb:P.built t (Array.map (λ (i,x)=>(i,a.eval x)) #[]).toList=some z0.cells:=by
    simp only[Program.built,h1,hs,h2,hie];simp[Instr.fill]
   simp only[wpOp,jy]at hk;refine fD.same hi hk (y:= .agg z0.cells) (.agg _ _ rz.1 λ j c y hj hy=>by obtain⟨y',lN,hr⟩:=rz.2 j c hj;rw[hy]at lN;cases lN;exact hr) ?_;simp only[execOp];rw[Sem.run_bind,run_build w t _ z0.cells hb]
   rfl
  ·cases hc
 ·cases hc
theorem yD(hi:Inv I L O w)(he:∀t,R I L O (e t) (a.tmps.getD t undef)){t:TypeId}{len:Nat}{parts:Array (Nat×Operand)}(hc:bY P ty (.buildSlice t len parts)=some ao)(hk:wpOp P ao e O K):
  fD P I L O w (execOp a.eval ⟨d,.buildSlice t len parts,ty,pos,af,g⟩) K:=by
 simp only[bY,bind_eq_bind,bind_eq_some_iff]at hc;obtain⟨el,fu,⟨s,b,z⟩,hz,ps,hps,hc⟩:=hc
 split at hc
 ·rename_i vp;simp only[Option.some.injEq]at hc;subst hc;have ht:=gE fu;obtain⟨i,z0,h1,h2,h3,rfl,rfl,h4,h5,h6,h7⟩:=e8 hz;have zK:=ft.made (I:=I) (L:=L) (O:=O) (cap:=len) (n:=len) (eO h3) h7 h4 h5 (le_refl _);obtain⟨iv,c',m1,m2,m3,m4,m5⟩:=sx he parts.toList ps _ _ zK (by simp) hps hk
  have azd:len<=maxLen:=by
   have h8:len*1<=len*i.size:=Nat.mul_le_mul_left _ h5;simp only at vp;simp only[maxLen];omega
  have dY:=hi.new (e:=el) (s:=i.size) (xs:=iv) c' len (by rw[m4];simp) (by simpa using(Nat.le_of_eq m3)) azd h5 m2;have hr:=R.cf (I:=I) (L:=λ k=>if k=O.length then Loc.at w.heap.size (len)else L k) (O:=O++ [.live el i.size iv]) O.length len el i.size iv (by simp) (by simpa using m3);refine⟨_,_,.slice (some ⟨w.heap.size,0,none⟩) len len,_,_,_,m1,dY,by simpa using hr,.inl ?_⟩;have hns:¬(len*i.size>2^24):=by simpa using vp
  simp only[execOp];by_cases h0:len*i.size=0
  ·have xD:len=0:=by rcases Nat.mul_eq_zero.1 h0 with h|h<;>omega
   subst xD;simp[Array.range_zero']at m5;simp[Instr.buildSlice,run_underlying ht,sizeOf,typeInfo,h1,m5,newRow,Array.range_zero']
  ·simp[Instr.buildSlice,run_underlying ht,sizeOf,typeInfo,h1,hns,h0,zeroValue,h2,m5,newRow]
 ·cases hc
theorem Inv.axX(h:Inv I L O w){el s:Nat}{xs:List AV}(c:Array Value)(cap:Nat)(hx:xs.length<=cap)(hn:∀(i:Nat) x,xs[i]? =some x->∀(j:Nat) a,x.cells[j]? =some a->∀{I':du} {L':Nat->Loc} {O':List ad} {v:Value},(∀b o x,I b o=some x->I' b o=some x)->R I L O a v->R I' L' O' a v)
  (hr:∀(i:Nat) x,xs[i]? =some x->x.cells.length=s/\∀(j:Nat) a,x.cells[j]? =some a->∃y,c[i*s+j]? =some y/\y.oneCell'=true/\R I L O a y):
  ∃I',Good I L O w I' L O (w.alloc (.cells c el))/\R I' L O (.sl xs) (.slice (some ⟨w.heap.size,0,none⟩) xs.length cap):=by
 have dM:(w.alloc (.cells c el)).heap[w.heap.size]? =some (.cells c el (0,0)):=heap_alloc_new w _;have hold:∀b,b<w.heap.size->(w.alloc (.cells c el)).heap[b]? =w.heap[b]? :=λ b hb=>heap_alloc_old w _ b hb
 have aF:∀{b o x},I b o=some x->b<w.heap.size:=λ hx=>kL (h.kJ _ _ _ hx)
 have dt:∀b o x,I b o=some x->(λ b o=>if b=w.heap.size then(w.alloc (.cells c el)).cell? ⟨b,o,none⟩else I b o) b o=some x:=by
  intro b o x hx;have:=aF hx
  show(if b=w.heap.size then _ else I b o)=_;rw[if_neg (by omega)];exact hx
 have lO:∀{b o},b<w.heap.size->(w.alloc (.cells c el)).cell? ⟨b,o,none⟩=w.cell? ⟨b,o,none⟩:=by
  intro b o hb;simp only[World.cell?];rw[hold b hb]
 have hE:Ext I L O (λ b o=>if b=w.heap.size then(w.alloc (.cells c el)).cell? ⟨b,o,none⟩else I b o) L O:=
  ⟨dt,le_refl _,λ n hn e k ys hy=> .inl ⟨ys,hy,le_refl _,λ _=>rfl⟩,λ _ _ _ _ h=>h,λ _ _ a h=>⟨⟨a,h⟩,rfl⟩,λ _ _ a h=>⟨⟨a,h,rfl⟩,rfl⟩⟩
 have rF:∀{n e k ys},O[n]? =some (.live e k ys)->(L n).bf<w.heap.size:=by
  intro n e k ys hn;obtain⟨c',⟨_,h1,_⟩,_⟩:=h.obj n e k ys hn;exact(Array.getElem?_eq_some_iff.1 h1).1
 refine⟨λ b o=>if b=w.heap.size then(w.alloc (.cells c el)).cell? ⟨b,o,none⟩else I b o,⟨⟨λ b o x hx=> ?_,λ n e k ys hn=> ?_,h.sep,λ n e k ys o hn=> ?_,λ p hp=>dt _ _ _ (h.fix p hp),h.uj (λ b hb _=>hold b hb) dt,h.ow.step (λ _ _ h=>⟨h,rfl⟩) (λ b o v hv=> ?_) (λ m e s xs hm=> .inl ⟨m,e,s,xs,hm,rfl⟩) (λ b hb _=>hold b hb),h.gh.step (λ _ _ h=>⟨h,rfl⟩) (λ _ _ hr=>hr.mono hE) λ b hb=>hold b hb.1⟩,hE,⟨rfl,rfl,rfl,by simp,λ b hb _=>hold b hb⟩,λ _ hb=> .inl hb,λ b o x hx=> ?_⟩,?_⟩
 ·by_cases hb:b=w.heap.size
  ·rw[if_pos hb]at hx;exact hx
  ·rw[if_neg hb]at hx;rw[lO (aF hx)];exact h.kJ b o x hx
 ·exact(h.obj n e k ys hn).congr (hold _ (rF hn)) λ _ _ hr=>hr.mono hE
 ·have:=rF hn
  show(if(L n).bf=w.heap.size then _ else I (L n).bf o)=_;rw[if_neg (by omega)];exact h.dS n e k ys o hn
 ·by_cases hb:b=w.heap.size
  ·exact .inr (.inr (by omega))
  ·rw[if_neg hb]at hv;exact .inl ⟨o,v,hv⟩
 ·by_cases hb:b=w.heap.size
  ·exact .inr (.inr (by omega))
  ·rw[if_neg hb]at hx;exact .inl hx
 ·by_cases oG:xs= []
  ·subst oG;exact .mq _ _
  ·refine(.sl xs w.heap.size 0 cap s (λ i j=>(c[i*s+j]?).getD undef) hx oG (λ i x hx=>(hr i x hx).1) (λ i x j d hx hj=> ?_) λ i x j d hx hj=> ?_)
   ·obtain⟨y,hy,ho,_⟩:=(hr i x hx).2 j d hj
    show(if w.heap.size=w.heap.size then _ else _)=_/\_;rw[if_pos rfl,Nat.zero_add,eN dM,hy];exact⟨rfl,ho⟩
   ·obtain⟨y,hy,ho,ou⟩:=(hr i x hx).2 j d hj;rw[hy];exact hn i x hx j d hj dt ou
end
end Go.Ab
namespace Go.Ab
section
variable {P:Program} {I:du} {L:Nat->Loc} {O:List ad} {w:World} {K:AV->List ad->Prop} {e:Env} {a:Act}
variable {d:Option Tmp} {ty:TypeId} {pos:String} {af:Array Edge} {g:Option (Nat×Bool)} {ao:ez}
theorem akl(hi:Inv I L O w)(he:∀t,R I L O (e t) (a.tmps.getD t undef)){t:TypeId}{x y:Operand}(hc:bY P ty (.indexAddr t x y)=some ao)(hk:wpOp P ao e O K):
  fD P I L O w (execOp a.eval ⟨d,.indexAddr t x y,ty,pos,af,g⟩) K:=by
 simp only[bY]at hc
 split at hc
 ·rename_i m el ht;simp only[bind_eq_bind,bind_eq_some_iff,Option.some.injEq]at hc;obtain⟨inf,tU,ax,hx,ay,hy,rfl⟩:=hc;have rx:=aq hx he;have ry:=aq hy he;simp only[wpOp]at hk;generalize ax.ev e=A at rx hk;generalize ay.ev e=B at ry hk;generalize hX:a.eval x=X at rx;generalize hY:a.eval y=Y at ry
  have bo:∀(kk:IntKind) (b o:Nat) (j:Int),0<=j->j<m->(Instr.indexAt t (.pointer (some ⟨b,o,none⟩)) (.int kk j)).run P w= .ok (.pointer (some ⟨b,o+j.toNat*inf.size,none⟩)) w:=by
   intro kk b o j h0 h1;simp[Instr.indexAt,Instr.sureAddr,asIntOf,run_underlying ht,sizeOf,typeInfo,tU,h0,h1,add_lit]
  cases A
  case cj z q=>
   cases B
   case v p=>
    cases p
    case int kk j=>
     obtain⟨h0,h1,hk⟩:=hk;have:=ry.exact;subst this;cases rx with
     |cj _ _ bf base bz hv hr=>
      refine fD.same hi hk (.cj z (q+j.toNat*inf.size) bf base bz hv hr) ?_;simp only[execOp,hX,hY];simp[bo _ _ _ _ h0 h1,add_assoc]
    all_goals exact hk.elim
   all_goals exact hk.elim
  case ptr n len i q=>
   cases B
   case v p=>
    cases p
    case int kk j=>
     have:=ry.exact;subst this;cases hO:O[n]? with
     |none=>simp only[hO]at hk
     |some ob=>
      cases ob with
      |dead=>simp only[hO]at hk
      |own a=>simp only[hO]at hk
      |cZ g=>simp only[hO]at hk
      |nil t' s'=>simp only[hO]at hk
      |live t' s xs=>
       simp only[hO]at hk;obtain⟨hl,h0,h1,hk⟩:=hk;have:=rx.ib hO hl;subst this;refine fD.same hi hk (.dV n len i (q+j.toNat*inf.size) t' s xs hO hl) ?_;simp only[execOp,hX,hY];simp[bo _ _ _ _ h0 h1,add_assoc]
    all_goals exact hk.elim
   all_goals exact hk.elim
  all_goals exact hk.elim
 simp only[bind_eq_bind,bind_eq_some_iff,Option.some.injEq]at hc;obtain⟨el,fu,inf,tU,ax,hx,ay,hy,rfl⟩:=hc;have ht:=gE fu;have rx:=aq hx he;have ry:=aq hy he;simp only[wpOp]at hk;generalize ax.ev e=A at rx hk;generalize ay.ev e=B at ry hk;generalize hX:a.eval x=X at rx;generalize hY:a.eval y=Y at ry
 have bo:∀(kk:IntKind) (b o n c:Nat) (j:Int),0<=j->j<n->(Instr.indexAt t (.slice (some ⟨b,o,none⟩) n c) (.int kk j)).run P w= .ok (.pointer (some ⟨b,o+j.toNat*inf.size,none⟩)) w:=by
  intro kk b o n c j h0 h1;simp[Instr.indexAt,asIntOf,run_underlying ht,sizeOf,typeInfo,tU,h0,h1,add_lit]
 cases A
 case sl xs=>
  cases B
  case v p=>
   cases p
   case int kk j=>
    obtain⟨h0,h1,h2,hk⟩:=hk;have:=ry.exact;subst this;have aF:j.toNat<xs.length:=by omega
    have oH:xs[j.toNat]? =some (xs.getD j.toNat .top):=by simp[List.getD,aF]
    cases rx with
    |mq=>simp at h1;omega
    |sl _ bf off cap s bz q1 q2 q3 q4 q5=>
     have hs:s=inf.size:=by rw[←q3 _ _ oH,h2]
     subst hs;refine fD.same hi hk (y:= .pointer (some ⟨bf,off+j.toNat*inf.size+0,none⟩)) (.cj _ 0 bf (off+j.toNat*inf.size) (bz j.toNat) (λ k c hc=>q4 _ _ k c oH hc) (λ k c hc=>q5 _ _ k c oH hc)) ?_;simp only[execOp,hX,hY];simp[bo _ _ _ _ _ _ h0 h1]
   all_goals exact hk.elim
  all_goals exact hk.elim
 case row n len=>
  cases B
  case v p=>
   cases p
   case int kk j=>
    have:=ry.exact;subst this;cases hO:O[n]? with
    |none=>simp only[hO]at hk
    |some ob=>
     cases ob with
     |dead=>simp only[hO]at hk
     |own a=>simp only[hO]at hk
     |cZ g=>simp only[hO]at hk
     |nil t' s'=>simp only[hO]at hk
     |live t' s xs=>
      simp only[hO]at hk;obtain⟨rfl,hl,h0,h1,hk⟩:=hk;have:=rx.eu hO hl;subst this;refine fD.same hi hk (.dV n len j.toNat 0 t' inf.size xs hO hl) ?_;simp only[execOp,hX,hY];simp[bo _ _ _ _ _ _ h0 h1]
   all_goals exact hk.elim
  all_goals exact hk.elim
 all_goals exact hk.elim
theorem akk(hi:Inv I L O w)(he:∀t,R I L O (e t) (a.tmps.getD t undef)){t:TypeId}{x y:Operand}(hc:bY P ty (.index t x y)=some ao)(hk:wpOp P ao e O K):
  fD P I L O w (execOp a.eval ⟨d,.index t x y,ty,pos,af,g⟩) K:=by
 simp only[bY]at hc
 split at hc
 ·rename_i ht;simp only[bind_eq_bind,bind_eq_some_iff,Option.some.injEq]at hc;obtain⟨ax,hx,ay,hy,rfl⟩:=hc;have rx:=aq hx he;have ry:=aq hy he;simp only[wpOp]at hk;generalize ax.ev e=A at rx hk;generalize ay.ev e=B at ry hk;generalize hX:a.eval x=X at rx;generalize hY:a.eval y=Y at ry;cases A
  case v p=>
   cases p
   case string s=>
    cases B
    case v q=>
     cases q
     case int kk j=>
      obtain⟨h0,h1,hk⟩:=hk;have e1:=rx.exact;have e2:=ry.exact;subst e1;subst e2;have aF:j.toNat<s.size:=by omega
      have hb:s[j.toNat]? =some (s.data.toList.getD j.toNat 0):=by
       rw[getElem?_pos s j.toNat aF];have hl2:j.toNat<s.data.toList.length:=by simpa using aF
       simp only[List.getD,List.getElem?_eq_getElem hl2,getD_some,Option.some.injEq]
       rfl
      refine fD.same hi hk (.v _ rfl) ?_;simp only[execOp,hX,hY];generalize s.data.toList.getD j.toNat 0=q at hb;simp[Instr.index,asIntOf,run_underlying ht,h0,hb]
     all_goals exact hk.elim
    all_goals exact hk.elim
   all_goals exact hk.elim
  all_goals exact hk.elim
 ·cases hc
theorem amL(hi:Inv I L O w)(he:∀t,R I L O (e t) (a.tmps.getD t undef)){t:TypeId}{x:Operand}(ht:P.underlying t=some .string){ax:aI}(hx:bH x=some ax)(hk:wpOp P (.lg ax) e O K):
  ∃x' y,K x' O/\R I L O x' y/\(Builtin.len_ #[t] ty #[a.eval x]).run P w= .ok y w:=by
 have rx:=aq hx he;simp only[wpOp]at hk;generalize ax.ev e=A at rx hk;generalize a.eval x=X at rx;cases A
 case v p=>
  cases p
  case string s=>
   have e1:=rx.exact;subst e1;exact⟨_,.int .i64 s.size,hk,.v _ rfl,by simp[Builtin.len_,run_underlying ht,goInt]⟩
  all_goals exact hk.elim
 all_goals exact hk.elim
theorem amM(hi:Inv I L O w)(he:∀t,R I L O (e t) (a.tmps.getD t undef)){t el:TypeId}{x:Operand}(ht:P.underlying t=some (.slice el)){ax:aI}(hx:bH x=some ax)(hk:wpOp P (.bm ax) e O K):
  ∃x' y,K x' O/\R I L O x' y/\(Builtin.len_ #[t] ty #[a.eval x]).run P w= .ok y w:=by
 have rx:=aq hx he;simp only[wpOp]at hk;generalize ax.ev e=A at rx hk;generalize a.eval x=X at rx
 have hs:∀b n c,(Builtin.len_ #[t] ty #[.slice b n c]).run P w= .ok (.int .i64 n) w:=by
  intro b n c;simp[Builtin.len_,run_underlying ht,goInt]
 cases A
 case aw=>cases rx;exact⟨_,.int .i64 0,hk,.v _ rfl,hs none 0 0⟩
 case sl xs=>
  cases rx with
  |mq b c=>exact⟨_,.int .i64 0,hk,.v _ rfl,hs b 0 c⟩
  |sl _ bf off cap s bz=>exact⟨_,.int .i64 xs.length,hk,.v _ rfl,hs _ _ _⟩
 case row n len=>
  cases hO:O[n]? with
  |none=>simp only[hO]at hk
  |some ob=>
   cases ob with
   |dead=>simp only[hO]at hk
   |own a=>simp only[hO]at hk
   |cZ g=>simp only[hO]at hk
   |nil t' s'=>
    simp only[hO]at hk;obtain⟨rfl,hk⟩:=hk;obtain⟨rfl,_⟩:=rx.kR hO;exact⟨_,.int .i64 0,hk,.v _ rfl,hs _ _ _⟩
   |live t' s xs=>
    simp only[hO]at hk;have:=rx.eu hO hk.1;subst this;exact⟨_,.int .i64 len,hk.2,.v _ rfl,hs _ _ _⟩
 all_goals exact hk.elim
theorem aa1(hi:Inv I L O w)(he:∀t,R I L O (e t) (a.tmps.getD t undef)){t:TypeId}{x y:Operand}(hc:bY P ty (.makeSlice t x y)=some ao)(hk:wpOp P ao e O K):
  fD P I L O w (execOp a.eval ⟨d,.makeSlice t x y,ty,pos,af,g⟩) K:=by
 simp only[bY,bind_eq_bind,bind_eq_some_iff,Option.some.injEq]at hc;obtain⟨el,fu,⟨s,b,z⟩,hz,ax,hx,ay,hy,rfl⟩:=hc;have ht:=gE fu;obtain⟨i,z0,h1,h2,h3,rfl,rfl,h4,h5,h6,h7⟩:=e8 hz;have rx:=aq hx he;have ry:=aq hy he;simp only[wpOp]at hk;generalize ax.ev e=A at rx hk;generalize ay.ev e=B at ry hk;generalize hX:a.eval x=X at rx;generalize hY:a.eval y=Y at ry
 split at hk
 ·rename_i n c;obtain⟨q1,q2,q3,q4,hk⟩:=hk;have e1:=rx.exact;have e2:=ry.exact;subst e1;subst e2;have hm:c<=9223372036854775807:=by simpa [maxLen]using q4
  have bo:=run_make (P:=P) w t el i z0 ht h1 h2 .i64 .i64 n c q1 q2 (by omega) hm;have zK:=ft.made (I:=I) (L:=L) (O:=O) (cap:=c.toNat) (n:=n.toNat) (eO h3) h7 h4 h5 (by omega);have dY:=hi.new (e:=el) (s:=i.size) (xs:=List.replicate n.toNat z) (madeCells z0.cells (c.toNat*i.size)) c.toNat (size_madeCells _ _) (by simp;omega) (by simp only[maxLen]at q4⊢;omega) h5 zK;have hr:=R.cf (I:=I) (L:=λ k=>if k=O.length then Loc.at w.heap.size (c.toNat)else L k) (O:=O++ [.live el i.size (List.replicate n.toNat z)]) O.length n.toNat el i.size (List.replicate n.toNat z) (by simp) (by simp);refine⟨_,_,_,_,_,_,hk,dY,hr,.inl ?_⟩;simp only[execOp,hX,hY];rw[Sem.run_bind,bo];simp
 ·exact hk.elim
theorem jJ{x:Option Operand}{ax:Option aI}(hx:x.mapM bH=some ax)(he:∀t,R I L O (e t) (a.tmps.getD t undef)){av1:Int}{M:Int->Prop}(h:fB av1 e ax M):
  ∃i:Int,M i/\((x=none/\i=av1)∨∃o k,x=some o/\a.eval o= .int k i):=by
 cases x with
 |none=>simp at hx;subst hx;exact⟨av1,h,.inl ⟨rfl,rfl⟩⟩
 |some o=>
  simp only[Option.mapM_some,Option.map_eq_map,map_eq_some_iff]at hx;obtain⟨ao,hao,rfl⟩:=hx;have r:=aq hao he;simp only[fB]at h;generalize ao.ev e=A at r h;cases A
  case v p=>
   cases p
   case int k i=>exact⟨i,h,.inr ⟨o,k,rfl,r.exact⟩⟩
   all_goals exact h.elim
  all_goals exact h.elim
theorem run_sliceBound{k:IntKind}{i:Int}{y:Nat}{code:BoundsCode}(h0:0<=i)(h1:i<=y)(w:World):(Instr.sliceBound (.int k i) y code).run P w= .ok i.toNat w:=by
 simp[Instr.sliceBound,asIntOf,h0,h1]
theorem gK{sl:Bool}{len cap:Nat}{lo hi:Option Operand}{l h:Int}(hlc:len<=cap)
  (hlo:(lo=none/\l=0)∨∃o k,lo=some o/\a.eval o= .int k l) (hhi:(hi=none/\h=len)∨∃o k,hi=some o/\a.eval o= .int k h)
  (h0:0<=l) (h1:l<=h) (h2:h<=len) (w:World):
  (Instr.sliceBounds sl len cap (lo.map a.eval) (hi.map a.eval) none).run P w= .ok (l.toNat,h.toNat,cap) w:=by
 rcases hhi with⟨rfl,rfl⟩|⟨o,k,rfl,ho⟩<;>rcases hlo with⟨rfl,rfl⟩|⟨o',k',rfl,ho'⟩
 ·simp[Instr.sliceBounds]
 ·simp[Instr.sliceBounds,ho',run_sliceBound (P:=P) (k:=k') (i:=l) (y:=len) h0 (by omega) w]
 ·simp[Instr.sliceBounds,ho,run_sliceBound (P:=P) (k:=k) (i:=h) (y:=cap) (by omega) (by omega) w]
 ·simp[Instr.sliceBounds,ho,ho',run_sliceBound (P:=P) (k:=k) (i:=h) (y:=cap) (by omega) (by omega) w,run_sliceBound (P:=P) (k:=k') (i:=l) (y:=h.toNat) h0 (by omega) w]
theorem akh(hi:Inv I L O w)(he:∀t,R I L O (e t) (a.tmps.getD t undef)){t:TypeId}{x:Operand}{lo eH mx:Option Operand}(hc:bY P ty (.slice t x lo eH mx)=some ao)(hk:wpOp P ao e O K):
  fD P I L O w (execOp a.eval ⟨d,.slice t x lo eH mx,ty,pos,af,g⟩) K:=by
 simp only[bY]at hc
 split at hc
 ·cases hc
 ·rename_i j0;obtain rfl:mx=none:=by cases mx<;>simp at j0⊢
  split at hc
  ·rename_i ht;simp only[bind_eq_bind,bind_eq_some_iff,Option.some.injEq]at hc;obtain⟨ax,hx,al,hl,ah,hh,rfl⟩:=hc;have rx:=aq hx he;simp only[wpOp]at hk;generalize ax.ev e=A at rx hk;generalize hX:a.eval x=X at rx;cases A
   case v p=>
    cases p
    case string s=>
     have e1:=rx.exact;subst e1;obtain⟨l,hk,hlo⟩:=jJ hl he hk;obtain⟨h,hk,hhi⟩:=jJ hh he hk;obtain⟨q1,q2,q3,hk⟩:=hk;have hb:=gK (P:=P) (sl:=false) (cap:=s.size) (le_refl _) hlo hhi q1 q2 q3 w;refine fD.same hi hk (.v _ rfl) ?_;simp only[execOp,hX];simp[Instr.sliceAt,Instr.slice,run_underlying ht,hb]
    all_goals exact hk.elim
   all_goals exact hk.elim
  ·rename_i el ht;simp only[bind_eq_bind,bind_eq_some_iff,Option.some.injEq]at hc;obtain⟨inf,tU,ax,hx,al,hl,ah,hh,rfl⟩:=hc;have rx:=aq hx he;simp only[wpOp]at hk;generalize ax.ev e=A at rx hk;generalize hX:a.eval x=X at rx;cases A
   case sl xs=>
    obtain⟨l,hk,hlo⟩:=jJ hl he hk;obtain⟨h,hk,hhi⟩:=jJ hh he hk;obtain⟨q1,q2,q3,q4,hk⟩:=hk;cases rx with
    |mq b cap=>
     simp at q3 hhi;obtain rfl:l=0:=by omega
     obtain rfl:h=0:=by omega
     have hb:=gK (P:=P) (sl:=true) (len:=0) (cap:=cap) (zero_le _) hlo (by simpa using hhi) q1 q2 (by simp) w;refine fD.same hi hk (y:= .slice (if cap=0 then b else b.map (·.add (0*inf.size))) 0 (cap- 0)) (.mq _ _) ?_;simp only[execOp,hX];simp at hb;simp[Instr.sliceAt,Instr.slice,run_underlying ht,hb,sizeOf,typeInfo,tU]
    |sl _ bf off cap s bz r1 r2 r3 r4 r5=>
     have hb:=gK (P:=P) (sl:=true) (len:=xs.length) (cap:=cap) r1 hlo hhi q1 q2 q3 w
     have hs:s=inf.size:=by
      obtain⟨y,hy⟩:=List.exists_mem_of_ne_nil _ r2;obtain⟨j,hj⟩:=getElem?_of_mem hy;rw[←r3 j y hj,q4 y hy]
     subst hs;by_cases hlen:l=h
     ·subst hlen;have xf:(xs.take l.toNat).drop l.toNat= []:=by simp
      rw[xf]at hk;refine fD.same hi hk (y:= .slice (if cap=l.toNat then some ⟨bf,off,none⟩else some ⟨bf,off+l.toNat*inf.size,none⟩) 0 (cap- l.toNat)) (.mq _ _) ?_;simp only[execOp,hX];simp[Instr.sliceAt,Instr.slice,run_underlying ht,hb,sizeOf,typeInfo,tU,add_lit]
     ·have hlh:l.toNat<h.toNat:=by omega
      have mu:¬(cap=l.toNat):=by omega
      have ajr:((xs.take h.toNat).drop l.toNat).length=h.toNat- l.toNat:=by simp;omega
      have au4:∀(i:Nat) y,((xs.take h.toNat).drop l.toNat)[i]? =some y->xs[l.toNat+i]? =some y:=by
       intro i y hy;rw[List.getElem?_drop,List.getElem?_take]at hy
       split at hy
       ·exact hy
       ·cases hy
      have bn:(xs.take h.toNat).drop l.toNat≠[]:=by
       intro h0;have:=congrArg List.length h0;rw[ajr]at this;simp at this;omega
      have hr:=R.sl (I:=I) (L:=L) (O:=O) ((xs.take h.toNat).drop l.toNat) bf (off+l.toNat*inf.size) (cap- l.toNat) inf.size (λ i=>bz (l.toNat+i)) (by omega) bn
       (λ i y hy=>r3 _ y (au4 i y hy))
       (λ i y j c hy hj=>by have:=r4 _ y j c (au4 i y hy) hj;rwa [Nat.add_mul,←add_assoc]at this)
       (λ i y j c hy hj=>r5 _ y j c (au4 i y hy) hj)
      rw[ajr]at hr;refine fD.same hi hk hr ?_;simp only[execOp,hX];simp[Instr.sliceAt,Instr.slice,run_underlying ht,hb,sizeOf,typeInfo,tU,add_lit,mu]
   all_goals exact hk.elim
  ·cases hc
end
end Go.Ab
namespace Go.Ab
theorem ba{xs:List AV}(h:AV.ae xs=true):∀x∈xs,x.ag=true:=by
 induction xs with
 |nil=>simp
 |cons y ys ih=>
  simp only[AV.ae,and_eq_true]at h;intro x hx;rcases List.mem_cons.1 hx with rfl|hx
  ·exact h.1
  ·exact ih h.2 x hx
theorem fj{x:AV}(h:x.ag=true):∀c∈x.cells,c.ag=true:=by
 cases x<;>simp only[AV.cells]<;>try (intro c hc;simp at hc;subst hc;exact h)
 simp only[AV.ag]at h;exact ba h
theorem R.ag{I I':du}{L L':Nat->Loc}{O O':List ad}(hI:∀b o x,I b o=some x->I' b o=some x){a:AV}{x:Value}(hr:R I L O a x)(h:a.ag=true):R I' L' O' a x:=by
 induction hr with
 |top x=>exact .top x
 |v x hx=>exact .v x hx
 |aw=>exact .aw
 |v7 t x=>exact .v7 t x
 |mq a cap=>exact .mq a cap
 |sl xs bf off cap s bz h1 h2 h3 h4 _ ih=>
  refine .sl xs bf off cap s bz h1 h2 h3 (λ i x j c hi hj=>⟨hI _ _ _ (h4 i x j c hi hj).1,(h4 i x j c hi hj).2⟩) λ i x j c hi hj=>ih i x j c hi hj ?_
  exact fj (ba (by simpa [AV.ag]using h) x (mem_of_getElem? hi)) c (mem_of_getElem? hj)
 |cj x f bf base bz h1 _ ih=>
  refine .cj x f bf base bz (λ j c hj=>⟨hI _ _ _ (h1 j c hj).1,(h1 j c hj).2⟩) λ j c hj=>ih j c hj ?_
  exact fj (by simpa [AV.ag]using h) c (mem_of_getElem? hj)
 |cf=>simp[AV.ag]at h
 |gu=>simp[AV.ag]at h
 |eQ=>simp[AV.ag]at h
 |dV=>simp[AV.ag]at h
 |gv=>simp[AV.ag]at h
 |fn f aX vs h1 _ ih=>exact .fn f aX vs h1 λ i c x hi hx=>ih i c x hi hx (ba (by simpa [AV.ag]using h) c (mem_of_getElem? hi))
 |agg cs vs h1 _ ih=>exact .agg cs vs h1 λ i c x hi hx=>ih i c x hi hx (ba (by simpa [AV.ag]using h) c (mem_of_getElem? hi))
 |a9 cs vs h1 _ ih=>exact .a9 cs vs h1 λ i c x hi hx=>ih i c x hi hx (ba (by simpa [AV.ag]using h) c (mem_of_getElem? hi))
 |dW=>simp[AV.ag]at h
 |gW=>simp[AV.ag]at h
 |eR=>simp[AV.ag]at h
theorem R.of_nil{I:du}{L L':Nat->Loc}{O':List ad}{a:AV}{x:Value}(hr:R I L [] a x):R I L' O' a x:=by
 generalize hO:([]:List ad)=O at hr
 induction hr with
 |top x=>exact .top x
 |v x hx=>exact .v x hx
 |aw=>exact .aw
 |v7 t x=>exact .v7 t x
 |mq a cap=>exact .mq a cap
 |sl xs bf off cap s bz h1 h2 h3 h4 _ ih=>exact .sl xs bf off cap s bz h1 h2 h3 h4 λ i x j c hi hj=>ih i x j c hi hj
 |cj x f bf base bz h1 _ ih=>exact .cj x f bf base bz h1 λ j c hj=>ih j c hj
 |cf n len e s xs hn=>subst hO;simp at hn
 |gu n e s hn=>subst hO;simp at hn
 |eQ n len x hn=>subst hO;simp at hn
 |dV n len i f e s xs hn=>subst hO;simp at hn
 |gv n len i f x hn=>subst hO;simp at hn
 |fn f aX vs h1 _ ih=>exact .fn f aX vs h1 λ i c x hi hx=>ih i c x hi hx
 |agg cs vs h1 _ ih=>exact .agg cs vs h1 λ i c x hi hx=>ih i c x hi hx
 |a9 cs vs h1 _ ih=>exact .a9 cs vs h1 λ i c x hi hx=>ih i c x hi hx
 |dW n a hn=>subst hO;simp at hn
 |gW n a hn=>subst hO;simp at hn
 |eR n x hn=>subst hO;simp at hn
theorem R.flat{I I':du}{L L':Nat->Loc}{O O':List ad}{a:AV}{x:Value}(hr:R I L O a x)(h:a.flat=true):R I' L' O' a x:=by
 cases hr<;>simp only[AV.flat]at h<;>first|(simp at h;done)|skip
 ·exact .v _ (by assumption)
 ·rename_i cs vs h1 h2;refine .a9 _ _ h1 λ i c x hc hx=> ?_
  have hm:=List.all_eq_true.1 h c (mem_of_getElem? hc);have hr:=h2 i c x hc hx;cases c<;>simp at hm
  cases hr;exact .v _ (by assumption)
theorem zi(O:List ad)(a:AV):(eD O a).length=O.length:=by
 cases a<;>simp[eD]
theorem afi(as:List AV)(O:List ad):(as.foldl eD O).length=O.length:=by
 induction as generalizing O with
 |nil=>rfl
 |cons a as ih=>simp[ih,zi]
theorem kH(as:List AV)(O:List ad){n e s:Nat}{xs:List AV}(h:(as.foldl eD O)[n]? =some (.live e s xs)):
  O[n]? =some (.live e s xs)/\∀len,AV.row n len∉as:=by
 induction as generalizing O with
 |nil=>exact⟨h,by simp⟩
 |cons a as ih=>
  obtain⟨h1,h2⟩:=ih (eD O a) h;cases a with
  |row m ml=>
   simp only[eD,getElem?_set]at h1;by_cases hm:m=n
   ·subst hm;simp at h1
   ·rw[if_neg hm]at h1;refine⟨h1,λ len j2=> ?_⟩;rcases List.mem_cons.1 j2 with h3|h3
    ·cases h3;exact hm rfl
    ·exact h2 len h3
  |own m=>
   simp only[eD,getElem?_set]at h1;by_cases hm:m=n
   ·subst hm;simp at h1
   ·rw[if_neg hm]at h1;refine⟨h1,λ len j2=> ?_⟩;rcases List.mem_cons.1 j2 with h3|h3
    ·cases h3
    ·exact h2 len h3
  |_=>exact⟨h1,λ len hm=>by rcases List.mem_cons.1 hm with h3|h3;cases h3;exact h2 len h3⟩
section
variable {P:Program} {I:du} {L:Nat->Loc} {O:List ad} {w:World}
open Classical in
noncomputable def uX (I:du) (L:Nat->Loc) (O:List ad) (w:World) (as:List AV):du:=λ b o=>
 if(∃(n len e s:Nat) (xs:List AV),AV.row n len∈as/\O[n]? =some (.live e s xs)/\xs.length=len/\(L n).bf=b)∨(∃(n:Nat) (a:AV) (o:Nat) (v:Value),AV.own n∈as/\O[n]? =some (.own a)/\(L n).mem b o=some v)then w.cell? ⟨b,o,none⟩else I b o
theorem anJ(as:List AV)(O:List ad){n e s:Nat}(h:(as.foldl eD O)[n]? =some (.nil e s)):O[n]? =some (.nil e s):=by
 induction as generalizing O with
 |nil=>exact h
 |cons a as ih=>
  have h0:=ih _ h;cases a<;>try exact h0
  all_goals
   simp only[eD,getElem?_set]at h0
   split at h0
   ·split at h0<;>cases h0
   ·exact h0
theorem tH(as:List AV)(O:List ad){n:Nat}{a:AV}(h:(as.foldl eD O)[n]? =some (.own a)):O[n]? =some (.own a):=by
 induction as generalizing O with
 |nil=>exact h
 |cons a as ih=>
  have h0:=ih _ h;cases a<;>try exact h0
  all_goals
   simp only[eD,getElem?_set]at h0
   split at h0
   ·split at h0<;>cases h0
   ·exact h0
theorem zh(as:List AV)(O:List ad){n:Nat}{a:gJ}(h:(as.foldl eD O)[n]? =some (.cZ a)):O[n]? =some (.cZ a):=by
 induction as generalizing O with
 |nil=>exact h
 |cons a as ih=>
  have h0:=ih _ h;cases a<;>try exact h0
  all_goals
   simp only[eD,getElem?_set]at h0
   split at h0
   ·split at h0<;>cases h0
   ·exact h0
theorem akS(as:List AV)(O:List ad){n:Nat}{c:AV}(h:(as.foldl eD O)[n]? =some (.own c)):AV.own n∉as:=by
 induction as generalizing O with
 |nil=>simp
 |cons a as ih=>
  intro hm;rcases List.mem_cons.1 hm with h3|h3
  ·subst h3;have h1:=tH as _ h;simp only[eD,getElem?_set]at h1
   split at h1
   ·split at h1<;>cases h1
   ·rename_i bn;exact(bn trivial).elim
  ·exact ih _ h h3
theorem xz(hi:Inv I L O w)(as:List AV):∀b o x,I b o=some x->uX I L O w as b o=some x:=by
 intro b o x hx;unfold uX
 split
 ·exact hi.kJ b o x hx
 ·exact hx
theorem anw(hi:Inv I L O w){as:List AV}{n len:Nat}(hm:AV.row n len∈as){e s:Nat}{xs:List AV}(hO:O[n]? =some (.live e s xs))(hl:xs.length=len)(o:Nat):
  uX I L O w as (L n).bf o=w.cell? ⟨(L n).bf,o,none⟩:=by
 unfold uX;rw[if_pos (.inl ⟨n,len,e,s,xs,hm,hO,hl,rfl⟩)]
theorem ab8(hi:Inv I L O w){as:List AV}{a:AV}(ha:a∈as){x:Value}(hr:R I L O a x)(hn:(iW O a).ag=true):R (uX I L O w as) L [] (iW O a) x:=by
 have hle:=xz hi as;cases a
 case row n len=>
  simp only[iW]at hn⊢;cases hO:O[n]? with
  |none=>simp only[hO]at hn;simp[AV.ag]at hn
  |some ob=>
   cases ob with
   |dead=>simp only[hO]at hn;simp[AV.ag]at hn
   |own a=>simp only[hO]at hn;simp[AV.ag]at hn
   |cZ g=>simp only[hO]at hn;simp[AV.ag]at hn
   |nil e s=>
    simp only[hO]at hn⊢;obtain⟨rfl,rfl⟩:=hr.kR hO;rw[if_pos rfl];exact .mq _ _
   |live e s xs=>
    simp only[hO]at hn⊢;by_cases hl:xs.length=len
    ·rw[if_pos hl]at hn⊢;have:=hr.eu hO hl;subst this;obtain⟨c,⟨lD,h1,dE⟩,h2,h3,h4,h5,h6⟩:=hi.obj n e s xs hO;by_cases hx:xs= []
     ·subst hx;simp at hl;subst hl;exact .mq _ _
     ·subst hl;refine(.sl xs (L n).bf 0 (L n).cap s (λ i j=>(c[i*s+j]?).getD undef) h3 hx (λ i x hx=>(h6 i x hx).1) (λ i x j d hx hj=> ?_) λ i x j d hx hj=> ?_)
      ·obtain⟨y,hy,ho,_⟩:=(h6 i x hx).2 j d hj;rw[anw hi ha hO rfl,Nat.zero_add,eN h1,hy];exact⟨rfl,ho⟩
      ·obtain⟨y,hy,ho,ou⟩:=(h6 i x hx).2 j d hj;rw[hy];exact ou.ag hle (fj (ba (by simpa [AV.ag]using hn) x (mem_of_getElem? hx)) d (mem_of_getElem? hj))
    ·rw[if_neg hl]at hn;simp[AV.ag]at hn
 case own n=>
  simp only[iW]at hn⊢;cases hr with
  |dW _ b hO=>
   simp only[hO]at hn⊢;refine(hi.ow.tree n b hO L []).ag (λ p o v hv=> ?_) hn;unfold uX;rw[if_pos (.inr ⟨n,b,o,v,ha,hO,hv⟩)];exact hi.ow.cell n b hO p o v hv
  |gW _ g hO=>simp only[hO]at hn;simp[AV.ag]at hn
  |eR _ _ aF cA=>
   cases hO:O[n]? with
   |none=>simp only[hO]at hn;simp[AV.ag]at hn
   |some ob=>
    cases ob with
    |own b=>exact(cA b hO).elim
    |_=>simp only[hO]at hn;simp[AV.ag]at hn
 all_goals exact hr.ag hle hn
theorem jD{f:FuncId}{as aX:List AV}{vs:Array Value}{res:AV}(hi:Inv I L O w)(hr:RL I L O (as++aX) vs)(hn:AV.ae (as.map (iW O)++aX)=true)(hc:a7 P f (as.map (iW O)++aX) res):
  Calls P f vs w λ e w'=>∃y I' L',e= .returned y/\R I' L' (xo O as res) res y/\Good I L O w I' L' (xo O as res) w':=by
 have hle:=xz hi as
 have hinv:Inv (uX I L O w as) L [] w:=by
  refine⟨λ b o x hx=> ?_,by simp,by simp,by simp,λ p hp=>hle _ _ _ (hi.fix p hp),hi.xI hle,.no (by simp),.no (by simp)⟩;unfold uX at hx
  split at hx
  ·exact hx
  ·exact hi.kJ b o x hx
 have r9:RL (uX I L O w as) L [] (as.map (iW O)++aX) vs:=by
  refine⟨by have:=hr.1;simpa using this,λ i a x ha hx=> ?_⟩;have hna:=ba hn a (mem_of_getElem? ha);by_cases aF:i<as.length
  ·rw[getElem?_append_left (by simpa using aF)]at ha;simp only[getElem?_map,map_eq_some_iff]at ha;obtain⟨a0,ha0,rfl⟩:=ha;exact ab8 hi (mem_of_getElem? ha0) (hr.2 i a0 x (by rw[getElem?_append_left aF];exact ha0) hx) hna
  ·rw[getElem?_append_right (by simp;omega)]at ha;simp only[length_map]at ha;exact(hr.2 i a x (by rw[getElem?_append_right (by omega)];exact ha) hx).ag hle hna
 refine(hc.2 _ _ _ _ hinv r9).mono ?_;rintro e w' ⟨y,I',L',rfl,hry,hg⟩;have rF:∀b,b<w.heap.size->w'.heap[b]? =w.heap[b]? :=λ b hb=>hg.pO.block b hb aav
 have hold:∀{n e s xs},O[n]? =some (.live e s xs)->(L n).bf<w.heap.size:=by
  intro n e s xs h;obtain⟨c,⟨lD,h1,dE⟩,_⟩:=hi.obj n e s xs h;exact(Array.getElem?_eq_some_iff.1 h1).1
 by_cases hf:res.flat=true
 ·rw[xo,if_pos hf];refine⟨y,I,L,rfl,hry.flat hf,⟨⟨λ b o x hx=> ?_,λ n e s xs hn=> ?_,hi.sep,hi.dS,hi.fix,hi.uj (λ b hb _=>rF b hb) (λ _ _ _ h=>h),hi.ow.ar λ b hb _=>rF b hb,hi.gh.step (λ _ _ h=>⟨h,rfl⟩) (λ _ _ h=>h) λ b hb=>rF b hb.1⟩,.refl _ _ _,⟨hg.pO.os,hg.pO.tape,hg.pO.output,hg.pO.size,λ b hb _=>rF b hb⟩,λ _ h=> .inl h,λ _ _ _ h=> .inl h⟩⟩
  ·have:=hi.kJ b o x hx;rw[←this];exact World.cell?_of_block (a:=⟨b,o,none⟩) (rF b (kL this))
  ·exact(hi.obj n e s xs hn).congr (rF _ (hold hn)) λ _ _ h=>h
 ·rw[xo,if_neg hf];have avd:∀b o x,I b o=some x->I' b o=some x:=λ b o x h=>hg.ext.kJ _ _ _ (hle b o x h)
  have dt:Ext I L O I' L (as.foldl eD O):=⟨avd,by rw[afi];exact le_refl _,λ n _ e s xs h=> .inl ⟨xs,(kH as O h).1,le_refl _,λ _=>rfl⟩,λ n _ e s h=>anJ as O h,λ n _ a h=>⟨⟨a,tH as O h⟩,rfl⟩,λ n _ a h=>⟨⟨a,zh as O h,rfl⟩,rfl⟩⟩
  have dM:∀b o x,I' b o=some x->I b o=some x∨(∃(n len e s:Nat) (xs:List AV),AV.row n len∈as/\O[n]? =some (.live e s xs)/\xs.length=len/\(L n).bf=b)∨w.heap.size<=b∨(∃(n:Nat) (a:AV) (o:Nat) (v:Value),AV.own n∈as/\O[n]? =some (.own a)/\(L n).mem b o=some v):=by
   intro b o x h;rcases hg.iP b o x h with h1|h1|h1
   ·unfold uX at h1
    split at h1
    ·rename_i hh;rcases hh with hh|hh
     ·exact .inr (.inl hh)
     ·exact .inr (.inr (.inr hh))
    ·exact .inl h1
   ·exact(aav h1).elim
   ·exact .inr (.inr (.inl h1))
  refine⟨y,I',L,rfl,hry.of_nil,⟨⟨hg.inv.kJ,λ n e s xs hn=> ?_,λ n m e s xs e' s' ys h1 h2=>hi.sep n m _ _ _ _ _ _ (kH as O h1).1 (kH as O h2).1,λ n e s xs o h=> ?_,hg.inv.fix,hg.inv.bf,hi.ow.asz (λ n a h=>⟨tH as O h,rfl⟩) (λ b o v hv=> ?_) (λ m e s xs hm=> .inl ⟨m,e,s,xs,(kH as O hm).1,rfl⟩) (λ b hb _=>rF b hb),hi.gh.step (λ n a h=>⟨zh as O h,rfl⟩) (λ _ _ h=>h.mono dt) λ b hb=>rF b hb.1⟩,dt,⟨hg.pO.os,hg.pO.tape,hg.pO.output,hg.pO.size,λ b hb _=>rF b hb⟩,?_,?_⟩⟩
  ·have h0:=(kH as O hn).1;exact(hi.obj n e s xs h0).congr (rF _ (hold h0)) λ _ _ h=>h.mono dt
  ·obtain⟨h0,h1⟩:=kH as O h;cases hx:I' (L n).bf o with
   |none=>rfl
   |some x=>
    rcases dM _ _ _ hx with h2|⟨m,len,e',s',iv,h2,h3,h4,h5⟩|h2|⟨m,c,o2,v2,h2,h3,h4⟩
    ·rw[hi.dS n e s xs o h0]at h2;cases h2
    ·have:=hi.sep m n _ _ _ _ _ _ h3 h0 h5;subst this;exact(h1 len h2).elim
    ·have:=hold h0;omega
    ·exact(hi.ow.live m c h3 _ o2 v2 h4 n _ _ _ h0 rfl).elim
  ·rcases dM b o v hv with h1|⟨n,len,e,s,xs,_,h2,_,h3⟩|h1|⟨m,c,o2,v2,h2,h3,h4⟩
   ·exact .inl ⟨o,v,h1⟩
   ·exact .inr (.inl ⟨n,e,s,xs,h2,h3⟩)
   ·exact .inr (.inr (.inl h1))
   ·exact .inr (.inr (.inr ⟨m,c,o2,v2,h3,h4,λ d hd=>akS as O hd h2⟩))
  ·rintro b (⟨n,e,s,xs,h,hb⟩|⟨n,a,o,v,h,hb⟩|⟨n,a,h,hb⟩)
   ·exact .inl (.inl ⟨n,e,s,xs,(kH as O h).1,hb⟩)
   ·exact .inl (.inr (.inl ⟨n,a,o,v,tH as O h,hb⟩))
   ·exact .inl (.inr (.inr ⟨n,a,zh as O h,hb⟩))
  ·intro b o x h;rcases dM b o x h with h1|⟨n,len,e,s,xs,_,h2,_,h3⟩|h1|⟨m,c,o2,v2,h2,h3,h4⟩
   ·exact .inl h1
   ·exact .inr (.inl (.inl ⟨n,e,s,xs,h2,h3⟩))
   ·exact .inr (.inr h1)
   ·exact .inr (.inl (.inr (.inl ⟨m,c,o2,v2,h3,h4⟩)))
end
section
variable {P:Program} {I:du} {L:Nat->Loc} {O:List ad} {w:World} {K:AV->List ad->Prop} {e:Env} {a:Act}
variable {d:Option Tmp} {ty:TypeId} {pos:String} {af:Array Edge} {g:Option (Nat×Bool)}
theorem ahf(hi:Inv I L O w)(he:∀t,R I L O (e t) (a.tmps.getD t undef)){t:TypeId}{len:Nat}{parts:Array (Nat×Operand)}{el' s' l':Nat}{z':AV}{ps':List (Nat×aI)}
  (hc:bY P ty (.buildSlice t len parts)=some (.buildSlice el' s' l' z' ps')) (hk:wpOp P (.iR el' s' l' z' ps') e O K):
  fD P I L O w (execOp a.eval ⟨d,.buildSlice t len parts,ty,pos,af,g⟩) K:=by
 simp only[bY,bind_eq_bind,bind_eq_some_iff]at hc;obtain⟨el,fu,⟨s,b,z⟩,hz,ps,hps,hc⟩:=hc
 split at hc
 ·rename_i vp;simp only[Option.some.injEq,ez.buildSlice.injEq]at hc;obtain⟨rfl,rfl,rfl,rfl,rfl⟩:=hc;have ht:=gE fu;obtain⟨i,z0,h1,h2,h3,rfl,rfl,h4,h5,h6,h7⟩:=e8 hz;have zK:=ft.made (I:=I) (L:=L) (O:=O) (cap:=len) (n:=len) (eO h3) h7 h4 h5 (le_refl _);obtain⟨iv,c',⟨cA,m1⟩,m2,m3,m4,m5⟩:=sx he parts.toList ps _ _ zK (by simp) hps hk;have hlx:iv.length=len:=by simpa using m3
  obtain⟨I',hg,hr⟩:=hi.axX (el:=el) (s:=i.size) (xs:=iv) c' len (by omega) (λ k x hx j c hj I' L' O' v hI hv=>hv.ag hI (fj (ba cA x (mem_of_getElem? hx)) c (mem_of_getElem? hj))) m2;rw[hlx]at hr;refine⟨_,_,.slice (some ⟨w.heap.size,0,none⟩) len len,_,_,_,m1,hg,hr,.inl ?_⟩;have hns:¬(len*i.size>2^24):=by simpa using vp
  simp only[execOp];by_cases h0:len*i.size=0
  ·have xD:len=0:=by rcases Nat.mul_eq_zero.1 h0 with h|h<;>omega
   subst xD;simp[Array.range_zero']at m5;simp[Instr.buildSlice,run_underlying ht,sizeOf,typeInfo,h1,m5,newRow,Array.range_zero']
  ·simp[Instr.buildSlice,run_underlying ht,sizeOf,typeInfo,h1,hns,h0,zeroValue,h2,m5,newRow]
 ·cases hc
end
end Go.Ab
namespace Go.Ab
mutual
def AV.inScope(k:Nat):AV->Bool
 | .top| .v _| .aw| .v7=>true
 | .sl xs=>AV.cS k xs
 | .cj x _=>x.inScope k
 | .row n _=>n<k
 | .ptr n _ _ _=>n<k
 | .fn _ cs=>AV.cS k cs
 | .agg cs=>AV.cS k cs
 | .a9 vs=>AV.cS k vs
 | .own n=>n<k
def AV.cS(k:Nat):List AV->Bool
 | []=>true
 |x::xs=>x.inScope k&&AV.cS k xs
end
theorem bU{k:Nat}{xs:List AV}(h:AV.cS k xs=true):∀x∈xs,x.inScope k=true:=by
 induction xs with
 |nil=>simp
 |cons y ys ih=>
  simp only[AV.cS,and_eq_true]at h;intro x hx;rcases List.mem_cons.1 hx with rfl|hx
  ·exact h.1
  ·exact ih h.2 x hx
mutual
theorem cr{k:Nat}:∀(x:AV),x.ag=true->x.inScope k=true
 | .top,_| .v _,_| .aw,_| .v7,_=>rfl
 | .sl xs,h=>by simp only[AV.ag,AV.inScope]at*;exact de xs h
 | .cj x _,h=>by simp only[AV.ag,AV.inScope]at*;exact cr x h
 | .row _ _,h=>by simp[AV.ag]at h
 | .ptr _ _ _ _,h=>by simp[AV.ag]at h
 | .fn _ cs,h=>by simp only[AV.ag,AV.inScope]at*;exact de cs h
 | .agg cs,h=>by simp only[AV.ag,AV.inScope]at*;exact de cs h
 | .a9 cs,h=>by simp only[AV.ag,AV.inScope]at*;exact de cs h
 | .own _,h=>by simp[AV.ag]at h
theorem de{k:Nat}:∀(xs:List AV),AV.ae xs=true->AV.cS k xs=true
 | [],_=>rfl
 |x::xs,h=>by
  simp only[AV.ae,AV.cS,and_eq_true]at*;exact⟨cr x h.1,de xs h.2⟩
end
theorem cd{k:Nat}{x:AV}(h:x.inScope k=true):∀c∈x.cells,c.inScope k=true:=by
 cases x<;>simp only[AV.cells]<;>try (intro c hc;simp at hc;subst hc;exact h)
 simp only[AV.inScope]at h;exact bU h
def ad.inScope(k:Nat):ad->Bool
 | .dead=>true
 | .own _=>true
 | .nil _ _=>true
 | .live _ _ xs=>AV.cS k xs
 | .cZ (.mp es)=>es.all λ p=>p.1.inScope k&&p.2.inScope k
 | .cZ (.it _ _)=>true
theorem fh(s:Nat->Nat)(xs:List AV):AV.sy s xs=xs.map (AV.bP s):=by
 induction xs with
 |nil=>rfl
 |cons x xs ih=>simp[AV.sy,ih]
mutual
theorem dX{s:Nat->Nat}:∀(a:AV),a.ag=true->a.bP s=a
 | .top,_| .v _,_| .aw,_| .v7,_=>rfl
 | .sl xs,h=>by simp only[AV.bP];rw[fi xs (by simpa [AV.ag]using h)]
 | .cj x _,h=>by simp only[AV.bP];rw[dX x (by simpa [AV.ag]using h)]
 | .row _ _,h=>by simp[AV.ag]at h
 | .ptr _ _ _ _,h=>by simp[AV.ag]at h
 | .fn _ cs,h=>by simp only[AV.bP];rw[fi cs (by simpa [AV.ag]using h)]
 | .agg cs,h=>by simp only[AV.bP];rw[fi cs (by simpa [AV.ag]using h)]
 | .a9 cs,h=>by simp only[AV.bP];rw[fi cs (by simpa [AV.ag]using h)]
 | .own _,h=>by simp[AV.ag]at h
theorem fi{s:Nat->Nat}:∀(xs:List AV),AV.ae xs=true->AV.sy s xs=xs
 | [],_=>rfl
 |x::xs,h=>by
  simp only[AV.ae,and_eq_true]at h;simp only[AV.sy];rw[dX x h.1,fi xs h.2]
end
theorem ea(s:Nat->Nat)(a:AV):(a.bP s).cells=a.cells.map (AV.bP s):=by
 cases a<;>simp[AV.bP,AV.cells,fh]
theorem ja{s:Nat->Nat}{xs:List AV}{i:Nat}{y:AV}(h:(xs.map (AV.bP s))[i]? =some y):∃x,xs[i]? =some x/\y=x.bP s:=by
 simp only[getElem?_map,map_eq_some_iff]at h;obtain⟨x,hx,rfl⟩:=h;exact⟨x,hx,rfl⟩
theorem R.bP{I:du}{L L':Nat->Loc}{O O':List ad}{s:Nat->Nat}(hn:∀n,n<O'.length->s n<O.length)
  (hg:∀n,n<O'.length->O[s n]? =(O'[n]?).map (ad.bP s)) (hL:∀n,n<O'.length->L (s n)=L' n) {a:AV} {x:Value} (hr:R I L' O' a x):R I L O (a.bP s) x:=by
 have live:∀{n e k xs},O'[n]? =some (.live e k xs)->O[s n]? =some (.live e k (xs.map (AV.bP s)))/\L (s n)=L' n:=by
  intro n e k xs h;have aF:=(List.getElem?_eq_some_iff.1 h).1;exact⟨by rw[hg n aF,h];rfl,hL n aF⟩
 have back:∀{n e k xs},n<O'.length->O[s n]? =some (.live e k xs)->∃ys,O'[n]? =some (.live e k ys)/\ys.length=xs.length:=by
  intro n e k xs aF h;rw[hg n aF,map_eq_some_iff]at h;obtain⟨ob,h1,h2⟩:=h;cases ob with
  |dead=>cases h2
  |own a=>cases h2
  |cZ g=>cases h2
  |nil=>cases h2
  |live e' k' ys=>cases h2;exact⟨ys,h1,by simp⟩
 have axU:∀{n e k},n<O'.length->O'[n]? ≠some (.nil e k)->O[s n]? ≠some (.nil e k):=by
  intro n e k aF bn h;rw[hg n aF,map_eq_some_iff]at h;obtain⟨ob,h1,h2⟩:=h;cases ob with
  |dead=>cases h2
  |own a=>cases h2
  |cZ g=>cases h2
  |nil=>cases h2;exact bn h1
  |live=>cases h2
 induction hr with
 |top x=>exact .top x
 |v x hx=>exact .v x hx
 |aw=>exact .aw
 |v7 t x=>exact .v7 t x
 |mq a cap=>exact .mq a cap
 |sl xs bf off cap k bz h1 h2 h3 h4 _ ih=>
  simp only[AV.bP,fh];rw[show xs.length=(xs.map (AV.bP s)).length by simp];refine .sl _ bf off cap k bz (by simpa using h1) (by simpa using h2) (λ i x hx=> ?_) (λ i x j c hx hc=> ?_) (λ i x j c hx hc=> ?_)
  ·obtain⟨y,hy,rfl⟩:=ja hx;rw[ea,length_map];exact h3 i y hy
  ·obtain⟨y,hy,rfl⟩:=ja hx;rw[ea]at hc;obtain⟨d,hd,rfl⟩:=ja hc;exact h4 i y j d hy hd
  ·obtain⟨y,hy,rfl⟩:=ja hx;rw[ea]at hc;obtain⟨d,hd,rfl⟩:=ja hc;exact ih i y j d hy hd
 |cj x f bf base bz h1 _ ih=>
  simp only[AV.bP];refine .cj _ f bf base bz (λ j c hc=> ?_) (λ j c hc=> ?_)
  ·rw[ea]at hc;obtain⟨d,hd,rfl⟩:=ja hc;exact h1 j d hd
  ·rw[ea]at hc;obtain⟨d,hd,rfl⟩:=ja hc;exact ih j d hd
 |cf n len e k xs hx hl=>
  obtain⟨h1,h2⟩:=live hx;simp only[AV.bP];rw[←h2];exact .cf (s n) len e k _ h1 (by simpa using hl)
 |gu n e k hx=>
  simp only[AV.bP];refine .gu (s n) e k ?_;rw[hg n (List.getElem?_eq_some_iff.1 hx).1,hx];rfl
 |eQ n len x aF xA hs hx=>
  simp only[AV.bP];refine .eQ (s n) len x (hn n aF) (λ e k he=>axU aF (xA e k) he) (λ e k xs oG=> ?_) hx;obtain⟨ys,hy,he⟩:=back aF oG;rw[←he];exact hs e k ys hy
 |dV n len i f e k xs hx hl=>
  obtain⟨h1,h2⟩:=live hx;simp only[AV.bP];rw[←h2];exact .dV (s n) len i f e k _ h1 (by simpa using hl)
 |gv n len i f x aF xA hs hx=>
  simp only[AV.bP];refine .gv (s n) len i f x (hn n aF) (λ e k he=>axU aF (xA e k) he) (λ e k xs oG=> ?_) hx;obtain⟨ys,hy,he⟩:=back aF oG;rw[←he];exact hs e k ys hy
 |fn f aX vs h1 _ ih=>
  simp only[AV.bP,fh];refine .fn f _ vs (by simpa using h1) λ i c x hc hx=> ?_
  obtain⟨d,hd,rfl⟩:=ja hc;exact ih i d x hd hx
 |agg cs vs h1 _ ih=>
  simp only[AV.bP,fh];refine .agg _ vs (by simpa using h1) λ i c x hc hx=> ?_
  obtain⟨d,hd,rfl⟩:=ja hc;exact ih i d x hd hx
 |a9 cs vs h1 _ ih=>
  simp only[AV.bP,fh];refine .a9 _ vs (by simpa using h1) λ i c x hc hx=> ?_
  obtain⟨d,hd,rfl⟩:=ja hc;exact ih i d x hd hx
 |dW n a h h1=>
  have aF:=(List.getElem?_eq_some_iff.1 h).1;rw[←hL n aF]at h1⊢;exact .dW (s n) a (by rw[hg n aF,h];rfl) h1
 |gW n g h=>
  have aF:=(List.getElem?_eq_some_iff.1 h).1;have:g.val (L' n).bf=(g.bP s).val (L (s n)).bf:=by unfold gJ.val;rw[gJ.yB,hL n aF]
  rw[this];exact .gW (s n) (g.bP s) (by rw[hg n aF,h];rfl)
 |eR n x aF cA hng h1=>
  refine .eR (s n) x (hn n aF) (λ a ha=> ?_) (λ a ha=> ?_) h1
  ·rw[hg n aF,map_eq_some_iff]at ha;obtain⟨ob,h1,h2⟩:=ha;cases ob with
   |own c=>exact cA c h1
   |_=>cases h2
  ·rw[hg n aF,map_eq_some_iff]at ha;obtain⟨ob,h1,h2⟩:=ha;cases ob with
   |cZ c=>exact hng c h1
   |_=>cases h2
theorem R.ami{I:du}{L L':Nat->Loc}{O O':List ad}{s:Nat->Nat}(hg:∀n,n<O'.length->O[s n]? =(O'[n]?).map (ad.bP s))(hL:∀n,n<O'.length->L (s n)=L' n)
  {b:AV} {x:Value} (hr:R I L O b x):∀a:AV,b=a.bP s->a.inScope O'.length=true->R I L' O' a x:=by
 have live:∀{n e k xs},n<O'.length->O[s n]? =some (.live e k xs)->∃ys,O'[n]? =some (.live e k ys)/\xs=ys.map (AV.bP s):=by
  intro n e k xs aF h;rw[hg n aF,map_eq_some_iff]at h;obtain⟨ob,h1,h2⟩:=h;cases ob with
  |dead=>cases h2
  |own a=>cases h2
  |cZ g=>cases h2
  |nil=>cases h2
  |live e' k' ys=>cases h2;exact⟨ys,h1,rfl⟩
 have fwd:∀{n e k ys},O'[n]? =some (.live e k ys)->O[s n]? =some (.live e k (ys.map (AV.bP s))):=by
  intro n e k ys h;rw[hg n (List.getElem?_eq_some_iff.1 h).1,h];rfl
 have azt:∀{n e k},O'[n]? =some (.nil e k)->O[s n]? =some (.nil e k):=by
  intro n e k h;rw[hg n (List.getElem?_eq_some_iff.1 h).1,h];rfl
 have cm:∀{y:AV} {j:Nat} {d:AV},y.cells[j]? =some d->(y.bP s).cells[j]? =some (d.bP s):=by
  intro y j d h;rw[ea,getElem?_map,h];rfl
 have mm:∀{ys:List AV} {j:Nat} {d:AV},ys[j]? =some d->(ys.map (AV.bP s))[j]? =some (d.bP s):=by
  intro ys j d h;rw[getElem?_map,h];rfl
 induction hr with
 |top x=>intro a h;cases a<;>simp[AV.bP]at h;intro _;exact .top x
 |v x hx=>intro a h;cases a<;>simp[AV.bP]at h;intro _;subst h;exact .v x hx
 |aw=>intro a h;cases a<;>simp[AV.bP]at h;intro _;exact .aw
 |v7 t x=>intro a h;cases a<;>simp[AV.bP]at h;intro _;exact .v7 t x
 |mq a cap=>
  intro a h;cases a<;>simp[AV.bP,fh]at h;intro _;subst h;exact .mq _ cap
 |sl xs bf off cap k bz h1 h2 h3 h4 _ ih=>
  intro a h;cases a<;>simp[AV.bP,fh]at h
  rename_i ys;subst h;intro hs;have hs':=bU (by simpa [AV.inScope]using hs);rw[length_map];refine .sl ys bf off cap k bz (by simpa using h1) (by simpa using h2) (λ i x hx=> ?_) (λ i x j c hx hc=>h4 i _ j _ (mm hx) (cm hc)) (λ i x j c hx hc=> ?_)
  ·have:=h3 i _ (mm hx);rwa [ea,length_map]at this
  ·exact ih i _ j _ (mm hx) (cm hc) c rfl (cd (hs' x (mem_of_getElem? hx)) c (mem_of_getElem? hc))
 |cj x f bf base bz h1 _ ih=>
  intro a h;cases a<;>simp[AV.bP]at h
  rename_i y g;obtain⟨rfl,rfl⟩:=h;intro hs;refine .cj y f bf base bz (λ j c hc=>h1 j _ (cm hc)) (λ j c hc=>ih j _ (cm hc) c rfl (cd (by simpa [AV.inScope]using hs) c (mem_of_getElem? hc)))
 |cf n len e k xs hx hl=>
  intro a h;cases a<;>simp[AV.bP]at h
  rename_i n' l';obtain⟨rfl,rfl⟩:=h;intro hs;have aF:n'<O'.length:=by simpa [AV.inScope]using hs
  obtain⟨ys,hy,rfl⟩:=live aF hx;rw[hL n' aF];exact .cf n' len e k ys hy (by simpa using hl)
 |gu n e k hx=>
  intro a h;cases a<;>simp[AV.bP]at h
  rename_i n' l';obtain⟨rfl,rfl⟩:=h;intro hs;have aF:n'<O'.length:=by simpa [AV.inScope]using hs
  rw[hg n' aF,map_eq_some_iff]at hx;obtain⟨ob,h1,h2⟩:=hx;cases ob with
  |dead=>cases h2
  |own a=>cases h2
  |cZ g=>cases h2
  |live=>cases h2
  |nil=>cases h2;exact .gu n' e k h1
 |eQ n len x ayO xA hd hx=>
  intro a h;cases a<;>simp[AV.bP]at h
  rename_i n' l';obtain⟨rfl,rfl⟩:=h;intro hs;refine .eQ n' len x (by simpa [AV.inScope]using hs) (λ e k he=>xA e k (azt he)) (λ e k ys uv=> ?_) hx;have:=hd e k _ (fwd uv);simpa using this
 |dV n len i f e k xs hx hl=>
  intro a h;cases a<;>simp[AV.bP]at h
  rename_i n' l' i' f';obtain⟨rfl,rfl,rfl,rfl⟩:=h;intro hs;have aF:n'<O'.length:=by simpa [AV.inScope]using hs
  obtain⟨ys,hy,rfl⟩:=live aF hx;rw[hL n' aF];exact .dV n' len i f e k ys hy (by simpa using hl)
 |gv n len i f x ayO xA hd hx=>
  intro a h;cases a<;>simp[AV.bP]at h
  rename_i n' l' i' f';obtain⟨rfl,rfl,rfl,rfl⟩:=h;intro hs;refine .gv n' len i f x (by simpa [AV.inScope]using hs) (λ e k he=>xA e k (azt he)) (λ e k ys uv=> ?_) hx;have:=hd e k _ (fwd uv);simpa using this
 |fn f aX vs h1 _ ih=>
  intro a h;cases a<;>simp[AV.bP,fh]at h
  rename_i f' ys;obtain⟨rfl,rfl⟩:=h;intro hs;exact .fn f ys vs (by simpa using h1) λ i c x hc hx=>ih i _ x (mm hc) hx c rfl (bU (by simpa [AV.inScope]using hs) c (mem_of_getElem? hc))
 |agg cs vs h1 _ ih=>
  intro a h;cases a<;>simp[AV.bP,fh]at h
  rename_i ys;subst h;intro hs;exact .agg ys vs (by simpa using h1) λ i c x hc hx=>ih i _ x (mm hc) hx c rfl (bU (by simpa [AV.inScope]using hs) c (mem_of_getElem? hc))
 |a9 cs vs h1 _ ih=>
  intro a h;cases a<;>simp[AV.bP,fh]at h
  rename_i ys;subst h;intro hs;exact .a9 ys vs (by simpa using h1) λ i c x hc hx=>ih i _ x (mm hc) hx c rfl (bU (by simpa [AV.inScope]using hs) c (mem_of_getElem? hc))
 |dW n a hx zI=>
  intro b h;cases b<;>simp[AV.bP]at h
  rename_i n';subst h;intro hs;have aF:n'<O'.length:=by simpa [AV.inScope]using hs
  rw[hg n' aF,map_eq_some_iff]at hx;obtain⟨ob,h1,h2⟩:=hx;rw[hL n' aF]at zI⊢;cases ob with
  |own c=>exact .dW n' c h1 zI
  |_=>cases h2
 |gW n g hx=>
  intro b h;cases b<;>simp[AV.bP]at h
  rename_i n';subst h;intro hs;have aF:n'<O'.length:=by simpa [AV.inScope]using hs
  rw[hg n' aF,map_eq_some_iff]at hx;obtain⟨ob,h1,h2⟩:=hx;rw[hL n' aF];cases ob with
  |cZ c=>
   cases h2;have:(c.bP s).val (L' n').bf=c.val (L' n').bf:=by unfold gJ.val;rw[gJ.yB]
   rw[this];exact .gW n' c h1
  |_=>cases h2
 |eR n x ayO cA hng zI=>
  intro b h;cases b<;>simp[AV.bP]at h
  rename_i n';subst h;intro hs;have aF:n'<O'.length:=by simpa [AV.inScope]using hs
  exact .eR n' x aF (λ a ha=>cA a (by rw[hg n' aF,ha];rfl)) (λ a ha=>hng (a.bP s) (by rw[hg n' aF,ha];rfl)) zI
theorem sf.un{I:du}{L L1:Nat->Loc}{O O1:List ad}{w:World}{l:Loc}{g:gJ}{s:Nat->Nat}{k:Nat}(un:∀a x,R I L O (a.bP s) x->a.inScope k=true->R I L1 O1 a x)(h:sf I L O w l (g.bP s))(hs:(ad.cZ g).inScope k=true):sf I L1 O1 w l g:=by
 cases g with
 |it a b=>exact h
 |mp es=>
  obtain⟨en,c,q1,q2,q3⟩:=h;refine⟨en,c,q1,by simpa using q2,λ i k' v hx=> ?_⟩;obtain⟨e,q4,q5,q6⟩:=q3 i (k'.bP s) (v.bP s) (by rw[getElem?_map,hx];rfl);have ah6:=List.all_eq_true.1 (show es.all (λ p=>p.1.inScope k&&p.2.inScope k)=true from hs) (k',v) (mem_of_getElem? hx);simp only[and_eq_true]at ah6;exact⟨e,q4,un _ _ q5 ah6.1,un _ _ q6 ah6.2⟩
theorem fE.frame{P:Program}{f:FuncId}{args:List AV}{O1:List ad}{res:AV}{nj:List ad}(h:fE P f args O1 res nj){O nc:List ad}(s:Nat->Nat)
  (hs:∀i,i<O1.length->s i<O.length) (hg:∀i,i<O1.length->O[s i]? =(O1[i]?).map (ad.bP s)) (xh:∀i j,i<O1.length->j<O1.length->s i=s j->i=j)
  (dM:∀i,O1.length<=i->s i=O.length+(i- O1.length)) (hsc:∀a∈args,a.inScope O1.length=true) (hsO:∀ob∈O1,ob.inScope O1.length=true)
  (hl:nc.length=O.length+(nj.length- O1.length)) (h1:∀i,i<nj.length->nc[s i]? =(nj[i]?).map (ad.bP s)) (h2:∀n,n<O.length->(∀i,i<O1.length->s i≠n)->nc[n]? =O[n]?):
  fE P f (args.map (AV.bP s)) O (res.bP s) nc:=by
 refine⟨h.1,λ I L w vs hi hr=> ?_⟩
 have inj:∀i j,s i=s j->i=j:=by
  intro i j he;by_cases hi:i<O1.length<;>by_cases hj:j<O1.length
  ·exact xh i j hi hj he
  ·have:=hs i hi;have:=dM j (by omega);omega
  ·have:=hs j hj;have:=dM i (by omega);omega
  ·have:=dM i (by omega);have:=dM j (by omega);omega
 let L1:Nat->Loc:=λ n=>L (s n)
 have gL:∀{n e k ys},O1[n]? =some (.live e k ys)->O[s n]? =some (.live e k (ys.map (AV.bP s))):=by
  intro n e k ys hn;rw[hg n (List.getElem?_eq_some_iff.1 hn).1,hn];rfl
 have un:∀{a:AV} {x:Value},R I L O (a.bP s) x->a.inScope O1.length=true->R I L1 O1 a x:=λ hr hsc=>R.ami hg (λ _ _=>rfl) hr _ rfl hsc
 have jm:∀{n:Nat} {a:AV},O1[n]? =some (.own a)->O[s n]? =some (.own a):=by
  intro n a hn;rw[hg n (List.getElem?_eq_some_iff.1 hn).1,hn];rfl
 have o8:∀{n:Nat} {g:gJ},O1[n]? =some (.cZ g)->O[s n]? =some (.cZ (g.bP s)):=by
  intro n a hn;rw[hg n (List.getElem?_eq_some_iff.1 hn).1,hn];rfl
 have hi1:Inv I L1 O1 w:=by
  refine⟨hi.kJ,λ n e k ys hn=> ?_,λ n n' e k ys e' k' vG hn mb hb=> ?_,λ n e k ys o hn=>hi.dS _ _ _ _ o (gL hn),hi.fix,hi.bf,
   ⟨λ n a hn=>hi.ow.tree _ a (jm hn),λ n a hn=>hi.ow.cell _ a (jm hn),λ n a hn=>hi.ow.kJ _ a (jm hn),λ n a hn b o v hv m e k xs hm=>hi.ow.live _ a (jm hn) b o v hv _ _ _ _ (gL hm),
    λ n m a c hn hm b o o' v v' hv km=>inj _ _ (hi.ow.sep _ _ a c (jm hn) (jm hm) b o o' v v' hv km),λ n a hn=>hi.ow.deep _ a (jm hn)⟩,⟨λ n g hn=> ?_,λ n m g g' hn hm hb=>inj _ _ (hi.gh.sep _ _ _ _ (o8 hn) (o8 hm) hb)⟩⟩
  rotate_right
  ·have q:=hi.gh.ok _ _ (o8 hn);cases g with
   |it a b=>exact q
   |mp es=>
    obtain⟨en,c,q1,q2,q3⟩:=q;refine⟨en,c,q1,by simpa using q2,λ i k v hx=> ?_⟩;obtain⟨e,q4,q5,q6⟩:=q3 i (k.bP s) (v.bP s) (by rw[getElem?_map,hx];rfl);have hbo:=hsO _ (mem_of_getElem? hn);have ah6:=List.all_eq_true.1 (show es.all (λ p=>p.1.inScope O1.length&&p.2.inScope O1.length)=true from hbo) (k,v) (mem_of_getElem? hx);simp only[and_eq_true]at ah6;exact⟨e,q4,un q5 ah6.1,un q6 ah6.2⟩
  ·obtain⟨c,⟨lD,q1,dE⟩,q2,q3,q4,q5,q6⟩:=hi.obj _ _ _ _ (gL hn);refine⟨c,⟨lD,q1,dE⟩,q2,by simpa using q3,q4,q5,λ i x hx=> ?_⟩;have j0:(ys.map (AV.bP s))[i]? =some (x.bP s):=by rw[getElem?_map,hx];rfl
   obtain⟨r1,r2⟩:=q6 i _ j0;rw[ea,length_map]at r1;refine⟨r1,λ j a ha=> ?_⟩;obtain⟨y,hy,ho,ou⟩:=r2 j (a.bP s) (by rw[ea,getElem?_map,ha];rfl);have hbo:=hsO _ (mem_of_getElem? hn);exact⟨y,hy,ho,un ou (cd (bU hbo x (mem_of_getElem? hx)) a (mem_of_getElem? ha))⟩
  ·exact inj _ _ (hi.sep _ _ _ _ _ _ _ _ (gL hn) (gL mb) hb)
 have hr1:RL I L1 O1 args vs:=by
  refine⟨by simpa using hr.1,λ i a x ha hx=>un (hr.2 i _ x (by rw[getElem?_map,ha];rfl) hx) (hsc a (mem_of_getElem? ha))⟩
 refine(h.2 I L1 w vs hi1 hr1).mono ?_;rintro e w' ⟨y,I',L1',rfl,hy,iQ⟩;have hlen:=iQ.ext.len
 open Classical in
 let L'':Nat->Loc:=λ n=>if hx:∃i,i<nj.length/\s i=n then L1' hx.choose else L n
 have tb:∀i,i<nj.length->L'' (s i)=L1' i:=by
  intro i hi;have hx:∃j,j<nj.length/\s j=s i:=⟨i,hi,rfl⟩
  show(if hx:∃j,j<nj.length/\s j=s i then L1' hx.choose else L (s i))=_;rw[dif_pos hx];rw[inj _ _ hx.choose_spec.2]
 have rG:∀n,(∀i,i<nj.length->s i≠n)->L'' n=L n:=by
  intro n hn;exact dif_neg (by rintro⟨i,hi,he⟩;exact hn i hi he)
 have hsl:∀i,i<nj.length->s i<nc.length:=by
  intro i hi;by_cases hm:i<O1.length
  ·have:=hs i hm;omega
  ·have:=dM i (by omega);omega
 have cls:∀n e k xs,nc[n]? =some (.live e k xs)->(∃i ys,i<nj.length/\s i=n/\nj[i]? =some (.live e k ys)/\xs=ys.map (AV.bP s))∨(n<O.length/\(∀i,i<nj.length->s i≠n)/\O[n]? =some (.live e k xs)):=by
  intro n e k xs hn;by_cases hx:∃i,i<nj.length/\s i=n
  ·obtain⟨i,hi,rfl⟩:=hx;rw[h1 i hi,map_eq_some_iff]at hn;obtain⟨ob,q1,q2⟩:=hn;cases ob with
   |dead=>cases q2
   |own a=>cases q2
   |cZ g=>cases q2
   |nil=>cases q2
   |live e' k' ys=>cases q2;exact .inl ⟨i,ys,hi,rfl,q1,rfl⟩
  ·have cA:∀i,i<nj.length->s i≠n:=λ i hi he=>hx ⟨i,hi,he⟩
   have aF:n<O.length:=by
    have:=(List.getElem?_eq_some_iff.1 hn).1;rcases lt_or_ge n O.length with h'|h'
    ·exact h'
    ·exact absurd (dM (O1.length+(n- O.length)) (by omega)) (λ he=>cA (O1.length+(n- O.length)) (by omega) (by omega))
   rw[h2 n aF (λ i hi=>cA i (by omega))]at hn;exact .inr ⟨aF,cA,hn⟩
 have lb1:∀{b},LB L1 O1 b->LB L O b:=by
  rintro b (⟨n,e,k,ys,hn,hb⟩|⟨n,a,o,v,hn,hb⟩|⟨n,g,hn,hb⟩)
  ·exact .inl ⟨s n,e,k,_,gL hn,hb⟩
  ·exact .inr (.inl ⟨s n,a,o,v,jm hn,hb⟩)
  ·exact .inr (.inr ⟨s n,_,o8 hn,hb⟩)
 have fx:∀{n e k xs},O[n]? =some (.live e k xs)->(∀i,i<nj.length->s i≠n)->¬LB L1 O1 (L n).bf/\(L n).bf<w.heap.size:=by
  intro n e k xs hn cA;refine⟨?_,?_⟩
  ·rintro(⟨i,e',k',ys,eH,hb⟩|⟨i,a,o,v,eH,hb⟩|⟨i,g,eH,hb⟩)
   ·have:=hi.sep _ _ _ _ _ _ _ _ (gL eH) hn hb;exact cA i (by have:=(List.getElem?_eq_some_iff.1 eH).1;omega) this
   ·exact hi.ow.live _ a (jm eH) _ o v hb _ _ _ _ hn rfl
   ·obtain⟨c,⟨lD,q1,dE⟩,_⟩:=hi.obj n e k xs hn;have hq:=(hi.gh.ok _ _ (o8 eH)).no.2 c e lD;exact hq (by rw[show(L (s i)).bf=(L n).bf from hb];exact q1)
  ·obtain⟨c,⟨lD,q1,dE⟩,_⟩:=hi.obj n e k xs hn;exact(Array.getElem?_eq_some_iff.1 q1).1
 have akw:∀{n:Nat} {a:AV} {b o:Nat} {v:Value},O[n]? =some (.own a)->(∀i,i<nj.length->s i≠n)->(L n).mem b o=some v->¬LB L1 O1 b/\b<w.heap.size:=by
  intro n a b o v hn cA hv;refine⟨?_,kL (hi.ow.cell n a hn b o v hv)⟩;rintro(⟨i,e',k',ys,eH,hb⟩|⟨i,c,o',v',eH,hb⟩|⟨i,g,eH,hb⟩)
  ·exact hi.ow.live n a hn b o v hv _ _ _ _ (gL eH) hb
  ·have:=hi.ow.sep _ _ c a (jm eH) hn b o' o v' v hb hv;exact cA i (by have:=(List.getElem?_eq_some_iff.1 eH).1;omega) this
  ·have hq:=(hi.gh.ok _ _ (o8 eH)).no.cell (o:=o);rw[show(L (s i)).bf=b from hb,hi.ow.cell n a hn b o v hv]at hq;cases hq
 have aui:∀{n:Nat} {g:gJ},O[n]? =some (.cZ g)->(∀i,i<nj.length->s i≠n)->¬LB L1 O1 (L n).bf/\(L n).bf<w.heap.size:=by
  intro n g hn cA;have hq:=(hi.gh.ok _ _ hn).no;refine⟨?_,hq.1⟩;rintro(⟨i,e',k',ys,eH,hb⟩|⟨i,c,o',v',eH,hb⟩|⟨i,g',eH,hb⟩)
  ·obtain⟨c,⟨lD,q1,dE⟩,_⟩:=hi.obj _ _ _ _ (gL eH);exact hq.2 c e' lD (by rw[←show(L (s i)).bf=(L n).bf from hb];exact q1)
  ·have h0:=hq.cell (o:=o');rw[hi.ow.cell _ c (jm eH) _ o' v' hb]at h0;cases h0
  ·have:=hi.gh.sep _ _ _ _ (o8 eH) hn hb;exact cA i (by have:=(List.getElem?_eq_some_iff.1 eH).1;omega) this
 have ad3:∀(n:Nat) (a:AV),nc[n]? =some (.own a)->(∃i,i<nj.length/\s i=n/\nj[i]? =some (.own a))∨(n<O.length/\(∀i,i<nj.length->s i≠n)/\O[n]? =some (.own a)):=by
  intro n a hn;by_cases hx:∃i,i<nj.length/\s i=n
  ·obtain⟨i,hi,rfl⟩:=hx;rw[h1 i hi,map_eq_some_iff]at hn;obtain⟨ob,q1,q2⟩:=hn;cases ob with
   |dead=>cases q2
   |live=>cases q2
   |nil=>cases q2
   |cZ g=>cases q2
   |own c=>cases q2;exact .inl ⟨i,hi,rfl,q1⟩
  ·have cA:∀i,i<nj.length->s i≠n:=λ i hi he=>hx ⟨i,hi,he⟩
   have aF:n<O.length:=by
    have:=(List.getElem?_eq_some_iff.1 hn).1;rcases lt_or_ge n O.length with h'|h'
    ·exact h'
    ·exact absurd (dM (O1.length+(n- O.length)) (by omega)) (λ he=>cA (O1.length+(n- O.length)) (by omega) (by omega))
   rw[h2 n aF (λ i hi=>cA i (by omega))]at hn;exact .inr ⟨aF,cA,hn⟩
 have ao8:∀(n:Nat) (g:gJ),nc[n]? =some (.cZ g)->(∃i g',i<nj.length/\s i=n/\nj[i]? =some (.cZ g')/\g=g'.bP s)∨(n<O.length/\(∀i,i<nj.length->s i≠n)/\O[n]? =some (.cZ g)):=by
  intro n a hn;by_cases hx:∃i,i<nj.length/\s i=n
  ·obtain⟨i,hi,rfl⟩:=hx;rw[h1 i hi,map_eq_some_iff]at hn;obtain⟨ob,q1,q2⟩:=hn;cases ob with
   |dead=>cases q2
   |live=>cases q2
   |nil=>cases q2
   |own c=>cases q2
   |cZ g=>cases q2;exact .inl ⟨i,g,hi,rfl,q1,rfl⟩
  ·have cA:∀i,i<nj.length->s i≠n:=λ i hi he=>hx ⟨i,hi,he⟩
   have aF:n<O.length:=by
    have:=(List.getElem?_eq_some_iff.1 hn).1;rcases lt_or_ge n O.length with h'|h'
    ·exact h'
    ·exact absurd (dM (O1.length+(n- O.length)) (by omega)) (λ he=>cA (O1.length+(n- O.length)) (by omega) (by omega))
   rw[h2 n aF (λ i hi=>cA i (by omega))]at hn;exact .inr ⟨aF,cA,hn⟩
 have ext:Ext I L O I' L'' nc:=by
  refine⟨iQ.ext.kJ,by omega,λ n hn e k xs hx=> ?_,λ n hn e k hx=> ?_,λ n hn a hx=> ?_,λ n hn g hx=> ?_⟩
  rotate_right
  ·rcases ao8 n g hx with⟨i,g',eH,rfl,q1,rfl⟩|⟨aF,cA,q1⟩
   ·have him:i<O1.length:=by
      rcases lt_or_ge i O1.length with h'|h'
      ·exact h'
      ·have:=dM i h';omega
    obtain⟨⟨b,hb,hk⟩,hv⟩:=iQ.ext.cZ i him g' q1;exact⟨⟨_,o8 hb,by rw[gJ.yB,gJ.yB];exact hk⟩,by rw[tb i eH];exact hv⟩
   ·exact⟨⟨g,q1,rfl⟩,by rw[rG n cA]⟩
  rotate_left 2
  ·rcases ad3 n a hx with⟨i,eH,rfl,q1⟩|⟨aF,cA,q1⟩
   ·have him:i<O1.length:=by
      rcases lt_or_ge i O1.length with h'|h'
      ·exact h'
      ·have:=dM i h';omega
    obtain⟨⟨b,hb⟩,hv⟩:=iQ.ext.own i him a q1;exact⟨⟨b,jm hb⟩,by rw[tb i eH];exact hv⟩
   ·exact⟨⟨a,q1⟩,by rw[rG n cA]⟩
  rotate_left
  ·by_cases hex:∃i,i<nj.length/\s i=n
   ·obtain⟨i,eH,rfl⟩:=hex;rw[h1 i eH,map_eq_some_iff]at hx;obtain⟨ob,q1,q2⟩:=hx;cases ob with
    |dead=>cases q2
    |own a=>cases q2
    |cZ g=>cases q2
    |live=>cases q2
    |nil=>
     cases q2
     have him:i<O1.length:=by
      rcases lt_or_ge i O1.length with h'|h'
      ·exact h'
      ·have:=dM i h';omega
     rw[hg i him,iQ.ext.nil i him e k q1];rfl
   ·rwa [h2 n hn (λ i eH he=>hex ⟨i,by omega,he⟩)]at hx
  rcases cls n e k xs hx with⟨i,ys,eH,rfl,q1,rfl⟩|⟨aF,cA,q1⟩
  ·have him:i<O1.length:=by
     rcases lt_or_ge i O1.length with h'|h'
     ·exact h'
     ·have:=dM i h';omega
   rcases iQ.ext.obj i him e k ys q1 with⟨zs,z1,z2,z3⟩|⟨z1,z2⟩
   ·refine .inl ⟨_,gL z1,by simpa using z2,λ he=> ?_⟩;rw[tb i eH,z3 (by simpa using he)]
   ·exact .inr ⟨by rw[hg i him,z1];rfl,by simpa using z2⟩
  ·exact .inl ⟨xs,q1,le_refl _,λ _=>rG n cA⟩
 have fwd:∀{a:AV} {x:Value},R I' L1' nj a x->R I' L'' nc (a.bP s) x:=λ hr=>hr.bP hsl h1 tb
 have how:Own I' L'' nc w':=by
  have aBi:∀{n:Nat} {a:AV},O[n]? =some (.own a)->(∀i,i<nj.length->s i≠n)->∀{b o v},(L n).mem b o=some v->∀o',I' b o'=none:=by
   intro n a hn cA b o v hv o';obtain⟨o1,o2⟩:=akw hn cA hv;cases hx:I' b o' with
   |none=>rfl
   |some u=>
    rcases iQ.iP _ _ _ hx with h'|h'|h'
    ·rw[hi.ow.kJ _ _ hn b o v hv]at h';cases h'
    ·exact(o1 h').elim
    ·omega
  refine⟨λ n a hn=> ?_,λ n a hn b o v hv=> ?_,λ n a hn b o v hv o'=> ?_,λ n a hn b o v hv m e k xs hm hb=> ?_,λ n m a c hn hm b o o' v v' hv km=> ?_,λ n a hn=> ?_⟩
  ·rcases ad3 n a hn with⟨i,eH,rfl,q1⟩|⟨aF,cA,q1⟩
   ·rw[tb i eH];exact iQ.inv.ow.tree _ _ q1
   ·rw[rG n cA];exact hi.ow.tree _ _ q1
  ·rcases ad3 n a hn with⟨i,eH,rfl,q1⟩|⟨aF,cA,q1⟩
   ·rw[tb i eH]at hv;exact iQ.inv.ow.cell _ _ q1 b o v hv
   ·rw[rG n cA]at hv;obtain⟨o1,o2⟩:=akw q1 cA hv;rw[←hi.ow.cell _ _ q1 b o v hv];exact World.cell?_of_block (a:=⟨b,o,none⟩) (iQ.pO.block _ o2 o1)
  ·rcases ad3 n a hn with⟨i,eH,rfl,q1⟩|⟨aF,cA,q1⟩
   ·rw[tb i eH]at hv;exact iQ.inv.ow.kJ _ _ q1 b o v hv o'
   ·rw[rG n cA]at hv;exact aBi q1 cA hv o'
  ·rcases ad3 n a hn with⟨i,eH,rfl,q1⟩|⟨aF,cA,q1⟩<;>rcases cls m e k xs hm with⟨i',vG,zM,rfl,yE,rfl⟩|⟨nh,sR,yE⟩
   ·rw[tb i' zM]at hb;rw[tb i eH]at hv;exact iQ.inv.ow.live _ _ q1 b o v hv _ _ _ _ yE hb
   ·rw[rG m sR]at hb;rw[tb i eH]at hv;obtain⟨o1,o2⟩:=fx yE sR;rw[hb]at o1 o2;rcases iQ.lb b (.inr (.inl ⟨i,a,o,v,q1,hv⟩))with h'|h'
    ·exact o1 h'
    ·omega
   ·rw[tb i' zM]at hb;rw[rG n cA]at hv;obtain⟨o1,o2⟩:=akw q1 cA hv;rcases iQ.lb b (.inl ⟨i',_,_,_,yE,hb⟩)with h'|h'
    ·exact o1 h'
    ·omega
   ·rw[rG m sR]at hb;rw[rG n cA]at hv;exact hi.ow.live _ _ q1 b o v hv _ _ _ _ yE hb
  ·rcases ad3 n a hn with⟨i,eH,rfl,q1⟩|⟨aF,cA,q1⟩<;>rcases ad3 m c hm with⟨i',zM,rfl,yE⟩|⟨nh,sR,yE⟩
   ·rw[tb i eH]at hv;rw[tb i' zM]at km;rw[iQ.inv.ow.sep _ _ _ _ q1 yE b o o' v v' hv km]
   ·rw[tb i eH]at hv;rw[rG m sR]at km;obtain⟨o1,o2⟩:=akw yE sR km;rcases iQ.lb b (.inr (.inl ⟨i,a,o,v,q1,hv⟩))with h'|h'
    ·exact(o1 h').elim
    ·omega
   ·rw[rG n cA]at hv;rw[tb i' zM]at km;obtain⟨o1,o2⟩:=akw q1 cA hv;rcases iQ.lb b (.inr (.inl ⟨i',c,o',v',yE,km⟩))with h'|h'
    ·exact(o1 h').elim
    ·omega
   ·rw[rG n cA]at hv;rw[rG m sR]at km;exact hi.ow.sep _ _ _ _ q1 yE b o o' v v' hv km
  ·rcases ad3 n a hn with⟨i,eH,rfl,q1⟩|⟨aF,cA,q1⟩
   ·rw[tb i eH];exact iQ.inv.ow.deep _ _ q1
   ·rw[rG n cA];obtain⟨S,p1,p2⟩:=hi.ow.deep _ _ q1;refine⟨S,p1.congr λ b hb=> ?_,p2⟩;obtain⟨o,v,hv⟩:=(p2 b).1 hb;obtain⟨o1,o2⟩:=akw q1 cA hv;exact iQ.pO.block _ o2 o1
 have hgh:Gh I' L'' nc w':=by
  refine⟨λ n g hn=> ?_,λ n m g g' hn hm hb=> ?_⟩
  ·rcases ao8 n g hn with⟨i,g0,eH,rfl,q1,rfl⟩|⟨aF,cA,q1⟩
   ·have q:=iQ.inv.gh.ok _ _ q1;rw[tb i eH];cases g0 with
    |it a b=>exact q
    |mp es=>
     obtain⟨en,c,p1,p2,p3⟩:=q;refine⟨en,c,p1,by simpa using p2,λ j k v hx=> ?_⟩;rw[getElem?_map,map_eq_some_iff]at hx;obtain⟨z,hz,hze⟩:=hx;cases hze;obtain⟨e,p4,p5,p6⟩:=p3 j z.1 z.2 hz;exact⟨e,p4,fwd p5,fwd p6⟩
   ·obtain⟨o1,o2⟩:=aui q1 cA;rw[rG n cA];exact(hi.gh.ok _ _ q1).mono rfl (λ _ _ hr=>hr.mono ext) (iQ.pO.block _ o2 o1)
  ·rcases ao8 n g hn with⟨i,g0,eH,rfl,q1,rfl⟩|⟨aF,cA,q1⟩<;>rcases ao8 m g' hm with⟨i',g0',zM,rfl,yE,rfl⟩|⟨nh,sR,yE⟩
   ·rw[tb i eH,tb i' zM]at hb;rw[iQ.inv.gh.sep _ _ _ _ q1 yE hb]
   ·rw[tb i eH,rG m sR]at hb;obtain⟨o1,o2⟩:=aui yE sR;rcases iQ.lb _ (.inr (.inr ⟨i,_,q1,hb⟩))with h'|h'
    ·exact(o1 h').elim
    ·omega
   ·rw[tb i' zM,rG n cA]at hb;obtain⟨o1,o2⟩:=aui q1 cA;rcases iQ.lb _ (.inr (.inr ⟨i',_,yE,hb.symm⟩))with h'|h'
    ·exact(o1 h').elim
    ·omega
   ·rw[rG n cA,rG m sR]at hb;exact hi.gh.sep _ _ _ _ q1 yE hb
 refine⟨y,I',L'',rfl,fwd hy,⟨⟨iQ.inv.kJ,λ n e k xs hn=> ?_,λ n n' e k xs e' k' iv hn mb hb=> ?_,λ n e k xs o hn=> ?_,iQ.inv.fix,iQ.inv.bf,how,hgh⟩,ext,⟨iQ.pO.os,iQ.pO.tape,iQ.pO.output,iQ.pO.size,λ b hb cA=>iQ.pO.block b hb λ hc=>cA (lb1 hc)⟩,?_,λ b o x hx=> ?_⟩⟩
 ·rcases cls n e k xs hn with⟨i,ys,eH,rfl,q1,rfl⟩|⟨aF,cA,q1⟩
  ·obtain⟨c,⟨lD,q1,dE⟩,q2,q3,q4,q5,q6⟩:=iQ.inv.obj _ _ _ _ q1;rw[tb i eH];refine⟨c,⟨lD,q1,dE⟩,q2,by simpa using q3,q4,q5,λ j x hx=> ?_⟩;obtain⟨z,hz,rfl⟩:=ja hx;rw[ea];refine⟨by rw[length_map];exact(q6 j z hz).1,λ l a ha=> ?_⟩;obtain⟨b,hb,rfl⟩:=ja ha;obtain⟨v,hv,ho,ou⟩:=(q6 j z hz).2 l b hb;exact⟨v,hv,ho,fwd ou⟩
  ·obtain⟨o1,o2⟩:=fx q1 cA;rw[rG n cA];obtain⟨c,⟨lD,q1,dE⟩,q2,q3,q4,q5,q6⟩:=hi.obj _ _ _ _ q1;refine⟨c,⟨lD,by rw[iQ.pO.block _ o2 o1];exact q1,dE⟩,q2,q3,q4,q5,λ j x hx=>⟨(q6 j x hx).1,λ l a ha=> ?_⟩⟩;obtain⟨v,hv,ho,ou⟩:=(q6 j x hx).2 l a ha;exact⟨v,hv,ho,ou.mono ext⟩
 ·rcases cls n e k xs hn with⟨i,ys,eH,rfl,q1,rfl⟩|⟨aF,cA,q1⟩<;>rcases cls n' e' k' iv mb with⟨i',vG,zM,rfl,yE,rfl⟩|⟨nh,sR,yE⟩
  ·rw[tb i eH,tb i' zM]at hb;rw[iQ.inv.sep _ _ _ _ _ _ _ _ q1 yE hb]
  ·rw[tb i eH,rG n' sR]at hb;obtain⟨o1,o2⟩:=fx yE sR;rcases iQ.lb _ (.inl ⟨i,_,_,_,q1,hb⟩)with h'|h'
   ·exact(o1 h').elim
   ·omega
  ·rw[tb i' zM,rG n cA]at hb;obtain⟨o1,o2⟩:=fx q1 cA;rcases iQ.lb _ (.inl ⟨i',_,_,_,yE,hb.symm⟩)with h'|h'
   ·exact(o1 h').elim
   ·omega
  ·rw[rG n cA,rG n' sR]at hb;exact hi.sep _ _ _ _ _ _ _ _ q1 yE hb
 ·rcases cls n e k xs hn with⟨i,ys,eH,rfl,q1,rfl⟩|⟨aF,cA,q1⟩
  ·rw[tb i eH];exact iQ.inv.dS _ _ _ _ o q1
  ·rw[rG n cA];obtain⟨o1,o2⟩:=fx q1 cA;cases hx:I' (L n).bf o with
   |none=>rfl
   |some x=>
    rcases iQ.iP _ _ _ hx with h'|h'|h'
    ·rw[hi.dS _ _ _ _ o q1]at h';cases h'
    ·exact(o1 h').elim
    ·omega
 ·rintro b (⟨n,e,k,xs,hn,hb⟩|⟨n,a,o,v,hn,hb⟩|⟨n,g,hn,hb⟩)
  rotate_right
  ·rcases ao8 n g hn with⟨i,g',eH,rfl,q1,rfl⟩|⟨aF,cA,q1⟩
   ·rw[tb i eH]at hb;rcases iQ.lb b (.inr (.inr ⟨i,_,q1,hb⟩))with h'|h'
    ·exact .inl (lb1 h')
    ·exact .inr h'
   ·rw[rG n cA]at hb;exact .inl (.inr (.inr ⟨n,_,q1,hb⟩))
  ·rcases cls n e k xs hn with⟨i,ys,eH,rfl,q1,rfl⟩|⟨aF,cA,q1⟩
   ·rw[tb i eH]at hb;rcases iQ.lb b (.inl ⟨i,_,_,_,q1,hb⟩)with h'|h'
    ·exact .inl (lb1 h')
    ·exact .inr h'
   ·rw[rG n cA]at hb;exact .inl (.inl ⟨n,_,_,_,q1,hb⟩)
  ·rcases ad3 n a hn with⟨i,eH,rfl,q1⟩|⟨aF,cA,q1⟩
   ·rw[tb i eH]at hb;rcases iQ.lb b (.inr (.inl ⟨i,a,o,v,q1,hb⟩))with h'|h'
    ·exact .inl (lb1 h')
    ·exact .inr h'
   ·rw[rG n cA]at hb;exact .inl (.inr (.inl ⟨n,a,o,v,q1,hb⟩))
 ·rcases iQ.iP b o x hx with h'|h'|h'
  ·exact .inl h'
  ·exact .inr (.inl (lb1 h'))
  ·exact .inr (.inr h')
theorem fE.fresh{P:Program}{f:FuncId}{args:List AV}{res:AV}{nj:List ad}(h:fE P f args [] res nj)(hn:AV.ae args=true)(O:List ad):
  fE P f args O (res.bP λ n=>O.length+n) (O++nj.map (ad.bP λ n=>O.length+n)):=by
 have:=h.frame (O:=O) (nc:=O++nj.map (ad.bP λ n=>O.length+n)) (λ n=>O.length+n) (by simp) (by simp) (by simp) (by simp) (λ a ha=>cr a (ba hn a ha)) (by simp) (by simp)
  (λ i hi=>by rw[getElem?_append_right (by omega),getElem?_map,show O.length+i- O.length=i by omega]) (λ n hn _=>by rw[getElem?_append_left hn])
 rwa [←fh,fi args hn]at this
theorem ajb{n:Nat}{s:Nat->Nat}(h:s 0=n){a:AV}(ha:a.one=true):a.bP s=a.bP λ _=>n:=by
 cases a<;>simp only[AV.one]at ha
 case row m l=>have:m=0:=by simpa using ha
               subst this;simp only[AV.bP,h]
 case ptr m l i f=>have:m=0:=by simpa using ha
                   subst this;simp only[AV.bP,h]
 case own m=>have:m=0:=by simpa using ha
             subst this;simp only[AV.bP,h]
 all_goals rw[dX _ ha,dX _ ha]
theorem aht{a:AV}(ha:a.one=true):a.inScope 1=true:=by
 cases a<;>simp only[AV.one]at ha
 case row m l=>have:m=0:=by simpa using ha
               subst this;rfl
 case ptr m l i f=>have:m=0:=by simpa using ha
                   subst this;rfl
 case own m=>have:m=0:=by simpa using ha
             subst this;rfl
 all_goals exact cr _ ha
theorem fJ{s:Nat->Nat}{ob:ad}(h:ob.ae=true):ob.bP s=ob:=by
 cases ob<;>try rfl
 ·simp only[ad.ae]at h;simp only[ad.bP];rw[←fh,fi _ h]
 ·rename_i g;cases g with
  |it a b=>rfl
  |mp es=>
   simp only[ad.ae,all_eq_true,and_eq_true]at h;simp only[ad.bP,gJ.bP]
   have:(es.map λ p=>(p.1.bP s,p.2.bP s))=es.map id:=map_congr_left λ p hp=>by
    obtain⟨a,b⟩:=p;have:=h _ hp;rw[dX _ this.1,dX _ this.2];rfl
   rw[this,List.map_id]
theorem nz{k:Nat}{ob:ad}(h:ob.ae=true):ob.inScope k=true:=by
 cases ob<;>try rfl
 ·exact de _ h
 ·rename_i g;cases g with
  |it a b=>rfl
  |mp es=>
   simp only[ad.ae,all_eq_true,and_eq_true]at h;simp only[ad.inScope,all_eq_true,and_eq_true];exact λ p hp=>⟨cr _ (h p hp).1,cr _ (h p hp).2⟩
theorem fE.aBa{P:Program}{f:FuncId}{a0:List AV}{res:AV}{ob ob':ad}(h:fE P f a0 [ob] res [ob'])(ha:a0.all AV.one=true)(hx:ob.ae=true)(hy:ob'.ae=true)(hr:res.ag=true)
  {O:List ad} (k:Nat) (hk:O[k]? =some ob):fE P f (a0.map (AV.bP λ _=>k)) O res (O.set k ob'):=by
 have aF:k<O.length:=(List.getElem?_eq_some_iff.1 hk).1
 have:=h.frame (O:=O) (nc:=O.set k ob') (λ n=>if n=0 then k else O.length+(n- 1))
  (by intro i hi;simp at hi;subst hi;simpa using aF) (by intro i hi;simp at hi;subst hi;simp[hk,fJ hx]) (by intro i j hi hj _;simp at hi hj;omega)
  (by intro i hi;simp at hi;simp;omega) (λ a h'=>aht (List.all_eq_true.1 ha a h')) (by intro b ho;simp at ho;subst ho;exact nz hx) (by simp)
  (by intro i hi;simp at hi;subst hi;simp[aF,fJ hy]) (by intro n hn cA;have:=cA 0 (by simp);simp at this;rw[getElem?_set_ne this])
 rw[dX _ hr]at this;have he:a0.map (AV.bP λ n=>if n=0 then k else O.length+(n- 1))=a0.map (AV.bP λ _=>k):=map_congr_left λ a h'=>ajb (by simp) (List.all_eq_true.1 ha a h')
 rwa [he]at this
mutual
theorem pv{k:Nat}:∀(x:AV),(∀c∈x.cells,c.inScope k=true)->x.inScope k=true
 | .agg cs,h=>by simp only[AV.inScope];exact oO cs h
 | .top,_| .v _,_| .aw,_| .v7,_=>rfl
 | .sl xs,h=>h (.sl xs) (by simp[AV.cells])
 | .cj x f,h=>h (.cj x f) (by simp[AV.cells])
 | .row n l,h=>h (.row n l) (by simp[AV.cells])
 | .ptr n l i f,h=>h (.ptr n l i f) (by simp[AV.cells])
 | .fn f cs,h=>h (.fn f cs) (by simp[AV.cells])
 | .a9 vs,h=>h (.a9 vs) (by simp[AV.cells])
 | .own x,h=>h (.own x) (by simp[AV.cells])
theorem oO{k:Nat}:∀(xs:List AV),(∀c∈xs,c.inScope k=true)->AV.cS k xs=true
 | [],_=>rfl
 |x::xs,h=>by simp only[AV.cS,h x (by simp),oO xs λ c hc=>h c (by simp[hc])];rfl
end
theorem R.inScope{I:du}{L:Nat->Loc}{O:List ad}{a:AV}{x:Value}(hr:R I L O a x):a.inScope O.length=true:=by
 have ix:∀{xs:List AV} {vs:Array Value},xs.length=vs.size->(∀(i:Nat) c x,xs[i]? =some c->vs[i]? =some x->c.inScope O.length=true)->AV.cS O.length xs=true:=by
  intro xs vs hl h;refine oO xs λ c hc=> ?_
  obtain⟨i,hi⟩:=getElem?_of_mem hc;have aF:=(List.getElem?_eq_some_iff.1 hi).1;exact h i c _ hi (by rw[Array.getElem?_eq_getElem (show i<vs.size by omega)])
 induction hr with
 |top x=>rfl
 |v x _=>rfl
 |aw=>rfl
 |v7=>rfl
 |mq a cap=>rfl
 |sl xs bf off cap s bz h1 h2 h3 h4 _ ih=>
  refine oO xs λ x hx=>pv x λ c hc=> ?_
  obtain⟨i,hi⟩:=getElem?_of_mem hx;obtain⟨j,hj⟩:=getElem?_of_mem hc;exact ih i x j c hi hj
 |cj x f bf base bz h1 _ ih=>
  refine pv x λ c hc=> ?_
  obtain⟨j,hj⟩:=getElem?_of_mem hc;exact ih j c hj
 |cf n len e s xs hn hl=>exact decide_eq_true (List.getElem?_eq_some_iff.1 hn).1
 |gu n e s hn=>exact decide_eq_true (List.getElem?_eq_some_iff.1 hn).1
 |eQ n len x hn=>exact decide_eq_true hn
 |dV n len i f e s xs hn hl=>exact decide_eq_true (List.getElem?_eq_some_iff.1 hn).1
 |gv n len i f x hn=>exact decide_eq_true hn
 |fn f aX vs h1 _ ih=>exact ix h1 ih
 |agg cs vs h1 _ ih=>exact ix h1 ih
 |a9 cs vs h1 _ ih=>exact ix h1 ih
 |dW n a hn=>exact decide_eq_true (List.getElem?_eq_some_iff.1 hn).1
 |gW n a hn=>exact decide_eq_true (List.getElem?_eq_some_iff.1 hn).1
 |eR n x hn=>exact decide_eq_true hn
section
variable {I I':du} {L L':Nat->Loc} {O:List ad} {w w':World} {t s k:Nat} {xs:List AV}
def lM(L:Nat->Loc)(k N:Nat):Nat->Loc:=λ n=>if n=k then L N else L n
theorem R.move(hk:O[k]? =some (.nil t s))(bn:xs≠[]){a:AV}{x:Value}(hr:R I' L' (O++ [.live t s xs]) a x)(h:a.inScope O.length=true):R I' (lM L' k O.length) (O.set k (.live t s xs)) a x:=by
 have hkl:=(List.getElem?_eq_some_iff.1 hk).1;have fx:∀{n:Nat},n<O.length->(O++ [ad.live t s xs])[n]? =O[n]? :=λ {n} hn=>getElem?_append_left hn
 have oth:∀{n:Nat},n≠k->(O.set k (.live t s xs))[n]? =O[n]? :=λ {n} hn=>getElem?_set_ne (λ he=>hn he.symm)
 have self:(O.set k (.live t s xs))[k]? =some (.live t s xs):=getElem?_set_self hkl;have hL:∀{n:Nat},n≠k->lM L' k O.length n=L' n:=λ {n} hn=>if_neg hn
 induction hr with
 |top x=>exact .top x
 |v x hx=>exact .v x hx
 |aw=>exact .aw
 |v7 t x=>exact .v7 t x
 |mq a cap=>exact .mq a cap
 |sl xs bf off cap s bz h1 h2 h3 h4 _ ih=>
  refine .sl xs bf off cap s bz h1 h2 h3 h4 λ i x j c hi hj=>ih i x j c hi hj ?_
  exact cd (bU (by simpa [AV.inScope]using h) x (mem_of_getElem? hi)) c (mem_of_getElem? hj)
 |cj x f bf base bz h1 _ ih=>
  refine .cj x f bf base bz h1 λ j c hj=>ih j c hj ?_
  exact cd (by simpa [AV.inScope]using h) c (mem_of_getElem? hj)
 |cf n len e s' ys hn hl=>
  have aF:n<O.length:=by simpa [AV.inScope]using h
  rw[fx aF]at hn;have bn:n≠k:=by rintro rfl;rw[hk]at hn;cases hn
  rw[←hL bn];exact .cf n len e s' ys (by rw[oth bn];exact hn) hl
 |gu n e s' hn=>
  have aF:n<O.length:=by simpa [AV.inScope]using h
  rw[fx aF]at hn;by_cases pz:n=k
  ·subst pz;exact .eQ n 0 _ (by simpa using aF) (λ e s he=>by rw[self]at he;cases he) (λ e s ys hy=>by rw[self]at hy;cases hy;exact List.length_pos_iff.2 bn) rfl
  ·exact .gu n e s' (by rw[oth pz];exact hn)
 |eQ n len x nh xA hs hx=>
  have aF:n<O.length:=by simpa [AV.inScope]using h
  have pz:n≠k:=by rintro rfl;exact xA t s (by rw[fx aF];exact hk)
  exact .eQ n len x (by simpa using aF) (λ e s' he=>xA e s' (by rw[fx aF];rwa [oth pz]at he)) (λ e s' ys hy=>hs e s' ys (by rw[fx aF];rwa [oth pz]at hy)) hx
 |dV n len i f e s' ys hn hl=>
  have aF:n<O.length:=by simpa [AV.inScope]using h
  rw[fx aF]at hn;have bn:n≠k:=by rintro rfl;rw[hk]at hn;cases hn
  rw[←hL bn];exact .dV n len i f e s' ys (by rw[oth bn];exact hn) hl
 |gv n len i f x nh xA hs hx=>
  have aF:n<O.length:=by simpa [AV.inScope]using h
  have pz:n≠k:=by rintro rfl;exact xA t s (by rw[fx aF];exact hk)
  exact .gv n len i f x (by simpa using aF) (λ e s' he=>xA e s' (by rw[fx aF];rwa [oth pz]at he)) (λ e s' ys hy=>hs e s' ys (by rw[fx aF];rwa [oth pz]at hy)) hx
 |fn f aX vs h1 _ ih=>exact .fn f aX vs h1 λ i c x hi hx=>ih i c x hi hx (bU (by simpa [AV.inScope]using h) c (mem_of_getElem? hi))
 |agg cs vs h1 _ ih=>exact .agg cs vs h1 λ i c x hi hx=>ih i c x hi hx (bU (by simpa [AV.inScope]using h) c (mem_of_getElem? hi))
 |a9 cs vs h1 _ ih=>exact .a9 cs vs h1 λ i c x hi hx=>ih i c x hi hx (bU (by simpa [AV.inScope]using h) c (mem_of_getElem? hi))
 |dW n a hn h1=>
  have aF:n<O.length:=by simpa [AV.inScope]using h
  rw[fx aF]at hn;have bn:n≠k:=by rintro rfl;rw[hk]at hn;cases hn
  rw[←hL bn]at h1⊢;exact .dW n a (by rw[oth bn];exact hn) h1
 |gW n a hn=>
  have aF:n<O.length:=by simpa [AV.inScope]using h
  rw[fx aF]at hn;have bn:n≠k:=by rintro rfl;rw[hk]at hn;cases hn
  rw[←hL bn];exact .gW n a (by rw[oth bn];exact hn)
 |eR n x nh cA hng h1=>
  have aF:n<O.length:=by simpa [AV.inScope]using h
  refine .eR n x (by simpa using aF) (λ a ha=> ?_) (λ a ha=> ?_) h1
  ·by_cases pz:n=k
   ·subst pz;rw[self]at ha;cases ha
   ·exact cA a (by rw[fx aF];rwa [oth pz]at ha)
  ·by_cases pz:n=k
   ·subst pz;rw[self]at ha;cases ha
   ·exact hng a (by rw[fx aF];rwa [oth pz]at ha)
theorem Good.move(hi:Inv I L O w)(hk:O[k]? =some (.nil t s))(bn:xs≠[])(hsc:∀x∈xs,∀c∈x.cells,c.inScope O.length=true)(hg:Good I L O w I' L' (O++ [.live t s xs]) w'):
  Good I L O w I' (lM L' k O.length) (O.set k (.live t s xs)) w':=by
 have hkl:=(List.getElem?_eq_some_iff.1 hk).1;have fx:∀{n:Nat},n<O.length->(O++ [ad.live t s xs])[n]? =O[n]? :=λ {n} hn=>getElem?_append_left hn
 have oth:∀{n:Nat},n≠k->(O.set k (.live t s xs))[n]? =O[n]? :=λ {n} hn=>getElem?_set_ne (λ he=>hn he.symm)
 have self:(O.set k (.live t s xs))[k]? =some (.live t s xs):=getElem?_set_self hkl;have dM:(O++ [ad.live t s xs])[O.length]? =some (.live t s xs):=by simp
 have src:∀{n e k' ys},(O.set k (.live t s xs))[n]? =some (.live e k' ys)->∃m,(O++ [ad.live t s xs])[m]? =some (.live e k' ys)/\lM L' k O.length n=L' m/\(∀x∈ys,∀c∈x.cells,c.inScope O.length=true)/\((n=k/\m=O.length)∨(n≠k/\m=n/\n<O.length)):=by
  intro n e k' ys hn;by_cases pz:n=k
  ·subst pz;rw[self]at hn;cases hn;exact⟨O.length,dM,if_pos rfl,hsc,.inl ⟨rfl,rfl⟩⟩
  ·rw[oth pz]at hn;have aF:=(List.getElem?_eq_some_iff.1 hn).1;refine⟨n,by rw[fx aF];exact hn,if_neg pz,λ x hx c hc=> ?_,.inr ⟨pz,rfl,aF⟩⟩;obtain⟨_,⟨lD,_,dE⟩,_,_,_,_,q⟩:=hi.obj n e k' ys hn;obtain⟨i,hix⟩:=getElem?_of_mem hx;obtain⟨j,hjc⟩:=getElem?_of_mem hc;obtain⟨_,_,_,hr⟩:=(q i x hix).2 j c hjc;exact hr.inScope
 have atS:∀{n:Nat} {a:AV},(O.set k (.live t s xs))[n]? =some (.own a)->(O++ [ad.live t s xs])[n]? =some (.own a)/\lM L' k O.length n=L' n:=by
  intro n a hn;by_cases pz:n=k
  ·subst pz;rw[self]at hn;cases hn
  ·rw[oth pz]at hn;rw[fx (List.getElem?_eq_some_iff.1 hn).1];exact⟨hn,if_neg pz⟩
 have ams:∀{n:Nat} {a:gJ},(O.set k (.live t s xs))[n]? =some (.cZ a)->(O++ [ad.live t s xs])[n]? =some (.cZ a)/\lM L' k O.length n=L' n/\O[n]? =some (.cZ a):=by
  intro n a hn;by_cases pz:n=k
  ·subst pz;rw[self]at hn;cases hn
  ·rw[oth pz]at hn;rw[fx (List.getElem?_eq_some_iff.1 hn).1];exact⟨hn,if_neg pz,hn⟩
 have hgh:Gh I' (lM L' k O.length) (O.set k (.live t s xs)) w':=by
  refine⟨λ n g hn=> ?_,λ n m g g' hn hm hb=> ?_⟩
  ·obtain⟨q1,q2,q3⟩:=ams hn;have h1:=hg.inv.gh.ok n g q1;have h2:=hi.gh.ok n g q3;rw[q2];cases g with
   |it a b=>exact h1
   |mp es=>
    obtain⟨en,c,r1,r2,r3⟩:=h1;obtain⟨en0,c0,s1,s2,s3⟩:=h2;refine⟨en,c,r1,r2,λ i a v hx=> ?_⟩;obtain⟨e,r4,r5,r6⟩:=r3 i a v hx;obtain⟨e0,s4,s5,s6⟩:=s3 i a v hx;exact⟨e,r4,r5.move hk bn s5.inScope,r6.move hk bn s6.inScope⟩
  ·obtain⟨q1,q2,_⟩:=ams hn;obtain⟨p1,p2,_⟩:=ams hm;rw[q2,p2]at hb;exact hg.inv.gh.sep _ _ _ _ q1 p1 hb
 refine⟨⟨hg.inv.kJ,λ n e k' ys hn=> ?_,λ n m e k' ys e' k'' vG hn hm hb=> ?_,λ n e k' ys o hn=> ?_,hg.inv.fix,hg.inv.bf,hg.inv.ow.same (λ n a hn=>atS hn) (λ b o v hv=> .inl ⟨o,v,hv⟩) (λ m e k' ys hm=>by obtain⟨m1,h1,h2,_⟩:=src hm;rw[h2];exact .inl ⟨m1,_,_,_,h1,rfl⟩) rfl,hgh⟩,⟨hg.ext.kJ,by simp,λ n hn e k' ys hx=> ?_,λ n hn e k' hx=> ?_,λ n hn a hx=>by obtain⟨q1,q2⟩:=atS hx;rw[q2];exact hg.ext.own n hn a q1,λ n hn a hx=>by obtain⟨q1,q2,_⟩:=ams hx;rw[q2];exact hg.ext.cZ n hn a q1⟩,hg.pO,?_,hg.iP⟩
 ·obtain⟨m,h1,h2,h3,_⟩:=src hn;rw[h2];obtain⟨c,⟨lD,q1,dE⟩,q2,q3,q4,q5,q6⟩:=hg.inv.obj m e k' ys h1;refine⟨c,⟨lD,q1,dE⟩,q2,q3,q4,q5,λ i x hx=>⟨(q6 i x hx).1,λ j a ha=> ?_⟩⟩;obtain⟨y,hy,ho,hr⟩:=(q6 i x hx).2 j a ha;exact⟨y,hy,ho,hr.move hk bn (h3 x (mem_of_getElem? hx) a (mem_of_getElem? ha))⟩
 ·obtain⟨m1,h1,h2,_,h4⟩:=src hn;obtain⟨m2,k1,k2,_,k4⟩:=src hm;rw[h2,k2]at hb;have:=hg.inv.sep m1 m2 _ _ _ _ _ _ h1 k1 hb;rcases h4 with⟨a1,a2⟩|⟨a1,a2,a3⟩<;>rcases k4 with⟨b1,b2⟩|⟨b1,b2,b3⟩<;>omega
 ·obtain⟨m,h1,h2,_⟩:=src hn;rw[h2];exact hg.inv.dS m e k' ys o h1
 ·by_cases pz:n=k
  ·subst pz;rw[self]at hx;cases hx;exact .inr ⟨hk,bn⟩
  ·rw[oth pz]at hx;rcases hg.ext.obj n hn e k' ys (by rw[fx hn];exact hx)with⟨zs,z1,z2,z3⟩|h
   ·exact .inl ⟨zs,z1,z2,λ he=>by rw[show lM L' k O.length n=L' n from if_neg pz];exact z3 he⟩
   ·exact .inr h
 ·by_cases pz:n=k
  ·subst pz;rw[self]at hx;cases hx
  ·rwa [oth pz]at hx
 ·rintro b (⟨n,e,k',ys,hn,hb⟩|⟨n,a,o,v,hn,hb⟩|⟨n,a,hn,hb⟩)
  rotate_right
  ·obtain⟨q1,q2,_⟩:=ams hn;rw[q2]at hb;exact hg.lb b (.inr (.inr ⟨n,a,q1,hb⟩))
  ·obtain⟨m,h1,h2,_⟩:=src hn;rw[h2]at hb;exact hg.lb b (.inl ⟨m,e,k',ys,h1,hb⟩)
  ·obtain⟨q1,q2⟩:=atS hn;rw[q2]at hb;exact hg.lb b (.inr (.inl ⟨n,a,o,v,q1,hb⟩))
end
end Go.Ab
namespace Go.Ab
def ez.strip:ez->ez
 | .nw f args=> .call f args
 | .jV x args=> .ew x args
 | .lK f args=> .call f args
 | .iN x args=> .ew x args
 | .mJ f args=> .call f args
 | .eW _ _ _ f args=> .call f args
 | .bk _ f args=> .call f args
 | .jU _ f args=> .call f args
 | .rR _ f args=> .call f args
 | .rS _ f args=> .call f args
 | .nq _ f args=> .call f args
 | .gG _ t s z=> .alloc t s z
 | .m9 _ t s x=> .box t s x
 | .gF _ t s l z ps=> .buildSlice t s l z ps
 | .iR t s l z ps=> .buildSlice t s l z ps
 | .cut s x l h=> .cX s x l h
 | .wJ neg x=> .pu (.o0 neg) [x]
 | .mkF e s b z l c=> .mk e s b z l c
 | .y4 _ e s b z l c=> .mk e s b z l c
 |o=>o
section
variable {P:Program} {I:du} {L:Nat->Loc} {O:List ad} {w:World} {K:AV->List ad->Prop} {e:Env} {a:Act}
theorem fD.wp{o:Oper}(h:fD P I L O w (execOp a.eval o) K){next:Act->World->Prop}{Q:Exit->Act->World->Prop}
  (hn:∀x O' y I' L' w',K x O'->Good I L O w I' L' O' w'->R I' L' O' x y->next (a.put o.dst y) w'):o.wp P a w next Q:=by
 obtain⟨x,O',y,I',L',w',hk,hg,hr,h|⟨h,rfl⟩⟩:=h
 ·unfold Oper.wp;rw[h];exact hn _ _ _ _ _ _ hk hg hr
 ·unfold Oper.wp;rw[h];exact hn _ _ _ _ _ _ hk hg hr
theorem iH{o:Oper}{f:FuncId}{vs:Array Value}{next:Act->World->Prop}{Q:Exit->Act->World->Prop}{M:Value->World->Prop}
  (bo:(execOp a.eval o).run P w= .ok (.enter f vs) w) (hc:Calls P f vs w λ e w'=>∃y,e= .returned y/\M y w') (hn:∀y w',M y w'->next (a.put o.dst y) w'):o.wp P a w next Q:=by
 unfold Oper.wp;rw[bo]
 show Calls P f vs w _;refine hc.mono λ e w' ⟨y,he,hm⟩=> ?_
 subst he;exact hn y w' hm
theorem ac4{f:FuncId}(h:aiM P f)(vs:Array Value)(w:World):(callFunc f vs).run P w= .ok (.enter f vs) w:=by
 obtain⟨fn,h1,h2,h3⟩:=h;obtain⟨b,hb⟩:=Option.isSome_iff_exists.1 h2;have h4:¬fn.name= "runtime.NumGoroutine" :=by simpa using h3
 simp[callFunc,h1,h4,hb]
theorem dB{c:Call}{fv:Operand}(j4:c.callee= .value fv){f:FuncId}{aX:Array Value}(hfv:a.eval fv= .func (.func f) #[] aX)(he:aiM P f){d:Option Tmp}{ty:TypeId}{pos:String}{af:Array Edge}{g:Option (Nat×Bool)}:
  (execOp a.eval ⟨d,.call c,ty,pos,af,g⟩).run P w= .ok (.enter f (c.args.map a.eval++aX)) w:=by
 simp only[execOp,resolve,j4,hfv,Deferred.ofValue];simp[invoke,ac4 he]
def ez.aa8:ez->Bool
 | .gG _ _ _ _| .m9 _ _ _ _| .gF _ _ _ _ _ _| .cut _ _ _ _| .wJ _ _| .mkF _ _ _ _ _ _| .y4 _ _ _ _ _ _ _=>true
 |_=>false
theorem p7{ao b:ez}(ha:ao.aa8=false)(h:b=ao.strip)(hb:b.zn=false)(hs:∀t s l z ps,b≠ .buildSlice t s l z ps):ao=b:=by
 subst h;cases ao<;>first|rfl|(simp[ez.strip,ez.zn]at hb;done)|(simp[ez.aa8]at ha;done)|(exact(hs _ _ _ _ _ rfl).elim)
theorem ai9{d:Option Tmp}{op:Op}{ty:TypeId}{pos:String}{af:Array Edge}{g:Option (Nat×Bool)}{ao:ez}(hc:bY P ty op=some ao)(hi:Inv I L O w)(he:∀t,R I L O (e t) (a.tmps.getD t undef))(hk:wpOp P ao e O K):
  fD P I L O w (execOp a.eval ⟨d,op,ty,pos,af,g⟩) K:=by
 cases op
 case move=>exact aqu hi he hc hk
 case assign=>exact ahg hi he hc hk
 case pick=>exact amF hi he hc hk
 case alloc=>exact ako hi hc hk
 case box=>exact aqz hi he hc hk
 case build=>exact akn hi he hc hk
 case buildSlice=>exact yD hi he hc hk
 case load=>exact amK hi he hc hk
 case store=>exact akf hi he hc hk
 case nilCheck=>exact amH hi he hc hk
 case binOp=>exact aqA hi he hc hk
 case unOp=>exact at3 hi he hc hk
 case convert=>exact aeV hi he hc hk
 case fieldAddr=>exact akm hi he hc hk
 case field=>exact aqw hi he hc hk
 case indexAddr=>exact akl hi he hc hk
 case index=>exact akk hi he hc hk
 case slice=>exact akh hi he hc hk
 case makeSlice=>exact aa1 hi he hc hk
 case extract=>exact aqx hi he hc hk
 case makeMap=>exact aki hi hc hk
 case lookup=>exact amJ hi he hc hk
 case mapUpdate=>exact aeU hi he hc hk
 case insert=>exact ahe hi he hc hk
 case range=>exact ake hi he hc hk
 case next=>exact akg hi he hc hk
 case makeFunc=>exact amI hi he hc hk
 all_goals cases hc
theorem ajO(O:List ad)(res:AV):xo O [] res=O:=by simp[xo]
theorem ad5{c:Call}{ao:ez}{d:Option Tmp}{ty:TypeId}{pos:String}{af:Array Edge}{g:Option (Nat×Bool)}(hc:wu P c=some ao.strip)(hi:Inv I L O w)(he:∀t,R I L O (e t) (a.tmps.getD t undef))(hk:wpOp P ao e O K){next:Act->World->Prop}{Q:Exit->Act->World->Prop}
  (hn:∀x O' y I' L' w',K x O'->Good I L O w I' L' O' w'->R I' L' O' x y->next (a.put d y) w'):Oper.wp P ⟨d,.call c,ty,pos,af,g⟩ a w next Q:=by
 unfold wu at hc
 split at hc
 ·rename_i fv j4
  have ep:∀{args},apf c.args=some args->RL I L O (args.map (aI.ev e)) (c.args.map a.eval):=by
   intro args h;have:=wq (I:=I) (L:=L) (O:=O) (e:=e) (a:=a) h he;have h2:(List.map a.eval c.args.toList).toArray=Array.map a.eval c.args:=by apply Array.ext';simp
   rwa [h2]at this
  split at hc
  ·rename_i f args hf r9;have rf:=aq hf he
   have hv:a.eval fv= .func (.func f) #[] #[]:=by
    generalize a.eval fv=X at rf;cases rf with
    |fn _ _ vs h1 h2=>congr 1;exact(Array.eq_empty_of_size_eq_zero h1.symm)
   have v9:=ep r9;simp only[Option.some.injEq]at hc;cases ao<;>simp only[ez.strip]at hc<;>first|(cases hc;done)|skip
   case call f' pD=>
    cases hc;obtain⟨res,O',eY,hk⟩:=hk;refine iH (a:=a) (dB j4 hv eY.1) (M:=λ y w'=>∃I' L',R I' L' O' res y/\Good I L O w I' L' O' w') ?_ λ y w' ⟨I',L',h1,h2⟩=>hn _ _ _ _ _ _ hk h2 h1
    refine(eY.2 I L w _ hi (by simpa using v9)).mono ?_;rintro e' w' ⟨y,I',L',rfl,h1,h2⟩;exact⟨y,rfl,I',L',h1,h2⟩
   case nw f' pD=>
    cases hc;obtain⟨res,hnr,eY,hk⟩:=hk;have:=jD (as:=args.map (aI.ev e)) (aX:=[]) (vs:=c.args.map a.eval) hi (by simpa using v9) (by simpa [Function.comp_def]using hnr) (by simpa [Function.comp_def]using eY);refine iH (a:=a) (dB j4 hv eY.1) (M:=λ y w'=>∃I' L',R I' L' (xo O (args.map (aI.ev e)) res) res y/\Good I L O w I' L' (xo O (args.map (aI.ev e)) res) w') ?_ λ y w' ⟨I',L',h1,h2⟩=>hn _ _ _ _ _ _ hk h2 h1
    simp only[Array.append_empty];refine this.mono ?_;rintro e' w' ⟨y,I',L',rfl,h1,h2⟩;exact⟨y,rfl,I',L',h1,h2⟩
   case lK f' pD=>
    cases hc;obtain⟨res,hnr,eY,hk⟩:=hk;have:=jD (as:=[]) (aX:=args.map (aI.ev e)) (vs:=c.args.map a.eval) hi (by simpa using v9) (by simpa using hnr) (by simpa using eY);rw[ajO]at this;refine iH (a:=a) (dB j4 hv eY.1) (M:=λ y w'=>∃I' L',R I' L' O res y/\Good I L O w I' L' O w') ?_ λ y w' ⟨I',L',h1,h2⟩=>hn _ _ _ _ _ _ hk h2 h1
    simp only[Array.append_empty];refine this.mono ?_;rintro e' w' ⟨y,I',L',rfl,h1,h2⟩;exact⟨y,rfl,I',L',h1,h2⟩
   case bk gs f' pD=>
    cases hc;obtain⟨res,O',eY,hk⟩:=hk;refine iH (a:=a) (dB j4 hv eY.1) (M:=λ y w'=>∃I' L',R I' L' O' res y/\Good I L O w I' L' O' w') ?_ λ y w' ⟨I',L',h1,h2⟩=>hn _ _ _ _ _ _ hk h2 h1
    refine(eY.2 I L w _ hi (by simpa using v9)).mono ?_;rintro e' w' ⟨y,I',L',rfl,h1,h2⟩;exact⟨y,rfl,I',L',h1,h2⟩
   case jU gs f' pD=>
    cases hc;obtain⟨n,a0,ob,res,ob',q1,q2,q3,q4,q5,q6,q7,q8,hk⟩:=hk;have eY:=q8.aBa q2 q5 q7 q6 n q4;rw[←q1]at eY;refine iH (a:=a) (dB j4 hv eY.1) (M:=λ y w'=>∃I' L',R I' L' (O.set n ob') res y/\Good I L O w I' L' (O.set n ob') w') ?_ λ y w' ⟨I',L',h1,h2⟩=>hn _ _ _ _ _ _ hk h2 h1
    refine(eY.2 I L w _ hi (by simpa using v9)).mono ?_;rintro e' w' ⟨y,I',L',rfl,h1,h2⟩;exact⟨y,rfl,I',L',h1,h2⟩
   case rR rd' f' pD=>
    cases hc;obtain⟨res,ob,afM,hk⟩:=hk;have eY:=afM O rfl λ _ _=>rfl
    refine iH (a:=a) (dB j4 hv eY.1) (M:=λ y w'=>∃I' L',R I' L' (O++ [ob]) res y/\Good I L O w I' L' (O++ [ob]) w') ?_ λ y w' ⟨I',L',h1,h2⟩=>hn _ _ _ _ _ _ hk h2 h1
    refine(eY.2 I L w _ hi (by simpa using v9)).mono ?_;rintro e' w' ⟨y,I',L',rfl,h1,h2⟩;exact⟨y,rfl,I',L',h1,h2⟩
   case nq rd' f' pD=>
    cases hc;obtain⟨res,O',eY,_,hk⟩:=hk;refine iH (a:=a) (dB j4 hv eY.1) (M:=λ y w'=>∃I' L',R I' L' O' res y/\Good I L O w I' L' O' w') ?_ λ y w' ⟨I',L',h1,h2⟩=>hn _ _ _ _ _ _ hk h2 h1
    refine(eY.2 I L w _ hi (by simpa using v9)).mono ?_;rintro e' w' ⟨y,I',L',rfl,h1,h2⟩;exact⟨y,rfl,I',L',h1,h2⟩
   case rS rd' f' pD=>
    cases hc;obtain⟨res,afM,hk⟩:=hk;have eY:=afM O λ _ _=>rfl
    refine iH (a:=a) (dB j4 hv eY.1) (M:=λ y w'=>∃I' L',R I' L' O res y/\Good I L O w I' L' O w') ?_ λ y w' ⟨I',L',h1,h2⟩=>hn _ _ _ _ _ _ hk h2 h1
    refine(eY.2 I L w _ hi (by simpa using v9)).mono ?_;rintro e' w' ⟨y,I',L',rfl,h1,h2⟩;exact⟨y,rfl,I',L',h1,h2⟩
   case eW nl' t' s' f' pD=>
    cases hc;obtain⟨res,ob,cA,afM,hk⟩:=hk;have eY:=afM.fresh cA O;refine iH (a:=a) (dB j4 hv eY.1) (M:=λ y w'=>∃I' L',R I' L' (O++ [ob.bP λ n=>O.length+n]) (res.bP λ n=>O.length+n) y/\Good I L O w I' L' (O++ [ob.bP λ n=>O.length+n]) w') ?_ λ y w' ⟨I',L',h1,h2⟩=>hn _ _ _ _ _ _ hk h2 h1
    refine(eY.2 I L w _ hi (by simpa using v9)).mono ?_;rintro e' w' ⟨y,I',L',rfl,h1,h2⟩;exact⟨y,rfl,I',L',h1,h2⟩
   case mJ f' pD=>
    cases hc;obtain⟨res,hfl,hnr,eY,hk⟩:=hk;have avu:xo O (args.map (aI.ev e)) res=O:=if_pos hfl;have:=jD (as:=args.map (aI.ev e)) (aX:=[]) (vs:=c.args.map a.eval) hi (by simpa using v9) (by simpa [Function.comp_def]using hnr) (by simpa [Function.comp_def]using eY);rw[avu]at this;refine iH (a:=a) (dB j4 hv eY.1) (M:=λ y w'=>∃I' L',R I' L' O res y/\Good I L O w I' L' O w') ?_ λ y w' ⟨I',L',h1,h2⟩=>hn _ _ _ _ _ _ hk h2 h1
    simp only[Array.append_empty];refine this.mono ?_;rintro e' w' ⟨y,I',L',rfl,h1,h2⟩;exact⟨y,rfl,I',L',h1,h2⟩
  ·rename_i x args bn hf r9;have rf:=aq hf he;have v9:=ep r9;simp only[Option.some.injEq]at hc;cases ao<;>simp only[ez.strip]at hc<;>first|(cases hc;done)|skip
   case ew x' pD=>
    cases hc;simp only[wpOp]at hk;generalize hA:x.ev e=A at rf hk;cases A<;>simp only at hk
    rename_i f aX;obtain⟨res,O',eY,hk⟩:=hk;generalize hX:a.eval fv=X at rf;cases rf with
    |fn _ _ vs h1 h2=>
     refine iH (a:=a) (dB j4 hX eY.1) (M:=λ y w'=>∃I' L',R I' L' O' res y/\Good I L O w I' L' O' w') ?_ λ y w' ⟨I',L',h1,h2⟩=>hn _ _ _ _ _ _ hk h2 h1
     refine(eY.2 I L w _ hi ?_).mono ?_
     ·refine⟨by simp only[List.length_append,Array.size_append,h1,v9.1],λ i b y hb hy=> ?_⟩;by_cases aF:i<(args.map (aI.ev e)).length
      ·rw[getElem?_append_left aF]at hb;rw[Array.getElem?_append_left (by rw[←v9.1];exact aF)]at hy;exact v9.2 i b y hb hy
      ·rw[getElem?_append_right (by omega)]at hb;rw[Array.getElem?_append_right (by rw[←v9.1];omega),←v9.1]at hy;exact h2 _ b y hb hy
     ·rintro e' w' ⟨y,I',L',rfl,h1,h2⟩;exact⟨y,rfl,I',L',h1,h2⟩
   case jV x' pD=>
    cases hc;simp only[wpOp]at hk;generalize hA:x.ev e=A at rf hk;cases A<;>simp only at hk
    rename_i f aX;obtain⟨res,hnr,eY,hk⟩:=hk;generalize hX:a.eval fv=X at rf;cases rf with
    |fn _ _ vs h1 h2=>
     have:=jD (as:=args.map (aI.ev e)) (aX:=aX) (vs:=c.args.map a.eval++vs) hi (by
      refine⟨by simp only[List.length_append,Array.size_append,h1,v9.1],λ i b y hb hy=> ?_⟩;by_cases aF:i<(args.map (aI.ev e)).length
      ·rw[getElem?_append_left aF]at hb;rw[Array.getElem?_append_left (by rw[←v9.1];exact aF)]at hy;exact v9.2 i b y hb hy
      ·rw[getElem?_append_right (by omega)]at hb;rw[Array.getElem?_append_right (by rw[←v9.1];omega),←v9.1]at hy;exact h2 _ b y hb hy) (by simpa [Function.comp_def]using hnr) (by simpa [Function.comp_def]using eY)
     refine iH (a:=a) (dB j4 hX eY.1) (M:=λ y w'=>∃I' L',R I' L' (xo O (args.map (aI.ev e)) res) res y/\Good I L O w I' L' (xo O (args.map (aI.ev e)) res) w') ?_ λ y w' ⟨I',L',h1,h2⟩=>hn _ _ _ _ _ _ hk h2 h1
     refine this.mono ?_;rintro e' w' ⟨y,I',L',rfl,h1,h2⟩;exact⟨y,rfl,I',L',h1,h2⟩
   case iN x' pD=>
    cases hc;simp only[wpOp]at hk;generalize hA:x.ev e=A at rf hk;cases A<;>simp only at hk
    rename_i f aX;obtain⟨res,hnr,eY,hk⟩:=hk;generalize hX:a.eval fv=X at rf;cases rf with
    |fn _ _ vs h1 h2=>
     have:=jD (as:=[]) (aX:=args.map (aI.ev e)++aX) (vs:=c.args.map a.eval++vs) hi (by
      refine⟨by simp only[List.nil_append,List.length_append,Array.size_append,h1,v9.1],λ i b y hb hy=> ?_⟩;rw[List.nil_append]at hb;by_cases aF:i<(args.map (aI.ev e)).length
      ·rw[getElem?_append_left aF]at hb;rw[Array.getElem?_append_left (by rw[←v9.1];exact aF)]at hy;exact v9.2 i b y hb hy
      ·rw[getElem?_append_right (by omega)]at hb;rw[Array.getElem?_append_right (by rw[←v9.1];omega),←v9.1]at hy;exact h2 _ b y hb hy) (by simpa using hnr) (by simpa using eY)
     rw[ajO]at this;refine iH (a:=a) (dB j4 hX eY.1) (M:=λ y w'=>∃I' L',R I' L' O res y/\Good I L O w I' L' O w') ?_ λ y w' ⟨I',L',h1,h2⟩=>hn _ _ _ _ _ _ hk h2 h1
     refine this.mono ?_;rintro e' w' ⟨y,I',L',rfl,h1,h2⟩;exact⟨y,rfl,I',L',h1,h2⟩
  ·cases hc
 ·rename_i j4
  split at hc
  ·rename_i t x oI has;have xi:c.argTypes= #[t]:=by apply Array.ext';simpa using oI
   have haa:c.args= #[x]:=by apply Array.ext';simpa using has
   split at hc
   ·rename_i ht;simp only[map_eq_some_iff]at hc;obtain⟨ax,hx,hc⟩:=hc;have:=p7 (by cases ao<;>first|rfl|(simp[ez.strip]at hc;done)) hc rfl (by simp);subst this;obtain⟨x',y,h1,h2,h3⟩:=amL (ty:=ty) hi he ht hx hk;refine fD.wp (fD.same hi h1 h2 ?_) hn;simp only[execOp,resolve,j4,xi,haa];simp[invoke,builtin,h3]
   ·rename_i el ht;simp only[map_eq_some_iff]at hc;obtain⟨ax,hx,hc⟩:=hc;have:=p7 (by cases ao<;>first|rfl|(simp[ez.strip]at hc;done)) hc rfl (by simp);subst this;obtain⟨x',y,h1,h2,h3⟩:=amM (ty:=ty) hi he ht hx hk;refine fD.wp (fD.same hi h1 h2 ?_) hn;simp only[execOp,resolve,j4,xi,haa];simp[invoke,builtin,h3]
   ·cases hc
  ·cases hc
 ·rename_i j4
  split at hc
  ·rename_i t u x y oI has
   split at hc
   ·rename_i htu;subst htu;have xi:c.argTypes= #[t,t]:=by apply Array.ext';simpa using oI
    have haa:c.args= #[x,y]:=by apply Array.ext';simpa using has
    simp only[bind_eq_bind,bind_eq_some_iff,Option.some.injEq]at hc;obtain⟨el,fu,⟨s,b,z⟩,hz,ax,hx,ay,hy,hc⟩:=hc;have:=p7 (by cases ao<;>first|rfl|(simp[ez.strip]at hc;done)) hc rfl (by simp);subst this;obtain⟨x',O',y',I',L',w',h1,h2,h3,h4⟩:=asm (ty:=ty) (gE fu) hz hi (aq hx he) (aq hy he) hk;refine fD.wp ⟨x',O',y',I',L',w',h1,h2,h3,.inl ?_⟩ hn;simp only[execOp,resolve,j4,xi,haa];simp[invoke,builtin,h4]
   ·cases hc
  ·cases hc
 ·cases hc
theorem xl{ty:TypeId}{op:Op}{t s l:Nat}{z:AV}{ps:List (Nat×aI)}(h:bY P ty op=some (.buildSlice t s l z ps)):∃t len parts,op= .buildSlice t len parts:=by
 cases op<;>simp only[bY]at h
 case buildSlice t len parts=>exact⟨t,len,parts,rfl⟩
 all_goals (repeat' split at h)
 all_goals first
  |(simp[bind_eq_some_iff]at h;done)
  |(rename_i heq;cases heq;done)
  |(exfalso;simp_all;done)
theorem anx(hi:Inv I L O w)(as:List AV):Inv (uX I L O w as) L [] w:=by
 refine⟨λ b o x hx=> ?_,by simp,by simp,by simp,λ p hp=>xz hi as _ _ _ (hi.fix p hp),hi.xI (xz hi as),.no (by simp),.no (by simp)⟩;unfold uX at hx
 split at hx
 ·exact hx
 ·exact hi.kJ b o x hx
theorem afm{t:TypeId}(h:ars P t=true):∃el,P.underlying t=some (.slice el):=by
 unfold ars at h;split at h
 ·rename_i x hx;exact⟨_,hx⟩
 ·cases h
theorem ab1{t:TypeId}(h:ajm P t=true):∃el,P.underlying t=some (.pointer el):=by
 unfold ajm at h;split at h
 ·rename_i x hx;exact⟨_,hx⟩
 ·cases h
theorem akX{t:TypeId}(h:anR P t=true):∃el,P.underlying t=some (.interface el):=by
 unfold anR at h;split at h
 ·rename_i x hx;exact⟨_,hx⟩
 ·cases h
theorem anQ{t:TypeId}(h:aa7 P t=true):P.underlying t=some (.int .u8):=by
 unfold aa7 at h;split at h
 ·rename_i hx;exact hx
 ·cases h
theorem akW{t:TypeId}(h:isInt P t=true):∃k,P.underlying t=some (.int k):=by
 unfold isInt at h;split at h
 ·rename_i k hx;exact⟨k,hx⟩
 ·cases h
theorem ab0{t:TypeId}(h:isStr P t=true):P.underlying t=some .string:=by
 unfold isStr at h;split at h
 ·rename_i hx;exact hx
 ·cases h
theorem lY(hi:Inv I L O w){v:AV}{x:Value}(hr:R I L O v x)(hn:(iW O v).ag=true)(as:List AV)(hm:v∈as):R (uX I L O w as) L [] (iW O v) x:=ab8 hi hm hr hn
theorem aey:∀{xs:List AV} {l:List UInt8},u8s xs=some l->∃ns:List Int,xs=ns.map (λ n=> .v (.int .u8 n))/\l=ns.map λ n=>UInt8.ofNat n.toNat
 | [],l,h=>by simp[u8s]at h;subst h;exact⟨[],rfl,rfl⟩
 |x::r,l,h=>by
  unfold u8s at h
  split at h
  ·rename_i hx;cases hx
  ·rename_i n r' hx;cases hx;simp only[map_eq_some_iff]at h;obtain⟨l',h1,rfl⟩:=h;obtain⟨ns,rfl,rfl⟩:=aey h1;exact⟨n::ns,rfl,rfl⟩
  ·cases h
theorem asi{s d el:TypeId}(hs:P.underlying s=some (.slice el))(he:P.underlying el=some (.int .u8))(hd:P.underlying d=some .string){I':du}{L':Nat->Loc}(hinv:Inv I' L' [] w){v:AV}{x:Value}{y:AV}(hr:R I' L' [] v x)(hp:xv .b2s [v]=some y):
  ∃z,y= .v z/\z.oneCell'=true/\(convert s d x).run P w= .ok z w:=by
 unfold xv at hp
 split at hp<;>first|(rename_i ho hv;cases ho;done)|(rename_i ho;cases ho;done)|skip
 ·rename_i ys ho hv;cases hv;simp only[map_eq_some_iff]at hp;obtain⟨l,hl,rfl⟩:=hp;obtain⟨ns,rfl,rfl⟩:=aey hl;generalize hX:(ns.map λ n=>AV.v (.int .u8 n))=X at hr;cases hr with
  |mq a cap=>
   have hn:ns= []:=by simpa using hX
   subst hn;refine⟨_,rfl,rfl,?_⟩;rw[run_convert_bytes_string w s d el a 0 cap hs he hd];cases a with
   |none=>simp[Conv.bytesToString];rfl
   |some a=>simp[Conv.bytesToString,loadCells,loadCellsFrom];rfl
  |sl xs bf off cap s' bz h1 h2 h3 h4 h5=>
   subst hX;refine⟨_,rfl,rfl,?_⟩;have hlen:ns.length=(ns.map λ n=>AV.v (.int .u8 n)).length:=by simp
   have:=run_convert_bytes_arg (P:=P) w s el hs he bf off (ns.map λ n=>AV.v (.int .u8 n)).length cap ns hlen (λ i hi=> ?_) d hd
   ·rw[this];rfl
   ·have eH:i<ns.length:=by simpa using hi
    have hx:(ns.map λ n=>AV.v (.int .u8 n))[i]? =some (.v (.int .u8 ns[i])):=by simp[eH]
    have xe:s'=1:=by have:=h3 i _ hx;simpa [AV.cells]using this.symm
    subst xe;have hc0:(AV.v (.int .u8 ns[i])).cells[0]? =some (.v (.int .u8 ns[i])):=rfl;have lO:=(h4 i _ 0 _ hx hc0).1;have vg:=(h5 i _ 0 _ hx hc0).exact;rw[vg]at lO;have:=hinv.kJ _ _ _ lO;simp only[Nat.mul_one,Nat.add_zero]at this;rw[this];simp[List.getD,eH]
 ·rename_i ho hv;cases hv;simp only[Option.some.injEq]at hp;subst hp;cases hr;refine⟨_,rfl,rfl,?_⟩;rw[run_convert_bytes_string w s d el none 0 0 hs he hd];simp[Conv.bytesToString];rfl
 ·cases hp
theorem ad1{op:BinOp}(h:mR op=true):op= .eql∨op= .neq:=by
 cases op<;>simp[mR]at h<;>simp
theorem mz{t:TypeId}{x y:Value}{b:Bool}{op:BinOp}(ho:op= .eql∨op= .neq)(ht:(Op.equalIn (9999+1) t x y).run P w= .ok b w)(ox oy:Operand)
  (hb:∀op:BinOp,op= .eql∨op= .neq->(eqGuard op t ox oy x y).run P w= .ok () w) (h2:∀op:BinOp,op= .eql->binOp op t x y=do pure (.bool (←Op.equal t x y))) (h3:∀op:BinOp,op= .neq->binOp op t x y=do pure (.bool (!(←Op.equal t x y)))):
  (do eqGuard op t ox oy x y;binOp op t x y:Sem Value).run P w= .ok (.bool (jF op !=b)) w:=by
 have e1:(Op.equal t x y).run P w= .ok b w:=ht;rcases ho with rfl|rfl
 ·rw[Sem.run_bind,hb _ (.inl rfl),h2 _ rfl];simp[e1,jF]
 ·rw[Sem.run_bind,hb _ (.inr rfl),h3 _ rfl];simp[e1,jF]
theorem ahQ{t el:TypeId}(ht:P.underlying t=some (.slice el)){op:BinOp}(ho:mR op=true){I':du}{L':Nat->Loc}{v:AV}{x:Value}{y:AV}(hr:R I' L' [] v x)(hp:xv (.u5 (jF op)) [v]=some y)(ox oy:Operand):
  ∃z,y= .v z/\z.oneCell'=true/\(do eqGuard op t ox oy x (.slice none 0 0);binOp op t x (.slice none 0 0):Sem Value).run P w= .ok z w:=by
 have ho:=ad1 ho;unfold xv at hp
 split at hp<;>first|(rename_i h1 h2;cases h1;done)|(rename_i h1;cases h1;done)|skip
 ·rename_i neg h1 h2;cases h1;cases h2;cases hr;simp only[Option.some.injEq]at hp;subst hp;refine⟨_,rfl,rfl,mz (b:=true) ho ?_ ox oy (λ op ho=> ?_) (λ op ho=> ?_) (λ op ho=> ?_)⟩
  ·rw[Op.equalIn];simp[run_underlying ht]
  ·rcases ho with rfl|rfl<;>simp[eqGuard]
  ·subst ho;rfl
  ·subst ho;rfl
 ·rename_i neg a l h1 h2;cases h1;cases h2;simp only[Option.some.injEq]at hp;subst hp;cases hr with
  |sl xs bf off cap s' bz h1 h2 h3 h4 h5=>
   refine⟨_,rfl,rfl,mz (b:=false) ho ?_ ox oy (λ op ho=> ?_) (λ op ho=> ?_) (λ op ho=> ?_)⟩
   ·rw[Op.equalIn];simp[run_underlying ht]
   ·rcases ho with rfl|rfl<;>simp[eqGuard]
   ·subst ho;rfl
   ·subst ho;rfl
 ·cases hp
theorem ahR{t el:TypeId}(ht:P.underlying t=some (.pointer el)){op:BinOp}(ho:mR op=true){I':du}{L':Nat->Loc}{v:AV}{x:Value}{y:AV}(hr:R I' L' [] v x)(hp:xv (.o0 (jF op)) [v]=some y)(ox oy:Operand):
  ∃z,y= .v z/\z.oneCell'=true/\(do eqGuard op t ox oy x (.pointer none);binOp op t x (.pointer none):Sem Value).run P w= .ok z w:=by
 have ho:=ad1 ho;unfold xv at hp
 split at hp<;>first|(rename_i h1 h2;cases h1;done)|(rename_i h1;cases h1;done)|skip
 ·rename_i neg h1 h2;cases h1;cases h2;have:=hr.exact;subst this;simp only[Option.some.injEq]at hp;subst hp;refine⟨_,rfl,rfl,mz (b:=true) ho ?_ ox oy (λ op ho=> ?_) (λ op ho=> ?_) (λ op ho=> ?_)⟩
  ·rw[Op.equalIn];simp[run_underlying ht]
  ·rcases ho with rfl|rfl<;>simp[eqGuard]
  ·subst ho;rfl
  ·subst ho;rfl
 ·rename_i neg a l h1 h2;cases h1;cases h2;simp only[Option.some.injEq]at hp;subst hp;cases hr;refine⟨_,rfl,rfl,mz (b:=false) ho ?_ ox oy (λ op ho=> ?_) (λ op ho=> ?_) (λ op ho=> ?_)⟩
  ·rw[Op.equalIn];simp[run_underlying ht]
  ·rcases ho with rfl|rfl<;>simp[eqGuard]
  ·subst ho;rfl
  ·subst ho;rfl
 ·cases hp
theorem ahS{t:TypeId}{el:Array (String×TypeId)}(ht:P.underlying t=some (.interface el)){op:BinOp}(ho:mR op=true){I':du}{L':Nat->Loc}{v:AV}{x:Value}{y:AV}(hr:R I' L' [] v x)(hp:xv (.u6 (jF op)) [v]=some y)(ox:Operand):
  ∃z,y= .v z/\z.oneCell'=true/\(do eqGuard op t ox (.const .nilIface) x .nilIface;binOp op t x .nilIface:Sem Value).run P w= .ok z w:=by
 have ho:=ad1 ho;unfold xv at hp
 split at hp<;>first|(rename_i h1 h2;cases h1;done)|(rename_i h1;cases h1;done)|skip
 ·rename_i neg h1 h2;cases h1;cases h2;have:=hr.exact;subst this;simp only[Option.some.injEq]at hp;subst hp;refine⟨_,rfl,rfl,mz (b:=true) ho ?_ ox (.const .nilIface) (λ op ho=> ?_) (λ op ho=> ?_) (λ op ho=> ?_)⟩
  ·rw[Op.equalIn];simp[run_underlying ht]
  ·rcases ho with rfl|rfl<;>simp[eqGuard]
  ·subst ho;rfl
  ·subst ho;rfl
 ·rename_i neg h1 h2;cases h1;cases h2;simp only[Option.some.injEq]at hp;subst hp;cases hr;refine⟨_,rfl,rfl,mz (b:=false) ho ?_ ox (.const .nilIface) (λ op ho=> ?_) (λ op ho=> ?_) (λ op ho=> ?_)⟩
  ·rw[Op.equalIn];simp[run_underlying ht]
  ·rcases ho with rfl|rfl<;>simp[eqGuard]
  ·subst ho;rfl
  ·subst ho;rfl
 ·cases hp
theorem aq6{I':du}{L':Nat->Loc}{u v:AV}{x x':Value}{y:AV}(hr:R I' L' [] u x)(ou:R I' L' [] v x')(hp:xv .min [u,v]=some y)(ts:Array TypeId)(ty:TypeId):
  ∃z,y= .v z/\z.oneCell'=true/\(Builtin.min_ ts ty #[x,x']).run P w= .ok z w:=by
 unfold xv at hp
 split at hp<;>first|(rename_i h1 h2;cases h1;done)|(rename_i h1;cases h1;done)|skip
 ·rename_i k a k' b h1 h2;cases h2;have e1:=hr.exact;have e2:=ou.exact;subst e1;subst e2
  split at hp
  ·rename_i hk;subst hk;simp only[Option.some.injEq]at hp;subst hp;exact⟨_,rfl,rfl,by simp[Builtin.min_,Builtin.min2]⟩
  ·cases hp
 ·cases hp
theorem aq8{I':du}{L':Nat->Loc}{u v:AV}{x x':Value}{y:AV}(hr:R I' L' [] u x)(ou:R I' L' [] v x')(hp:xv .max [u,v]=some y)(ts:Array TypeId)(ty:TypeId):
  ∃z,y= .v z/\z.oneCell'=true/\(Builtin.max_ ts ty #[x,x']).run P w= .ok z w:=by
 unfold xv at hp
 split at hp<;>first|(rename_i h1 h2;cases h1;done)|(rename_i h1;cases h1;done)|skip
 ·rename_i k a k' b h1 h2;cases h2;have e1:=hr.exact;have e2:=ou.exact;subst e1;subst e2
  split at hp
  ·rename_i hk;subst hk;simp only[Option.some.injEq]at hp;subst hp;exact⟨_,rfl,rfl,by simp[Builtin.max_,Builtin.max2]⟩
  ·cases hp
 ·cases hp
theorem ao9{I':du}{L':Nat->Loc}{v:AV}{x:Value}{y:AV}(hr:R I' L' [] v x)(hp:xv .ej [v]=some y):
  ∃z,y= .v z/\z.oneCell'=true/\x= .slice none 0 0/\z= .int .i64 0:=by
 unfold xv at hp
 split at hp<;>first|(rename_i h1 h2;cases h1;done)|(rename_i h1;cases h1;done)|skip
 ·rename_i h1 h2;cases h2;cases hr;simp only[Option.some.injEq]at hp;subst hp;exact⟨_,rfl,rfl,rfl,rfl⟩
 ·cases hp
theorem oS{o:PU}{xs:List AV}{M:AV->Prop}(h:puK o xs M):∃y,xv o xs=some y/\M y:=by
 unfold puK at h;split at h
 ·rename_i v hv;exact⟨v,hv,h⟩
 ·exact h.elim
theorem aqM{d:Option Tmp}{op:Op}{ty:TypeId}{pos:String}{af:Array Edge}{g:Option (Nat×Bool)}{ao:ez}(hc:alz P op=some ao)(hi:Inv I L O w)(he:∀t,R I L O (e t) (a.tmps.getD t undef))(hk:wpOp P ao e O K):
  fD P I L O w (execOp a.eval ⟨d,op,ty,pos,af,g⟩) K:=by
 unfold alz at hc
 split at hc
 ·rename_i op t x u
  split at hc
  ·rename_i hb;simp only[bind_eq_bind,bind_eq_some_iff,Option.some.injEq]at hc;obtain⟨ax,hx,rfl⟩:=hc;obtain⟨el,ht⟩:=afm hb.2;obtain⟨hn,hk⟩:=hk;simp only[map_cons,map_nil]at hn hk;obtain⟨y,hy,hk⟩:=oS hk;have rx:=lY hi (aq hx he) (by simpa [AV.ae]using hn) [ax.ev e] (by simp);obtain⟨z,rfl,hz,bo⟩:=ahQ (P:=P) (w:=w) ht hb.1 rx hy x (.const (.slice none 0 0));refine fD.same hi hk (.v z hz) ?_;simp only[execOp];have:a.eval (.const (.slice none 0 0))= .slice none 0 0:=rfl;rw[this,Sem.run_bind,bo];rfl
  ·cases hc
 ·rename_i op t x u
  split at hc
  ·rename_i hb;simp only[bind_eq_bind,bind_eq_some_iff,Option.some.injEq]at hc;obtain⟨ax,hx,rfl⟩:=hc;obtain⟨el,ht⟩:=ab1 hb.2;obtain⟨hn,hk⟩:=hk;simp only[map_cons,map_nil]at hn hk;obtain⟨y,hy,hk⟩:=oS hk;have rx:=lY hi (aq hx he) (by simpa [AV.ae]using hn) [ax.ev e] (by simp);obtain⟨z,rfl,hz,bo⟩:=ahR (P:=P) (w:=w) ht hb.1 rx hy x (.const (.pointer none));refine fD.same hi hk (.v z hz) ?_;simp only[execOp];have:a.eval (.const (.pointer none))= .pointer none:=rfl;rw[this,Sem.run_bind,bo];rfl
  ·cases hc
 ·rename_i op t x u
  split at hc
  ·rename_i hb;simp only[bind_eq_bind,bind_eq_some_iff,Option.some.injEq]at hc;obtain⟨ax,hx,rfl⟩:=hc;obtain⟨el,ht⟩:=akX hb.2;obtain⟨hn,hk⟩:=hk;simp only[map_cons,map_nil]at hn hk;obtain⟨y,hy,hk⟩:=oS hk;have rx:=lY hi (aq hx he) (by simpa [AV.ae]using hn) [ax.ev e] (by simp);obtain⟨z,rfl,hz,bo⟩:=ahS (P:=P) (w:=w) ht hb.1 rx hy x;refine fD.same hi hk (.v z hz) ?_;simp only[execOp];have:a.eval (.const .nilIface)= .nilIface:=rfl;rw[this,Sem.run_bind,bo];rfl
  ·cases hc
 ·rename_i s d' x;simp only[bind_eq_bind,bind_eq_some_iff]at hc;obtain⟨el,fu,hc⟩:=hc
  split at hc
  ·rename_i hb;simp only[bind_eq_some_iff,Option.some.injEq]at hc;obtain⟨ax,hx,rfl⟩:=hc;obtain⟨hn,hk⟩:=hk;simp only[map_cons,map_nil]at hn hk;obtain⟨y,hy,hk⟩:=oS hk;have rx:=lY hi (aq hx he) (by simpa [AV.ae]using hn) [ax.ev e] (by simp);obtain⟨z,rfl,hz,bo⟩:=asi (P:=P) (gE fu) (anQ hb.1) (ab0 hb.2) (anx hi [ax.ev e]) rx hy;refine fD.same hi hk (.v z hz) ?_;simp only[execOp];rw[Sem.run_bind,bo];rfl
  ·cases hc
 ·rename_i c
  split at hc
  ·rename_i t u x y j4 oI has;have xi:c.argTypes= #[t,u]:=by apply Array.ext';simpa using oI
   have haa:c.args= #[x,y]:=by apply Array.ext';simpa using has
   split at hc
   ·rename_i hu;simp only[bind_eq_bind,bind_eq_some_iff]at hc;obtain⟨el,fu,⟨s,b,z⟩,hz,hc⟩:=hc
    split at hc
    ·simp only[bind_eq_some_iff,Option.some.injEq]at hc;obtain⟨ax,hx,ay,hy,rfl⟩:=hc;simp only[wpOp]at hk
     split at hk
     ·rename_i sb hsb;have ry:=aq (I:=I) (L:=L) (O:=O) hy he;rw[hsb]at ry;have hv:=ry.exact;obtain⟨x',O',y',I',L',w',h1,h2,h3,h4⟩:=apv (ty:=ty) (gE fu) (ab0 hu) hz hi (aq hx he) hk.1 hk.2;refine⟨x',O',y',I',L',w',h1,h2,h3,.inl ?_⟩;simp only[execOp,resolve,j4,xi,haa];simp[invoke,builtin,hv,h4]
     ·exact hk.elim
    ·cases hc
   ·split at hc
    ·rename_i tV;obtain⟨ki,hu⟩:=akW tV;simp only[bind_eq_bind,bind_eq_some_iff,Option.some.injEq]at hc;obtain⟨el,fu,⟨s,b,z⟩,hz,ax,hx,ay,hy,rfl⟩:=hc;simp only[wpOp]at hk;have rx:=aq (I:=I) (L:=L) (O:=O) hx he;have ry:=aq (I:=I) (L:=L) (O:=O) hy he
     split at hk
     ·rename_i k hA hB;rw[hA]at rx;rw[hB]at ry;have e2:=ry.exact;obtain⟨k0,k1,k2,hk⟩:=hk;obtain⟨n,rfl⟩:∃n:Nat,k=n:=⟨k.toNat,by omega⟩;obtain⟨i,z0,h1,h2,h3,rfl,rfl,h4,h5,h6,h7⟩:=e8 hz
      have k1':n*i.bytes<=281474976710656:=by
       have:((i.bytes*n:Nat):Int)<=281474976710656:=by rw[Int.natCast_mul];omega
       rw[Nat.mul_comm];omega
      obtain⟨y',I',L',w',g1,g2,g3⟩:=apu (P:=P) (w:=w) (t:=t) (u:=u) (ty:=ty) (gE fu) hu h1 h2 h3 h5 h6 h7 h4 hi (by omega) k1' (by omega);simp only[Int.toNat_natCast]at hk;refine⟨_,_,y',I',L',w',hk,g1,g2,.inl ?_⟩;have e1:a.eval x= .slice none 0 0:=by generalize a.eval x=X at rx;cases rx;rfl
      simp only[execOp,resolve,j4,xi,haa];simp[invoke,builtin,e1,e2,g3]
     ·exact hk.elim
    ·cases hc
  ·rename_i t x j4 oI has;have xi:c.argTypes= #[t]:=by apply Array.ext';simpa using oI
   have haa:c.args= #[x]:=by apply Array.ext';simpa using has
   split at hc
   ·rename_i hsl;obtain⟨el,ht⟩:=afm hsl;simp only[bind_eq_bind,bind_eq_some_iff,Option.some.injEq]at hc;obtain⟨ax,hx,rfl⟩:=hc;obtain⟨hn,hk⟩:=hk;simp only[map_cons,map_nil]at hn hk;simp only[AV.ae,Bool.and_true]at hn;obtain⟨v,hv,hk⟩:=oS hk;have rx:=lY hi (aq hx he) hn [ax.ev e] (by simp);obtain⟨z,rfl,hz,hX,rfl⟩:=ao9 rx hv;refine fD.same hi hk (.v _ hz) ?_;simp only[execOp,resolve,j4,xi,haa];simp[invoke,builtin,hX,Builtin.cap_,run_underlying ht]
    rfl
   ·cases hc
  ·rename_i t u x y j4 oI has;have xi:c.argTypes= #[t,u]:=by apply Array.ext';simpa using oI
   have haa:c.args= #[x,y]:=by apply Array.ext';simpa using has
   simp only[bind_eq_bind,bind_eq_some_iff,Option.some.injEq]at hc;obtain⟨ax,hx,ay,hy,rfl⟩:=hc;obtain⟨hn,hk⟩:=hk;simp only[map_cons,map_nil]at hn hk;simp only[AV.ae,Bool.and_true,and_eq_true]at hn;obtain⟨v,hv,hk⟩:=oS hk;have rx:=lY hi (aq hx he) hn.1 [ax.ev e,ay.ev e] (by simp);have ry:=lY hi (aq hy he) hn.2 [ax.ev e,ay.ev e] (by simp);obtain⟨z,rfl,hz,bo⟩:=aq6 (P:=P) (w:=w) rx ry hv #[t,u] ty;refine fD.same hi hk (.v z hz) ?_;simp only[execOp,resolve,j4,xi,haa];simp[invoke,builtin,bo]
  ·rename_i t u x y j4 oI has;have xi:c.argTypes= #[t,u]:=by apply Array.ext';simpa using oI
   have haa:c.args= #[x,y]:=by apply Array.ext';simpa using has
   simp only[bind_eq_bind,bind_eq_some_iff,Option.some.injEq]at hc;obtain⟨ax,hx,ay,hy,rfl⟩:=hc;obtain⟨hn,hk⟩:=hk;simp only[map_cons,map_nil]at hn hk;simp only[AV.ae,Bool.and_true,and_eq_true]at hn;obtain⟨v,hv,hk⟩:=oS hk;have rx:=lY hi (aq hx he) hn.1 [ax.ev e,ay.ev e] (by simp);have ry:=lY hi (aq hy he) hn.2 [ax.ev e,ay.ev e] (by simp);obtain⟨z,rfl,hz,bo⟩:=aq8 (P:=P) (w:=w) rx ry hv #[t,u] ty;refine fD.same hi hk (.v z hz) ?_;simp only[execOp,resolve,j4,xi,haa];simp[invoke,builtin,bo]
  ·cases hc
 ·cases hc
theorem akv{o:Oper}{b ao:ez}(xi:ao.aa8=false)(hc:xm P o.type o.op=some b)(qw:b=ao.strip)(hi:Inv I L O w)(he:∀t,R I L O (e t) (a.tmps.getD t undef))(hk:wpOp P ao e O K){next:Act->World->Prop}{Q:Exit->Act->World->Prop}
  (hn:∀x O' y I' L' w',K x O'->Good I L O w I' L' O' w'->R I' L' O' x y->next (a.put o.dst y) w'):o.wp P a w next Q:=by
 obtain⟨dst,op,ty,pos,af,g⟩:=o;subst qw;unfold xm at hc;simp only at hc
 split at hc
 ·exact ad5 hc hi he hk hn
 ·simp only[bind_eq_some_iff]at hc;obtain⟨b,hb,hc⟩:=hc
  split at hc
  ·cases hc
  ·rename_i gA;simp only[Option.some.injEq]at hc;by_cases hbs:∃t s l z ps,b= .buildSlice t s l z ps
   ·obtain⟨t,s,l,z,ps,rfl⟩:=hbs;obtain⟨t',len,parts,rfl⟩:=xl hb;cases ao<;>simp only[ez.strip]at hc<;>first|(cases hc;done)|(simp[ez.aa8]at xi;done)|skip
    case buildSlice=>cases hc;exact(ai9 hb hi he hk).wp hn
    case iR=>cases hc;exact(ahf hi he hb hk).wp hn
   ·have:=p7 xi hc (by simpa using gA) (λ t s l z ps h=>hbs ⟨t,s,l,z,ps,h⟩);subst this;exact(ai9 hb hi he hk).wp hn
theorem pk{op:Op}{b:ez}(h:alz P op=some b):(∃o as,b= .pu o as)∨(∃t s by_ x y,b= .kN t s by_ x y)∨∃t s by_ z x y,b= .ad9 t s by_ z x y:=by
 unfold alz at h
 split at h
 ·split at h
  ·simp only[bind_eq_bind,bind_eq_some_iff,Option.some.injEq]at h;obtain⟨_,_,rfl⟩:=h;exact .inl ⟨_,_,rfl⟩
  ·cases h
 ·split at h
  ·simp only[bind_eq_bind,bind_eq_some_iff,Option.some.injEq]at h;obtain⟨_,_,rfl⟩:=h;exact .inl ⟨_,_,rfl⟩
  ·cases h
 ·split at h
  ·simp only[bind_eq_bind,bind_eq_some_iff,Option.some.injEq]at h;obtain⟨_,_,rfl⟩:=h;exact .inl ⟨_,_,rfl⟩
  ·cases h
 ·simp only[bind_eq_bind,bind_eq_some_iff]at h;obtain⟨_,_,h⟩:=h
  split at h
  ·simp only[bind_eq_some_iff,Option.some.injEq]at h;obtain⟨_,_,rfl⟩:=h;exact .inl ⟨_,_,rfl⟩
  ·cases h
 ·split at h
  ·split at h
   ·simp only[bind_eq_bind,bind_eq_some_iff]at h;obtain⟨_,_,_,_,h⟩:=h
    split at h
    ·simp only[bind_eq_some_iff,Option.some.injEq]at h;obtain⟨_,_,_,_,rfl⟩:=h;exact .inr (.inl ⟨_,_,_,_,_,rfl⟩)
    ·cases h
   ·split at h
    ·simp only[bind_eq_bind,bind_eq_some_iff,Option.some.injEq]at h;obtain⟨_,_,_,_,_,_,_,_,rfl⟩:=h;exact .inr (.inr ⟨_,_,_,_,_,_,rfl⟩)
    ·cases h
  ·split at h
   ·simp only[bind_eq_bind,bind_eq_some_iff,Option.some.injEq]at h;obtain⟨_,_,rfl⟩:=h;exact .inl ⟨_,_,rfl⟩
   ·cases h
  ·simp only[bind_eq_bind,bind_eq_some_iff,Option.some.injEq]at h;obtain⟨_,_,_,_,rfl⟩:=h;exact .inl ⟨_,_,rfl⟩
  ·simp only[bind_eq_bind,bind_eq_some_iff,Option.some.injEq]at h;obtain⟨_,_,_,_,rfl⟩:=h;exact .inl ⟨_,_,rfl⟩
  ·cases h
 ·cases h
theorem oj{o:Oper}{ao:ez}(xi:ao.aa8=false)(hc:cOp P o.type o.op=some ao.strip)(hi:Inv I L O w)(he:∀t,R I L O (e t) (a.tmps.getD t undef))(hk:wpOp P ao e O K){next:Act->World->Prop}{Q:Exit->Act->World->Prop}
  (hn:∀x O' y I' L' w',K x O'->Good I L O w I' L' O' w'->R I' L' O' x y->next (a.put o.dst y) w'):o.wp P a w next Q:=by
 unfold cOp alA at hc;simp only[Option.some.injEq]at hc
 split at hc
 ·rename_i b hb;have hx:=pk hb
  have qw:ao=b:=by
   refine p7 xi hc ?_ ?_
   ·rcases hx with⟨_,_,rfl⟩|⟨_,_,_,_,_,rfl⟩|⟨_,_,_,_,_,_,rfl⟩<;>rfl
   ·rcases hx with⟨_,_,rfl⟩|⟨_,_,_,_,_,rfl⟩|⟨_,_,_,_,_,_,rfl⟩<;>simp
  subst qw;obtain⟨dst,op,ty,pos,af,g⟩:=o;exact(aqM hb hi he hk).wp hn
 ·cases h0:xm P o.type o.op with
  |some b=>rw[h0]at hc;exact akv xi h0 hc hi he hk hn
  |none=>
   rw[h0]at hc;simp only[getD_none]at hc;cases ao<;>simp only[ez.strip]at hc<;>first|(cases hc;done)|(simp[ez.aa8]at xi;done)|exact hk.elim
theorem aI.abC(he:∀t,R I L O (e t) (a.tmps.getD t undef)){x:aI}(h:x.okc=true):(x.ev e).inScope O.length=true:=by
 cases x with
 |t n=>exact(he n).inScope
 |c y=>exact cr y h
theorem vK(he:∀t,R I L O (e t) (a.tmps.getD t undef)){s:Nat}:∀(ps:List (Nat×aI)) (zs:List AV) {M:List AV->Prop},ps.all (λ p=>p.2.okc)=true->(∀x∈zs,∀c∈x.cells,c.inScope O.length=true)->nM e s zs ps M->
  nM e s zs ps λ xs=>(∀x∈xs,∀c∈x.cells,c.inScope O.length=true)/\M xs
 | [],zs,M,_,hz,h=>⟨hz,h⟩
 |(i,x)::ps,zs,M,hp,hz,h=>by
  simp only[List.all_cons,and_eq_true]at hp;obtain⟨h1,h2,h3,h4⟩:=h;refine⟨h1,h2,h3,vK he ps _ hp.2 (λ y hy c hc=> ?_) h4⟩;rcases List.mem_or_eq_of_mem_set hy with hy|rfl
  ·exact hz y hy c hc
  ·exact cd (aI.abC he hp.1) c hc
theorem Good.cut(hi:Inv I L O w){n t s:Nat}{xs:List AV}(hO:O[n]? =some (.live t s xs)):
  Good I L O w I (λ k=>if k=O.length then L n else L k) (O.set n .dead++ [.live t s []]) w/\R I (λ k=>if k=O.length then L n else L k) (O.set n .dead++ [.live t s []]) (.row O.length 0) (.slice (some ⟨(L n).bf,0,none⟩) 0 (L n).cap):=by
 have aF:=(List.getElem?_eq_some_iff.1 hO).1
 have ck:∀{m e k ys},(O.set n .dead++ [ad.live t s []])[m]? =some (.live e k ys)->(m=O.length/\e=t/\k=s/\ys= [])∨(m<O.length/\m≠n/\O[m]? =some (.live e k ys)):=by
  intro m e k ys hm;by_cases mc:m<O.length
  ·rw[getElem?_append_left (by simpa using mc)]at hm;by_cases o6:m=n
   ·subst o6;rw[getElem?_set_self aF]at hm;cases hm
   ·rw[getElem?_set_ne (λ h=>o6 h.symm)]at hm;exact .inr ⟨mc,o6,hm⟩
  ·rw[getElem?_append_right (by simp;omega),List.length_set]at hm
   have:m- O.length=0:=by
    rcases Nat.eq_zero_or_pos (m- O.length)with h|h
    ·exact h
    ·rw[List.getElem?_eq_none (by simp;omega)]at hm;cases hm
   rw[this]at hm;simp at hm;obtain⟨rfl,rfl,rfl⟩:=hm;exact .inl ⟨by omega,rfl,rfl,rfl⟩
 have zO:∀{m:Nat} {a:AV},(O.set n .dead++ [ad.live t s []])[m]? =some (.own a)->O[m]? =some (.own a)/\(if m=O.length then L n else L m)=L m:=by
  intro m a hm;by_cases mc:m<O.length
  ·rw[getElem?_append_left (by simpa using mc)]at hm;by_cases o6:m=n
   ·subst o6;rw[getElem?_set_self mc]at hm;cases hm
   ·rw[getElem?_set_ne (λ h=>o6 h.symm)]at hm;exact⟨hm,if_neg (by omega)⟩
  ·rw[getElem?_append_right (by simp;omega)]at hm;cases hq:m- (O.set n .dead).length with
   |zero=>rw[hq]at hm;cases hm
   |succ q=>rw[hq]at hm;simp at hm
 have rW:∀{m:Nat} {a:gJ},(O.set n .dead++ [ad.live t s []])[m]? =some (.cZ a)->O[m]? =some (.cZ a)/\(if m=O.length then L n else L m)=L m:=by
  intro m a hm;by_cases mc:m<O.length
  ·rw[getElem?_append_left (by simpa using mc)]at hm;by_cases o6:m=n
   ·subst o6;rw[getElem?_set_self mc]at hm;cases hm
   ·rw[getElem?_set_ne (λ h=>o6 h.symm)]at hm;exact⟨hm,if_neg (by omega)⟩
  ·rw[getElem?_append_right (by simp;omega)]at hm;cases hq:m- (O.set n .dead).length with
   |zero=>rw[hq]at hm;cases hm
   |succ q=>rw[hq]at hm;simp at hm
 have dM:(O.set n .dead++ [ad.live t s []])[O.length]? =some (.live t s []):=by
  rw[getElem?_append_right (by simp)];simp
 have hL:∀{m},m<O.length->(if m=O.length then L n else L m)=L m:=λ {m} hm=>if_neg (by omega)
 have dt:Ext I L O I (λ k=>if k=O.length then L n else L k) (O.set n .dead++ [.live t s []]):=by
  refine⟨λ _ _ _ h=>h,by simp,λ m hm e k ys hx=> ?_,λ m hm e k hx=> ?_,λ m hm a hx=>by obtain⟨q1,q2⟩:=zO hx;exact⟨⟨a,q1⟩,by rw[q2]⟩,λ m hm a hx=>by obtain⟨q1,q2⟩:=rW hx;exact⟨⟨a,q1,rfl⟩,by rw[q2]⟩⟩
  ·rcases ck hx with⟨h1,_⟩|⟨_,_,h3⟩
   ·omega
   ·exact .inl ⟨ys,h3,le_refl _,λ _=>hL hm⟩
  ·rw[getElem?_append_left (by simpa using hm)]at hx;by_cases o6:m=n
   ·subst o6;rw[getElem?_set_self aF]at hx;cases hx
   ·rwa [getElem?_set_ne (λ h=>o6 h.symm)]at hx
 refine⟨⟨⟨hi.kJ,λ m e k ys hm=> ?_,λ m m' e k ys e' k' vG hm xB hb=> ?_,λ m e k ys o hm=> ?_,hi.fix,hi.bf,hi.ow.same (λ m a hm=>zO hm) (λ b o v hv=> .inl ⟨o,v,hv⟩) (λ m e k ys hm=> ?_) rfl,hi.gh.step (λ m a hm=>⟨(rW hm).1,by rw[(rW hm).2]⟩) (λ _ _ hr=>hr.mono dt) λ _ _=>rfl⟩,dt,Frm.refl _ _,?_,λ _ _ _ h=> .inl h⟩,?_⟩
 ·rcases ck hm with⟨rfl,rfl,rfl,rfl⟩|⟨h1,h2,h3⟩
  ·obtain⟨c,⟨lD,q1,dE⟩,q2,q3,q4,q5,q6⟩:=hi.obj n _ _ _ hO;simp only[if_true];exact⟨c,⟨_,q1,dE⟩,q2,zero_le _,q4,q5,by simp⟩
  ·simp only[hL h1];exact(hi.obj m _ _ _ h3).congr rfl λ _ _ h=>h.mono dt
 ·rcases ck hm with⟨rfl,rfl,rfl,rfl⟩|⟨h1,h2,h3⟩<;>rcases ck xB with⟨h4,_,_,_⟩|⟨h4,h5,h6⟩
  ·exact h4.symm
  ·simp only[if_true,hL h4]at hb;exact(h5 (hi.sep _ _ _ _ _ _ _ _ h6 hO hb.symm)).elim
  ·subst h4;simp only[if_true,hL h1]at hb;exact(h2 (hi.sep _ _ _ _ _ _ _ _ h3 hO hb)).elim
  ·simp only[hL h1,hL h4]at hb;exact hi.sep _ _ _ _ _ _ _ _ h3 h6 hb
 ·rcases ck hm with⟨rfl,rfl,rfl,rfl⟩|⟨h1,h2,h3⟩
  ·simp only[if_true];exact hi.dS n _ _ _ o hO
  ·simp only[hL h1];exact hi.dS m _ _ _ o h3
 ·rcases ck hm with⟨rfl,rfl,rfl,rfl⟩|⟨h1,h2,h3⟩
  ·simp only[if_true];exact .inl ⟨n,_,_,_,hO,rfl⟩
  ·simp only[hL h1];exact .inl ⟨m,_,_,_,h3,rfl⟩
 ·rintro b (⟨m,e,k,ys,hm,hb⟩|⟨m,a,o,v,hm,hb⟩|⟨m,a,hm,hb⟩)
  rotate_right
  ·obtain⟨q1,q2⟩:=rW hm;simp only[q2]at hb;exact .inl (.inr (.inr ⟨m,a,q1,hb⟩))
  ·rcases ck hm with⟨rfl,rfl,rfl,rfl⟩|⟨h1,h2,h3⟩
   ·simp only[if_true]at hb;exact .inl (.inl ⟨n,_,_,_,hO,hb⟩)
   ·simp only[hL h1]at hb;exact .inl (.inl ⟨m,_,_,_,h3,hb⟩)
  ·obtain⟨q1,q2⟩:=zO hm;simp only[q2]at hb;exact .inl (.inr (.inl ⟨m,a,o,v,q1,hb⟩))
 ·have:=R.cf (I:=I) (L:=λ k=>if k=O.length then L n else L k) (O:=O.set n .dead++ [.live t s []]) O.length 0 t s [] dM rfl;simpa using this
theorem agb{ty:TypeId}{op:Op}{s:Nat}{x:aI}{lo hi:Option aI}(h:bY P ty op=some (.cX s x lo hi)):
  ∃t el ox olo ohi,op= .slice t ox olo ohi none/\P.underlying t=some (.slice el)/\bH ox=some x/\olo.mapM bH=some lo/\ohi.mapM bH=some hi/\(∃inf,P.info? el=some inf/\inf.size=s):=by
 cases op<;>simp only[bY]at h
 case slice t ox olo ohi mx=>
  split at h
  ·cases h
  ·rename_i j0;obtain rfl:mx=none:=by cases mx<;>simp at j0⊢
   split at h
   ·simp only[bind_eq_bind,bind_eq_some_iff,Option.some.injEq]at h;obtain⟨_,_,_,_,_,_,h⟩:=h;cases h
   ·rename_i el ht;simp only[bind_eq_bind,bind_eq_some_iff,Option.some.injEq]at h;obtain⟨inf,tU,ax,hx,al,hl,ah,hh,h⟩:=h;cases h;exact⟨t,el,ox,olo,ohi,rfl,ht,hx,hl,hh,inf,tU,rfl⟩
   ·cases h
 all_goals (repeat' split at h)
 all_goals first
  |(simp[bind_eq_some_iff]at h;done)
  |(exfalso;simp_all;done)
theorem aiy{ty:TypeId}{op:Op}{s:Nat}{x:aI}{lo hi:Option aI}(h:cOp P ty op=some (.cX s x lo hi)):bY P ty op=some (.cX s x lo hi):=by
 unfold cOp alA at h;simp only[Option.some.injEq]at h
 split at h
 ·rename_i b hb;rcases pk hb with⟨_,_,rfl⟩|⟨_,_,_,_,_,rfl⟩|⟨_,_,_,_,_,_,rfl⟩<;>cases h
 ·cases h0:xm P ty op with
  |none=>rw[h0]at h;cases h
  |some b=>
   rw[h0]at h;simp only[getD_some]at h;subst h;unfold xm at h0
   split at h0
   ·rename_i c;exfalso;unfold wu at h0
    split at h0
    ·split at h0
     ·cases h0
     ·cases h0
     ·cases h0
    ·split at h0
     ·split at h0
      ·simp only[map_eq_some_iff]at h0;obtain⟨_,_,h⟩:=h0;cases h
      ·simp only[map_eq_some_iff]at h0;obtain⟨_,_,h⟩:=h0;cases h
      ·cases h0
     ·cases h0
    ·split at h0
     ·split at h0
      ·simp only[bind_eq_bind,bind_eq_some_iff,Option.some.injEq]at h0;obtain⟨_,_,_,_,_,_,_,_,h⟩:=h0;cases h
      ·cases h0
     ·cases h0
    ·cases h0
   ·rw[bind_eq_some_iff]at h0;obtain⟨b',hb,lP⟩:=h0
    split at lP
    ·cases lP
    ·cases lP;exact hb
theorem awf{ty:TypeId}{op:Op}{el s b:Nat}{z:AV}{x y:aI}(h:cOp P ty op=some (.mk el s b z x y)):bY P ty op=some (.mk el s b z x y):=by
 unfold cOp alA at h;simp only[Option.some.injEq]at h
 split at h
 ·rename_i b hb;rcases pk hb with⟨_,_,rfl⟩|⟨_,_,_,_,_,rfl⟩|⟨_,_,_,_,_,_,rfl⟩<;>cases h
 ·cases h0:xm P ty op with
  |none=>rw[h0]at h;cases h
  |some bb=>
   rw[h0]at h;simp only[getD_some]at h;subst h;unfold xm at h0
   split at h0
   ·rename_i c;exfalso;unfold wu at h0
    split at h0
    ·split at h0
     ·cases h0
     ·cases h0
     ·cases h0
    ·split at h0
     ·split at h0
      ·simp only[map_eq_some_iff]at h0;obtain⟨_,_,h⟩:=h0;cases h
      ·simp only[map_eq_some_iff]at h0;obtain⟨_,_,h⟩:=h0;cases h
      ·cases h0
     ·cases h0
    ·split at h0
     ·split at h0
      ·simp only[bind_eq_bind,bind_eq_some_iff,Option.some.injEq]at h0;obtain⟨_,_,_,_,_,_,_,_,h⟩:=h0;cases h
      ·cases h0
     ·cases h0
    ·cases h0
   ·rw[bind_eq_some_iff]at h0;obtain⟨b',hb,lP⟩:=h0
    split at lP
    ·cases lP
    ·cases lP;exact hb
theorem sG{z:AV}(h:z.ag=true):∀n:Nat,AV.ae (List.replicate n z)=true
 |0=>rfl
 |n+1=>by simp only[List.replicate_succ,AV.ae,h,sG h n,Bool.and_self]
theorem ase{ty:TypeId}{op:Op}{el s b:Nat}{z:AV}{x y:aI}(h:bY P ty op=some (.mk el s b z x y)):∃t ox oy,op= .makeSlice t ox oy:=by
 cases op<;>simp only[bY]at h
 case makeSlice t ox oy=>exact⟨t,ox,oy,rfl⟩
 all_goals (repeat' split at h)
 all_goals first
  |(cases h;done)
  |(simp[bind_eq_some_iff]at h;done)
  |(exfalso;simp_all;done)
theorem aqv(hi:Inv I L O w)(he:∀t,R I L O (e t) (a.tmps.getD t undef)){ty:TypeId}{op:Op}{d:Option Tmp}{pos:String}{af:Array Edge}{g:Option (Nat×Bool)}{el s b:Nat}{z:AV}{x y:aI}(hc:bY P ty op=some (.mk el s b z x y))(hk:wpOp P (.mkF el s b z x y) e O K):
  fD P I L O w (execOp a.eval ⟨d,op,ty,pos,af,g⟩) K:=by
 obtain⟨t,ox,oy,rfl⟩:=ase hc;simp only[bY,bind_eq_bind,bind_eq_some_iff,Option.some.injEq,ez.mk.injEq]at hc;obtain⟨el',fu,⟨s',b',z'⟩,hz,ax,hx,ay,hy,hq⟩:=hc;obtain⟨rfl,rfl,rfl,rfl,rfl,rfl⟩:=hq;have ht:=gE fu;obtain⟨i,z0,h1,h2,h3,rfl,rfl,h4,h5,h6,h7⟩:=e8 hz;have rx:=aq hx he;have ry:=aq hy he;simp only[wpOp]at hk;generalize ax.ev e=A at rx hk;generalize ay.ev e=B at ry hk;generalize hX:a.eval ox=X at rx;generalize hY:a.eval oy=Y at ry
 split at hk
 ·rename_i n c;obtain⟨q1,q2,q3,q4,q5,hk⟩:=hk;have e1:=rx.exact;have e2:=ry.exact;subst e1;subst e2;have hm:c<=9223372036854775807:=by simpa [maxLen]using q4
  have bo:=run_make (P:=P) w t el' i z0 ht h1 h2 .i64 .i64 n c q1 q2 (by omega) hm;have zK:=ft.made (I:=I) (L:=L) (O:=O) (cap:=c.toNat) (n:=n.toNat) (eO h3) h7 h4 h5 (by omega);have cA:AV.ae (List.replicate n.toNat z')=true:=sG q5 _;obtain⟨I',hg,hr⟩:=hi.axX (el:=el') (s:=i.size) (xs:=List.replicate n.toNat z') (madeCells z0.cells (c.toNat*i.size)) c.toNat (by simp;omega) (λ k x hx j c hj I' L' O' v hI hv=>hv.ag hI (fj (ba cA x (mem_of_getElem? hx)) c (mem_of_getElem? hj))) zK;rw[List.length_replicate]at hr;refine⟨_,_,_,_,_,_,hk,hg,hr,.inl ?_⟩;simp only[execOp,hX,hY];rw[Sem.run_bind,bo];simp
 ·exact hk.elim
theorem aiz{ty:TypeId}{op:Op}{neg:Bool}{x:aI}(h:cOp P ty op=some (.pu (.o0 neg) [x])):
  ∃o t y u,op= .binOp o t y (.const (.pointer none)) u/\mR o=true/\ajm P t=true/\bH y=some x/\neg=jF o:=by
 unfold cOp alA at h;simp only[Option.some.injEq]at h
 split at h
 ·rename_i b hb;subst h;unfold alz at hb
  split at hb
  case h_2 o t y u=>
   split at hb
   ·rename_i hq;simp only[bind_eq_bind,bind_eq_some_iff,Option.some.injEq]at hb;obtain⟨ax,hx,hb⟩:=hb;cases hb;exact⟨o,t,y,u,rfl,hq.1,hq.2,hx,rfl⟩
   ·cases hb
  all_goals (repeat' split at hb)
  all_goals first
   |(cases hb;done)
   |(simp[bind_eq_some_iff]at hb;done)
   |(exfalso;simp only[bind_eq_bind,bind_eq_some_iff,Option.some.injEq]at hb;obtain⟨_,_,hb⟩:=hb;cases hb;done)
   |(exfalso;simp only[bind_eq_bind,bind_eq_some_iff,Option.some.injEq]at hb;obtain⟨_,_,hb⟩:=hb;split at hb<;>simp[bind_eq_some_iff]at hb;done)
 ·exfalso;cases h0:xm P ty op with
  |none=>rw[h0]at h;cases h
  |some b=>
   rw[h0]at h;simp only[getD_some]at h;subst h;unfold xm at h0
   split at h0
   ·rename_i c;unfold wu at h0
    split at h0
    ·split at h0
     ·cases h0
     ·cases h0
     ·cases h0
    ·split at h0
     ·split at h0
      ·simp only[map_eq_some_iff]at h0;obtain⟨_,_,h⟩:=h0;cases h
      ·simp only[map_eq_some_iff]at h0;obtain⟨_,_,h⟩:=h0;cases h
      ·cases h0
     ·cases h0
    ·split at h0
     ·split at h0
      ·simp only[bind_eq_bind,bind_eq_some_iff,Option.some.injEq]at h0;obtain⟨_,_,_,_,_,_,_,_,h⟩:=h0;cases h
      ·cases h0
     ·cases h0
    ·cases h0
   ·rw[bind_eq_some_iff]at h0;obtain⟨b',hb,lP⟩:=h0
    split at lP
    ·cases lP
    ·cases lP;cases op<;>simp only[bY]at hb
     all_goals (repeat' split at hb)
     all_goals first
      |(cases hb;done)
      |(simp[bind_eq_some_iff]at hb;done)
      |(exfalso;simp_all;done)
theorem amE(hi:Inv I L O w)(he:∀t,R I L O (e t) (a.tmps.getD t undef)){ty:TypeId}{op:Op}{d:Option Tmp}{pos:String}{af:Array Edge}{g:Option (Nat×Bool)}{neg:Bool}{x:aI}(hc:cOp P ty op=some (.pu (.o0 neg) [x]))(hk:wpOp P (.wJ neg x) e O K):
  fD P I L O w (execOp a.eval ⟨d,op,ty,pos,af,g⟩) K:=by
 obtain⟨o,t,y,u,rfl,ho,ht,hy,rfl⟩:=aiz hc;obtain⟨el,ht⟩:=ab1 ht;have rx:=aq (I:=I) (L:=L) (O:=O) hy he
 have key:∀(b:Bool) (v:Option Addr),a.eval y= .pointer v->v.isNone=b->fD P I L O w (execOp a.eval ⟨d,.binOp o t y (.const (.pointer none)) u,ty,pos,af,g⟩) K∨¬K (.v (.bool (jF o !=b))) O:=by
  intro b v hv hb;by_cases hK:K (.v (.bool (jF o !=b))) O
  ·left;refine fD.same hi hK (.v _ rfl) ?_;have he0:a.eval (.const (.pointer none))= .pointer none:=rfl
   have heq:(Op.equal t (.pointer v) (.pointer none)).run P w= .ok b w:=by
    have e1:Op.equal t (.pointer v) (.pointer none)=Op.equalIn (9999+1) t (.pointer v) (.pointer none):=rfl;rw[e1,Op.equalIn];cases v<;>simp at hb<;>subst hb<;>simp[run_underlying ht]
   rcases ad1 ho with rfl|rfl
   ·simp[execOp,he0,hv,eqGuard,Go.binOp,heq,jF]
   ·simp[execOp,he0,hv,eqGuard,Go.binOp,heq,jF]
  ·exact .inr hK
 simp only[wpOp]at hk
 split at hk
 ·rename_i hx;rw[hx]at rx;have hv:=rx.exact;rcases key true none hv rfl with h|h
  ·exact h
  ·exact(h hk).elim
 ·rename_i n len i f hx;rw[hx]at rx
  split at hk
  ·rename_i t' s xs hO;have hv:=rx.ib hO hk.1;rcases key false _ hv rfl with h|h
   ·exact h
   ·exact(h hk.2).elim
  ·exact hk.elim
 ·exact hk.elim
theorem aqy(hi:Inv I L O w)(he:∀t,R I L O (e t) (a.tmps.getD t undef)){ty:TypeId}{op:Op}{d:Option Tmp}{pos:String}{af:Array Edge}{g:Option (Nat×Bool)}{s:Nat}{x:aI}{lo eH:Option aI}(hc:bY P ty op=some (.cX s x lo eH))(hk:wpOp P (.cut s x lo eH) e O K):
  fD P I L O w (execOp a.eval ⟨d,op,ty,pos,af,g⟩) K:=by
 obtain⟨t,el,ox,olo,ohi,rfl,ht,hx,hl,hh,inf,tU,rfl⟩:=agb hc;have rx:=aq hx he;simp only[wpOp]at hk;generalize x.ev e=A at rx hk;generalize hX:a.eval ox=X at rx;cases A
 case aw=>
  obtain⟨l,hk,hlo⟩:=jJ hl he hk;obtain⟨h,hk,hhi⟩:=jJ hh he hk;obtain⟨rfl,rfl,hk⟩:=hk;cases rx;have hb:=gK (P:=P) (sl:=true) (len:=0) (cap:=0) (zero_le _) hlo (by simpa using hhi) (Int.le_refl _) (Int.le_refl _) (by simp) w;refine fD.same hi hk (y:= .slice none 0 0) .aw ?_;simp only[execOp,hX];simp at hb;simp[Instr.sliceAt,Instr.slice,run_underlying ht,hb,sizeOf,typeInfo,tU]
 case row n len=>
  simp only at hk
  split at hk
  ·rename_i t' s' xs hO;obtain⟨hlen,rfl,hk⟩:=hk;obtain⟨l,hk,hlo⟩:=jJ hl he hk;obtain⟨h,hk,hhi⟩:=jJ hh he hk;obtain⟨rfl,rfl,hk⟩:=hk;have hv:=rx.eu hO hlen;subst hv;obtain⟨c,⟨lD,q1,dE⟩,q2,q3,q4,q5,q6⟩:=hi.obj n _ _ _ hO;have hb:=gK (P:=P) (sl:=true) (len:=len) (cap:=(L n).cap) (by omega) hlo hhi (Int.le_refl _) (Int.le_refl _) (by omega) w;obtain⟨hg,hr⟩:=Good.cut hi hO;refine⟨_,_,_,_,_,_,hk,hg,hr,.inl ?_⟩;simp only[execOp,hX];simp at hb;simp[Instr.sliceAt,Instr.slice,run_underlying ht,hb,sizeOf,typeInfo,tU,add_lit]
  ·exact hk.elim
 all_goals exact hk.elim
theorem yR{o:Oper}{ao:ez}(hc:cOp P o.type o.op=some ao.strip)(hi:Inv I L O w)(he:∀t,R I L O (e t) (a.tmps.getD t undef))(hk:wpOp P ao e O K){next:Act->World->Prop}{Q:Exit->Act->World->Prop}
  (hn:∀x O' y I' L' w',K x O'->Good I L O w I' L' O' w'->R I' L' O' x y->next (a.put o.dst y) w'):o.wp P a w next Q:=by
 cases xi:ao.aa8 with
 |false=>exact oj xi hc hi he hk hn
 |true=>
  cases ao<;>first|(simp[ez.aa8]at xi;done)|skip
  case cut s x lo eH=>
   obtain⟨dst,op,ty,pos,af,g⟩:=o;exact(aqy hi he (aiy hc) hk).wp hn
  case mkF el s b z x y=>
   obtain⟨dst,op,ty,pos,af,g⟩:=o;exact(aqv hi he (awf hc) hk).wp hn
  case y4 k t s b z x y=>
   simp only[wpOp]at hk
   split at hk
   ·rename_i n c hx hy;obtain⟨q1,q2,q3,q4,q5,hO,hK⟩:=hk;have cA:AV.ae (List.replicate n.toNat z)=true:=sG q5 _;refine oj (ao:= .mk t s b z x y) rfl hc hi he (K:=λ v O'=>v= .row O.length n.toNat/\O'=O++ [.live t s (List.replicate n.toNat z)]) (by simp only[wpOp,hx,hy];exact⟨by omega,q2,q3,q4,by simp⟩) ?_;rintro x' O' y' I' L' w' ⟨rfl,rfl⟩ hg hr;have hv:=hr.eu (show _=_ from by rw[getElem?_append_right (le_refl _),sub_self];rfl) (by simp);refine hn _ _ y' _ _ w' hK (hg.move hi hO (by simp;omega) (λ z' hz' c hcc=> ?_)) ?_
    ·rw[(List.mem_replicate.1 hz').2]at hcc;exact cd (cr _ q5) c hcc
    ·rw[hv];have:=R.cf (I:=I') (L:=lM L' k O.length) (O:=O.set k (.live t s (List.replicate n.toNat z))) k n.toNat t s (List.replicate n.toNat z) (getElem?_set_self (List.getElem?_eq_some_iff.1 hO).1) (by simp);simpa [lM]using this
   ·exact hk.elim
  case wJ neg x=>
   obtain⟨dst,op,ty,pos,af,g⟩:=o;exact(amE hi he hc hk).wp hn
  case gG k t s z=>
   obtain⟨hz,hO,hK⟩:=hk;refine oj (ao:= .alloc t s z) rfl hc hi he (K:=λ x O'=>x= .ptr O.length 1 0 0/\O'=O++ [.live t s [z]]) ⟨rfl,rfl⟩ ?_;rintro x O' y I' L' w' ⟨rfl,rfl⟩ hg hr;have hv:=hr.ib (show _=_ from by rw[getElem?_append_right (le_refl _),sub_self];rfl) rfl;refine hn _ _ y _ _ w' hK (hg.move hi hO (by simp) (λ x hx c hcc=> ?_)) ?_
   ·simp at hx;subst hx;exact cd (cr _ hz) c hcc
   ·rw[hv];have:=R.dV (I:=I') (L:=lM L' k O.length) (O:=O.set k (.live t s [z])) k 1 0 0 t s [z] (getElem?_set_self (List.getElem?_eq_some_iff.1 hO).1) rfl;simpa [lM]using this
  case m9 k t s x=>
   obtain⟨hx,hO,h1,h2,hK⟩:=hk;refine oj (ao:= .box t s x) rfl hc hi he (K:=λ y O'=>y= .ptr O.length 1 0 0/\O'=O++ [.live t s [x.ev e]]) ⟨h1,h2,rfl,rfl⟩ ?_;rintro x' O' y I' L' w' ⟨rfl,rfl⟩ hg hr;have hv:=hr.ib (show _=_ from by rw[getElem?_append_right (le_refl _),sub_self];rfl) rfl;refine hn _ _ y _ _ w' hK (hg.move hi hO (by simp) (λ z hz c hcc=> ?_)) ?_
   ·simp at hz;subst hz;exact cd (aI.abC he hx) c hcc
   ·rw[hv];have:=R.dV (I:=I') (L:=lM L' k O.length) (O:=O.set k (.live t s [x.ev e])) k 1 0 0 t s [x.ev e] (getElem?_set_self (List.getElem?_eq_some_iff.1 hO).1) rfl;simpa [lM]using this
  case gF k t s len z ps=>
   obtain⟨hz,hp,dm⟩:=hk
   have dm:=vK he ps _ hp (λ x hx c hc=>by
    rw[List.mem_replicate]at hx;rw[hx.2]at hc;exact cd (cr _ hz) c hc) dm
   have hlen:∀(ps:List (Nat×aI)) (zs:List AV) {M:List AV->Prop},nM e s zs ps M->nM e s zs ps λ xs=>xs.length=zs.length/\M xs:=by
    intro ps
    induction ps with
    |nil=>intro zs M h;exact⟨rfl,h⟩
    |cons p ps ih=>
     intro zs M h;obtain⟨h1,h2,h3,h4⟩:=h;have:=ih _ h4;rw[List.length_set]at this;exact⟨h1,h2,h3,this⟩
   have dm:=hlen ps _ dm;rw[List.length_replicate]at dm;refine oj (ao:= .buildSlice t s len z ps) rfl hc hi he (K:=λ y O'=>∃xs,(xs.length=len/\(∀x∈xs,∀c∈x.cells,c.inScope O.length=true)/\O[k]? =some (.nil t s)/\xs≠[]/\K (.row k len) (O.set k (.live t s xs)))/\y= .row O.length len/\O'=O++ [.live t s xs]) ?_ ?_
   ·have ayN:∀(ps:List (Nat×aI)) (zs:List AV) {M M':List AV->Prop},(∀xs,M xs->M' xs)->nM e s zs ps M->nM e s zs ps M':=by
      intro ps
      induction ps with
      |nil=>intro zs M M' hm h;exact hm _ h
      |cons p ps ih=>intro zs M M' hm h;obtain⟨h1,h2,h3,h4⟩:=h;exact⟨h1,h2,h3,ih _ hm h4⟩
    exact ayN ps _ (λ xs h=>⟨xs,h,rfl,rfl⟩) dm
   ·rintro x' O' y I' L' w' ⟨xs,⟨hl,hsc,hO,bn,hK⟩,rfl,rfl⟩ hg hr;have hv:=hr.eu (show _=_ from by rw[getElem?_append_right (le_refl _),sub_self];rfl) hl;refine hn _ _ y _ _ w' hK (hg.move hi hO bn hsc) ?_;rw[hv];have:=R.cf (I:=I') (L:=lM L' k O.length) (O:=O.set k (.live t s xs)) k len t s xs (getElem?_set_self (List.getElem?_eq_some_iff.1 hO).1) hl;simpa [lM]using this
end
end Go.Ab
namespace Go.Ab
structure aO where
 guard:Option (Nat×Bool)
 dst:Option Nat
 op:ez
def aO.strip(o:aO):aO:={o with op:=o.op.strip}
def bO(e:Env)(d:Option Nat)(a:AV):Env:=
 match d with
 |some t=>e.set t a
 |none=>e
def wpOps(P:Program):List aO->Env->List ad->(Env->List ad->Prop)->Prop
 | [],e,O,K=>K e O
 |o::r,e,O,K=>
  match o.guard with
  |none=>wpOp P o.op e O λ x O'=>wpOps P r (bO e o.dst x) O' K
  |some (t,want)=>
   match e t with
   | .v (.bool b)=>
     (b=want->wpOp P o.op (e.set t (.v (.bool want))) O λ x O'=>wpOps P r (bO (e.set t (.v (.bool want))) o.dst x) O' K)/\
     (b= !want->wpOps P r (bO (e.set t (.v (.bool (!want)))) o.dst (.a9 [])) O K)
   | .a9 []=>wpOps P r (bO e o.dst (.a9 [])) O K
   |_=>False
inductive EK where
 |cL
 |set (n:Nat)
 |push (n:Nat)
 |any
 |xn (kp:List Nat)
structure iw where
 rd:List Nat
 k:EK
instance:Inhabited iw:=⟨⟨[],.any⟩⟩
def lZ(o:ez)(rf:aI->List Nat)(N:Nat):iw:=
 match o with
 | .mkF _ _ _ _ _ _| .iR _ _ _ _ _| .aA _| .pick _ _ _| .build _ _| .bin _ _ _| .beq _ _ _| .un _ _| .j6 _ _| .zZ _ _ _| .lF _ _| .fI _ _ _| .cX _ _ _ _| .ext _ _| .sI _ _| .lg _| .lK _ _| .iN _ _=>⟨[],.cL⟩
 | .load _ x| .aK _ x| .ca x| .bm x=>⟨rf x,.cL⟩
 | .bJ _ x _| .wx _ _ x _=>⟨rf x,.cL⟩
 | .pu _ as| .mJ _ as=>⟨as.flatMap rf,.cL⟩
 | .alloc _ _ _| .box _ _ _| .buildSlice _ _ _ _ _| .mk _ _ _ _ _ _| .eW _ _ _ _ _=>⟨[],.push N⟩
 | .y4 k _ _ _ _ _ _| .gG k _ _ _| .m9 k _ _ _| .gF k _ _ _ _ _=>⟨[k],.set k⟩
 | .rR rd _ _=>⟨rd,.push N⟩
 | .rS rd _ _=>⟨rd,.cL⟩
 | .nq kp _ _=>⟨[],.xn kp⟩
 | .jU _ _ as=>match as.flatMap rf with
   | [n]=>⟨[n],.set n⟩
   |_=>⟨[],.any⟩
 | .store _ x _=>match rf x with
   | [n]=>⟨[n],.set n⟩
   |_=>⟨[],.any⟩
 | .app _ _ _ x y=>match rf x with
   | [n]=>⟨n::rf y,.set n⟩
   |_=>⟨[],.any⟩
 | .kN _ _ _ x y=>match rf x with
   | [n]=>⟨n::rf y,.set n⟩
   |_=>⟨[],.any⟩
 |_=>⟨[],.any⟩
def cF(o:ez)(e:Env)(N:Nat):iw:=lZ o (λ x=>refs (x.ev e)) N
def EK.keeps:EK->List Nat
 | .xn kp=>kp
 |_=>[]
def iw.pure(kp:List Nat)(l:iw):Bool:=l.rd.all (λ n=>kp.contains n)&&(match l.k with| .cL=>true|_=>false)
def EK.qq:EK->List Nat->Bool
 | .cL,_=>false
 | .set n,rd=>rd.contains n
 | .push n,rd=>rd.contains n
 | .any,_=>true
 | .xn _,_=>true
def EK.isAny:EK->Bool
 | .any=>true
 | .xn _=>true
 |_=>false
def EK.gy:EK->Bool
 | .push _=>true
 |_=>false
def uP(p i:iw):Bool:=
 if p.k.isAny=true then i.pure p.k.keeps else if i.k.isAny=true then p.pure i.k.keeps else
  !(p.k.qq i.rd)&& !(i.k.qq p.rd)&& !(p.k.gy&&i.k.gy)
def aI.rd:aI->List Nat
 | .t n=>[n]
 | .c _=>[]
def am4:Option aI->List Nat
 |some x=>x.rd
 |none=>[]
def ez.reads:ez->List Nat
 | .yZ=>[]
 | .akJ _ _ _ m k=>m.rd++k.rd
 | .pK _ m k v=>m.rd++k.rd++v.rd
 | .aa2 _ _ m k=>m.rd++k.rd
 | .kE m k v=>m.rd++k.rd++v.rd
 | .abx x| .abA x| .y6 _ x| .s2b _ x| .wJ _ x=>x.rd
 | .peq _ x y=>x.rd++y.rd
 | .stuck=>[]
 | .iR _ _ _ _ ps=>ps.flatMap λ p=>p.2.rd
 | .pu _ as=>as.flatMap aI.rd
 | .aA x| .box _ _ x| .load _ x| .un _ x| .j6 _ x| .aK _ x| .zZ _ _ x| .lg x| .bm x| .ext x _| .ca x=>x.rd
 | .alloc _ _ _| .gG _ _ _ _=>[]
 | .m9 _ _ _ x=>x.rd
 | .gF _ _ _ _ _ ps=>ps.flatMap λ p=>p.2.rd
 | .pick c a b=>c.rd++a.rd++b.rd
 | .build _ ps=>ps.flatMap λ p=>p.2.2.rd
 | .buildSlice _ _ _ _ ps=>ps.flatMap λ p=>p.2.rd
 | .store _ x y| .bin _ x y| .beq _ x y| .bJ _ x y| .wx _ _ x y| .lF x y| .app _ _ _ x y| .kN _ _ _ x y| .ad9 _ _ _ _ x y| .mk _ _ _ _ x y| .mkF _ _ _ _ x y| .y4 _ _ _ _ _ x y=>x.rd++y.rd
 | .fI x l h| .cX _ x l h| .cut _ x l h=>x.rd++am4 l++am4 h
 | .sI _ cs=>cs.flatMap aI.rd
 | .call _ as| .nw _ as| .lK _ as| .mJ _ as| .eW _ _ _ _ as| .bk _ _ as| .jU _ _ as| .rR _ _ as| .rS _ _ as| .nq _ _ as=>as.flatMap aI.rd
 | .ew x as| .jV x as| .iN x as=>x.rd++as.flatMap aI.rd
def aO.reads(o:aO):List Nat:=(match o.guard with|some (t,_)=>[t]|none=>[])++o.op.reads
def mS(p i:aO×iw):Bool:=
 (match p.1.dst with
  |some t=> !(i.1.reads.contains t)&& !(i.1.dst==some t)
  |none=>true)&&
 (match i.1.dst with
  |some t=> !(p.1.reads.contains t)
  |none=>true)&&uP p.2 i.2
def xk(rows:List (List Nat)):Nat->List Nat
 |0=>[]
 |n+1=>let acc:=xk rows n;acc++ [(rows.getD n []).foldl (λ s j=>s|||(2^j|||acc.getD j 0)) 0]
def iF(rows:List (List Nat))(al:List (aO×iw)):Bool:=
 let c:=xk rows al.length
 (List.range al.length).all λ i=>(rows.getD i []).all (·<i)&&
  (List.range i).all λ p=>(c.getD i 0).testBit p||(match al[p]?,al[i]? with|some x,some y=>mS x y|_,_=>false)
def cC(P:Program):List aO->List iw->Env->List ad->(List iw->Env->List ad->Prop)->Prop
 | [],acc,e,O,K=>K acc e O
 |o::r,acc,e,O,K=>
  match o.guard with
  |none=>wpOp P o.op e O λ x O'=>cC P r (acc++ [cF o.op e O.length]) (bO e o.dst x) O' K
  |some (t,want)=>
   match e t with
   | .v (.bool b)=>
     (b=want->wpOp P o.op (e.set t (.v (.bool want))) O λ x O'=>cC P r (acc++ [cF o.op (e.set t (.v (.bool want))) O.length]) (bO (e.set t (.v (.bool want))) o.dst x) O' K)/\
     (b= !want->cC P r (acc++ [⟨[],.cL⟩]) (bO (e.set t (.v (.bool (!want)))) o.dst (.a9 [])) O K)
   | .a9 []=>cC P r (acc++ [⟨[],.cL⟩]) (bO e o.dst (.a9 [])) O K
   |_=>False
inductive AX where
 |normal
 |exit (id:Nat)
 |ret
inductive aR where
 |skip
 |region (rows:Option (List (List Nat))) (ops:List aO)
 |seq (a b:aR)
 |cond (c:aI) (t f:aR)
 |block (id:Nat) (b:aR)
 |loop (b:aR)
 |exit (id:Nat)
 |ret
 |ar (live:List Nat) (c:aR)
 |k8 (c:aR)
 |gZ (ops:List aO)
def aR.strip:aR->aR
 | .region d ops=> .region d (ops.map aO.strip)
 | .seq a b=> .seq a.strip b.strip
 | .cond c t f=> .cond c t.strip f.strip
 | .block id b=> .block id b.strip
 | .loop b=> .loop b.strip
 | .ar _ c=>c.strip
 | .k8 c=>c.strip
 | .gZ ops=> .region none (ops.map aO.strip)
 |c=>c
def tK(live:List Nat)(e:Env):Env:=λ t=>if live.contains t then e t else .top
def WK(n0:Nat)(e:Env)(O:List ad)(e':Env)(O':List ad):Prop:=
 ∀(I0:du) (L0:Nat->Loc) (O0:List ad) (w0:World) (I:du) (L:Nat->Loc) (w:World) (f:Nat->Value),O0.length=n0->Good I0 L0 O0 w0 I L O w->(∀t,R I L O (e t) (f t))->
  ∃I' L',Good I0 L0 O0 w0 I' L' O' w/\∀t,R I' L' O' (e' t) (f t)
theorem WK.refl(n0:Nat)(e:Env)(O:List ad):WK n0 e O e O:=λ _ _ _ _ I L _ _ _ h k=>⟨I,L,h,k⟩
theorem WK.trans{n0:Nat}{e e' e'':Env}{O O' nc:List ad}(h:WK n0 e O e' O')(k:WK n0 e' O' e'' nc):WK n0 e O e'' nc:=by
 intro I0 L0 O0 w0 I L w f h0 hg hr;obtain⟨I1,L1,g1,r1⟩:=h I0 L0 O0 w0 I L w f h0 hg hr;exact k I0 L0 O0 w0 I1 L1 w f h0 g1 r1
def gU(P:Program)(n0:Nat):List aO->Env->List ad->(Env->List ad->Prop)->Prop
 | [],e,O,K=>∃e' O',WK n0 e O e' O'/\K e' O'
 |o::r,e0,O0,K=>∃e O,WK n0 e0 O0 e O/\
  match o.guard with
  |none=>wpOp P o.op e O λ x O'=>gU P n0 r (bO e o.dst x) O' K
  |some (t,want)=>
   match e t with
   | .v (.bool b)=>
     (b=want->wpOp P o.op (e.set t (.v (.bool want))) O λ x O'=>gU P n0 r (bO (e.set t (.v (.bool want))) o.dst x) O' K)/\
     (b= !want->gU P n0 r (bO (e.set t (.v (.bool (!want)))) o.dst (.a9 [])) O K)
   | .a9 []=>gU P n0 r (bO e o.dst (.a9 [])) O K
   |_=>False
def ky(P:Program)(n0:Nat):aR->(AX->Env->List ad->Prop)->Env->List ad->Prop
 | .skip,Q,e,O=>Q .normal e O
 | .region none ops,Q,e,O=>wpOps P ops e O (Q .normal)
 | .region (some rows) ops,Q,e,O=>∃al,al.map aO.strip=ops.map aO.strip/\cC P al [] e O λ iD e O=>iF rows (al.zip iD)=true/\Q .normal e O
 | .seq a b,Q,e,O=>ky P n0 a (λ x e O=>match x with| .normal=>ky P n0 b Q e O|x=>Q x e O) e O
 | .cond c t f,Q,e,O=>match c.ev e with
   | .v (.bool b)=>(b=true->ky P n0 t Q e O)/\(b=false->ky P n0 f Q e O)
   |_=>False
 | .block id b,Q,e,O=>ky P n0 b (λ x e O=>match x with| .exit i=>if i=id then Q .normal e O else Q (.exit i) e O|x=>Q x e O) e O
 | .loop b,Q,e,O=>∃(J:Nat->Env->List ad->Prop) (n:Nat),(∃e' O',WK n0 e O e' O'/\J n e' O')/\
  ∀n e O,J n e O->ky P n0 b (λ x e O=>match x with| .normal=>∃m e' O',m<n/\WK n0 e O e' O'/\J m e' O'|x=>Q x e O) e O
 | .exit id,Q,e,O=>Q (.exit id) e O
 | .ret,Q,e,O=>Q .ret e O
 | .ar live c,Q,e,O=>ky P n0 c (λ x e O=>match x with| .normal=>Q .normal (tK live e) O|x=>Q x e O) e O
 | .k8 c,Q,e,O=>∃e' O',WK n0 e O e' O'/\ky P n0 c Q e' O'
 | .gZ ops,Q,e,O=>gU P n0 ops e O (Q .normal)
inductive dG where
 |tmp (t:Nat)
 |cell (t:Nat) (n:Option Nat)
def dG.get(e:Env)(O:List ad)(r:dG)(K:AV->Prop):Prop:=
 match r with
 | .tmp t=>K (e t)
 | .cell t n=>match e t with
   | .ptr k 1 0 0=>match O[k]? with
     |some (.live _ _ [x])=>n.getD 1<=x.cells.length/\K (dI n x 0)
     |_=>False
   |_=>False
def dK(e:Env)(O:List ad):List dG->List AV->(List AV->Prop)->Prop
 | [],acc,K=>K acc.reverse
 |r::rs,acc,K=>r.get e O λ x=>dK e O rs (x::acc) K
def br:List AV->AV
 | [x]=>x
 |xs=> .a9 xs
def oQ(n0:Nat)(rs:List dG)(res:AV)(O':List ad)(x:AX)(e:Env)(O:List ad):Prop:=
 match x with
 | .exit _=>False
 |_=>dK e O rs [] λ xs=>∃e',WK n0 (λ t=>if t=0 then br xs else .top) O e' O'/\e' 0=res
def qI(ops:Array Oper)(nt:Nat)(g:Option (Nat×Bool)):Option (Option (Nat×Bool)):=
 match g with
 |none=>some none
 |some (j,b)=>match(ops[j]?).bind (·.dst)with
  |some t=>if t<nt then some (some (t,b))else none
  |none=>none
def rowsOf(ops:Array Oper):List (List Nat):=ops.toList.map λ o=>(o.after.toList.filter (Region.binds .any)).map (·.on)
def pC(P:Program)(nt:Nat)(ops:Array Oper)(o:Oper):Option aO:=
 match cOp P o.type o.op,qI ops nt o.guard with
 |some op,some g=>if o.dst.all (·<nt)=true then some ⟨g,o.dst,op⟩else none
 |_,_=>none
def fQ(P:Program)(nt:Nat):Code->Option aR
 | .skip=>some .skip
 | .region _ ops false=>(ops.toList.mapM (pC P nt ops)).map (.region none)
 | .region _ ops true=>if Region.departs ops=true/\P.follows .mixedOrders=false then none else(ops.toList.mapM (pC P nt ops)).map (.region (some (rowsOf ops)))
 | .seq a b=>match fQ P nt a,fQ P nt b with
   |some a,some b=>some (.seq a b)
   |_,_=>none
 | .cond c t f=>match bH c,fQ P nt t,fQ P nt f with
   |some c,some t,some f=>some (.cond c t f)
   |_,_,_=>none
 | .block id b=>(fQ P nt b).map (.block id)
 | .loop b=>(fQ P nt b).map .loop
 | .exit id=>some (.exit id)
 | .ret=>some .ret
 |_=>none
def alx(P:Program)(r:ResultVar):Option dG:=
 match r with
 | .tmp t=>some (.tmp t)
 | .cell t ty=>(vA P ty).map (.cell t)
structure mo where
 cT:Nat
 nt:Nat
 code:aR
 res:List dG
def mZ(args:List AV):Env:=λ t=>args.getD t (.a9 [])
end Go.Ab
namespace Go.Ab
def ez.cls:ez->Nat
 | .mkF _ _ _ _ _ _| .iR _ _ _ _ _| .aA _| .pick _ _ _| .build _ _| .bin _ _ _| .beq _ _ _| .un _ _| .j6 _ _| .zZ _ _ _| .lF _ _| .fI _ _ _| .cX _ _ _ _| .ext _ _| .sI _ _| .lg _| .lK _ _| .iN _ _=>0
 | .load _ _| .aK _ _| .ca _| .bJ _ _ _| .wx _ _ _ _| .bm _| .pu _ _| .mJ _ _=>1
 | .alloc _ _ _| .box _ _ _| .buildSlice _ _ _ _ _| .mk _ _ _ _ _ _| .eW _ _ _ _ _=>2
 |_=>3
def pE(l:List Nat)(e e':Env):Prop:=∀t∈l,e t=e' t
theorem pE.ev{x:aI}{e e':Env}{l:List Nat}(h:pE l e e')(hx:∀t∈x.rd,t∈l):x.ev e=x.ev e':=by
 cases x with
 |t n=>exact h n (hx n (by simp[aI.rd]))
 |c a=>rfl
theorem pE.a8{xs:List aI}{e e':Env}{l:List Nat}(h:pE l e e')(hx:∀t∈xs.flatMap aI.rd,t∈l):xs.map (aI.ev e)=xs.map (aI.ev e'):=by
 apply map_congr_left;intro x hm;exact h.ev λ t ht=>hx t (List.mem_flatMap.2 ⟨x,hm,ht⟩)
theorem iI{d:Int}{e e':Env}{x:Option aI}{l:List Nat}(h:pE l e e')(hx:∀t∈am4 x,t∈l)(K:Int->Prop):fB d e x K=fB d e' x K:=by
 cases x with
 |none=>rfl
 |some o=>simp only[fB];rw[h.ev hx]
theorem ui{e e':Env}{l:List Nat}(h:pE l e e'):∀(ps:List (Nat×Nat×aI)) (z:List AV) (K:AV->Prop),(∀t∈ps.flatMap (λ p=>p.2.2.rd),t∈l)->jy e z ps K=jy e' z ps K
 | [],_,_,_=>rfl
 |(off,size,x)::r,z,K,hx=>by
  simp only[jy];rw[h.ev (x:=x) λ t ht=>hx t (by simp[ht]),ui h r _ K λ t ht=>hx t (by simp only[List.flatMap_cons,mem_append];exact .inr ht)]
theorem oP{e e':Env}{l:List Nat}(h:pE l e e')(s:Nat):∀(ps:List (Nat×aI)) (z:List AV) (K:List AV->Prop),(∀t∈ps.flatMap (λ p=>p.2.rd),t∈l)->nM e s z ps K=nM e' s z ps K
 | [],_,_,_=>rfl
 |(i,x)::r,z,K,hx=>by
  simp only[nM];rw[h.ev (x:=x) λ t ht=>hx t (by simp[ht]),oP h s r _ K λ t ht=>hx t (by simp only[List.flatMap_cons,mem_append];exact .inr ht)]
theorem agZ{P:Program}{o:ez}{e e':Env}(h:pE o.reads e e')(O:List ad)(K:AV->List ad->Prop):wpOp P o e O K=wpOp P o e' O K:=by
 cases o<;>simp only[ez.reads]at h<;>simp only[wpOp]
 case aA x=>rw[h.ev λ t ht=>ht]
 case pick c a b=>rw[h.ev (x:=c) (by simp+contextual),h.ev (x:=a) (by simp+contextual),h.ev (x:=b) (by simp+contextual)]
 case box t s x=>rw[h.ev λ t ht=>ht]
 case build z ps=>exact ui h ps z _ λ t ht=>ht
 case buildSlice t s len z ps=>exact oP h s ps _ _ λ t ht=>ht
 case iR t s len z ps=>exact oP h s ps _ _ λ t ht=>ht
 case pu o as=>
  have hm:(as.map λ x=>iW O (x.ev e))=as.map λ x=>iW O (x.ev e'):=map_congr_left λ x hx=>by rw[h.ev (x:=x) λ t ht=>List.mem_flatMap.2 ⟨x,hx,ht⟩]
  rw[hm]
 case kN t s b x y=>rw[h.ev (x:=x) (by simp+contextual),h.ev (x:=y) (by simp+contextual)]
 case load n x=>rw[h.ev λ t ht=>ht]
 case store m x y=>rw[h.ev (x:=x) (by simp+contextual),h.ev (x:=y) (by simp+contextual)]
 case bin op x y=>rw[h.ev (x:=x) (by simp+contextual),h.ev (x:=y) (by simp+contextual)]
 case beq neg x y=>rw[h.ev (x:=x) (by simp+contextual),h.ev (x:=y) (by simp+contextual)]
 case un op x=>rw[h.ev λ t ht=>ht]
 case j6 k x=>rw[h.ev λ t ht=>ht]
 case aK k x=>rw[h.ev λ t ht=>ht]
 case zZ k n x=>rw[h.ev λ t ht=>ht]
 case bJ s x y=>rw[h.ev (x:=x) (by simp+contextual),h.ev (x:=y) (by simp+contextual)]
 case wx m s x y=>rw[h.ev (x:=x) (by simp+contextual),h.ev (x:=y) (by simp+contextual)]
 case lF x y=>rw[h.ev (x:=x) (by simp+contextual),h.ev (x:=y) (by simp+contextual)]
 case fI x lo hi=>
  have e1:=λ d K=>iI (d:=d) (x:=lo) h (by simp+contextual) K
  have e2:=λ d K=>iI (d:=d) (x:=hi) h (by simp+contextual) K
  rw[h.ev (x:=x) (by simp+contextual)];simp only[e1,e2]
 case cX s x lo hi=>
  have e1:=λ d K=>iI (d:=d) (x:=lo) h (by simp+contextual) K
  have e2:=λ d K=>iI (d:=d) (x:=hi) h (by simp+contextual) K
  rw[h.ev (x:=x) (by simp+contextual)];simp only[e1,e2]
 case ad9 t s b z x y=>rw[h.ev (x:=x) (by simp+contextual),h.ev (x:=y) (by simp+contextual)]
 case cut s x lo hi=>
  have e1:=λ d K=>iI (d:=d) (x:=lo) h (by simp+contextual) K
  have e2:=λ d K=>iI (d:=d) (x:=hi) h (by simp+contextual) K
  rw[h.ev (x:=x) (by simp+contextual)];simp only[e1,e2]
 case mkF t s b z x y=>rw[h.ev (x:=x) (by simp+contextual),h.ev (x:=y) (by simp+contextual)]
 case y4 k t s b z x y=>rw[h.ev (x:=x) (by simp+contextual),h.ev (x:=y) (by simp+contextual)]
 case mk t s b z x y=>rw[h.ev (x:=x) (by simp+contextual),h.ev (x:=y) (by simp+contextual)]
 case lg x=>rw[h.ev λ t ht=>ht]
 case bm x=>rw[h.ev λ t ht=>ht]
 case app t s b x y=>rw[h.ev (x:=x) (by simp+contextual),h.ev (x:=y) (by simp+contextual)]
 case ext x i=>rw[h.ev λ t ht=>ht]
 case ca x=>rw[h.ev λ t ht=>ht]
 case sI f cs=>rw[h.a8 λ t ht=>ht]
 case call f as=>rw[h.a8 λ t ht=>ht]
 case ew x as=>rw[h.ev (x:=x) (by simp+contextual),h.a8 (xs:=as) (by simp+contextual)]
 case nw f as=>
  have hm:(as.map λ x=>iW O (x.ev e))=as.map λ x=>iW O (x.ev e'):=map_congr_left λ x hx=>by rw[h.ev (x:=x) λ t ht=>List.mem_flatMap.2 ⟨x,hx,ht⟩]
  rw[hm,h.a8 λ t ht=>ht]
 case jV x as=>
  have hm:(as.map λ x=>iW O (x.ev e))=as.map λ x=>iW O (x.ev e'):=map_congr_left λ x hx=>by rw[h.ev (x:=x) λ t ht=>List.mem_append_right _ (List.mem_flatMap.2 ⟨x,hx,ht⟩)]
  rw[hm,h.ev (x:=x) (by simp+contextual),h.a8 (xs:=as) (by simp+contextual)]
 case lK f as=>rw[h.a8 λ t ht=>ht]
 case mJ f as=>
  have hm:(as.map λ x=>iW O (x.ev e))=as.map λ x=>iW O (x.ev e'):=map_congr_left λ x hx=>by rw[h.ev (x:=x) λ t ht=>List.mem_flatMap.2 ⟨x,hx,ht⟩]
  rw[hm]
 case eW nl t s f as=>rw[h.a8 λ t ht=>ht]
 case akJ ok d z m k=>rw[h.ev (x:=m) (by simp+contextual),h.ev (x:=k) (by simp+contextual)]
 case aa2 ok z m k=>rw[h.ev (x:=m) (by simp+contextual),h.ev (x:=k) (by simp+contextual)]
 case kE m k v=>rw[h.ev (x:=m) (by simp+contextual),h.ev (x:=k) (by simp+contextual),h.ev (x:=v) (by simp+contextual)]
 case abx x=>rw[h.ev λ t ht=>ht]
 case abA x=>rw[h.ev λ t ht=>ht]
 case y6 t x=>rw[h.ev λ t ht=>ht]
 case s2b t x=>rw[h.ev λ t ht=>ht]
 case wJ neg x=>rw[h.ev λ t ht=>ht]
 case peq neg x y=>rw[h.ev (x:=x) (by simp+contextual),h.ev (x:=y) (by simp+contextual)]
 case pK d m k v=>rw[h.ev (x:=m) (by simp+contextual),h.ev (x:=k) (by simp+contextual),h.ev (x:=v) (by simp+contextual)]
 case rR rd f as=>rw[h.a8 λ t ht=>ht]
 case rS rd f as=>rw[h.a8 λ t ht=>ht]
 case nq rd f as=>rw[h.a8 λ t ht=>ht]
 case m9 k t s x=>rw[h.ev λ t ht=>ht]
 case gF k t s len z ps=>
  have:=oP h s ps (List.replicate len z) (λ xs=>O[k]? =some (.nil t s)/\xs≠[]/\K (.row k len) (O.set k (.live t s xs))) λ t ht=>ht
  rw[this]
 case bk gs f as=>rw[h.a8 λ t ht=>ht]
 case jU gs f as=>
  have hm:(as.flatMap λ x=>refs (x.ev e))=as.flatMap λ x=>refs (x.ev e'):=by
   simp only[←List.flatMap_map (aI.ev e) refs,←List.flatMap_map (aI.ev e') refs];rw[h.a8 λ t ht=>ht]
  rw[h.a8 λ t ht=>ht,hm]
 case iN x as=>rw[h.ev (x:=x) (by simp+contextual),h.a8 (xs:=as) (by simp+contextual)]
def Ex(P:Program)(o:ez)(e:Env)(O:List ad)(x:AV)(O':List ad):Prop:=∀K:AV->List ad->Prop,K x O'->wpOp P o e O K
theorem acq{e:Env}:∀(ps:List (Nat×Nat×aI)) (z:List AV) {K:AV->Prop},jy e z ps K->∃x,K x/\∀K':AV->Prop,K' x->jy e z ps K'
 | [],_,_,h=>⟨_,h,λ _ h=>h⟩
 |(off,size,x)::r,z,K,h=>by
  obtain⟨h1,h2,h3,h4⟩:=h;obtain⟨y,h5,h6⟩:=acq r _ h4;exact⟨y,h5,λ K' h=>⟨h1,h2,h3,h6 K' h⟩⟩
theorem tn{e:Env}{s:Nat}:∀(ps:List (Nat×aI)) (z:List AV) {K:List AV->Prop},nM e s z ps K->∃x,K x/\∀K':List AV->Prop,K' x->nM e s z ps K'
 | [],_,_,h=>⟨_,h,λ _ h=>h⟩
 |(i,x)::r,z,K,h=>by
  obtain⟨h1,h2,h3,h4⟩:=h;obtain⟨y,h5,h6⟩:=tn r _ h4;exact⟨y,h5,λ K' h=>⟨h1,h2,h3,h6 K' h⟩⟩
theorem jK{d:Int}{e:Env}{x:Option aI}{K:Int->Prop}(h:fB d e x K):∃i,K i/\∀K':Int->Prop,K' i->fB d e x K':=by
 cases x with
 |none=>exact⟨_,h,λ _ h=>h⟩
 |some o=>
  simp only[fB]at h⊢
  split at h
  ·exact⟨_,h,λ _ h=>h⟩
  ·exact h.elim
theorem ex0{P:Program}{o:ez}(hc:o.cls=0){e:Env}{O:List ad}{K:AV->List ad->Prop}(h:wpOp P o e O K):
  ∃x,K x O/\∀O',Ex P o e O' x O':=by
 cases o<;>simp only[ez.cls]at hc<;>first|(cases hc;done)|skip
 case aA x=>exact⟨_,h,λ O' K' h'=>h'⟩
 case pick c a b=>
  simp only[wpOp]at h
  split at h
  ·rename_i t ht;exact⟨_,h,λ O' K' h'=>by simp only[wpOp,ht];exact h'⟩
  ·exact h.elim
 case build z ps=>
  obtain⟨x,h1,h2⟩:=acq ps z h;exact⟨x,h1,λ O' K' h'=>h2 (λ a=>K' a O') h'⟩
 case mkF t s b z x y=>
  simp only[wpOp]at h
  split at h
  ·rename_i n c hx hy;obtain⟨h1,h2,h3,h4,h5,h6⟩:=h;exact⟨_,h6,λ O' K' h'=>by simp only[wpOp,hx,hy];exact⟨h1,h2,h3,h4,h5,h'⟩⟩
  ·exact h.elim
 case iR t s len z ps=>
  obtain⟨xs,⟨cA,h1⟩,h2⟩:=tn ps _ h;exact⟨_,h1,λ O' K' h'=>h2 (λ xs=>AV.ae xs=true/\K' (.sl xs) O') ⟨cA,h'⟩⟩
 case beq neg x y=>
  simp only[wpOp]at h
  split at h
  ·rename_i a b ha hb;exact⟨_,h,λ O' K' h'=>by simp only[wpOp,ha,hb];exact h'⟩
  ·exact h.elim
 case bin op x y=>
  simp only[wpOp]at h
  split at h
  ·rename_i a b ha hb
   split at h
   ·rename_i z hz;exact⟨_,h,λ O' K' h'=>by simp only[wpOp,ha,hb,hz];exact h'⟩
   ·exact h.elim
  ·exact h.elim
 case un op x=>
  simp only[wpOp]at h
  split at h
  ·rename_i a ha
   split at h
   ·rename_i z hz;exact⟨_,h,λ O' K' h'=>by simp only[wpOp,ha,hz];exact h'⟩
   ·exact h.elim
  ·exact h.elim
 case j6 k x=>
  simp only[wpOp]at h
  split at h
  ·rename_i k' n ha;exact⟨_,h,λ O' K' h'=>by simp only[wpOp,ha];exact h'⟩
  ·exact h.elim
 case zZ off n x=>exact⟨_,h.2.2,λ O' K' h'=>⟨h.1,h.2.1,h'⟩⟩
 case lF x i=>
  simp only[wpOp]at h
  split at h
  ·rename_i s k j ha hb;exact⟨_,h.2.2,λ O' K' h'=>by simp only[wpOp,ha,hb];exact⟨h.1,h.2.1,h'⟩⟩
  ·exact h.elim
 case fI x lo hi=>
  simp only[wpOp]at h
  split at h
  ·rename_i s ha;obtain⟨l,h1,h2⟩:=jK h;obtain⟨u,h3,h4⟩:=jK h1;exact⟨_,h3.2.2.2,λ O' K' h'=>by simp only[wpOp,ha];exact h2 _ (h4 _ ⟨h3.1,h3.2.1,h3.2.2.1,h'⟩)⟩
  ·exact h.elim
 case cX s x lo hi=>
  simp only[wpOp]at h
  split at h
  ·rename_i s ha;obtain⟨l,h1,h2⟩:=jK h;obtain⟨u,h3,h4⟩:=jK h1;exact⟨_,h3.2.2.2.2,λ O' K' h'=>by simp only[wpOp,ha];exact h2 _ (h4 _ ⟨h3.1,h3.2.1,h3.2.2.1,h3.2.2.2.1,h'⟩)⟩
  ·exact h.elim
 case lg x=>
  simp only[wpOp]at h
  split at h
  ·rename_i s ha;exact⟨_,h,λ O' K' h'=>by simp only[wpOp,ha];exact h'⟩
  ·exact h.elim
 case ext x i=>
  simp only[wpOp]at h
  split at h
  ·rename_i vs ha;exact⟨_,h.2,λ O' K' h'=>by simp only[wpOp,ha];exact⟨h.1,h'⟩⟩
  ·exact h.elim
 case sI f cs=>exact⟨_,h,λ O' K' h'=>h'⟩
 case lK f as=>
  obtain⟨r,h1,h2,h3⟩:=h;exact⟨r,h3,λ O' K' h'=>⟨r,h1,h2,h'⟩⟩
 case iN x as=>
  simp only[wpOp]at h
  split at h
  ·rename_i f aX ha;obtain⟨r,h1,h2,h3⟩:=h;exact⟨r,h3,λ O' K' h'=>by simp only[wpOp,ha];exact⟨r,h1,h2,h'⟩⟩
  ·exact h.elim
def pq(rd:List Nat)(O O':List ad):Prop:=∀n∈rd,O'[n]? =O[n]?
theorem ale{O O':List ad}{a:AV}(h:pq (refs a) O O'):iW O' a=iW O a:=by
 cases a with
 |row n len=>simp only[iW,h n (by simp[refs])]
 |own n=>simp only[iW,h n (by simp[refs])]
 |_=>rfl
theorem zT{O O':List ad}{e:Env}{as:List aI}(h:pq (as.flatMap λ x=>refs (x.ev e)) O O'):(as.map λ x=>iW O' (x.ev e))=as.map λ x=>iW O (x.ev e):=
 map_congr_left λ x hx=>ale λ n hn=>h n (List.mem_flatMap.2 ⟨x,hx,hn⟩)
theorem ex1{P:Program}{o:ez}(hc:o.cls=1){e:Env}{O:List ad}{K:AV->List ad->Prop}(h:wpOp P o e O K):
  ∃x,K x O/\∀O' N,pq (cF o e N).rd O O'->Ex P o e O' x O':=by
 cases o<;>simp only[ez.cls]at hc<;>first|(cases hc;done)|skip
 case pu o as=>
  obtain⟨hn,hk⟩:=h;unfold puK at hk
  split at hk
  ·rename_i v hv;refine⟨v,hk,λ O' N ha K' h'=> ?_⟩;have hm:=zT (O:=O) (O':=O') (e:=e) (as:=as) ha;exact⟨by rw[hm];exact hn,by rw[hm];unfold puK;rw[hv];exact h'⟩
  ·exact hk.elim
 case mJ f as=>
  obtain⟨r,h1,h2,h3,h4⟩:=h;refine⟨r,h4,λ O' N ha K' h'=> ?_⟩;have hm:=zT (O:=O) (O':=O') (e:=e) (as:=as) ha;exact⟨r,h1,by rw[hm];exact h2,by rw[hm];exact h3,h'⟩
 case load n x=>
  simp only[wpOp]at h
  split at h
  ·rename_i y f ha;exact⟨_,h.2,λ O' N hg K' h'=>by simp only[wpOp,ha];exact⟨h.1,h'⟩⟩
  ·rename_i k len i f ha
   split at h
   ·rename_i t s xs hO;obtain⟨h1,h2,h3,h4⟩:=h
    exact⟨_,h4,λ O' N hg K' h'=>by
     have pN:=hg k (by simp[cF,lZ,ha,refs]);simp only[wpOp,ha,pN,hO];exact⟨h1,h2,h3,h'⟩⟩
   ·exact h.elim
  ·exact h.elim
 case aK off x=>
  simp only[wpOp]at h
  split at h
  ·rename_i y f ha;exact⟨_,h,λ O' N hg K' h'=>by simp only[wpOp,ha];exact h'⟩
  ·rename_i k len i f ha
   split at h
   ·rename_i t s xs hO
    exact⟨_,h.2,λ O' N hg K' h'=>by
     have pN:=hg k (by simp[cF,lZ,ha,refs]);simp only[wpOp,ha,pN,hO];exact⟨h.1,h'⟩⟩
   ·exact h.elim
  ·exact h.elim
 case ca x=>
  simp only[wpOp]at h
  split at h
  ·rename_i y f ha;exact⟨_,h,λ O' N hg K' h'=>by simp only[wpOp,ha];exact h'⟩
  ·rename_i y f ha;exact⟨_,h,λ O' N hg K' h'=>by simp only[wpOp,ha];exact h'⟩
  ·rename_i k len i f ha
   split at h
   ·rename_i t s xs hO
    exact⟨_,h.2,λ O' N hg K' h'=>by
     have pN:=hg k (by simp[cF,lZ,ha,refs]);simp only[wpOp,ha,pN,hO];exact⟨h.1,h'⟩⟩
   ·exact h.elim
  ·exact h.elim
 case bJ s x y=>
  simp only[wpOp]at h
  split at h
  ·rename_i xs k i ha hb;obtain⟨h1,h2,h3,h4⟩:=h;exact⟨_,h4,λ O' N hg K' h'=>by simp only[wpOp,ha,hb];exact⟨h1,h2,h3,h'⟩⟩
  ·rename_i n len k i ha hb
   split at h
   ·rename_i t s' xs hO;obtain⟨h1,h2,h3,h4,h5⟩:=h
    exact⟨_,h5,λ O' N hg K' h'=>by
     have pN:=hg n (by simp[cF,lZ,ha,refs]);simp only[wpOp,ha,hb,pN,hO];exact⟨h1,h2,h3,h4,h'⟩⟩
   ·exact h.elim
  ·exact h.elim
 case wx m s x y=>
  simp only[wpOp]at h
  split at h
  ·rename_i b f k i ha hb;obtain⟨h1,h2,h3⟩:=h;exact⟨_,h3,λ O' N hg K' h'=>by simp only[wpOp,ha,hb];exact⟨h1,h2,h'⟩⟩
  ·rename_i n len j f k i ha hb
   split at h
   ·rename_i t s' xs hO;obtain⟨h1,h2,h3,h4⟩:=h
    exact⟨_,h4,λ O' N hg K' h'=>by
     have pN:=hg n (by simp[cF,lZ,ha,refs]);simp only[wpOp,ha,hb,pN,hO];exact⟨h1,h2,h3,h'⟩⟩
   ·exact h.elim
  ·exact h.elim
 case bm x=>
  simp only[wpOp]at h
  split at h
  ·rename_i ha;exact⟨_,h,λ O' N hg K' h'=>by simp only[wpOp,ha];exact h'⟩
  ·rename_i xs ha;exact⟨_,h,λ O' N hg K' h'=>by simp only[wpOp,ha];exact h'⟩
  ·rename_i k len ha;have pN:∀O' N,pq (cF (.bm x) e N).rd O O'->O'[k]? =O[k]? :=λ O' N hg=>hg k (by simp[cF,lZ,ha,refs])
   split at h
   ·rename_i t s xs hO;exact⟨_,h.2,λ O' N hg K' h'=>by simp only[wpOp,ha,pN O' N hg,hO];exact⟨h.1,h'⟩⟩
   ·rename_i t s hO;exact⟨_,h.2,λ O' N hg K' h'=>by simp only[wpOp,ha,pN O' N hg,hO];exact⟨h.1,h'⟩⟩
   ·exact h.elim
  ·exact h.elim
theorem ex2{P:Program}{o:ez}(hc:o.cls=2){e:Env}{O:List ad}{K:AV->List ad->Prop}(h:wpOp P o e O K):
  ∃x b,K x (O++ [b])/\∀O',O'.length=O.length->Ex P o e O' x (O'++ [b]):=by
 cases o<;>simp only[ez.cls]at hc<;>first|(cases hc;done)|skip
 case alloc t s z=>exact⟨_,_,h,λ O' hl K' h'=>by simp only[wpOp,hl];exact h'⟩
 case box t s x=>exact⟨_,_,h.2.2,λ O' hl K' h'=>by simp only[wpOp,hl];exact⟨h.1,h.2.1,h'⟩⟩
 case buildSlice t s len z ps=>
  obtain⟨xs,h1,h2⟩:=tn ps _ h;exact⟨.row O.length len,.live t s xs,h1,λ O' hl K' h'=>by simp only[wpOp];exact h2 (λ ys=>K' (.row O'.length len) (O'++ [ad.live t s ys])) (by rw[hl];exact h')⟩
 case eW nl t s f as=>
  obtain⟨res,ob,h1,h2,h3⟩:=h;exact⟨_,_,h3,λ O' hl K' h'=>⟨res,ob,h1,h2,by rw[hl];exact h'⟩⟩
 case mk t s b z x y=>
  simp only[wpOp]at h
  split at h
  ·rename_i n c ha hb;obtain⟨h1,h2,h3,h4,h5⟩:=h;exact⟨_,_,h5,λ O' hl K' h'=>by simp only[wpOp,ha,hb,hl];exact⟨h1,h2,h3,h4,h'⟩⟩
  ·exact h.elim
theorem aqg{O:List ad}{y:AV}{K:List AV->Prop}(h:sn O y K):∃ys,K ys/\∀K':List AV->Prop,K' ys->sn O y K':=by
 unfold sn at h
 split at h
 ·exact⟨_,h,λ K' h'=>h'⟩
 ·exact⟨_,h,λ K' h'=>h'⟩
 ·rename_i n len
  split at h
  ·rename_i t s xs hO;exact⟨_,h.2,λ K' h'=>by simp only[sn,hO];exact⟨h.1,h'⟩⟩
  ·rename_i t s hO;exact⟨_,h.2,λ K' h'=>by simp only[sn,hO];exact⟨h.1,h'⟩⟩
  ·exact h.elim
 ·exact h.elim
theorem ajM{O:List ad}{x:AV}{t s b:Nat}{ys:List AV}{K:AV->List ad->Prop}(h:iu O x t s b ys K):∃r O',K r O'/\∀K':AV->List ad->Prop,K' r O'->iu O x t s b ys K':=by
 unfold iu at h
 split at h
 ·obtain⟨h1,h2,h3,h4⟩:=h;by_cases hy:ys= []
  ·exact⟨_,_,h3 hy,λ K' h'=>⟨h1,h2,λ _=>h',λ hn=>(hn hy).elim⟩⟩
  ·exact⟨_,_,h4 hy,λ K' h'=>⟨h1,h2,λ hn=>(hy hn).elim,λ _=>h'⟩⟩
 ·rename_i n len
  split at h
  ·rename_i t' s' xs hO;obtain⟨h1,h2,h3,h4,h5,h6⟩:=h;exact⟨_,_,h6,λ K' h'=>by simp only[iu,hO];exact⟨h1,h2,h3,h4,h5,h'⟩⟩
  ·rename_i t' s' hO;obtain⟨h1,h2,h3,h4,h5,h6,h7⟩:=h;by_cases hy:ys= []
   ·exact⟨_,_,h6 hy,λ K' h'=>by simp only[iu,hO];exact⟨h1,h2,h3,h4,h5,λ _=>h',λ hn=>(hn hy).elim⟩⟩
   ·exact⟨_,_,h7 hy,λ K' h'=>by simp only[iu,hO];exact⟨h1,h2,h3,h4,h5,λ hn=>(hy hn).elim,λ _=>h'⟩⟩
  ·exact h.elim
 ·exact h.elim
theorem wh{P:Program}{o:ez}{e:Env}{O:List ad}{K:AV->List ad->Prop}(h:wpOp P o e O K):∃x O',K x O'/\Ex P o e O x O':=by
 by_cases h0:o.cls=0
 ·obtain⟨x,h1,h2⟩:=ex0 h0 h;exact⟨x,O,h1,h2 O⟩
 by_cases h1:o.cls=1
 ·obtain⟨x,h1,h2⟩:=ex1 h1 h;exact⟨x,O,h1,h2 O 0 λ _ _=>rfl⟩
 by_cases h2:o.cls=2
 ·obtain⟨x,b,h1,h2⟩:=ex2 h2 h;exact⟨x,_,h1,h2 O rfl⟩
 cases o<;>first|(exact(h0 rfl).elim)|(exact(h1 rfl).elim)|(exact(h2 rfl).elim)|skip
 case stuck=>exact h.elim
 case ad9 t s b z x y=>
  simp only[wpOp]at h
  split at h
  ·rename_i k ha hb;exact⟨_,_,h.2.2.2,λ K' h'=>by simp only[wpOp,ha,hb];exact⟨h.1,h.2.1,h.2.2.1,h'⟩⟩
  ·exact h.elim
 case cut s x lo hi=>
  simp only[wpOp]at h
  split at h
  ·rename_i ha;obtain⟨l,h1,h2⟩:=jK h;obtain⟨u,h3,h4⟩:=jK h1;exact⟨_,_,h3.2.2,λ K' h'=>by simp only[wpOp,ha];exact h2 _ (h4 _ ⟨h3.1,h3.2.1,h'⟩)⟩
  ·rename_i n len ha
   split at h
   ·rename_i t s' xs hO;obtain⟨q1,q2,h⟩:=h;obtain⟨l,h1,h2⟩:=jK h;obtain⟨u,h3,h4⟩:=jK h1;exact⟨_,_,h3.2.2,λ K' h'=>by simp only[wpOp,ha,hO];exact⟨q1,q2,h2 _ (h4 _ ⟨h3.1,h3.2.1,h'⟩)⟩⟩
   ·exact h.elim
  ·exact h.elim
 case kN t s b x y=>
  simp only[wpOp]at h
  split at h
  ·rename_i sb hsb;obtain⟨r,O',h1,h2⟩:=ajM h.2;exact⟨r,O',h1,λ K' h'=>by simp only[wpOp,hsb];exact⟨h.1,h2 K' h'⟩⟩
  ·exact h.elim
 case store m x y=>
  simp only[wpOp]at h
  split at h
  ·rename_i k len i f ha
   split at h
   ·rename_i t s xs hO;obtain⟨q1,q2,q3,q4,q5,q6⟩:=h;exact⟨_,_,q6,λ K' h'=>by simp only[wpOp,ha,hO];exact⟨q1,q2,q3,q4,q5,h'⟩⟩
   ·exact h.elim
  ·exact h.elim
 case app t s b x y=>
  simp only[wpOp]at h;obtain⟨ys,q1,q2⟩:=aqg h;obtain⟨r,O',q3,q4⟩:=ajM q1.2;exact⟨r,O',q3,λ K' h'=>by simp only[wpOp];exact q2 _ ⟨q1.1,q4 K' h'⟩⟩
 case call f as=>
  obtain⟨r,O',q1,q2⟩:=h;exact⟨r,O',q2,λ K' h'=>⟨r,O',q1,h'⟩⟩
 case gG k t s z=>exact⟨_,_,h.2.2,λ K' h'=>⟨h.1,h.2.1,h'⟩⟩
 case y4 k t s b z x y=>
  simp only[wpOp]at h
  split at h
  ·rename_i n c hx hy;obtain⟨h1,h2,h3,h4,h5,h6,h7⟩:=h;exact⟨_,_,h7,λ K' h'=>by simp only[wpOp,hx,hy];exact⟨h1,h2,h3,h4,h5,h6,h'⟩⟩
  ·exact h.elim
 case m9 k t s x=>exact⟨_,_,h.2.2.2.2,λ K' h'=>⟨h.1,h.2.1,h.2.2.1,h.2.2.2.1,h'⟩⟩
 case gF k t s len z ps=>
  obtain⟨xs,⟨h1,h2,h3⟩,h4⟩:=tn ps _ h.2.2;exact⟨_,_,h3,λ K' h'=>⟨h.1,h.2.1,h4 (λ xs=>O[k]? =some (.nil t s)/\xs≠[]/\K' (.row k len) (O.set k (ad.live t s xs))) ⟨h1,h2,h'⟩⟩⟩
 case bk gs f as=>
  obtain⟨r,O',q1,q2⟩:=h;exact⟨r,O',q2,λ K' h'=>⟨r,O',q1,h'⟩⟩
 case yZ=>exact⟨_,_,h,λ K' h'=>h'⟩
 case akJ ok d z m k=>
  simp only[wpOp]at h
  split at h
  ·rename_i n kv hm hk
   split at h
   ·rename_i es hO;obtain⟨h1,h2,h3⟩:=h;exact⟨_,_,h3,λ K' h'=>by simp only[wpOp,hm,hk,hO];exact⟨h1,h2,h'⟩⟩
   ·exact h.elim
  ·exact h.elim
 case pK d m k v=>
  simp only[wpOp]at h
  split at h
  ·rename_i n kv hm hk
   split at h
   ·rename_i es hO;obtain⟨h1,h2,h3⟩:=h;exact⟨_,_,h3,λ K' h'=>by simp only[wpOp,hm,hk,hO];exact⟨h1,h2,h'⟩⟩
   ·exact h.elim
  ·exact h.elim
 case aa2 ok z m k=>
  simp only[wpOp]at h
  split at h
  ·rename_i n j hm hk
   split at h
   ·rename_i es hO;obtain⟨h1,h2,h3⟩:=h;exact⟨_,_,h3,λ K' h'=>by simp only[wpOp,hm,hk,hO];exact⟨h1,h2,h'⟩⟩
   ·exact h.elim
  ·exact h.elim
 case kE m k v=>
  simp only[wpOp]at h
  split at h
  ·rename_i n j hm hk
   split at h
   ·rename_i es hO;obtain⟨h1,h2,h3⟩:=h;exact⟨_,_,h3,λ K' h'=>by simp only[wpOp,hm,hk,hO];exact⟨h1,h2,h'⟩⟩
   ·exact h.elim
  ·exact h.elim
 case abx x=>
  simp only[wpOp]at h
  split at h
  ·rename_i s hx;exact⟨_,_,h,λ K' h'=>by simp only[wpOp,hx];exact h'⟩
  ·exact h.elim
 case abA x=>
  simp only[wpOp]at h
  split at h
  ·rename_i n hx
   split at h
   ·rename_i s pos hO;by_cases hp:pos<s.size
    ·exact⟨_,_,h.1 hp,λ K' h'=>by simp only[wpOp,hx,hO];exact⟨λ _=>h',λ q=>(q hp).elim⟩⟩
    ·exact⟨_,_,h.2 hp,λ K' h'=>by simp only[wpOp,hx,hO];exact⟨λ q=>(hp q).elim,λ _=>h'⟩⟩
   ·exact h.elim
  ·exact h.elim
 case s2b t x=>
  simp only[wpOp]at h
  split at h
  ·rename_i s hx;exact⟨_,_,h.2,λ K' h'=>by simp only[wpOp,hx];exact⟨h.1,h'⟩⟩
  ·exact h.elim
 case y6 t x=>
  simp only[wpOp]at h
  split at h
  ·rename_i n len hx
   split at h
   ·rename_i t' s xs hO;obtain⟨h1,h2,h3,h4⟩:=h;exact⟨_,_,h4,λ K' h'=>by simp only[wpOp,hx,hO];exact⟨h1,h2,h3,h'⟩⟩
   ·exact h.elim
  ·exact h.elim
 case wJ neg x=>
  simp only[wpOp]at h
  split at h
  ·rename_i hx;exact⟨_,_,h,λ K' h'=>by simp only[wpOp,hx];exact h'⟩
  ·rename_i n len i f hx
   split at h
   ·rename_i t s xs hO;exact⟨_,_,h.2,λ K' h'=>by simp only[wpOp,hx,hO];exact⟨h.1,h'⟩⟩
   ·exact h.elim
  ·exact h.elim
 case peq neg x y=>
  simp only[wpOp]at h
  split at h
  ·rename_i n m hx hy;exact⟨_,_,h.2.2,λ K' h'=>by simp only[wpOp,hx,hy];exact⟨h.1,h.2.1,h'⟩⟩
  ·exact h.elim
 case rR rd f as=>
  obtain⟨r,ob,q1,q2⟩:=h;exact⟨r,_,q2,λ K' h'=>⟨r,ob,q1,h'⟩⟩
 case rS rd f as=>
  obtain⟨r,q1,q2⟩:=h;exact⟨r,_,q2,λ K' h'=>⟨r,q1,h'⟩⟩
 case nq rd f as=>
  obtain⟨r,O',q1,q2,q3⟩:=h;exact⟨r,O',q3,λ K' h'=>⟨r,O',q1,q2,h'⟩⟩
 case jU gs f as=>
  obtain⟨n,a0,ob,r,ob',q1,q2,q3,q4,q5,q6,q7,q8,q9⟩:=h;exact⟨r,_,q9,λ K' h'=>⟨n,a0,ob,r,ob',q1,q2,q3,q4,q5,q6,q7,q8,h'⟩⟩
 case ew x as=>
  simp only[wpOp]at h
  split at h
  ·rename_i f aX ha;obtain⟨r,O',q1,q2⟩:=h;exact⟨r,O',q2,λ K' h'=>by simp only[wpOp,ha];exact⟨r,O',q1,h'⟩⟩
  ·exact h.elim
 case nw f as=>
  obtain⟨r,q1,q2,q3⟩:=h;exact⟨r,_,q3,λ K' h'=>⟨r,q1,q2,h'⟩⟩
 case jV x as=>
  simp only[wpOp]at h
  split at h
  ·rename_i f aX ha;obtain⟨r,q1,q2,q3⟩:=h;exact⟨r,_,q3,λ K' h'=>by simp only[wpOp,ha];exact⟨r,q1,q2,h'⟩⟩
  ·exact h.elim
theorem akT{o:ez}(h:∀kp f as,o≠ .nq kp f as)(e:Env)(N:Nat):(cF o e N).k.keeps= []:=by
 cases o<;>first|rfl|(exact(h _ _ _ rfl).elim)|(simp only[cF,lZ];split<;>rfl)
theorem avX{P:Program}{o:ez}{e:Env}{O:List ad}{K:AV->List ad->Prop}(h:wpOp P o e O K):∃x O',K x O'/\Ex P o e O x O'/\∀n∈(cF o e O.length).k.keeps,O'[n]? =O[n]? :=by
 by_cases hu:∃kp f as,o= .nq kp f as
 ·obtain⟨kp,f,as,rfl⟩:=hu;obtain⟨r,O',q1,q2,q3⟩:=h;exact⟨r,O',q3,λ K' h'=>⟨r,O',q1,q2,h'⟩,q2⟩
 ·obtain⟨x,O',h1,h2⟩:=wh h;refine⟨x,O',h1,h2,λ n hn=> ?_⟩;rw[akT λ kp f as he=>hu ⟨kp,f,as,he⟩]at hn;simp at hn
theorem amt{O:List ad}{y:AV}{K:List AV->Prop}(h:sn O y K):∃ys,K ys/\∀O',pq (refs y) O O'->∀K':List AV->Prop,K' ys->sn O' y K':=by
 unfold sn at h
 split at h
 ·exact⟨_,h,λ O' _ K' h'=>h'⟩
 ·exact⟨_,h,λ O' _ K' h'=>h'⟩
 ·rename_i n len;have hg:∀O',pq (refs (.row n len)) O O'->O'[n]? =O[n]? :=λ O' hg=>hg n (by simp[refs])
  split at h
  ·rename_i t s xs hO;exact⟨_,h.2,λ O' ha K' h'=>by simp only[sn,hg O' ha,hO];exact⟨h.1,h'⟩⟩
  ·rename_i t s hO;exact⟨_,h.2,λ O' ha K' h'=>by simp only[sn,hg O' ha,hO];exact⟨h.1,h'⟩⟩
  ·exact h.elim
 ·exact h.elim
inductive Eff where
 |cL
 |set (n:Nat) (b:ad)
 |push (b:ad)
def Eff.app:Eff->List ad->List ad
 | .cL,O=>O
 | .set n b,O=>O.set n b
 | .push b,O=>O++ [b]
def Fit:EK->Eff->List ad->Prop
 | .cL,.cL,_=>True
 | .set _,.cL,_=>True
 | .set n,.set m _,O=>m=n/\n<O.length
 | .push N,.push _,O=>O.length=N
 |_,_,_=>False
theorem agC{O:List ad}{n len:Nat}{t s b:Nat}{ys:List AV}{K:AV->List ad->Prop}(h:iu O (.row n len) t s b ys K):
  ∃r sU,Fit (.set n) sU O/\K r (sU.app O)/\∀O',O'[n]? =O[n]? ->∀K':AV->List ad->Prop,K' r (sU.app O')->iu O' (.row n len) t s b ys K':=by
 simp only[iu]at h
 split at h
 ·rename_i t' s' xs hO;obtain⟨h1,h2,h3,h4,h5,h6⟩:=h;exact⟨_,.set n _,⟨rfl,(List.getElem?_eq_some_iff.1 hO).1⟩,h6,λ O' ho K' h'=>by simp only[iu,ho,hO];exact⟨h1,h2,h3,h4,h5,h'⟩⟩
 ·rename_i t' s' hO;obtain⟨h1,h2,h3,h4,h5,h6,h7⟩:=h;by_cases hy:ys= []
  ·exact⟨_,.cL,trivial,h6 hy,λ O' ho K' h'=>by simp only[iu,ho,hO];exact⟨h1,h2,h3,h4,h5,λ _=>h',λ hn=>(hn hy).elim⟩⟩
  ·exact⟨_,.set n _,⟨rfl,(List.getElem?_eq_some_iff.1 hO).1⟩,h7 hy,λ O' ho K' h'=>by simp only[iu,ho,hO];exact⟨h1,h2,h3,h4,h5,λ hn=>(hy hn).elim,λ _=>h'⟩⟩
 ·exact h.elim
theorem yC{a:AV}{n:Nat}(h:refs a= [n]):(∃len,a= .row n len)∨(∃len i f,a= .ptr n len i f)∨a= .own n:=by
 cases a<;>simp[refs]at h
 ·subst h;exact .inl ⟨_,rfl⟩
 ·subst h;exact .inr (.inl ⟨_,_,_,rfl⟩)
 ·subst h;exact .inr (.inr rfl)
theorem akP{P:Program}{o:ez}{e:Env}{O:List ad}{K:AV->List ad->Prop}(hk:(cF o e O.length).k.isAny=false)(h:wpOp P o e O K):
  ∃x sU,Fit (cF o e O.length).k sU O/\(∀n,(cF o e O.length).k= .set n->n∈(cF o e O.length).rd)/\K x (sU.app O)/\
   ∀O',pq (cF o e O.length).rd O O'->((cF o e O.length).k.gy=true->O'.length=O.length)->Ex P o e O' x (sU.app O'):=by
 by_cases h0:o.cls=0
 ·have hl:cF o e O.length=⟨[],.cL⟩:=by cases o<;>first|(simp[ez.cls]at h0;done)|rfl
  obtain⟨x,h1,h2⟩:=ex0 h0 h;exact⟨x,.cL,by rw[hl];trivial,by rw[hl];simp,h1,λ O' _ _=>h2 O'⟩
 by_cases h1:o.cls=1
 ·have hl:(cF o e O.length).k= .cL:=by cases o<;>first|(simp[ez.cls]at h1;done)|rfl
  obtain⟨x,h2,h3⟩:=ex1 h1 h;exact⟨x,.cL,by rw[hl];trivial,by rw[hl];simp,h2,λ O' ha _=>h3 O' _ ha⟩
 by_cases h2:o.cls=2
 ·have hl:cF o e O.length=⟨[],.push O.length⟩:=by cases o<;>first|(simp[ez.cls]at h2;done)|rfl
  obtain⟨x,b,h3,h4⟩:=ex2 h2 h;exact⟨x,.push b,by rw[hl];exact rfl,by rw[hl];simp,h3,λ O' _ hp=>h4 O' (hp (by rw[hl];rfl))⟩
 cases o<;>first|(exact(h0 rfl).elim)|(exact(h1 rfl).elim)|(exact(h2 rfl).elim)|(simp[cF,lZ,EK.isAny]at hk;done)|skip
 case gG k t s z=>
  obtain⟨h1,h2,h3⟩:=h;exact⟨_,.set k _,⟨rfl,(List.getElem?_eq_some_iff.1 h2).1⟩,by simp[cF,lZ],h3,λ O' ha _ K' h'=>⟨h1,by rw[ha k (by simp[cF,lZ])];exact h2,h'⟩⟩
 case y4 k t s b z x y=>
  simp only[wpOp]at h
  split at h
  ·rename_i n c hx hy;obtain⟨h1,h2,h3,h4,h5,h6,h7⟩:=h;exact⟨_,.set k _,⟨rfl,(List.getElem?_eq_some_iff.1 h6).1⟩,by simp[cF,lZ],h7,λ O' ha _ K' h'=>by simp only[wpOp,hx,hy];exact⟨h1,h2,h3,h4,h5,by rw[ha k (by simp[cF,lZ])];exact h6,h'⟩⟩
  ·exact h.elim
 case m9 k t s x=>
  obtain⟨h0,h2,h3,h4,h5⟩:=h;exact⟨_,.set k _,⟨rfl,(List.getElem?_eq_some_iff.1 h2).1⟩,by simp[cF,lZ],h5,λ O' ha _ K' h'=>⟨h0,by rw[ha k (by simp[cF,lZ])];exact h2,h3,h4,h'⟩⟩
 case gF k t s len z ps=>
  obtain⟨h0,hp,h⟩:=h;obtain⟨xs,⟨h1,h2,h3⟩,h4⟩:=tn ps _ h;exact⟨_,.set k (.live t s xs),⟨rfl,(List.getElem?_eq_some_iff.1 h1).1⟩,by simp[cF,lZ],h3,λ O' ha _ K' h'=>⟨h0,hp,h4 (λ xs=>O'[k]? =some (.nil t s)/\xs≠[]/\K' (.row k len) (O'.set k (ad.live t s xs))) ⟨by rw[ha k (by simp[cF,lZ])];exact h1,h2,h'⟩⟩⟩
 case rR rd f as=>
  obtain⟨res,ob,h1,h2⟩:=h;exact⟨res,.push ob,rfl,by simp[cF,lZ],h2,λ O' ha hp K' h'=>⟨res,ob,λ nc hl hr=>h1 nc (hl.trans (hp rfl)) λ n hn=>(hr n hn).trans (ha n hn),h'⟩⟩
 case rS rd f as=>
  obtain⟨res,h1,h2⟩:=h;exact⟨res,.cL,trivial,by simp[cF,lZ],h2,λ O' ha _ K' h'=>⟨res,λ nc hr=>h1 nc λ n hn=>(hr n hn).trans (ha n hn),h'⟩⟩
 case jU gs f as=>
  simp only[cF,lZ]at hk⊢;obtain⟨n,a0,ob,r,ob',q1,q2,q3,q4,q5,q6,q7,q8,q9⟩:=h;simp only[q3];exact⟨r,.set n ob',⟨rfl,(List.getElem?_eq_some_iff.1 q4).1⟩,by simp,q9,λ O' ha _ K' h'=>⟨n,a0,ob,r,ob',q1,q2,q3,by rw[ha n (by simp)];exact q4,q5,q6,q7,q8,h'⟩⟩
 case store m x y=>
  simp only[cF,lZ]at hk⊢
  split at hk
  ·rename_i n hn;simp only[];rcases yC hn with⟨len,hx⟩|⟨len,i,f,hx⟩|hx;rotate_left 2
   ·simp only[wpOp,hx]at h
   ·simp only[wpOp,hx]at h
   ·simp only[wpOp,hx]at h
    split at h
    ·rename_i t s xs hO;obtain⟨q1,q2,q3,q4,q5,q6⟩:=h
     exact⟨_,.set n _,⟨rfl,(List.getElem?_eq_some_iff.1 hO).1⟩,by simp,q6,λ O' ha _ K' h'=>by
      simp only[wpOp,hx,ha n (by simp),hO];exact⟨q1,q2,q3,q4,q5,h'⟩⟩
    ·exact h.elim
  ·simp[EK.isAny]at hk
 case app t s b x y=>
  simp only[cF,lZ]at hk⊢
  split at hk
  ·rename_i n hn;simp only[];simp only[wpOp]at h;obtain⟨ys,⟨q0,q1⟩,q2⟩:=amt h;rcases yC hn with⟨len,hx⟩|⟨len,i,f,hx⟩|hx
   ·rw[hx]at q1;obtain⟨r,sU,q3,q4,q5⟩:=agC q1
    exact⟨r,sU,q3,by simp,q4,λ O' ha _ K' h'=>by
     simp only[wpOp,hx];exact q2 O' (λ m hm=>ha m (by simp[hm])) _ ⟨q0,q5 O' (ha n (by simp)) K' h'⟩⟩
   ·rw[hx]at q1;exact q1.elim
   ·rw[hx]at q1;exact q1.elim
  ·simp[EK.isAny]at hk
 case kN t s b x y=>
  simp only[cF,lZ]at hk⊢
  split at hk
  ·rename_i n hn;simp only[];simp only[wpOp]at h
   split at h
   ·rename_i sb hsb;obtain⟨q0,q1⟩:=h;rcases yC hn with⟨len,hx⟩|⟨len,i,f,hx⟩|hx
    ·rw[hx]at q1;obtain⟨r,sU,q3,q4,q5⟩:=agC q1
     exact⟨r,sU,q3,by simp,q4,λ O' ha _ K' h'=>by
      simp only[wpOp,hsb,hx];exact⟨q0,q5 O' (ha n (by simp)) K' h'⟩⟩
    ·rw[hx]at q1;exact q1.elim
    ·rw[hx]at q1;exact q1.elim
   ·exact h.elim
  ·simp[EK.isAny]at hk
end Go.Ab
namespace Go.Ab
inductive Step(P:Program)(o:aO)(e:Env)(O:List ad):Env->List ad->Prop
 |run (x:AV) (O':List ad):(∀t want,o.guard=some (t,want)->e t= .v (.bool want))->Ex P o.op e O x O'->Step P o e O (bO e o.dst x) O'
 |skip (t:Nat) (want:Bool):o.guard=some (t,want)->(e t= .v (.bool (!want))∨e t= .a9 [])->Step P o e O (bO e o.dst (.a9 [])) O
inductive Run(P:Program):List aO->Env->List ad->Env->List ad->Prop
 |nil (e:Env) (O:List ad):Run P [] e O e O
 |cons {o:aO} {l:List aO} {e e1 e2:Env} {O O1 O2:List ad}:Step P o e O e1 O1->Run P l e1 O1 e2 O2->Run P (o::l) e O e2 O2
theorem yq{e:Env}{t:Nat}{a:AV}(h:e t=a):e.set t a=e:=by
 funext k;unfold Env.set;split
 ·rename_i hk;subst hk;exact h.symm
 ·rfl
theorem jC{e:Env}{d d':Option Nat}{a b:AV}(h:d=none∨d≠d'):bO (bO e d a) d' b=bO (bO e d' b) d a:=by
 cases d<;>cases d'<;>simp only[bO]
 rename_i t t'
 have bn:t≠t':=by
  rcases h with h|h
  ·cases h
  ·intro he;exact h (by rw[he])
 funext k
 simp only[Env.set];by_cases h1:k=t
 ·subst h1;rw[if_neg bn,if_pos rfl,if_pos rfl]
 ·rw[if_neg h1,if_neg h1]
theorem po{l:List Nat}{e:Env}{d:Option Nat}{a:AV}(h:∀t,d=some t->t∉l):pE l (bO e d a) e:=by
 intro t ht;cases d with
 |none=>rfl
 |some d=>
  simp only[bO,Env.set];rw[if_neg];intro he;subst he;exact h _ rfl ht
theorem Ex.congr{P:Program}{o:ez}{e e':Env}{O O':List ad}{x:AV}(h:Ex P o e O x O')(ha:pE o.reads e' e):Ex P o e' O x O':=by
 intro K hk;rw[agZ ha];exact h K hk
inductive oF(P:Program)(o:aO)(l:iw)(e:Env)(O:List ad):Env->List ad->Prop
 |any (x:AV) (O':List ad):l.k.isAny=true->(∀n∈l.k.keeps,O'[n]? =O[n]?)->(∀t want,o.guard=some (t,want)->e t= .v (.bool want))->Ex P o.op e O x O'->oF P o l e O (bO e o.dst x) O'
 |lab (x:AV) (sU:Eff):l.k.isAny=false->Fit l.k sU O->(∀n,l.k= .set n->n∈l.rd)->(∀t want,o.guard=some (t,want)->e t= .v (.bool want))->
  (∀O',pq l.rd O O'->(l.k.gy=true->O'.length=O.length)->Ex P o.op e O' x (sU.app O'))->oF P o l e O (bO e o.dst x) (sU.app O)
 |skip (t:Nat) (want:Bool):o.guard=some (t,want)->(e t= .v (.bool (!want))∨e t= .a9 [])->oF P o l e O (bO e o.dst (.a9 [])) O
theorem oF.step{P:Program}{o:aO}{l:iw}{e e':Env}{O O':List ad}(h:oF P o l e O e' O'):Step P o e O e' O':=by
 cases h with
 |any x _ _ _ hg hx=>exact .run x _ hg hx
 |lab x sU _ _ _ hg hx=>exact .run x _ hg (hx O (λ _ _=>rfl) λ _=>rfl)
 |skip t want hg hb=>exact .skip t want hg hb
inductive xp(P:Program):List (aO×iw)->Env->List ad->Env->List ad->Prop
 |nil (e:Env) (O:List ad):xp P [] e O e O
 |cons {o:aO×iw} {l:List (aO×iw)} {e e1 e2:Env} {O O1 O2:List ad}:oF P o.1 o.2 e O e1 O1->xp P l e1 O1 e2 O2->xp P (o::l) e O e2 O2
theorem xp.run{P:Program}{l:List (aO×iw)}{e e':Env}{O O':List ad}(h:xp P l e O e' O'):Run P (l.map (·.1)) e O e' O':=by
 induction h with
 |nil=>exact .nil _ _
 |cons hs _ ih=>exact .cons hs.step ih
theorem aeD{P:Program}{o:aO}{e:Env}{O:List ad}{K:AV->List ad->Prop}(hg:∀t want,o.guard=some (t,want)->e t= .v (.bool want))(h:wpOp P o.op e O K):
  ∃x O',K x O'/\oF P o (cF o.op e O.length) e O (bO e o.dst x) O':=by
 cases hk:(cF o.op e O.length).k.isAny with
 |true=>
  obtain⟨x,O',h1,h2,h3⟩:=avX h;exact⟨x,O',h1,.any x O' hk h3 hg h2⟩
 |false=>
  obtain⟨x,sU,h1,h2,h3,h4⟩:=akP hk h;exact⟨x,_,h3,.lab x sU hk h1 h2 hg h4⟩
theorem mH{P:Program}:∀(l:List aO) {acc:List iw} {e:Env} {O:List ad} {K:List iw->Env->List ad->Prop},cC P l acc e O K->∃iD e' O',iD.length=l.length/\xp P (l.zip iD) e O e' O'/\K (acc++iD) e' O'
 | [],acc,e,O,K,h=>⟨[],e,O,rfl,.nil e O,by rw[List.append_nil];exact h⟩
 |o::l,acc,e,O,K,h=>by
  simp only[cC]at h;cases hg:o.guard with
  |none=>
   rw[hg]at h;obtain⟨x,O',h1,h2⟩:=aeD (λ t want h=>by rw[hg]at h;cases h) h;obtain⟨iD,e2,O2,h0,h3,h4⟩:=mH l h1;exact⟨cF o.op e O.length::iD,e2,O2,by simp[h0],.cons h2 h3,by rw[append_assoc]at h4;exact h4⟩
  |some g=>
   obtain⟨t,want⟩:=g;rw[hg]at h;simp only at h
   split at h
   ·rename_i b hb;by_cases me:b=want
    ·have hs:e.set t (.v (.bool want))=e:=yq (by rw[hb,me]);rw[hs]at h;obtain⟨x,O',h1,h2⟩:=aeD (λ t' lJ h=>by rw[hg]at h;cases h;rw[hb,me]) (h.1 me);obtain⟨iD,e2,O2,h0,h3,h4⟩:=mH l h1;exact⟨cF o.op e O.length::iD,e2,O2,by simp[h0],.cons h2 h3,by rw[append_assoc]at h4;exact h4⟩
    ·have lG:b= !want:=by cases b<;>cases want<;>simp_all
     have hs:e.set t (.v (.bool (!want)))=e:=yq (by rw[hb,lG]);rw[hs]at h;obtain⟨iD,e2,O2,h0,h3,h4⟩:=mH l (h.2 lG);exact⟨⟨[],.cL⟩::iD,e2,O2,by simp[h0],.cons (.skip t want hg (.inl (by rw[hb,lG]))) h3,by rw[append_assoc]at h4;exact h4⟩
   ·rename_i hb;obtain⟨iD,e2,O2,h0,h3,h4⟩:=mH l h;exact⟨⟨[],.cL⟩::iD,e2,O2,by simp[h0],.cons (.skip t want hg (.inr hb)) h3,by rw[append_assoc]at h4;exact h4⟩
   ·exact h.elim
theorem ahX{p i:aO×iw}(h:mS p i=true):
  (∀t,p.1.dst=some t->t∉i.1.reads)/\(p.1.dst=none∨p.1.dst≠i.1.dst)/\(∀t,i.1.dst=some t->t∉p.1.reads)/\uP p.2 i.2=true:=by
 unfold mS at h;simp only[and_eq_true]at h;obtain⟨⟨h1,h2⟩,h3⟩:=h;refine⟨λ t ht=> ?_,?_,λ t ht=> ?_,h3⟩
 ·rw[ht]at h1;simp at h1;exact h1.1
 ·cases hp:p.1.dst with
  |none=>exact .inl rfl
  |some t=>rw[hp]at h1;simp at h1;exact .inr λ he=>h1.2 he.symm
 ·rw[ht]at h2;simpa using h2
theorem aeX{kp:List Nat}{l:iw}(h:l.pure kp=true):(∀n∈l.rd,n∈kp)/\l.k= .cL:=by
 unfold iw.pure at h;simp only[and_eq_true,all_eq_true]at h;refine⟨λ n hn=>by simpa using h.1 n hn,?_⟩;have:=h.2
 split at this
 ·assumption
 ·cases this
theorem acj{k:EK}{sU:Eff}{O:List ad}(hf:Fit k sU O){rd:List Nat}(h:k.qq rd=false):pq rd O (sU.app O):=by
 intro n hn;cases k<;>cases sU<;>simp only[Fit]at hf<;>simp only[EK.qq]at h<;>simp only[Eff.app]
 ·rename_i k m b;obtain⟨rfl,aF⟩:=hf;have:n≠m:=by rintro rfl;simp at h;exact h hn
  rw[getElem?_set_ne (λ he=>this he.symm)]
 ·rename_i N b;have:n≠N:=by rintro rfl;simp at h;exact h hn
  by_cases aF:n<O.length
  ·rw[getElem?_append_left aF]
  ·rw[List.getElem?_eq_none (l:=O++ [b]) (by simp;omega),List.getElem?_eq_none (by omega)]
theorem ajD{k:EK}{sU:Eff}{O:List ad}(hf:Fit k sU O)(h:k.gy=false):∀O':List ad,(sU.app O').length=O'.length:=by
 intro O';cases k<;>cases sU<;>simp only[Fit]at hf<;>simp[Eff.app]
 simp[EK.gy]at h
theorem aoY{kp ki:EK}{p i:Eff}{O:List ad}(hp:Fit kp p O)(hi:Fit ki i (p.app O))(ayD:(kp.gy&&ki.gy)=false)(o5:∀n m,kp= .set n->ki= .set m->n≠m)(hps:∀n m,kp= .push n->ki= .set m->n≠m):
  Fit ki i O/\Fit kp p (i.app O)/\i.app (p.app O)=p.app (i.app O):=by
 cases kp<;>cases p<;>simp only[Fit]at hp<;>cases ki<;>cases i<;>simp only[Fit]at hi<;>simp only[Fit,Eff.app,true_and,and_true]<;>(try simp only[Eff.app]at hi)<;>try trivial
 case set.set.set.set n _ b m _ c=>
  obtain⟨rfl,h1⟩:=hp;obtain⟨rfl,h2⟩:=hi;have:=o5 _ _ rfl rfl;refine⟨⟨rfl,by simpa using h2⟩,⟨rfl,by simpa using h1⟩,List.set_comm _ _ (λ he=>this he)⟩
 case set.set.push.push n _ b m c=>
  obtain⟨rfl,h1⟩:=hp;refine⟨by simpa using hi,⟨rfl,by simp;omega⟩,?_⟩;rw[List.set_append_left _ _ h1]
 case push.push.set.set=>
  obtain⟨rfl,h2⟩:=hi;have:=hps _ _ rfl rfl;have aF:_<O.length:=Nat.lt_of_le_of_ne (by simp at h2;omega) (λ he=>this (hp.symm.trans he.symm));refine⟨⟨rfl,aF⟩,by simpa using hp,?_⟩;rw[List.set_append_left _ _ aF]
 all_goals simp[EK.gy]at ayD
theorem ag9{P:Program}{p i:aO×iw}(hd:mS p i=true){e e1 e2:Env}{O O1 O2:List ad}(h1:oF P p.1 p.2 e O e1 O1)(h2:oF P i.1 i.2 e1 O1 e2 O2):
  ∃e1' nj,oF P i.1 i.2 e O e1' nj/\oF P p.1 p.2 e1' nj e2 O2:=by
 obtain⟨p,lp⟩:=p;obtain⟨i,li⟩:=i;obtain⟨d1,d2,d3,d4⟩:=ahX hd;simp only at d1 d2 d3 d4 h1 h2⊢
 have gi:∀{t want a},i.guard=some (t,want)->bO e p.dst a t=e t:=by
  intro t want a hg;exact po (l:=i.reads) d1 t (by simp[aO.reads,hg])
 have gp:∀{t want} {e':Env} {a},p.guard=some (t,want)->bO e' i.dst a t=e' t:=by
  intro t want e' a hg;exact po (l:=p.reads) d3 t (by simp[aO.reads,hg])
 have ri:∀{a},pE i.op.reads e (bO e p.dst a):=λ {a} t ht=>(po (l:=i.reads) d1 t (by simp[aO.reads,ht])).symm
 have rp:∀{e' a},pE p.op.reads (bO e' i.dst a) e':=λ {e' a} t ht=>po (l:=p.reads) d3 t (by simp[aO.reads,ht])
 have afC:(lp.k.isAny=true/\li.pure lp.k.keeps=true)∨(lp.k.isAny=false/\li.k.isAny=true/\lp.pure li.k.keeps=true)∨(lp.k.isAny=false/\li.k.isAny=false/\lp.k.qq li.rd=false/\li.k.qq lp.rd=false/\(lp.k.gy&&li.k.gy)=false):=by
  unfold uP at d4
  split at d4
  ·rename_i h;exact .inl ⟨h,d4⟩
  ·rename_i h
   split at d4
   ·rename_i h';exact .inr (.inl ⟨by simpa using h,h',d4⟩)
   ·rename_i h';simp only[and_eq_true,Bool.not_eq_true']at d4;exact .inr (.inr ⟨by simpa using h,by simpa using h',d4.1.1,d4.1.2,d4.2⟩)
 cases h1 with
 |skip t want hg hb=>
  have hp':∀{e':Env} {O':List ad} {y:AV},e'=bO e i.dst y->oF P p lp e' O' (bO e' p.dst (.a9 [])) O':=by
   rintro e' O' y rfl;exact .skip t want hg (by rw[gp hg];exact hb)
  cases h2 with
  |skip t' lJ oz lP=>
   rw[gi oz]at lP;refine⟨_,_,.skip t' lJ oz lP,?_⟩;rw[jC d2];exact hp' rfl
  |any y _ ha hkp hq hy=>
   refine⟨_,_,.any y O2 ha hkp (λ t' lJ oz=>by rw[←gi oz];exact hq t' lJ oz) (hy.congr ri),?_⟩;rw[jC d2];exact hp' rfl
  |lab y sU ha hf hm hq hy=>
   refine⟨_,_,.lab y sU ha hf hm (λ t' lJ oz=>by rw[←gi oz];exact hq t' lJ oz) (λ O' h1 h2=>(hy O' h1 h2).congr ri),?_⟩;rw[jC d2];exact hp' rfl
 |any x _ hap hkp hqp hx=>
  have hp':∀{e':Env} {y:AV},e'=bO e i.dst y->oF P p lp e' O (bO e' p.dst x) O1:=by
   rintro e' y rfl;exact .any x O1 hap hkp (λ t want hg=>by rw[gp hg];exact hqp t want hg) (hx.congr rp)
  have hpu:li.pure lp.k.keeps=true:=by
   rcases afC with⟨_,h⟩|⟨h,_⟩|⟨h,_⟩
   ·exact h
   ·rw[hap]at h;cases h
   ·rw[hap]at h;cases h
  obtain⟨hrd,eK⟩:=aeX hpu;cases h2 with
  |skip t' lJ oz lP=>
   rw[gi oz]at lP;refine⟨_,_,.skip t' lJ oz lP,?_⟩;rw[jC d2];exact hp' rfl
  |any y _ ha _ hq hy=>rw[eK]at ha;cases ha
  |lab y sU ha hf hm hq hy=>
   have he:sU= .cL:=by rw[eK]at hf;cases sU<;>simp[Fit]at hf;rfl
   subst he;refine⟨_,_,.lab y .cL ha (by rw[eK];trivial) hm (λ t' lJ oz=>by rw[←gi oz];exact hq t' lJ oz) (λ O' h1 h2=>(hy O' (λ n hn=>(h1 n hn).trans (hkp n (hrd n hn)).symm) (by rw[eK];simp[EK.gy])).congr ri),?_⟩;rw[jC d2];exact hp' rfl
 |lab x ar3 hap hfp hmp hqp hx=>
  cases h2 with
  |skip t' lJ oz lP=>
   rw[gi oz]at lP;refine⟨_,_,.skip t' lJ oz lP,?_⟩;rw[jC d2];exact .lab x ar3 hap hfp hmp (λ t want hg=>by rw[gp hg];exact hqp t want hg) (λ O' h1 h2=>(hx O' h1 h2).congr rp)
  |any y _ ha hkp hq hy=>
   have hpu:lp.pure li.k.keeps=true:=by
    rcases afC with⟨h,_⟩|⟨_,_,h⟩|⟨_,h,_⟩
    ·rw[hap]at h;cases h
    ·exact h
    ·rw[ha]at h;cases h
   obtain⟨hrd,eK⟩:=aeX hpu;have he:ar3= .cL:=by rw[eK]at hfp;cases ar3<;>simp[Fit]at hfp;rfl
   subst he;refine⟨_,_,.any y O2 ha hkp (λ t' lJ oz=>by rw[←gi oz];exact hq t' lJ oz) (hy.congr ri),?_⟩;rw[jC d2];exact .lab x .cL hap (by rw[eK];trivial) hmp (λ t want hg=>by rw[gp hg];exact hqp t want hg) (λ O' h1 h2=>(hx O' (λ n hn=>(h1 n hn).trans (hkp n (hrd n hn))) (by rw[eK];simp[EK.gy])).congr rp)
  |lab y aCY ha hf hm hq hy=>
   have hh:lp.k.qq li.rd=false/\li.k.qq lp.rd=false/\(lp.k.gy&&li.k.gy)=false:=by
    rcases afC with⟨h,_⟩|⟨_,h,_⟩|⟨_,_,h⟩
    ·rw[hap]at h;cases h
    ·rw[ha]at h;cases h
    ·exact h
   obtain⟨hh1,hh2,hh3⟩:=hh
   have o5:∀n m,lp.k= .set n->li.k= .set m->n≠m:=by
    rintro n m hn xB rfl;have:=hm n xB;rw[hn]at hh1;simp[EK.qq]at hh1;exact hh1 this
   have hps:∀n m,lp.k= .push n->li.k= .set m->n≠m:=by
    rintro n m hn xB rfl;have:=hm n xB;rw[hn]at hh1;simp[EK.qq]at hh1;exact hh1 this
   obtain⟨c1,c2,c3⟩:=aoY hfp hf hh3 o5 hps;have a1:=acj hfp hh1;have a2:=acj c1 hh2;refine⟨_,_,.lab y aCY ha c1 hm (λ t' lJ oz=>by rw[←gi oz];exact hq t' lJ oz) (λ O' h1 h2=>(hy O' (λ n hn=>(h1 n hn).trans (a1 n hn).symm) λ hpu=> ?_).congr ri),?_⟩
   ·rw[h2 hpu,ajD hfp (by cases hlp:lp.k.gy with|false=>rfl|true=>rw[hlp,hpu]at hh3;cases hh3)]
   ·rw[jC d2,c3];refine .lab x ar3 hap c2 hmp (λ t want hg=>by rw[gp hg];exact hqp t want hg) (λ O' h1 h2=>(hx O' (λ n hn=>(h1 n hn).trans (a2 n hn)) λ hpu=> ?_).congr rp);rw[h2 hpu,ajD c1 (by cases hli:li.k.gy with|false=>rfl|true=>rw[hli,hpu]at hh3;cases hh3)]
theorem yv{P:Program}{i:aO×iw}{post:List (aO×iw)}:∀(pre:List (aO×iw)),(∀p∈pre,mS p i=true)->∀{e e2:Env} {O O2:List ad},xp P (pre++i::post) e O e2 O2->xp P (i::(pre++post)) e O e2 O2
 | [],_,_,_,_,_,h=>h
 |p::pre,hp,e,e2,O,O2,h=>by
  cases h with
  |cons hs hr=>
   have:=yv pre (λ q hq=>hp q (by simp[hq])) hr;cases this with
   |cons hi ou=>
    obtain⟨e1',nj,s1,s2⟩:=ag9 (hp p (by simp)) hs hi;exact .cons s1 (.cons s2 ou)
end Go.Ab
namespace Go.Ab
theorem qF(rows:List (List Nat))(n:Nat):(xk rows n).length=n:=by
 induction n with
 |zero=>rfl
 |succ n ih=>simp[xk,ih]
theorem aai(rows:List (List Nat)){i n:Nat}(h:i<n):(xk rows n).getD i 0=(rows.getD i []).foldl (λ s j=>s|||(2^j|||(xk rows i).getD j 0)) 0:=by
 induction n with
 |zero=>omega
 |succ n ih=>
  simp only[xk];by_cases hi:i<n
  ·rw[List.getD,getElem?_append_left (by rw[qF];exact hi)];exact ih hi
  ·obtain rfl:i=n:=by omega
   rw[List.getD,getElem?_append_right (by rw[qF];exact le_refl _)];simp[qF]
theorem af3(rows:List (List Nat)){i n m:Nat}(h:i<n)(h':i<m):(xk rows n).getD i 0=(xk rows m).getD i 0:=by
 rw[aai rows h,aai rows h']
theorem tc(f:Nat->Nat)(p:Nat):∀(l:List Nat) (s:Nat),(l.foldl (λ s j=>s|||(2^j|||f j)) s).testBit p=true->s.testBit p=true∨∃j∈l,p=j∨(f j).testBit p=true
 | [],s,h=> .inl h
 |j::l,s,h=>by
  rcases tc f p l _ h with h1|⟨k,hk,h1⟩
  ·rw[Nat.testBit_or,Nat.testBit_or]at h1;simp only[or_eq_true]at h1;rcases h1 with h1|h1|h1
   ·exact .inl h1
   ·rw[Nat.testBit_two_pow]at h1;exact .inr ⟨j,by simp,.inl (by simpa using(of_decide_eq_true h1).symm)⟩
   ·exact .inr ⟨j,by simp,.inr h1⟩
  ·exact .inr ⟨k,by simp[hk],h1⟩
theorem av7{rows:List (List Nat)}{n:Nat}{S:Nat->Prop}(ayw:∀i,i<n->∀d∈rows.getD i [],d<i)(hS:∀j,j<n->S j->∀d∈rows.getD j [],S d):
  ∀i,i<n->(∀d∈rows.getD i [],S d)->∀p,((xk rows n).getD i 0).testBit p=true->S p:=by
 intro i
 induction i using Nat.strongRecOn with
 |_ i ih=>
  intro hi hd p hp;rw[aai rows hi]at hp;rcases tc _ p _ _ hp with h|⟨j,hj,h⟩
  ·simp at h
  ·have rV:=ayw i hi j hj;rcases h with rfl|h
   ·exact hd p hj
   ·exact ih j rV (by omega) (hS j (by omega) (hd j hj)) p (by rw[af3 rows (show j<n by omega) rV];exact h)
section
variable {P:Program} {ops:Array Oper} {al:List (aO×iw)}
theorem aeL{i:Nat}{o:Oper}(h:ops[i]? =some o):(rowsOf ops).getD i []=(o.after.toList.filter (Region.binds .any)).map (·.on):=by
 have:ops.toList[i]? =some o:=by simpa using h
 simp[rowsOf,List.getD,this]
theorem avG(hlen:al.length=ops.size)(kV:iF (rowsOf ops) al=true){e2:Env}{O2:List ad}:
  ∀(fuel t:Nat) (gX:Array Bool) (acc rem:List Nat) (e:Env) (O:List ad),gX.size=ops.size->rem.length<=fuel->rem.Pairwise (·<·)->(∀j,j∈rem↔j<ops.size/\gX.getD j true=false)->
   (∀j,j<ops.size->gX.getD j true=true->∀d∈(rowsOf ops).getD j [],gX.getD d true=true)->
   xp P (rem.map λ i=>al.getD i (⟨none,none,.aA (.c .top)⟩,⟨[],.any⟩)) e O e2 O2->
   ∃l,Region.linearise.go .any ops fuel t gX acc=acc.reverse++l/\xp P (l.map λ i=>al.getD i (⟨none,none,.aA (.c .top)⟩,⟨[],.any⟩)) e O e2 O2/\∀i∈l,i<ops.size:=by
 have au9:∀i,i<ops.size->(∀d∈(rowsOf ops).getD i [],d<i)/\∀p,p<i->((xk (rowsOf ops) ops.size).getD i 0).testBit p=true∨mS (al.getD p (⟨none,none,.aA (.c .top)⟩,⟨[],.any⟩)) (al.getD i (⟨none,none,.aA (.c .top)⟩,⟨[],.any⟩))=true:=by
  intro i hi;unfold iF at kV;simp only[all_eq_true,List.mem_range,and_eq_true,or_eq_true,decide_eq_true_eq,hlen]at kV;obtain⟨h1,h2⟩:=kV i hi;refine⟨h1,λ p hp=> ?_⟩;rcases h2 p hp with h|h
  ·exact .inl h
  ·refine .inr ?_;have e1:al[p]? =some (al.getD p (⟨none,none,.aA (.c .top)⟩,⟨[],.any⟩)):=by simp[List.getD,show p<al.length by omega]
   have e2:al[i]? =some (al.getD i (⟨none,none,.aA (.c .top)⟩,⟨[],.any⟩)):=by simp[List.getD,show i<al.length by omega]
   rw[e1,e2]at h;exact h
 intro fuel
 induction fuel with
 |zero=>
  intro t gX acc rem e O qp hf hpw j2 mu hr;obtain rfl:rem= []:=List.eq_nil_of_length_eq_zero (by omega);exact⟨[],by simp[Region.linearise.go],hr,by simp⟩
 |succ fuel ih=>
  intro t gX acc rem e O qp hf hpw j2 mu hr;simp only[Region.linearise.go];generalize hrs:(List.range ops.size).filter (λ i=> !gX.getD i true&&((ops[i]?).map (·.after.all λ e=> !Region.binds .any e||gX.getD e.on false)).getD false)=rs;cases hg:rs[t%rs.length]? with
  |none=>
   have avp:rs= []:=by
    by_cases h0:rs.length=0
    ·exact List.eq_nil_of_length_eq_zero h0
    ·have:=Nat.mod_lt t (Nat.pos_of_ne_zero h0);rw[List.getElem?_eq_getElem this]at hg;cases hg
   have aBH:rem= []:=by
    cases rem with
    |nil=>rfl
    |cons i r=>
     exfalso;obtain⟨hi,hli⟩:=(j2 i).1 (by simp)
     have aBT:∀d,d<i->gX.getD d true=true:=by
      intro d hdi;cases hld:gX.getD d true with
      |true=>rfl
      |false=>
       have hm:=(j2 d).2 ⟨by omega,hld⟩;rcases List.mem_cons.1 hm with rfl|hm
       ·omega
       ·have:=List.rel_of_pairwise_cons hpw hm;omega
     have:i∈rs:=by
      rw[←hrs,List.mem_filter];refine⟨List.mem_range.2 hi,?_⟩;have ho:ops[i]? =some ops[i]:=by simp[hi]
      simp only[hli,Bool.not_false,Bool.true_and,ho,map_some,getD_some,Array.all_eq_true,or_eq_true];intro j hj;by_cases hbj:Region.binds .any (ops[i].after[j])=true;rotate_left
      ·exact .inl (by simpa using hbj)
      refine .inr ?_;have hdi:(ops[i].after[j]).on<i:=(au9 i hi).1 _ (by rw[aeL ho];exact List.mem_map.2 ⟨_,List.mem_filter.2 ⟨Array.getElem_mem_toList hj,hbj⟩,rfl⟩);have:=aBT _ hdi;have aF:(ops[i].after[j]).on<gX.size:=by omega
      simp[Array.getD,aF]at this⊢;exact this
     rw[avp]at this;cases this
   subst aBH;exact⟨[],by simp,hr,by simp⟩
  |some i=>
   have hmi:i∈rs:=mem_of_getElem? hg;rw[←hrs,List.mem_filter]at hmi;obtain⟨hi,as2⟩:=hmi;have hi:i<ops.size:=List.mem_range.1 hi;have ho:ops[i]? =some ops[i]:=by simp[hi]
   simp only[ho,map_some,getD_some,and_eq_true,Bool.not_eq_true',Array.all_eq_true,or_eq_true]at as2;obtain⟨hli,mf⟩:=as2
   have as9:∀d∈(rowsOf ops).getD i [],gX.getD d true=true:=by
    intro d hdm;rw[aeL ho]at hdm;obtain⟨ed,aCh,rfl⟩:=List.mem_map.1 hdm;obtain⟨hed,hbe⟩:=List.mem_filter.1 aCh;obtain⟨j,hj⟩:=getElem?_of_mem hed;obtain⟨hjl,hje⟩:=List.getElem?_eq_some_iff.1 hj;have aB6:j<ops[i].after.size:=by simpa using hjl
    have ayW:ops[i].after[j]=ed:=by simpa using hje
    rcases mf j aB6 with h|h
    ·rw[ayW,hbe]at h;simp at h
    ·rw[ayW]at h;by_cases aF:ed.on<gX.size
     ·simp[Array.getD,aF]at h⊢;exact h
     ·simp[Array.getD,aF]at h
   have ay0:i∈rem:=(j2 i).2 ⟨hi,hli⟩;obtain⟨pre,post,rfl⟩:=List.append_of_mem ay0;have an9:=List.pairwise_append.1 hpw;have aic:∀p∈pre,p<i:=λ p hp=>an9.2.2 p hp i (by simp)
   have ayE:∀p∈post,i<p:=λ p hp=>List.rel_of_pairwise_cons an9.2.1 hp
   have avl:=yv (P:=P) (i:=al.getD i (⟨none,none,.aA (.c .top)⟩,⟨[],.any⟩)) (post:=post.map λ i=>al.getD i (⟨none,none,.aA (.c .top)⟩,⟨[],.any⟩)) (pre.map λ i=>al.getD i (⟨none,none,.aA (.c .top)⟩,⟨[],.any⟩)) (by
    intro q hq;obtain⟨p,hp,rfl⟩:=List.mem_map.1 hq;rcases(au9 i hi).2 p (aic p hp)with h|h
    ·exfalso;have:=av7 (S:=λ j=>gX.getD j true=true) (λ j hj=>(au9 j hj).1) mu i hi as9 p h;have hpm:=((j2 p).1 (by simp[hp])).2;rw[hpm]at this;cases this
    ·exact h) (by simpa using hr)
   cases avl with
   |cons hs afB=>
    have bn:∀j,j∈pre++post->j≠i:=by
     intro j hj he;subst he;rcases List.mem_append.1 hj with h|h
     ·have:=aic j h;omega
     ·have:=ayE j h;omega
    have o5:∀j,(gX.setIfInBounds i true).getD j true=if j=i then true else gX.getD j true:=by
     intro j;simp only[Array.getD_eq_getD_getElem?,Array.getElem?_setIfInBounds];by_cases rV:i=j
     ·subst rV;simp[qp,hi]
     ·rw[if_neg rV,if_neg (λ h=>rV h.symm)]
    obtain⟨l,h1,h2,h3⟩:=ih (t/rs.length) (gX.setIfInBounds i true) (i::acc) (pre++post) _ _ (by simp[qp]) (by simp at hf⊢;omega)
     (List.pairwise_append.2 ⟨an9.1,(List.pairwise_cons.1 an9.2.1).2,λ x hx y hy=>an9.2.2 x hx y (by simp[hy])⟩)
     (by
      intro j;rw[o5];constructor
      ·intro hj;rw[if_neg (bn j hj)];exact(j2 j).1 (by rcases List.mem_append.1 hj with h|h<;>simp[h])
      ·rintro⟨hj1,hj2⟩;by_cases rV:j=i
       ·rw[if_pos rV]at hj2;cases hj2
       ·rw[if_neg rV]at hj2;have:=(j2 j).2 ⟨hj1,hj2⟩;simp only[mem_append,List.mem_cons]at this⊢;rcases this with h|h|h
        ·exact .inl h
        ·exact(rV h).elim
        ·exact .inr h)
     (by
      intro j hj hlj d hd;rw[o5]at hlj⊢
      split
      ·rfl
      ·by_cases rV:j=i
       ·subst rV;exact as9 d hd
       ·rw[if_neg rV]at hlj;exact mu j hj hlj d hd)
     (by simpa using afB)
    refine⟨i::l,by simp[h1],?_,λ j hj=> ?_⟩
    ·exact .cons hs h2
    ·rcases List.mem_cons.1 hj with rfl|h
     ·exact hi
     ·exact h3 j h
theorem ac2{mixed:Bool}(hd:Region.departs ops=false∨mixed=true)(hlen:al.length=ops.size)(kV:iF (rowsOf ops) al=true){e e2:Env}{O O2:List ad}(hr:xp P al e O e2 O2)(t:Nat):
  xp P ((Region.schedule mixed ops t).map λ i=>al.getD i (⟨none,none,.aA (.c .top)⟩,⟨[],.any⟩)) e O e2 O2/\∀i∈Region.schedule mixed ops t,i<ops.size:=by
 have hs:Region.schedule mixed ops t=Region.linearise .any ops t:=by rcases hd with hd|hd<;>simp[Region.schedule,hd]
 rw[hs]
 have mf:(List.range ops.size).map (λ i=>al.getD i (⟨none,none,.aA (.c .top)⟩,⟨[],.any⟩))=al:=by
  apply List.ext_getElem
  ·simp[hlen]
  ·intro i h1 h2;simp[List.getD,h2]
 obtain⟨l,h1,h2,h3⟩:=avG (P:=P) hlen kV ops.size t (Array.replicate ops.size false) [] (List.range ops.size) e O (by simp) (by simp) List.pairwise_lt_range
  (λ j=>by
   rw[List.mem_range];constructor
   ·intro h;exact⟨h,by simp[Array.getD,h]⟩
   ·exact λ h=>h.1)
  (λ j hj h=>by simp[Array.getD,hj]at h)
  (by rw[mf];exact hr)
 simp only[Region.linearise];rw[h1];simpa using⟨h2,h3⟩
end
end Go.Ab
