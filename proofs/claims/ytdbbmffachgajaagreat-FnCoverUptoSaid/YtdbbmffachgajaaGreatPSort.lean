/-
  SORTING AND COMPACTING WHAT IS ONE'S OWN: the library's contracts (PShelf), as contracts of calls that reach a row.
-/
import Derived.Test.YtdbbmffachgajaaGreatPShelf
import Derived.Test.YtdbbmffachgajaaGreatST
import Derived.Test.YtdbbmffachgajaaGreatGM
import Derived.Test.YtdbbmffachgajaaGreatCovA
import Derived.Lib.SlicesCompact
import Derived.Lib.RowBridge
set_option maxRecDepth 100000
open List(length_map getElem?_map getElem?_eq_getElem)
set_option linter.unusedVariables false
set_option linter.unusedSimpArgs false
namespace Go.Ab
open Go.Sort
section
variable {w:World} {bO:Nat} {c:Array Value} {e:TypeId} {m:Nat×Nat} {enc:Int->Value} {d:Array Int}
theorem abx(h:w.heap[bO]? =some (.cells c e m)):(putRow enc w bO 0 d).heap[bO]? =some (.cells (putCells enc 0 d c) e m):=by
 simp[putRow,mapBlock,Array.getElem?_modify,h,onCells]
theorem yE{b:Nat}(hb:b≠bO):(putRow enc w bO 0 d).heap[b]? =w.heap[b]? :=by
 simp[putRow,mapBlock,Array.getElem?_modify,Ne.symm hb]
theorem abw:(putRow enc w bO 0 d).heap.size=w.heap.size:=by
 simp[putRow,mapBlock]
theorem ai5{os:Array Obj}{b:Nat}(hb:b<w.heap.size):(grow w os).heap[b]? =w.heap[b]? :=by
 simp[grow,Array.getElem?_append,hb]
theorem wL:(putCells enc 0 d c).size=c.size:=by simp[putCells]
theorem aka{j:Nat}(hj:j<d.size)(hc:j<c.size):(putCells enc 0 d c)[j]? =some (enc d[j]!):=by
 simp[putCells,hc,hj]
end
section
variable {I:eW} {L:Nat->Loc} {O:List aj} {w:World} {l:Loc} {e:TypeId} {zs:List Int}
theorem tX.holds(h:tX I L O w l e 1 (zs.map λ z=> .v (.int .i64 z))):Holds (Value.int .i64) w l.bO 0 zs.toArray:=by
 obtain⟨c,⟨m,h1,hm⟩,h2,h3,h4,h5,h6⟩:=h;intro j hj;have hj':j<zs.length:=by simpa using hj
 rw[length_map]at h3;obtain⟨q1,q2⟩:=h6 j (.v (.int .i64 zs[j])) (by rw[getElem?_map,getElem?_eq_getElem hj'];rfl);obtain⟨y,q3,_,q4⟩:=q2 0 (.v (.int .i64 zs[j])) rfl;have hy:y= .int .i64 zs[j]:=by cases q4;rfl
 have hcs:j<c.size:=by omega
 refine⟨?_,?_⟩
 ·simp only[World.cell?,h1,Nat.zero_add];rw[show j*1+0=j by omega]at q3;rw[q3,hy,List.getElem!_toArray,getElem!_pos zs j hj']
  rfl
 ·simp only[World.frozen?,h1,Nat.zero_add];exact hm.free hcs
theorem tX.bG(h:tX I L O w l e 1 (zs.map λ z=> .v (.int .i64 z))){ys:List Int}(hl:ys.length=zs.length){I':eW}{L':Nat->Loc}{O':List aj}{w':World}
  (hw:∀c m,w.heap[l.bO]? =some (.cells c e m)->w'.heap[l.bO]? =some (.cells (putCells (Value.int .i64) 0 ys.toArray c) e m)):tX I' L' O' w' l e 1 (ys.map λ z=> .v (.int .i64 z)):=by
 obtain⟨c,⟨m,h1,hm⟩,h2,h3,h4,h5,h6⟩:=h;rw[length_map]at h3;refine⟨_,⟨m,hw c m h1,hm.size wL⟩,by rw[wL,h2],by rw[length_map,hl];exact h3,h4,h5,λ i x hx=> ?_⟩;rw[getElem?_map]at hx;obtain⟨z,hz,rfl⟩:=Option.map_eq_some_iff.1 hx;have hi:i<ys.length:=(List.getElem?_eq_some_iff.1 hz).1;refine⟨rfl,λ j a ha=> ?_⟩;cases j with
 |succ j=>simp[AV.cells]at ha
 |zero=>
  simp only[AV.cells,List.getElem?_cons_zero,Option.some.injEq]at ha;subst ha;refine⟨.int .i64 z,?_,rfl,.v _ rfl⟩;rw[show i*1+0=i by omega,aka (by simpa using hi) (by omega)]
  have:ys.toArray[i]! =z:=by
   rw[List.getElem!_toArray,getElem!_pos ys i hi];rw[getElem?_eq_getElem hi]at hz;exact Option.some.inj hz
  rw[this]
end
theorem sO:∀l m:List Int,l.Pairwise (·<·)->m.Pairwise (·<·)->(∀x,x∈l↔x∈m)->l=m
 | [],[],_,_,_=>rfl
 | [],b::m,_,_,h=>by have:=(h b).2 (by simp);cases this
 |a::l,[],_,_,h=>by have:=(h a).1 (by simp);cases this
 |a::l,b::m,h1,h2,h=>by
  obtain⟨p1,p2⟩:=List.pairwise_cons.1 h1;obtain⟨q1,q2⟩:=List.pairwise_cons.1 h2
  have hab:a=b:=by
   rcases List.mem_cons.1 ((h a).1 (by simp))with e|e
   ·exact e
   ·rcases List.mem_cons.1 ((h b).2 (by simp))with e'|e'
    ·exact e'.symm
    ·have:=q1 a e;have:=p1 b e';omega
  subst hab;congr 1;refine sO l m p2 q2 λ x=>⟨λ hx=> ?_,λ hx=> ?_⟩
  ·rcases List.mem_cons.1 ((h x).1 (by simp[hx]))with e|e
   ·have:=p1 x hx;omega
   ·exact e
  ·rcases List.mem_cons.1 ((h x).2 (by simp[hx]))with e|e
   ·have:=q1 x hx;omega
   ·exact e
theorem afZ{zs:List Int}(hs:zs.Pairwise (·<=·)):Lib.compact zs=fy zs:=by
 have eI:∀j,j<zs.length->zs.toArray[j]! =zs.getD j 0:=λ j hj=>by
  rw[List.getElem!_toArray,getElem!_pos zs j hj];simp[List.getD,getElem?_eq_getElem hj]
 have hle:∀i j,i<=j->j<zs.length->zs.getD i 0<=zs.getD j 0:=λ i j hij hj=>by
  simp only[List.getD,getElem?_eq_getElem hj,getElem?_eq_getElem (show i<zs.length by omega),Option.getD_some];rcases Nat.lt_or_eq_of_le hij with h|h
  ·exact List.pairwise_iff_getElem.1 hs i j _ _ h
  ·subst h;exact Int.le_refl _
 have key:∀m,m<=zs.length->(Lib.compactUpTo zs.toArray m).Pairwise (·<·)/\∀x,x∈Lib.compactUpTo zs.toArray m↔∃j,j<m/\zs.getD j 0=x:=by
  intro m
  induction m with
  |zero=>intro _;exact⟨by simp[Lib.compactUpTo],λ x=>by simp[Lib.compactUpTo]⟩
  |succ m ih=>
   intro hm;obtain⟨h1,h2⟩:=ih (by omega);rw[Lib.compactUpTo_succ];by_cases hk:Lib.keeps zs.toArray m=true
   ·rw[if_pos hk,eI m (by omega)];refine⟨List.pairwise_append.2 ⟨h1,by simp,λ a ha b hb=> ?_⟩,λ x=> ?_⟩
    ·rw[List.mem_singleton]at hb;subst hb;obtain⟨j,hj,rfl⟩:=(h2 a).1 ha
     have ej:zs.getD m 0≠zs.getD (m- 1) 0:=by
      intro e;have:Lib.keeps zs.toArray m=false:=Lib.keeps_neg (by omega) (by rw[eI m (by omega),eI (m- 1) (by omega),e]);rw[this]at hk;cases hk
     have:=hle j (m- 1) (by omega) (by omega);have:=hle (m- 1) m (by omega) (by omega);omega
    ·rw[List.mem_append,h2,List.mem_singleton];constructor
     ·rintro(⟨j,hj,rfl⟩|rfl)
      ·exact⟨j,by omega,rfl⟩
      ·exact⟨m,by omega,rfl⟩
     ·rintro⟨j,hj,rfl⟩;rcases Nat.lt_or_ge j m with h|h
      ·exact .inl ⟨j,h,rfl⟩
      ·exact .inr (by rw[show j=m by omega])
   ·rw[if_neg hk,List.append_nil];refine⟨h1,λ x=> ?_⟩;rw[h2];constructor
    ·rintro⟨j,hj,rfl⟩;exact⟨j,by omega,rfl⟩
    ·rintro⟨j,hj,rfl⟩;rcases Nat.lt_or_ge j m with h|h
     ·exact⟨j,h,rfl⟩
     ·have hjm:j=m:=by omega
      subst hjm
      have h0:0<j:=by
       rcases Nat.eq_zero_or_pos j with e|e
       ·subst e;exact absurd (Lib.keeps_lt_one _ 0 (by omega)) hk
       ·exact e
      refine⟨j- 1,by omega,?_⟩;by_cases e:zs.toArray[j]! =zs.toArray[j- 1]!
      ·rw[eI j (by omega),eI (j- 1) (by omega)]at e;exact e.symm
      ·exact absurd (Lib.keeps_pos e) hk
 obtain⟨k1,k2⟩:=key zs.length (Nat.le_refl _);refine sO _ _ k1 (kJ _) λ x=> ?_
 show x∈Lib.compactUpTo zs.toArray zs.length↔_;rw[k2,vB,List.mem_iff_getElem];constructor
 ·rintro⟨j,hj,rfl⟩;exact⟨j,hj,by simp[List.getD,getElem?_eq_getElem hj]⟩
 ·rintro⟨j,hj,rfl⟩;exact⟨j,hj,by simp[List.getD,getElem?_eq_getElem hj]⟩
theorem ao3{l m:List Int}(h:∀x,x∈l↔x∈m):fy l=fy m:=sO _ _ (kJ _) (kJ _) λ x=>by rw[vB,vB,h]
def srt(zs:List Int):List Int:=zs.mergeSort λ x y=>decide (x<=y)
theorem pc(zs:List Int):(srt zs).length=zs.length:=List.length_mergeSort _
theorem ao0(zs:List Int):(srt zs).Pairwise (·<=·):=by
 have:=List.pairwise_mergeSort (le:=λ x y:Int=>decide (x<=y)) (λ a b c=>by simp;omega) (λ a b=>by simp;omega) zs;exact this.imp λ h=>by simpa using h
theorem rj(zs:List Int):Lib.compact (srt zs)=fy zs:=by
 rw[afZ (ao0 zs)];exact ao3 λ x=>List.mem_mergeSort
end Go.Ab
namespace Go.Proofs.Ab
open Go.Ab Go.Sort
theorem aGp(zs:List Int)(hn:zs≠[])(hl:zs.length<=1048576):jY Tryz.prog F.bR G.bR [.sl (zs.map aD)] [.sl ((srt zs).map aD)]:=by
 have ej:zs.map aD≠[]:=by simpa using hn
 have ay0:(srt zs).map aD≠[]:=by
  intro h;have:=congrArg List.length h;rw[length_map,pc]at this;exact hn (List.eq_nil_of_length_eq_zero this)
 have e1:jY Tryz.prog F.bR G.bR [.sl (zs.map aD)] [.sl ((srt zs).map aD)]=j7 Tryz.prog F.bR [.row 0 zs.length] [.live 3 1 (zs.map aD)] (.aZ []) [.live 3 1 ((srt zs).map aD)]:=by
  simp[jY,SV.bn,SV.ev,SO.ev,D.ev,aU,ej,ay0]
 rw[e1];refine⟨⟨_,Tryz.func74,rfl,rfl⟩,λ I L w vs hi hr=> ?_⟩;obtain⟨hr1,hr2⟩:=hr
 obtain⟨v,hv⟩:∃v,vs= #[v]:=by
  have:vs.size=1:=by simpa using hr1.symm
  exact⟨vs[0],Array.ext (by simp[this]) λ i h1 h2=>by simp at h2;subst h2;rfl⟩
 subst hv;have hv:=hr2 0 (.row 0 zs.length) v rfl rfl;have hO:([.live 3 1 (zs.map aD)]:List aj)[0]? =some (.live 3 1 (zs.map aD)):=rfl;have:=hv.iL hO (by simp);subst this;have rK:=hi.obj 0 _ _ _ hO
 have hb:(L 0).bO<w.heap.size:=by
  obtain⟨c,⟨m,h1,_⟩,_⟩:=rK;exact(Array.getElem?_eq_some_iff.1 h1).1
 refine(Tryz.slices_Sort_int (L 0).bO 0 (L 0).cap zs w rK.holds hb (by omega)).mono ?_;rintro e w' ⟨rfl,n,os,rfl⟩;have rI:(putRow (Value.int .i64) (Sort.ahead w n) (L 0).bO 0 (srt zs).toArray).heap.size=w.heap.size:=abw;refine⟨.tuple #[],I,λ k=>if k=0 then L 0 else L k,rfl,.aZ _ _ rfl (λ i c x h=>by simp at h),?_⟩;refine hi.put (n:=0) (l:=L 0) (e:=3) (s:=1) (xs:=(srt zs).map aD) (λ k=>by cases k<;>simp) (by simp) (λ b wW ej=> ?_) rfl rfl rfl ?_ (.inr ⟨_,_,_,hO,rfl⟩) ?_ (λ _=> .inl ⟨_,hO,by simp[pc],λ _=>rfl⟩)
 ·rw[ai5 (by rw[show(zs.mergeSort λ x y=>decide (x<=y))=srt zs from rfl,rI];exact wW),yE ej]
  rfl
 ·simp only[grow,Array.size_append];rw[show(zs.mergeSort λ x y=>decide (x<=y))=srt zs from rfl,rI];omega
 ·refine rK.bG (pc zs) λ c m h=> ?_
  rw[ai5 (by rw[show(zs.mergeSort λ x y=>decide (x<=y))=srt zs from rfl,rI];exact hb)];exact abx (w:=Sort.ahead w n) h
theorem auF(zs:List Int)(hn:zs≠[])(hl:zs.length<=1048576):jY Tryz.prog F.bA G.bA [.sl (zs.map aD)] [.sl ((Lib.compact zs).map aD)]:=by
 have ej:zs.map aD≠[]:=by simpa using hn
 have e1:jY Tryz.prog F.bA G.bA [.sl (zs.map aD)] [.sl ((Lib.compact zs).map aD)]=j7 Tryz.prog F.bA [.row 0 zs.length] [.live 3 1 (zs.map aD)] (.sl ((Lib.compact zs).map aD)) [.dead]:=by
  simp[jY,SV.bn,SV.ev,SO.ev,D.ev,aU,ej]
 rw[e1];refine⟨⟨_,Tryz.func75,rfl,rfl⟩,λ I L w vs hi hr=> ?_⟩;obtain⟨hr1,hr2⟩:=hr
 obtain⟨v,hv⟩:∃v,vs= #[v]:=by
  have:vs.size=1:=by simpa using hr1.symm
  exact⟨vs[0],Array.ext (by simp[this]) λ i h1 h2=>by simp at h2;subst h2;rfl⟩
 subst hv;have hv:=hr2 0 (.row 0 zs.length) v rfl rfl;have hO:([.live 3 1 (zs.map aD)]:List aj)[0]? =some (.live 3 1 (zs.map aD)):=rfl;have:=hv.iL hO (by simp);subst this;have rK:=hi.obj 0 _ _ _ hO;have aug:zs.length<=(L 0).cap:=by obtain⟨c,_,_,h3,_⟩:=rK;simpa using h3
 have hb:(L 0).bO<w.heap.size:=by
  obtain⟨c,⟨m,h1,_⟩,_⟩:=rK;exact(Array.getElem?_eq_some_iff.1 h1).1
 have nR:=Lib.compact_length_le zs;refine(Tryz.slices_Compact_int (L 0).bO 0 (L 0).cap zs w rK.holds (by omega) aug).mono ?_;rintro e w' ⟨rfl,n,rfl⟩;generalize hys:Lib.compact zs=ys at nR⊢
 have aNe:tX I L [] (putRow (Value.int .i64) (Sort.ahead w n) (L 0).bO 0 (ys++List.replicate (zs.length- ys.length) 0).toArray) (L 0) 3 1 ((ys++List.replicate (zs.length- ys.length) 0).map λ z=> .v (.int .i64 z)):=
  rK.bG (by simp;omega) λ c m h=>abx (w:=Sort.ahead w n) h
 generalize hw':putRow (Value.int .i64) (Sort.ahead w n) (L 0).bO 0 (ys++List.replicate (zs.length- ys.length) 0).toArray=w' at aNe⊢;have aHj:∀b,b≠(L 0).bO->w'.heap[b]? =w.heap[b]? :=λ b hb=>by rw[←hw',yE hb];rfl
 have rI:w'.heap.size=w.heap.size:=by rw[←hw'];exact abw
 have aNB:∀o,I (L 0).bO o=none:=λ o=>hi.gf 0 _ _ _ o hO
 let I':eW:=λ b o=>if b=(L 0).bO then w'.cell? ⟨b,o,none⟩else I b o
 have hle:∀b o x,I b o=some x->I' b o=some x:=λ b o x h=>by
  show(if b=(L 0).bO then _ else I b o)=some x;rw[if_neg (λ e=>by rw[e,aNB]at h;cases h)];exact h
 have hLB:LB L [.live 3 1 (zs.map aD)] (L 0).bO:= .inl ⟨0,3,1,_,rfl,rfl⟩
 have wV:∀(k:Nat) ob,([.dead]:List aj)[k]? =some ob->ob= .dead:=λ k ob h=>by
  cases k with
  |zero=>simpa using h.symm
  |succ k=>simp at h
 have aRo:∀b,¬LB L [.dead] b:=by
  rintro b (⟨n,e,s,xs,h,_⟩|⟨n,a,o,v,h,_⟩|⟨n,g,h,_⟩)<;>have:=wV _ _ h<;>cases this
 refine⟨.slice (some ⟨(L 0).bO,0,none⟩) ys.length (L 0).cap,I',L,rfl,?_,?_⟩
 ·by_cases h0:ys= []
  ·subst h0;exact .oX _ _
  ·have hlen:ys.length=(ys.map aD).length:=by simp
   rw[hlen];refine .sl (ys.map aD) (L 0).bO 0 (L 0).cap 1 (λ i _=> .int .i64 (ys.getD i 0)) (by simp;omega) (by simpa using h0) (λ i x hx=> ?_) (λ i x j c hx hc=> ?_) (λ i x j c hx hc=> ?_)
   ·rw[getElem?_map]at hx;obtain⟨z,_,rfl⟩:=Option.map_eq_some_iff.1 hx
    rfl
   ·rw[getElem?_map]at hx;obtain⟨z,hz,rfl⟩:=Option.map_eq_some_iff.1 hx;have fR:i<ys.length:=(List.getElem?_eq_some_iff.1 hz).1
    have hj:j=0:=by
     cases j with
     |zero=>rfl
     |succ j=>simp[AV.cells]at hc
    subst hj;have hzz:z=ys.getD i 0:=by simp[List.getD,hz]
    obtain⟨c2,⟨m,h1,hm⟩,h2,h3,h4,h5,h6⟩:=aNe;obtain⟨q1,q2⟩:=h6 i (.v (.int .i64 z)) (by rw[getElem?_map,List.getElem?_append_left fR,hz];rfl);obtain⟨y,q3,_,q4⟩:=q2 0 (.v (.int .i64 z)) rfl;have hy:y= .int .i64 z:=by cases q4;rfl
    refine⟨?_,rfl⟩
    show(if(L 0).bO=(L 0).bO then _ else _)=_;rw[if_pos rfl];simp only[World.cell?,h1];rw[show 0+i*1+0=i*1+0 by omega,q3,hy,hzz]
    rfl
   ·rw[getElem?_map]at hx;obtain⟨z,hz,rfl⟩:=Option.map_eq_some_iff.1 hx
    have hj:j=0:=by
     cases j with
     |zero=>rfl
     |succ j=>simp[AV.cells]at hc
    subst hj;have hzz:z=ys.getD i 0:=by simp[List.getD,hz]
    simp only[AV.cells,List.getElem?_cons_zero,Option.some.injEq]at hc;subst hc;rw[←hzz];exact .v _ rfl
 ·refine⟨⟨λ b o x h=> ?_,λ k e s xs h=> ?_,λ k k' e s xs e' s' zN h=> ?_,λ k e s xs o h=> ?_,λ p hp=>hle _ _ _ (hi.fix p hp),λ q hq=> ?_,.no λ k a h=> ?_,.no λ k g h=> ?_⟩,
    ⟨hle,by simp,λ k hk e s xs h=> ?_,λ k hk e s h=> ?_,λ k hk a h=> ?_,λ k hk g h=> ?_⟩,⟨?_,?_,?_,by rw[rI];exact Nat.le_refl _,λ b wW ej=>aHj b λ e=>ej (e▸hLB)⟩,λ b h=>(aRo b h).elim,λ b o x h=> ?_⟩
  ·have h:(if b=(L 0).bO then w'.cell? ⟨b,o,none⟩else I b o)=some x:=h
   split at h
   ·exact h
   ·rename_i ej;have:=hi.ni b o x h;simp only[World.cell?,aHj b ej]at this⊢;exact this
  ·cases wV _ _ h
  ·cases wV _ _ h
  ·cases wV _ _ h
  ·obtain⟨h1,v,h2,h3⟩:=hi.bO q hq;have ej:q.1≠(L 0).bO:=λ e=>by rw[e,aNB]at h2;cases h2
   exact⟨by rw[af6 (aHj _ ej)];exact h1,v,hle _ _ _ h2,h3⟩
  ·cases wV _ _ h
  ·cases wV _ _ h
  ·cases wV _ _ h
  ·cases wV _ _ h
  ·cases wV _ _ h
  ·cases wV _ _ h
  ·rw[←hw'];rfl
  ·rw[←hw'];rfl
  ·rw[←hw'];rfl
  ·have h:(if b=(L 0).bO then w'.cell? ⟨b,o,none⟩else I b o)=some x:=h
   split at h
   ·rename_i e;exact .inr (.inl (e▸hLB))
   ·exact .inl h
end Go.Proofs.Ab
