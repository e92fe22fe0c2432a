/- Part of a proof: the functions that the law reaches, walked by the abstract logic of the texts Ab. -/
import Derived.Test.YtkinchcjijhmgaaGreatDoorAbM5
import Derived.Lib.Join
import Derived.Lib.ItoaNum
import Derived.Lib.LaidTab
import Derived.Test.YtkinchcjijhmgaaGreatDoorAbM3
open Nat(zero_le add_zero)
open List(getElem?_eq_getElem map_cons map_nil getElem_mem cons_append nil_append mem_of_getElem?)
open Nat(reduceEqDiff reduceLeDiff reduceAdd reduceLT reduceMul)
set_option linter.unusedVariables false
set_option linter.unusedSimpArgs false
set_option linter.defProp false
namespace Go.Ab
set_option maxRecDepth 100000
theorem gv{n:Int}(h: -9223372036854775808<=n)(h':n<=9223372036854775807):IntKind.i64.wrap n=n:=ani h h'
theorem cR{a b:Nat}(h:b<=a)(h':a<=4611686018427387904):IntKind.i64.wrap ((a:Int)- (b:Int))=((a- b:Nat):Int):=by
 rw[gv (by omega) (by omega)];omega
theorem dM{a b:Nat}(h:a+b<=4611686018427387904):IntKind.i64.wrap ((a:Int)+(b:Int))=((a+b:Nat):Int):=by
 rw[gv (by omega) (by omega)];omega
theorem aD{a:Nat}(h:a<=4611686018427387904):IntKind.i64.wrap ((a:Int)+1)=((a+1:Nat):Int):=by
 rw[gv (by omega) (by omega)];omega
theorem lh(n:Nat):decide ((n:Int)<0)=false:=by simp
theorem getM{α:Type}(f:α->AV){l:List α}{i:Nat}(h:i<l.length):(l.map f)[i]? =some (f l[i]):=by simp[h]
theorem oM{α:Type}(f:α->AV){l:List α}{s n:Nat}{k:IntKind}{K:AV->Prop}(h:n<l.length)(hs:(f l[n]).cells.length=s)(hk:dU K (f l[n])):lL s (.sl (l.map f)) (.v (.int k (n:Int))) K:=
 qQ _ (getM f h) hs hk
theorem bu{α:Type}{f:α->AV}{l:List α}(h:∀x,(f x).ag=true):AV.ad (l.map f)=true:=fE λ a ha=>by
 obtain⟨x,_,rfl⟩:=List.mem_map.1 ha;exact h x
section
variable {P:Program} {L:AX->SS->List AV->Prop} {R:AV->Prop} {t:T} {r:List AV} {S:List (List AV->Prop)}
theorem ky{init:List AV}(n:Nat)(σ:Nat->List AV)(h0:init=σ 0)
  (hr:∀i,i<=n->bD P L R t (r++σ i) ((λ vs=>i<n/\vs=σ (i+1))::S)):rM P L R init t r S:=by
 refine cM (ι:=Nat) (λ i=>i<=n) σ (λ i=>n- i) 0 (zero_le _) h0 λ i hi=> ?_
 refine eE (λ _ _ _ h=>h) (λ _ h=>h) t (.cons (λ vs hv=> ?_) (.refl _)) (hr i hi);exact⟨i+1,hv.1,by have:=hv.1;omega,hv.2⟩
end
def awm(s:Nat)(f:FuncId)(fl:Bool):T:=
.op (.cz (.x 0)) (
.op (.bin .sub (.x 1) (.x 2)) (
.op (.bin .lss (.x 3) (.c (.v (.int .i64 0)))) (
.ite (.x 4)
 (.ret [(.c (.v (.int .i64 (-1))))])
 (.bind 1 (
  .loop [(.x 3),(.c (.v (.int .i64 0)))] (
   .op (.cz (.x 0)) (
   .op (.bin .lss (.x 6) (.x 7)) (
   .ite (.x 8)
    (.op (.elem s (.x 0) (.x 6)) (
    .aP (.cells (.x 9) s) (
    .op (.call f [(.x 9),(.x 5)] fl) (
    .op (.bin .lss (.x 10) (.c (.v (.int .i64 0)))) (
    .ite (.x 11)
     (.bn (.bn (.ret [(.c (.v (.int .i64 (-1))))])))
     (.op (.bin .add (.x 6) (.c (.v (.int .i64 1)))) (
     .jump [(.x 10),(.x 12)])))))))
    (.bn (.jump [(.x 5)])))))) (
 .ret [(.x 5)])))))
theorem ajJ{α:Type}(wt:α->Nat)(l:List α)(i:Nat)(h:i<l.length):((l.take (i+1)).map wt).sum=((l.take i).map wt).sum+wt l[i]:=by
 rw[List.take_add_one,getElem?_eq_getElem h];simp only[Option.toList_some,List.map_append,List.sum_append,map_cons,map_nil,List.sum_cons,List.sum_nil,add_zero]
theorem aqQ{α:Type}(wt:α->Nat)(l:List α)(i:Nat):((l.take i).map wt).sum<=(l.map wt).sum:=by
 conv=>rhs;rw[←List.take_append_drop i l]
 rw[List.map_append,List.sum_append];omega
theorem ay6{fl:Bool}{P:Program}{L:AX->SS->List AV->Prop}{α:Type}{av:α->AV}{wt:α->Nat}{s:Nat}{f:FuncId}{l:List α}(hs:∀x,(av x).isAgg=true/\(av x).cells.length=s/\(av x).storable=true)
  {b:Nat} (hb:l.length+(l.map wt).sum<=b) (jr:b<=1048576) (hc:∀x∈l,∀c:Nat,wt x<=c->c<=1048576->aI P f [av x,.v (.int .i64 c)] (.v (.int .i64 (c- wt x:Nat)))):
  bD P L (λ a=>a= .v (.int .i64 (b- (l.length+(l.map wt).sum):Nat))) (awm s f fl) [.sl (l.map av),.v (.int .i64 b)] []:=by
 simp(disch:=omega) only[awm,cR,lh,WA,reduceEqDiff,reduceAdd,reduceLT,reduceLeDiff,reduceMul,reduceIte,reduceCtorEq,Int.reduceEq,Int.reduceLT,Int.reduceLE,Int.reduceNe];refine bw [.v (.int .i64 (b- (l.length+(l.map wt).sum):Nat))] rfl ?_ (by simp only[WA,reduceEqDiff,reduceAdd,reduceLT,reduceLeDiff,reduceMul,reduceIte,reduceCtorEq,Int.reduceEq,Int.reduceLT,Int.reduceLE,Int.reduceNe]);simp only[WA,reduceEqDiff,reduceAdd,reduceLT,reduceLeDiff,reduceMul,reduceIte,reduceCtorEq,Int.reduceEq,Int.reduceLT,Int.reduceLE,Int.reduceNe];refine ky l.length (λ i=>[.v (.int .i64 (b- (l.length+((l.take i).map wt).sum):Nat)),.v (.int .i64 i)]) (by simp) λ i hi=> ?_
 simp only[WA,reduceEqDiff,reduceAdd,reduceLT,reduceLeDiff,reduceMul,reduceIte,reduceCtorEq,Int.reduceEq,Int.reduceLT,Int.reduceLE,Int.reduceNe];refine aq (λ h=> ?_) (λ h=> ?_)
 ·have au:i<l.length:=by omega
  have h1:=ajJ wt l i au;have h2:=aqQ wt l (i+1);obtain⟨x1,x2,x3⟩:=hs l[i];simp only[WA,reduceEqDiff,reduceAdd,reduceLT,reduceLeDiff,reduceMul,reduceIte,reduceCtorEq,Int.reduceEq,Int.reduceLT,Int.reduceLE,Int.reduceNe];refine oM av au x2 ?_;simp only[x1,x2,x3,WA,reduceEqDiff,reduceAdd,reduceLT,reduceLeDiff,reduceMul,reduceIte,reduceCtorEq,Int.reduceEq,Int.reduceLT,Int.reduceLE,Int.reduceNe];refine bj (hc _ (getElem_mem au) _ (by omega) (by omega)) ?_;simp(disch:=omega) only[lh,aD,WA,reduceEqDiff,reduceAdd,reduceLT,reduceLeDiff,reduceMul,reduceIte,reduceCtorEq,Int.reduceEq,Int.reduceLT,Int.reduceLE,Int.reduceNe];exact⟨au,by rw[h1,Nat.sub_sub,Nat.add_assoc]⟩
 ·have he:i=l.length:=by omega
  subst he;simp only[List.take_length,WA,reduceEqDiff,reduceAdd,reduceLT,reduceLeDiff,reduceMul,reduceIte,reduceCtorEq,Int.reduceEq,Int.reduceLT,Int.reduceLE,Int.reduceNe]
def awn(s:Nat)(f:FuncId)(fl:Bool):T:=
.op (.cz (.x 0)) (
.op (.cz (.x 1)) (
.op (.bin .neq (.x 2) (.x 3)) (
.ite (.x 4)
 (.ret [(.c (.v (.bool false)))])
 (.bind 0 (
  .loop [(.c (.v (.int .i64 0)))] (
   .op (.cz (.x 0)) (
   .op (.bin .lss (.x 5) (.x 6)) (
   .ite (.x 7)
    (.op (.elem s (.x 0) (.x 5)) (
    .aP (.cells (.x 8) s) (
    .op (.elem s (.x 1) (.x 5)) (
    .aP (.cells (.x 9) s) (
    .op (.call f [(.x 8),(.x 9)] fl) (
    .op (.un .not (.x 10)) (
    .ite (.x 11)
     (.bn (.bn (.ret [(.c (.v (.bool false)))])))
     (.op (.bin .add (.x 5) (.c (.v (.int .i64 1)))) (
     .jump [(.x 12)])))))))))
    (.bn (.jump [])))))) (
 .ret [(.c (.v (.bool true)))])))))
theorem avV{fl:Bool}{P:Program}{L:AX->SS->List AV->Prop}{α:Type}{av:α->AV}{s:Nat}{f:FuncId}{l:List α}(hs:∀x,(av x).isAgg=true/\(av x).cells.length=s/\(av x).storable=true)
  (hl:l.length<=1048576) (hc:∀x∈l,aI P f [av x,av x] (.v (.bool true))):
  bD P L (λ a=>a= .v (.bool true)) (awn s f fl) [.sl (l.map av),.sl (l.map av)] []:=by
 simp only[awn,WA,reduceEqDiff,reduceAdd,reduceLT,reduceLeDiff,reduceMul,reduceIte,reduceCtorEq,Int.reduceEq,Int.reduceLT,Int.reduceLE,Int.reduceNe];refine bw [] rfl ?_ (by simp only[WA,reduceEqDiff,reduceAdd,reduceLT,reduceLeDiff,reduceMul,reduceIte,reduceCtorEq,Int.reduceEq,Int.reduceLT,Int.reduceLE,Int.reduceNe]);simp only[WA,reduceEqDiff,reduceAdd,reduceLT,reduceLeDiff,reduceMul,reduceIte,reduceCtorEq,Int.reduceEq,Int.reduceLT,Int.reduceLE,Int.reduceNe];refine ky l.length (λ i=>[.v (.int .i64 i)]) rfl λ i hi=> ?_
 simp only[WA,reduceEqDiff,reduceAdd,reduceLT,reduceLeDiff,reduceMul,reduceIte,reduceCtorEq,Int.reduceEq,Int.reduceLT,Int.reduceLE,Int.reduceNe];refine aq (λ h=> ?_) (λ h=> ?_)
 ·have au:i<l.length:=by omega
  obtain⟨x1,x2,x3⟩:=hs l[i];simp only[WA,reduceEqDiff,reduceAdd,reduceLT,reduceLeDiff,reduceMul,reduceIte,reduceCtorEq,Int.reduceEq,Int.reduceLT,Int.reduceLE,Int.reduceNe];refine oM av au x2 ?_;simp only[x1,x2,x3,WA,reduceEqDiff,reduceAdd,reduceLT,reduceLeDiff,reduceMul,reduceIte,reduceCtorEq,Int.reduceEq,Int.reduceLT,Int.reduceLE,Int.reduceNe];refine oM av au x2 ?_;simp only[x1,x2,x3,WA,reduceEqDiff,reduceAdd,reduceLT,reduceLeDiff,reduceMul,reduceIte,reduceCtorEq,Int.reduceEq,Int.reduceLT,Int.reduceLE,Int.reduceNe];refine bj (hc _ (getElem_mem au)) ?_;simp(disch:=omega) only[aD,WA,reduceEqDiff,reduceAdd,reduceLT,reduceLeDiff,reduceMul,reduceIte,reduceCtorEq,Int.reduceEq,Int.reduceLT,Int.reduceLE,Int.reduceNe];exact au
 ·simp only[WA,reduceEqDiff,reduceAdd,reduceLT,reduceLeDiff,reduceMul,reduceIte,reduceCtorEq,Int.reduceEq,Int.reduceLT,Int.reduceLE,Int.reduceNe]
abbrev br(n:Int):AV:= .v (.int .i64 n)
abbrev bE(s:ByteArray):AV:= .v (.string s)
def apH:T:=
.op (.cz (.x 0)) (
.op (.cz (.x 1)) (
.op (.bin .neq (.x 2) (.x 3)) (
.ite (.x 4)
 (.ret [(.c (.v (.bool false)))])
 (.bind 0 (
  .loop [(.c (.v (.int .i64 0)))] (
   .op (.cz (.x 0)) (
   .op (.bin .lss (.x 5) (.x 6)) (
   .ite (.x 7)
    (.op (.elem 1 (.x 0) (.x 5)) (
    .aP (.lt (.x 8) 0) (
    .op (.elem 1 (.x 1) (.x 5)) (
    .aP (.lt (.x 9) 0) (
    .op (.bin .neq (.cell 8 0) (.cell 9 0)) (
    .ite (.x 10)
     (.bn (.bn (.ret [(.c (.v (.bool false)))])))
     (.op (.bin .add (.x 5) (.c (.v (.int .i64 1)))) (
     .jump [(.x 11)]))))))))
    (.bn (.jump [])))))) (
 .ret [(.c (.v (.bool true)))])))))
theorem avW{P:Program}{L:AX->SS->List AV->Prop}{α:Type}{g:α->Value}{l:List α}(hg:∀(x:α) (K:AV->Prop),dU K (.v (.bool false))->ft .neq (.v (g x)) (.v (g x)) K)(hl:l.length<=1048576):
  bD P L (λ a=>a= .v (.bool true)) apH [.sl (l.map λ x=> .v (g x)),.sl (l.map λ x=> .v (g x))] []:=by
 simp only[apH,WA,reduceEqDiff,reduceAdd,reduceLT,reduceLeDiff,reduceMul,reduceIte,reduceCtorEq,Int.reduceEq,Int.reduceLT,Int.reduceLE,Int.reduceNe];refine bw [] rfl ?_ (by simp only[WA,reduceEqDiff,reduceAdd,reduceLT,reduceLeDiff,reduceMul,reduceIte,reduceCtorEq,Int.reduceEq,Int.reduceLT,Int.reduceLE,Int.reduceNe]);simp only[WA,reduceEqDiff,reduceAdd,reduceLT,reduceLeDiff,reduceMul,reduceIte,reduceCtorEq,Int.reduceEq,Int.reduceLT,Int.reduceLE,Int.reduceNe];refine ky l.length (λ i=>[.v (.int .i64 i)]) rfl λ i hi=> ?_
 simp only[WA,reduceEqDiff,reduceAdd,reduceLT,reduceLeDiff,reduceMul,reduceIte,reduceCtorEq,Int.reduceEq,Int.reduceLT,Int.reduceLE,Int.reduceNe];refine aq (λ h=> ?_) (λ h=> ?_)
 ·have au:i<l.length:=by omega
  simp only[WA,reduceEqDiff,reduceAdd,reduceLT,reduceLeDiff,reduceMul,reduceIte,reduceCtorEq,Int.reduceEq,Int.reduceLT,Int.reduceLE,Int.reduceNe];refine oM (λ x=> .v (g x)) au rfl ?_;simp only[WA,reduceEqDiff,reduceAdd,reduceLT,reduceLeDiff,reduceMul,reduceIte,reduceCtorEq,Int.reduceEq,Int.reduceLT,Int.reduceLE,Int.reduceNe];refine oM (λ x=> .v (g x)) au rfl ?_;simp only[WA,reduceEqDiff,reduceAdd,reduceLT,reduceLeDiff,reduceMul,reduceIte,reduceCtorEq,Int.reduceEq,Int.reduceLT,Int.reduceLE,Int.reduceNe];refine hg _ _ ?_;simp(disch:=omega) only[aD,WA,reduceEqDiff,reduceAdd,reduceLT,reduceLeDiff,reduceMul,reduceIte,reduceCtorEq,Int.reduceEq,Int.reduceLT,Int.reduceLE,Int.reduceNe];exact au
 ·simp only[WA,reduceEqDiff,reduceAdd,reduceLT,reduceLeDiff,reduceMul,reduceIte,reduceCtorEq,Int.reduceEq,Int.reduceLT,Int.reduceLE,Int.reduceNe]
theorem axi(k:IntKind)(x:Int)(K:AV->Prop)(h:dU K (.v (.bool false))):ft .neq (.v (.int k x)) (.v (.int k x)) K:=by simpa only[aqi,decide_true,Bool.not_true,eq_self]using h
end Go.Ab
namespace Go.Ab
set_option maxRecDepth 100000
theorem afn{α:Type}(w:α->Nat){l:List α}{x:α}(h:x∈l):w x<=(l.map w).sum:=by
 induction l with
 |nil=>simp at h
 |cons a l ih=>
  simp only[map_cons,List.sum_cons];rcases List.mem_cons.1 h with rfl|h
  ·omega
  ·have:=ih h;omega
inductive a6 where
 |mk (Kind:Int) (Text:ByteArray) (fQ:Int) (Pos:Int)
def a6.Kind:a6->Int
 | .mk a _ _ _=>a
def a6.Text:a6->ByteArray
 | .mk _ a _ _=>a
def a6.fQ:a6->Int
 | .mk _ _ a _=>a
def a6.Pos:a6->Int
 | .mk _ _ _ a=>a
def a6.cs:a6->List AV
 | .mk Kind Text fQ Pos=>(.v (.int .i64 Kind)::(.v (.string Text)::(.v (.int .i64 fQ)::(.v (.int .i64 Pos):: []))))
def a6.av(x:a6):AV:= .agg x.cs
theorem a6.aG:∀x:a6,AV.ad x.cs=true
 | .mk Kind Text fQ Pos=>by simp[a6.cs,AV.ad,AV.ag,aF]
theorem a6.ag(x:a6):x.av.ag=true:=a6.aG x
theorem a6.isAgg(x:a6):x.av.isAgg=true:=nr rfl
theorem a6.cv(x:a6):x.cs= [.v (.int .i64 x.Kind),.v (.string x.Text),.v (.int .i64 x.fQ),.v (.int .i64 x.Pos)]:=by
 obtain⟨Kind,Text,fQ,Pos⟩:=x;simp only[a6.cs,a6.Kind,a6.fQ,a6.Pos,a6.Text,cons_append,nil_append]
theorem a6.cells(x:a6):x.av.cells= [.v (.int .i64 x.Kind),.v (.string x.Text),.v (.int .i64 x.fQ),.v (.int .i64 x.Pos)]:=a6.cv x
theorem a6.width(x:a6):x.av.cells.length=4:=by rw[a6.cells];rfl
theorem a6.storable(x:a6):x.av.storable=true:=by unfold AV.storable;rw[a6.cells];rfl
inductive cK where
 |mk (Kind:Int) (Name:ByteArray) (fQ:Int) (Pos:Int) (Kids:List cK)
def cK.Kind:cK->Int
 | .mk a _ _ _ _=>a
def cK.Name:cK->ByteArray
 | .mk _ a _ _ _=>a
def cK.fQ:cK->Int
 | .mk _ _ a _ _=>a
def cK.Pos:cK->Int
 | .mk _ _ _ a _=>a
def cK.Kids:cK->List cK
 | .mk _ _ _ _ a=>a
mutual
def cK.cs:cK->List AV
 | .mk Kind Name fQ Pos Kids=>(.v (.int .i64 Kind)::(.v (.string Name)::(.v (.int .i64 fQ)::(.v (.int .i64 Pos)::(.sl (cK.iW Kids):: [])))))
def cK.iW:List cK->List AV
 | []=>[]
 |x::l=> .agg x.cs::cK.iW l
end
def cK.av(x:cK):AV:= .agg x.cs
theorem cK.cg(l:List cK):cK.iW l=l.map cK.av:=by
 induction l with
 |nil=>rfl
 |cons x l ih=>simp only[cK.iW,ih,map_cons,cK.av]
mutual
theorem cK.aG:∀x:cK,AV.ad x.cs=true
 | .mk Kind Name fQ Pos Kids=>by simp[cK.cs,AV.ad,AV.ag,aF,cK.cB Kids]
theorem cK.cB:∀l:List cK,AV.ad (cK.iW l)=true
 | []=>rfl
 |x::l=>by simp[cK.iW,AV.ad,AV.ag,cK.aG x,cK.cB l]
end
theorem cK.ag(x:cK):x.av.ag=true:=cK.aG x
theorem cK.cv(x:cK):x.cs= [.v (.int .i64 x.Kind),.v (.string x.Name),.v (.int .i64 x.fQ),.v (.int .i64 x.Pos),.sl (x.Kids.map cK.av)]:=by
 obtain⟨Kind,Name,fQ,Pos,Kids⟩:=x;simp only[cK.cs,cK.Kids,cK.Kind,cK.Name,cK.fQ,cK.Pos,cK.cg,cons_append,nil_append]
theorem cK.cells(x:cK):x.av.cells= [.v (.int .i64 x.Kind),.v (.string x.Name),.v (.int .i64 x.fQ),.v (.int .i64 x.Pos),.sl (x.Kids.map cK.av)]:=cK.cv x
mutual
inductive bS where
 |mk (Kind:Int) (Name:ByteArray) (fQ:Int) (Text:ByteArray) (Pos:Int) (Kids:List bS) (jx:List dY)
inductive dY where
 |mk (P:cK) (E:bS)
end
def bS.Kind:bS->Int
 | .mk a _ _ _ _ _ _=>a
def bS.Name:bS->ByteArray
 | .mk _ a _ _ _ _ _=>a
def bS.fQ:bS->Int
 | .mk _ _ a _ _ _ _=>a
def bS.Text:bS->ByteArray
 | .mk _ _ _ a _ _ _=>a
def bS.Pos:bS->Int
 | .mk _ _ _ _ a _ _=>a
def bS.Kids:bS->List bS
 | .mk _ _ _ _ _ a _=>a
def bS.jx:bS->List dY
 | .mk _ _ _ _ _ _ a=>a
def dY.P:dY->cK
 | .mk a _=>a
def dY.E:dY->bS
 | .mk _ a=>a
mutual
def bS.cs:bS->List AV
 | .mk Kind Name fQ Text Pos Kids jx=>(.v (.int .i64 Kind)::(.v (.string Name)::(.v (.int .i64 fQ)::(.v (.string Text)::(.v (.int .i64 Pos)::(.sl (bS.iW Kids)::(.sl (dY.iW jx):: [])))))))
def dY.cs:dY->List AV
 | .mk P E=>(P.cs++(E.cs++ []))
def bS.iW:List bS->List AV
 | []=>[]
 |x::l=> .agg x.cs::bS.iW l
def dY.iW:List dY->List AV
 | []=>[]
 |x::l=> .agg x.cs::dY.iW l
end
def bS.av(x:bS):AV:= .agg x.cs
theorem bS.cg(l:List bS):bS.iW l=l.map bS.av:=by
 induction l with
 |nil=>rfl
 |cons x l ih=>simp only[bS.iW,ih,map_cons,bS.av]
def dY.av(x:dY):AV:= .agg x.cs
theorem dY.cg(l:List dY):dY.iW l=l.map dY.av:=by
 induction l with
 |nil=>rfl
 |cons x l ih=>simp only[dY.iW,ih,map_cons,dY.av]
mutual
theorem bS.aG:∀x:bS,AV.ad x.cs=true
 | .mk Kind Name fQ Text Pos Kids jx=>by simp[bS.cs,AV.ad,AV.ag,aF,bS.cB Kids,dY.cB jx]
theorem dY.aG:∀x:dY,AV.ad x.cs=true
 | .mk P E=>by simp[dY.cs,AV.ad,AV.ag,aF,cK.aG P,bS.aG E]
theorem bS.cB:∀l:List bS,AV.ad (bS.iW l)=true
 | []=>rfl
 |x::l=>by simp[bS.iW,AV.ad,AV.ag,bS.aG x,bS.cB l]
theorem dY.cB:∀l:List dY,AV.ad (dY.iW l)=true
 | []=>rfl
 |x::l=>by simp[dY.iW,AV.ad,AV.ag,dY.aG x,dY.cB l]
end
theorem bS.ag(x:bS):x.av.ag=true:=bS.aG x
theorem bS.cv(x:bS):x.cs= [.v (.int .i64 x.Kind),.v (.string x.Name),.v (.int .i64 x.fQ),.v (.string x.Text),.v (.int .i64 x.Pos),.sl (x.Kids.map bS.av),.sl (x.jx.map dY.av)]:=by
 obtain⟨Kind,Name,fQ,Text,Pos,Kids,jx⟩:=x;simp only[bS.cs,bS.jx,bS.Kids,bS.Kind,bS.Name,bS.fQ,bS.Pos,bS.Text,dY.cg,bS.cg,cons_append,nil_append]
theorem bS.cells(x:bS):x.av.cells= [.v (.int .i64 x.Kind),.v (.string x.Name),.v (.int .i64 x.fQ),.v (.string x.Text),.v (.int .i64 x.Pos),.sl (x.Kids.map bS.av),.sl (x.jx.map dY.av)]:=bS.cv x
theorem dY.ag(x:dY):x.av.ag=true:=dY.aG x
theorem dY.cv(x:dY):x.cs= [.v (.int .i64 x.P.Kind),.v (.string x.P.Name),.v (.int .i64 x.P.fQ),.v (.int .i64 x.P.Pos),.sl (x.P.Kids.map cK.av),.v (.int .i64 x.E.Kind),.v (.string x.E.Name),.v (.int .i64 x.E.fQ),.v (.string x.E.Text),.v (.int .i64 x.E.Pos),.sl (x.E.Kids.map bS.av),.sl (x.E.jx.map dY.av)]:=by
 obtain⟨⟨asW,asV,aws,azO,asX⟩,⟨as0,asZ,awA,asY,azQ,as1,as2⟩⟩:=x;simp only[dY.cs,bS.cs,cK.cs,dY.E,dY.P,bS.jx,bS.Kids,bS.Kind,bS.Name,bS.fQ,bS.Pos,bS.Text,cK.Kids,cK.Kind,cK.Name,cK.fQ,cK.Pos,dY.cg,bS.cg,cK.cg,cons_append,nil_append]
theorem dY.cells(x:dY):x.av.cells= [.v (.int .i64 x.P.Kind),.v (.string x.P.Name),.v (.int .i64 x.P.fQ),.v (.int .i64 x.P.Pos),.sl (x.P.Kids.map cK.av),.v (.int .i64 x.E.Kind),.v (.string x.E.Name),.v (.int .i64 x.E.fQ),.v (.string x.E.Text),.v (.int .i64 x.E.Pos),.sl (x.E.Kids.map bS.av),.sl (x.E.jx.map dY.av)]:=dY.cv x
inductive aw where
 |mk (Kind:Int) (Name:ByteArray) (Pos:Int) (Kids:List aw)
def aw.Kind:aw->Int
 | .mk a _ _ _=>a
def aw.Name:aw->ByteArray
 | .mk _ a _ _=>a
def aw.Pos:aw->Int
 | .mk _ _ a _=>a
def aw.Kids:aw->List aw
 | .mk _ _ _ a=>a
mutual
def aw.cs:aw->List AV
 | .mk Kind Name Pos Kids=>(.v (.int .i64 Kind)::(.v (.string Name)::(.v (.int .i64 Pos)::(.sl (aw.iW Kids):: []))))
def aw.iW:List aw->List AV
 | []=>[]
 |x::l=> .agg x.cs::aw.iW l
end
def aw.av(x:aw):AV:= .agg x.cs
theorem aw.cg(l:List aw):aw.iW l=l.map aw.av:=by
 induction l with
 |nil=>rfl
 |cons x l ih=>simp only[aw.iW,ih,map_cons,aw.av]
mutual
theorem aw.aG:∀x:aw,AV.ad x.cs=true
 | .mk Kind Name Pos Kids=>by simp[aw.cs,AV.ad,AV.ag,aF,aw.cB Kids]
theorem aw.cB:∀l:List aw,AV.ad (aw.iW l)=true
 | []=>rfl
 |x::l=>by simp[aw.iW,AV.ad,AV.ag,aw.aG x,aw.cB l]
end
theorem aw.ag(x:aw):x.av.ag=true:=aw.aG x
theorem aw.cv(x:aw):x.cs= [.v (.int .i64 x.Kind),.v (.string x.Name),.v (.int .i64 x.Pos),.sl (x.Kids.map aw.av)]:=by
 obtain⟨Kind,Name,Pos,Kids⟩:=x;simp only[aw.cs,aw.Kids,aw.Kind,aw.Name,aw.Pos,aw.cg,cons_append,nil_append]
theorem aw.cells(x:aw):x.av.cells= [.v (.int .i64 x.Kind),.v (.string x.Name),.v (.int .i64 x.Pos),.sl (x.Kids.map aw.av)]:=aw.cv x
inductive dL where
 |mk (Name:ByteArray) (Has:Bool) (Arg:aw) (Pos:Int)
def dL.Name:dL->ByteArray
 | .mk a _ _ _=>a
def dL.Has:dL->Bool
 | .mk _ a _ _=>a
def dL.Arg:dL->aw
 | .mk _ _ a _=>a
def dL.Pos:dL->Int
 | .mk _ _ _ a=>a
def dL.cs:dL->List AV
 | .mk Name Has Arg Pos=>(.v (.string Name)::(.v (.bool Has)::(Arg.cs++(.v (.int .i64 Pos):: []))))
def dL.av(x:dL):AV:= .agg x.cs
theorem dL.aG:∀x:dL,AV.ad x.cs=true
 | .mk Name Has Arg Pos=>by simp[dL.cs,AV.ad,AV.ag,aF,aw.aG Arg]
theorem dL.ag(x:dL):x.av.ag=true:=dL.aG x
theorem dL.cv(x:dL):x.cs= [.v (.string x.Name),.v (.bool x.Has),.v (.int .i64 x.Arg.Kind),.v (.string x.Arg.Name),.v (.int .i64 x.Arg.Pos),.sl (x.Arg.Kids.map aw.av),.v (.int .i64 x.Pos)]:=by
 obtain⟨Name,Has,⟨am4,am3,aw8,am5⟩,Pos⟩:=x;simp only[dL.cs,aw.cs,dL.Arg,dL.Has,dL.Name,dL.Pos,aw.Kids,aw.Kind,aw.Name,aw.Pos,aw.cg,cons_append,nil_append]
theorem dL.cells(x:dL):x.av.cells= [.v (.string x.Name),.v (.bool x.Has),.v (.int .i64 x.Arg.Kind),.v (.string x.Arg.Name),.v (.int .i64 x.Arg.Pos),.sl (x.Arg.Kids.map aw.av),.v (.int .i64 x.Pos)]:=dL.cv x
inductive dK where
 |mk (Name:ByteArray) (jO:List ByteArray) (jq:List dL) (Pos:Int)
def dK.Name:dK->ByteArray
 | .mk a _ _ _=>a
def dK.jO:dK->List ByteArray
 | .mk _ a _ _=>a
def dK.jq:dK->List dL
 | .mk _ _ a _=>a
def dK.Pos:dK->Int
 | .mk _ _ _ a=>a
def dK.cs:dK->List AV
 | .mk Name jO jq Pos=>(.v (.string Name)::(.sl (jO.map λ x=> .v (.string x))::(.sl (jq.map dL.av)::(.v (.int .i64 Pos):: []))))
def dK.av(x:dK):AV:= .agg x.cs
theorem dK.aG:∀x:dK,AV.ad x.cs=true
 | .mk Name jO jq Pos=>by simp[dK.cs,AV.ad,AV.ag,aF,bu (f:=λ x=> .v (.string x)) (l:=jO) (λ _=>rfl),bu (f:=dL.av) (l:=jq) dL.ag]
theorem dK.ag(x:dK):x.av.ag=true:=dK.aG x
theorem dK.cv(x:dK):x.cs= [.v (.string x.Name),.sl (x.jO.map λ x=> .v (.string x)),.sl (x.jq.map dL.av),.v (.int .i64 x.Pos)]:=by
 obtain⟨Name,jO,jq,Pos⟩:=x;simp only[dK.cs,dK.jq,dK.Name,dK.Pos,dK.jO,cons_append,nil_append]
theorem dK.cells(x:dK):x.av.cells= [.v (.string x.Name),.sl (x.jO.map λ x=> .v (.string x)),.sl (x.jq.map dL.av),.v (.int .i64 x.Pos)]:=dK.cv x
inductive ig where
 |mk (Types:List dK) (Body:bS)
def ig.Types:ig->List dK
 | .mk a _=>a
def ig.Body:ig->bS
 | .mk _ a=>a
def ig.cs:ig->List AV
 | .mk Types Body=>(.sl (Types.map dK.av)::(Body.cs++ []))
def ig.av(x:ig):AV:= .agg x.cs
theorem ig.aG:∀x:ig,AV.ad x.cs=true
 | .mk Types Body=>by simp[ig.cs,AV.ad,AV.ag,aF,bu (f:=dK.av) (l:=Types) dK.ag,bS.aG Body]
theorem ig.ag(x:ig):x.av.ag=true:=ig.aG x
theorem ig.cv(x:ig):x.cs= [.sl (x.Types.map dK.av),.v (.int .i64 x.Body.Kind),.v (.string x.Body.Name),.v (.int .i64 x.Body.fQ),.v (.string x.Body.Text),.v (.int .i64 x.Body.Pos),.sl (x.Body.Kids.map bS.av),.sl (x.Body.jx.map dY.av)]:=by
 obtain⟨Types,⟨ajj,aji,am1,atp,awD,ajk,atq⟩⟩:=x;simp only[bS.cs,ig.cs,bS.jx,bS.Kids,bS.Kind,bS.Name,bS.fQ,bS.Pos,bS.Text,ig.Body,ig.Types,dY.cg,bS.cg,cons_append,nil_append]
theorem ig.cells(x:ig):x.av.cells= [.sl (x.Types.map dK.av),.v (.int .i64 x.Body.Kind),.v (.string x.Body.Name),.v (.int .i64 x.Body.fQ),.v (.string x.Body.Text),.v (.int .i64 x.Body.Pos),.sl (x.Body.Kids.map bS.av),.sl (x.Body.jx.map dY.av)]:=ig.cv x
inductive b8 where
 |mk (Kind:Int) (N:Int) (Name:ByteArray) (Kids:List b8)
def b8.Kind:b8->Int
 | .mk a _ _ _=>a
def b8.N:b8->Int
 | .mk _ a _ _=>a
def b8.Name:b8->ByteArray
 | .mk _ _ a _=>a
def b8.Kids:b8->List b8
 | .mk _ _ _ a=>a
mutual
def b8.cs:b8->List AV
 | .mk Kind N Name Kids=>(.v (.int .i64 Kind)::(.v (.int .i64 N)::(.v (.string Name)::(.sl (b8.iW Kids):: []))))
def b8.iW:List b8->List AV
 | []=>[]
 |x::l=> .agg x.cs::b8.iW l
end
def b8.av(x:b8):AV:= .agg x.cs
theorem b8.cg(l:List b8):b8.iW l=l.map b8.av:=by
 induction l with
 |nil=>rfl
 |cons x l ih=>simp only[b8.iW,ih,map_cons,b8.av]
mutual
theorem b8.aG:∀x:b8,AV.ad x.cs=true
 | .mk Kind N Name Kids=>by simp[b8.cs,AV.ad,AV.ag,aF,b8.cB Kids]
theorem b8.cB:∀l:List b8,AV.ad (b8.iW l)=true
 | []=>rfl
 |x::l=>by simp[b8.iW,AV.ad,AV.ag,b8.aG x,b8.cB l]
end
theorem b8.ag(x:b8):x.av.ag=true:=b8.aG x
theorem b8.cv(x:b8):x.cs= [.v (.int .i64 x.Kind),.v (.int .i64 x.N),.v (.string x.Name),.sl (x.Kids.map b8.av)]:=by
 obtain⟨Kind,N,Name,Kids⟩:=x;simp only[b8.cs,b8.Kids,b8.Kind,b8.N,b8.Name,b8.cg,cons_append,nil_append]
theorem b8.cells(x:b8):x.av.cells= [.v (.int .i64 x.Kind),.v (.int .i64 x.N),.v (.string x.Name),.sl (x.Kids.map b8.av)]:=b8.cv x
inductive bd where
 |mk (Name:ByteArray) (Has:Bool) (Arg:b8)
def bd.Name:bd->ByteArray
 | .mk a _ _=>a
def bd.Has:bd->Bool
 | .mk _ a _=>a
def bd.Arg:bd->b8
 | .mk _ _ a=>a
def bd.cs:bd->List AV
 | .mk Name Has Arg=>(.v (.string Name)::(.v (.bool Has)::(Arg.cs++ [])))
def bd.av(x:bd):AV:= .agg x.cs
theorem bd.aG:∀x:bd,AV.ad x.cs=true
 | .mk Name Has Arg=>by simp[bd.cs,AV.ad,AV.ag,aF,b8.aG Arg]
theorem bd.ag(x:bd):x.av.ag=true:=bd.aG x
theorem bd.cv(x:bd):x.cs= [.v (.string x.Name),.v (.bool x.Has),.v (.int .i64 x.Arg.Kind),.v (.int .i64 x.Arg.N),.v (.string x.Arg.Name),.sl (x.Arg.Kids.map b8.av)]:=by
 obtain⟨Name,Has,⟨am4,azR,am3,am5⟩⟩:=x;simp only[bd.cs,b8.cs,bd.Arg,bd.Has,bd.Name,b8.Kids,b8.Kind,b8.N,b8.Name,b8.cg,cons_append,nil_append]
theorem bd.cells(x:bd):x.av.cells= [.v (.string x.Name),.v (.bool x.Has),.v (.int .i64 x.Arg.Kind),.v (.int .i64 x.Arg.N),.v (.string x.Arg.Name),.sl (x.Arg.Kids.map b8.av)]:=bd.cv x
inductive bN where
 |mk (Name:ByteArray) (jO:Int) (jq:List bd)
def bN.Name:bN->ByteArray
 | .mk a _ _=>a
def bN.jO:bN->Int
 | .mk _ a _=>a
def bN.jq:bN->List bd
 | .mk _ _ a=>a
def bN.cs:bN->List AV
 | .mk Name jO jq=>(.v (.string Name)::(.v (.int .i64 jO)::(.sl (jq.map bd.av):: [])))
def bN.av(x:bN):AV:= .agg x.cs
theorem bN.aG:∀x:bN,AV.ad x.cs=true
 | .mk Name jO jq=>by simp[bN.cs,AV.ad,AV.ag,aF,bu (f:=bd.av) (l:=jq) bd.ag]
theorem bN.ag(x:bN):x.av.ag=true:=bN.aG x
theorem bN.cv(x:bN):x.cs= [.v (.string x.Name),.v (.int .i64 x.jO),.sl (x.jq.map bd.av)]:=by
 obtain⟨Name,jO,jq⟩:=x;simp only[bN.cs,bN.jq,bN.Name,bN.jO,cons_append,nil_append]
theorem bN.cells(x:bN):x.av.cells= [.v (.string x.Name),.v (.int .i64 x.jO),.sl (x.jq.map bd.av)]:=bN.cv x
inductive bx where
 |mk (Kind:Int) (fQ:Int) (Name:ByteArray) (T:b8) (Kids:List bx)
def bx.Kind:bx->Int
 | .mk a _ _ _ _=>a
def bx.fQ:bx->Int
 | .mk _ a _ _ _=>a
def bx.Name:bx->ByteArray
 | .mk _ _ a _ _=>a
def bx.T:bx->b8
 | .mk _ _ _ a _=>a
def bx.Kids:bx->List bx
 | .mk _ _ _ _ a=>a
mutual
def bx.cs:bx->List AV
 | .mk Kind fQ Name T Kids=>(.v (.int .i64 Kind)::(.v (.int .i64 fQ)::(.v (.string Name)::(T.cs++(.sl (bx.iW Kids):: [])))))
def bx.iW:List bx->List AV
 | []=>[]
 |x::l=> .agg x.cs::bx.iW l
end
def bx.av(x:bx):AV:= .agg x.cs
theorem bx.cg(l:List bx):bx.iW l=l.map bx.av:=by
 induction l with
 |nil=>rfl
 |cons x l ih=>simp only[bx.iW,ih,map_cons,bx.av]
mutual
theorem bx.aG:∀x:bx,AV.ad x.cs=true
 | .mk Kind fQ Name T Kids=>by simp[bx.cs,AV.ad,AV.ag,aF,b8.aG T,bx.cB Kids]
theorem bx.cB:∀l:List bx,AV.ad (bx.iW l)=true
 | []=>rfl
 |x::l=>by simp[bx.iW,AV.ad,AV.ag,bx.aG x,bx.cB l]
end
theorem bx.ag(x:bx):x.av.ag=true:=bx.aG x
theorem bx.cv(x:bx):x.cs= [.v (.int .i64 x.Kind),.v (.int .i64 x.fQ),.v (.string x.Name),.v (.int .i64 x.T.Kind),.v (.int .i64 x.T.N),.v (.string x.T.Name),.sl (x.T.Kids.map b8.av),.sl (x.Kids.map bx.av)]:=by
 obtain⟨Kind,fQ,Name,⟨abX,T_N,abW,abY⟩,Kids⟩:=x;simp only[bx.cs,b8.cs,bx.Kids,bx.Kind,bx.Name,bx.fQ,bx.T,b8.Kids,b8.Kind,b8.N,b8.Name,bx.cg,b8.cg,cons_append,nil_append]
theorem bx.cells(x:bx):x.av.cells= [.v (.int .i64 x.Kind),.v (.int .i64 x.fQ),.v (.string x.Name),.v (.int .i64 x.T.Kind),.v (.int .i64 x.T.N),.v (.string x.T.Name),.sl (x.T.Kids.map b8.av),.sl (x.Kids.map bx.av)]:=bx.cv x
mutual
inductive ba where
 |mk (Kind:Int) (N:Int) (fQ:Int) (Text:ByteArray) (Name:ByteArray) (T:b8) (Ts:List b8) (Kids:List ba) (jx:List cp)
inductive cp where
 |mk (P:bx) (E:ba)
end
def ba.Kind:ba->Int
 | .mk a _ _ _ _ _ _ _ _=>a
def ba.N:ba->Int
 | .mk _ a _ _ _ _ _ _ _=>a
def ba.fQ:ba->Int
 | .mk _ _ a _ _ _ _ _ _=>a
def ba.Text:ba->ByteArray
 | .mk _ _ _ a _ _ _ _ _=>a
def ba.Name:ba->ByteArray
 | .mk _ _ _ _ a _ _ _ _=>a
def ba.T:ba->b8
 | .mk _ _ _ _ _ a _ _ _=>a
def ba.Ts:ba->List b8
 | .mk _ _ _ _ _ _ a _ _=>a
def ba.Kids:ba->List ba
 | .mk _ _ _ _ _ _ _ a _=>a
def ba.jx:ba->List cp
 | .mk _ _ _ _ _ _ _ _ a=>a
def cp.P:cp->bx
 | .mk a _=>a
def cp.E:cp->ba
 | .mk _ a=>a
mutual
def ba.cs:ba->List AV
 | .mk Kind N fQ Text Name T Ts Kids jx=>(.v (.int .i64 Kind)::(.v (.int .i64 N)::(.v (.int .i64 fQ)::(.v (.string Text)::(.v (.string Name)::(T.cs++(.sl (Ts.map b8.av)::(.sl (ba.iW Kids)::(.sl (cp.iW jx):: [])))))))))
def cp.cs:cp->List AV
 | .mk P E=>(P.cs++(E.cs++ []))
def ba.iW:List ba->List AV
 | []=>[]
 |x::l=> .agg x.cs::ba.iW l
def cp.iW:List cp->List AV
 | []=>[]
 |x::l=> .agg x.cs::cp.iW l
end
def ba.av(x:ba):AV:= .agg x.cs
theorem ba.cg(l:List ba):ba.iW l=l.map ba.av:=by
 induction l with
 |nil=>rfl
 |cons x l ih=>simp only[ba.iW,ih,map_cons,ba.av]
def cp.av(x:cp):AV:= .agg x.cs
theorem cp.cg(l:List cp):cp.iW l=l.map cp.av:=by
 induction l with
 |nil=>rfl
 |cons x l ih=>simp only[cp.iW,ih,map_cons,cp.av]
mutual
theorem ba.aG:∀x:ba,AV.ad x.cs=true
 | .mk Kind N fQ Text Name T Ts Kids jx=>by simp[ba.cs,AV.ad,AV.ag,aF,b8.aG T,bu (f:=b8.av) (l:=Ts) b8.ag,ba.cB Kids,cp.cB jx]
theorem cp.aG:∀x:cp,AV.ad x.cs=true
 | .mk P E=>by simp[cp.cs,AV.ad,AV.ag,aF,bx.aG P,ba.aG E]
theorem ba.cB:∀l:List ba,AV.ad (ba.iW l)=true
 | []=>rfl
 |x::l=>by simp[ba.iW,AV.ad,AV.ag,ba.aG x,ba.cB l]
theorem cp.cB:∀l:List cp,AV.ad (cp.iW l)=true
 | []=>rfl
 |x::l=>by simp[cp.iW,AV.ad,AV.ag,cp.aG x,cp.cB l]
end
theorem ba.ag(x:ba):x.av.ag=true:=ba.aG x
theorem ba.cv(x:ba):x.cs= [.v (.int .i64 x.Kind),.v (.int .i64 x.N),.v (.int .i64 x.fQ),.v (.string x.Text),.v (.string x.Name),.v (.int .i64 x.T.Kind),.v (.int .i64 x.T.N),.v (.string x.T.Name),.sl (x.T.Kids.map b8.av),.sl (x.Ts.map b8.av),.sl (x.Kids.map ba.av),.sl (x.jx.map cp.av)]:=by
 obtain⟨Kind,N,fQ,Text,Name,⟨abX,T_N,abW,abY⟩,Ts,Kids,jx⟩:=x;simp only[ba.cs,b8.cs,ba.jx,ba.Kids,ba.Kind,ba.N,ba.Name,ba.fQ,ba.T,ba.Text,ba.Ts,b8.Kids,b8.Kind,b8.N,b8.Name,cp.cg,ba.cg,b8.cg,cons_append,nil_append]
theorem ba.cells(x:ba):x.av.cells= [.v (.int .i64 x.Kind),.v (.int .i64 x.N),.v (.int .i64 x.fQ),.v (.string x.Text),.v (.string x.Name),.v (.int .i64 x.T.Kind),.v (.int .i64 x.T.N),.v (.string x.T.Name),.sl (x.T.Kids.map b8.av),.sl (x.Ts.map b8.av),.sl (x.Kids.map ba.av),.sl (x.jx.map cp.av)]:=ba.cv x
theorem cp.ag(x:cp):x.av.ag=true:=cp.aG x
theorem cp.cv(x:cp):x.cs= [.v (.int .i64 x.P.Kind),.v (.int .i64 x.P.fQ),.v (.string x.P.Name),.v (.int .i64 x.P.T.Kind),.v (.int .i64 x.P.T.N),.v (.string x.P.T.Name),.sl (x.P.T.Kids.map b8.av),.sl (x.P.Kids.map bx.av),.v (.int .i64 x.E.Kind),.v (.int .i64 x.E.N),.v (.int .i64 x.E.fQ),.v (.string x.E.Text),.v (.string x.E.Name),.v (.int .i64 x.E.T.Kind),.v (.int .i64 x.E.T.N),.v (.string x.E.T.Name),.sl (x.E.T.Kids.map b8.av),.sl (x.E.Ts.map b8.av),.sl (x.E.Kids.map ba.av),.sl (x.E.jx.map cp.av)]:=by
 obtain⟨⟨asW,aws,asV,⟨awq,azN,awp,awr⟩,asX⟩,⟨as0,E_N,awA,asY,asZ,⟨awy,azP,awx,awz⟩,aBL,as1,as2⟩⟩:=x;simp only[cp.cs,bx.cs,ba.cs,b8.cs,cp.E,cp.P,bx.Kids,bx.Kind,bx.Name,bx.fQ,bx.T,ba.jx,ba.Kids,ba.Kind,ba.N,ba.Name,ba.fQ,ba.T,ba.Text,ba.Ts,b8.Kids,b8.Kind,b8.N,b8.Name,cp.cg,bx.cg,ba.cg,b8.cg,cons_append,nil_append]
theorem cp.cells(x:cp):x.av.cells= [.v (.int .i64 x.P.Kind),.v (.int .i64 x.P.fQ),.v (.string x.P.Name),.v (.int .i64 x.P.T.Kind),.v (.int .i64 x.P.T.N),.v (.string x.P.T.Name),.sl (x.P.T.Kids.map b8.av),.sl (x.P.Kids.map bx.av),.v (.int .i64 x.E.Kind),.v (.int .i64 x.E.N),.v (.int .i64 x.E.fQ),.v (.string x.E.Text),.v (.string x.E.Name),.v (.int .i64 x.E.T.Kind),.v (.int .i64 x.E.T.N),.v (.string x.E.T.Name),.sl (x.E.T.Kids.map b8.av),.sl (x.E.Ts.map b8.av),.sl (x.E.Kids.map ba.av),.sl (x.E.jx.map cp.av)]:=cp.cv x
inductive cZ where
 |mk (Kind:Int) (N:Int) (fQ:Int) (Text:ByteArray)
def cZ.Kind:cZ->Int
 | .mk a _ _ _=>a
def cZ.N:cZ->Int
 | .mk _ a _ _=>a
def cZ.fQ:cZ->Int
 | .mk _ _ a _=>a
def cZ.Text:cZ->ByteArray
 | .mk _ _ _ a=>a
def cZ.cs:cZ->List AV
 | .mk Kind N fQ Text=>(.v (.int .i64 Kind)::(.v (.int .i64 N)::(.v (.int .i64 fQ)::(.v (.string Text):: []))))
def cZ.av(x:cZ):AV:= .agg x.cs
theorem cZ.aG:∀x:cZ,AV.ad x.cs=true
 | .mk Kind N fQ Text=>by simp[cZ.cs,AV.ad,AV.ag,aF]
theorem cZ.ag(x:cZ):x.av.ag=true:=cZ.aG x
theorem cZ.cv(x:cZ):x.cs= [.v (.int .i64 x.Kind),.v (.int .i64 x.N),.v (.int .i64 x.fQ),.v (.string x.Text)]:=by
 obtain⟨Kind,N,fQ,Text⟩:=x;simp only[cZ.cs,cZ.Kind,cZ.N,cZ.fQ,cZ.Text,cons_append,nil_append]
theorem cZ.cells(x:cZ):x.av.cells= [.v (.int .i64 x.Kind),.v (.int .i64 x.N),.v (.int .i64 x.fQ),.v (.string x.Text)]:=cZ.cv x
inductive aA where
 |mk (Kind:Int) (Name:ByteArray) (N:Int) (fQ:Int) (T:b8) (Ts:List b8) (Vs:List cZ) (Kids:List aA)
def aA.Kind:aA->Int
 | .mk a _ _ _ _ _ _ _=>a
def aA.Name:aA->ByteArray
 | .mk _ a _ _ _ _ _ _=>a
def aA.N:aA->Int
 | .mk _ _ a _ _ _ _ _=>a
def aA.fQ:aA->Int
 | .mk _ _ _ a _ _ _ _=>a
def aA.T:aA->b8
 | .mk _ _ _ _ a _ _ _=>a
def aA.Ts:aA->List b8
 | .mk _ _ _ _ _ a _ _=>a
def aA.Vs:aA->List cZ
 | .mk _ _ _ _ _ _ a _=>a
def aA.Kids:aA->List aA
 | .mk _ _ _ _ _ _ _ a=>a
mutual
def aA.cs:aA->List AV
 | .mk Kind Name N fQ T Ts Vs Kids=>(.v (.int .i64 Kind)::(.v (.string Name)::(.v (.int .i64 N)::(.v (.int .i64 fQ)::(T.cs++(.sl (Ts.map b8.av)::(.sl (Vs.map cZ.av)::(.sl (aA.iW Kids):: []))))))))
def aA.iW:List aA->List AV
 | []=>[]
 |x::l=> .agg x.cs::aA.iW l
end
def aA.av(x:aA):AV:= .agg x.cs
theorem aA.cg(l:List aA):aA.iW l=l.map aA.av:=by
 induction l with
 |nil=>rfl
 |cons x l ih=>simp only[aA.iW,ih,map_cons,aA.av]
mutual
theorem aA.aG:∀x:aA,AV.ad x.cs=true
 | .mk Kind Name N fQ T Ts Vs Kids=>by simp[aA.cs,AV.ad,AV.ag,aF,b8.aG T,bu (f:=b8.av) (l:=Ts) b8.ag,bu (f:=cZ.av) (l:=Vs) cZ.ag,aA.cB Kids]
theorem aA.cB:∀l:List aA,AV.ad (aA.iW l)=true
 | []=>rfl
 |x::l=>by simp[aA.iW,AV.ad,AV.ag,aA.aG x,aA.cB l]
end
theorem aA.ag(x:aA):x.av.ag=true:=aA.aG x
theorem aA.cv(x:aA):x.cs= [.v (.int .i64 x.Kind),.v (.string x.Name),.v (.int .i64 x.N),.v (.int .i64 x.fQ),.v (.int .i64 x.T.Kind),.v (.int .i64 x.T.N),.v (.string x.T.Name),.sl (x.T.Kids.map b8.av),.sl (x.Ts.map b8.av),.sl (x.Vs.map cZ.av),.sl (x.Kids.map aA.av)]:=by
 obtain⟨Kind,Name,N,fQ,⟨abX,T_N,abW,abY⟩,Ts,Vs,Kids⟩:=x;simp only[aA.cs,b8.cs,aA.Kids,aA.Kind,aA.N,aA.Name,aA.fQ,aA.T,aA.Ts,aA.Vs,b8.Kids,b8.Kind,b8.N,b8.Name,aA.cg,b8.cg,cons_append,nil_append]
theorem aA.cells(x:aA):x.av.cells= [.v (.int .i64 x.Kind),.v (.string x.Name),.v (.int .i64 x.N),.v (.int .i64 x.fQ),.v (.int .i64 x.T.Kind),.v (.int .i64 x.T.N),.v (.string x.T.Name),.sl (x.T.Kids.map b8.av),.sl (x.Ts.map b8.av),.sl (x.Vs.map cZ.av),.sl (x.Kids.map aA.av)]:=aA.cv x
inductive ez where
 |mk (T:b8) (aee:Int) (oV:Bool)
def ez.T:ez->b8
 | .mk a _ _=>a
def ez.aee:ez->Int
 | .mk _ a _=>a
def ez.oV:ez->Bool
 | .mk _ _ a=>a
def ez.cs:ez->List AV
 | .mk T aee oV=>(T.cs++(.v (.int .i64 aee)::(.v (.bool oV):: [])))
def ez.av(x:ez):AV:= .agg x.cs
theorem ez.aG:∀x:ez,AV.ad x.cs=true
 | .mk T aee oV=>by simp[ez.cs,AV.ad,AV.ag,aF,b8.aG T]
theorem ez.ag(x:ez):x.av.ag=true:=ez.aG x
theorem ez.cv(x:ez):x.cs= [.v (.int .i64 x.T.Kind),.v (.int .i64 x.T.N),.v (.string x.T.Name),.sl (x.T.Kids.map b8.av),.v (.int .i64 x.aee),.v (.bool x.oV)]:=by
 obtain⟨⟨abX,T_N,abW,abY⟩,aee,oV⟩:=x;simp only[ez.cs,b8.cs,ez.oV,ez.aee,ez.T,b8.Kids,b8.Kind,b8.N,b8.Name,b8.cg,cons_append,nil_append]
theorem ez.cells(x:ez):x.av.cells= [.v (.int .i64 x.T.Kind),.v (.int .i64 x.T.N),.v (.string x.T.Name),.sl (x.T.Kids.map b8.av),.v (.int .i64 x.aee),.v (.bool x.oV)]:=ez.cv x
inductive cc where
 |mk (jO:Int) (ab2:List ez) (oV:Bool) (T:b8) (Body:aA)
def cc.jO:cc->Int
 | .mk a _ _ _ _=>a
def cc.ab2:cc->List ez
 | .mk _ a _ _ _=>a
def cc.oV:cc->Bool
 | .mk _ _ a _ _=>a
def cc.T:cc->b8
 | .mk _ _ _ a _=>a
def cc.Body:cc->aA
 | .mk _ _ _ _ a=>a
def cc.cs:cc->List AV
 | .mk jO ab2 oV T Body=>(.v (.int .i64 jO)::(.sl (ab2.map ez.av)::(.v (.bool oV)::(T.cs++(Body.cs++ [])))))
def cc.av(x:cc):AV:= .agg x.cs
theorem cc.aG:∀x:cc,AV.ad x.cs=true
 | .mk jO ab2 oV T Body=>by simp[cc.cs,AV.ad,AV.ag,aF,bu (f:=ez.av) (l:=ab2) ez.ag,b8.aG T,aA.aG Body]
theorem cc.ag(x:cc):x.av.ag=true:=cc.aG x
theorem cc.cv(x:cc):x.cs= [.v (.int .i64 x.jO),.sl (x.ab2.map ez.av),.v (.bool x.oV),.v (.int .i64 x.T.Kind),.v (.int .i64 x.T.N),.v (.string x.T.Name),.sl (x.T.Kids.map b8.av),.v (.int .i64 x.Body.Kind),.v (.string x.Body.Name),.v (.int .i64 x.Body.N),.v (.int .i64 x.Body.fQ),.v (.int .i64 x.Body.T.Kind),.v (.int .i64 x.Body.T.N),.v (.string x.Body.T.Name),.sl (x.Body.T.Kids.map b8.av),.sl (x.Body.Ts.map b8.av),.sl (x.Body.Vs.map cZ.av),.sl (x.Body.Kids.map aA.av)]:=by
 obtain⟨jO,ab2,oV,⟨abX,T_N,abW,abY⟩,⟨ajj,aji,ay5,am1,⟨aqt,awC,aqs,aqu⟩,aw7,aw6,ajk⟩⟩:=x;simp only[cc.cs,aA.cs,b8.cs,cc.Body,cc.ab2,cc.oV,cc.T,cc.jO,aA.Kids,aA.Kind,aA.N,aA.Name,aA.fQ,aA.T,aA.Ts,aA.Vs,b8.Kids,b8.Kind,b8.N,b8.Name,aA.cg,b8.cg,cons_append,nil_append]
theorem cc.cells(x:cc):x.av.cells= [.v (.int .i64 x.jO),.sl (x.ab2.map ez.av),.v (.bool x.oV),.v (.int .i64 x.T.Kind),.v (.int .i64 x.T.N),.v (.string x.T.Name),.sl (x.T.Kids.map b8.av),.v (.int .i64 x.Body.Kind),.v (.string x.Body.Name),.v (.int .i64 x.Body.N),.v (.int .i64 x.Body.fQ),.v (.int .i64 x.Body.T.Kind),.v (.int .i64 x.Body.T.N),.v (.string x.Body.T.Name),.sl (x.Body.T.Kids.map b8.av),.sl (x.Body.Ts.map b8.av),.sl (x.Body.Vs.map cZ.av),.sl (x.Body.Kids.map aA.av)]:=cc.cv x
inductive eT where
 |mk (nz:List cc) (Main:aA)
def eT.nz:eT->List cc
 | .mk a _=>a
def eT.Main:eT->aA
 | .mk _ a=>a
def eT.cs:eT->List AV
 | .mk nz Main=>(.sl (nz.map cc.av)::(Main.cs++ []))
def eT.av(x:eT):AV:= .agg x.cs
theorem eT.aG:∀x:eT,AV.ad x.cs=true
 | .mk nz Main=>by simp[eT.cs,AV.ad,AV.ag,aF,bu (f:=cc.av) (l:=nz) cc.ag,aA.aG Main]
theorem eT.ag(x:eT):x.av.ag=true:=eT.aG x
theorem eT.cv(x:eT):x.cs= [.sl (x.nz.map cc.av),.v (.int .i64 x.Main.Kind),.v (.string x.Main.Name),.v (.int .i64 x.Main.N),.v (.int .i64 x.Main.fQ),.v (.int .i64 x.Main.T.Kind),.v (.int .i64 x.Main.T.N),.v (.string x.Main.T.Name),.sl (x.Main.T.Kids.map b8.av),.sl (x.Main.Ts.map b8.av),.sl (x.Main.Vs.map cZ.av),.sl (x.Main.Kids.map aA.av)]:=by
 obtain⟨nz,⟨atn,atm,ay2,awv,⟨aqq,awu,aqp,aqr⟩,aw4,aw3,ato⟩⟩:=x;simp only[eT.cs,aA.cs,b8.cs,eT.nz,eT.Main,aA.Kids,aA.Kind,aA.N,aA.Name,aA.fQ,aA.T,aA.Ts,aA.Vs,b8.Kids,b8.Kind,b8.N,b8.Name,aA.cg,b8.cg,cons_append,nil_append]
theorem eT.cells(x:eT):x.av.cells= [.sl (x.nz.map cc.av),.v (.int .i64 x.Main.Kind),.v (.string x.Main.Name),.v (.int .i64 x.Main.N),.v (.int .i64 x.Main.fQ),.v (.int .i64 x.Main.T.Kind),.v (.int .i64 x.Main.T.N),.v (.string x.Main.T.Name),.sl (x.Main.T.Kids.map b8.av),.sl (x.Main.Ts.map b8.av),.sl (x.Main.Vs.map cZ.av),.sl (x.Main.Kids.map aA.av)]:=eT.cv x
inductive aa where
 |mk (Op:Int) (A:Int) (B:Int) (C:Int) (N:Int) (Text:ByteArray)
def aa.Op:aa->Int
 | .mk a _ _ _ _ _=>a
def aa.A:aa->Int
 | .mk _ a _ _ _ _=>a
def aa.B:aa->Int
 | .mk _ _ a _ _ _=>a
def aa.C:aa->Int
 | .mk _ _ _ a _ _=>a
def aa.N:aa->Int
 | .mk _ _ _ _ a _=>a
def aa.Text:aa->ByteArray
 | .mk _ _ _ _ _ a=>a
theorem aa.aqo(Op:Int)(A:Int)(B:Int)(C:Int)(N:Int)(Text:ByteArray):(aa.mk Op A B C N Text).Op=Op:=nr rfl
theorem aa.awF(Op:Int)(A:Int)(B:Int)(C:Int)(N:Int)(Text:ByteArray):(aa.mk Op A B C N Text).A=A:=nr rfl
theorem aa.awE(Op:Int)(A:Int)(B:Int)(C:Int)(N:Int)(Text:ByteArray):(aa.mk Op A B C N Text).B=B:=nr rfl
theorem aa.awB(Op:Int)(A:Int)(B:Int)(C:Int)(N:Int)(Text:ByteArray):(aa.mk Op A B C N Text).C=C:=nr rfl
theorem aa.awt(Op:Int)(A:Int)(B:Int)(C:Int)(N:Int)(Text:ByteArray):(aa.mk Op A B C N Text).N=N:=nr rfl
theorem aa.ahc(Op:Int)(A:Int)(B:Int)(C:Int)(N:Int)(Text:ByteArray):(aa.mk Op A B C N Text).Text=Text:=nr rfl
def aa.cs:aa->List AV
 | .mk Op A B C N Text=>(.v (.int .i64 Op)::(.v (.int .i64 A)::(.v (.int .i64 B)::(.v (.int .i64 C)::(.v (.int .i64 N)::(.v (.string Text):: []))))))
def aa.av(x:aa):AV:= .agg x.cs
def aa.wt:aa->Nat
 | .mk Op A B C N Text=>Text.size
theorem aa.aG:∀x:aa,AV.ad x.cs=true
 | .mk Op A B C N Text=>by simp[aa.cs,AV.ad,AV.ag,aF]
theorem aa.ag(x:aa):x.av.ag=true:=aa.aG x
theorem aa.isAgg(x:aa):x.av.isAgg=true:=nr rfl
theorem aa.cv(x:aa):x.cs= [.v (.int .i64 x.Op),.v (.int .i64 x.A),.v (.int .i64 x.B),.v (.int .i64 x.C),.v (.int .i64 x.N),.v (.string x.Text)]:=by
 obtain⟨Op,A,B,C,N,Text⟩:=x;simp only[aa.cs,aa.A,aa.B,aa.C,aa.N,aa.Op,aa.Text,cons_append,nil_append]
theorem aa.cells(x:aa):x.av.cells= [.v (.int .i64 x.Op),.v (.int .i64 x.A),.v (.int .i64 x.B),.v (.int .i64 x.C),.v (.int .i64 x.N),.v (.string x.Text)]:=aa.cv x
theorem aa.width(x:aa):x.av.cells.length=6:=by rw[aa.cells];rfl
theorem aa.storable(x:aa):x.av.storable=true:=by unfold AV.storable;rw[aa.cells];rfl
theorem aa.eta(x:aa):AV.agg [.v (.int .i64 x.Op),.v (.int .i64 x.A),.v (.int .i64 x.B),.v (.int .i64 x.C),.v (.int .i64 x.N),.v (.string x.Text)]=x.av:=by
 show _=AV.agg x.cs;rw[aa.cv]
theorem aa.shape(x:aa):x.av.isAgg=true/\x.av.cells.length=6/\x.av.storable=true:=⟨rfl,aa.width x,aa.storable x⟩
theorem aa.jy(x:aa):x.wt=x.Text.size:=by
 cases x;simp only[aa.wt,aa.Op,aa.A,aa.B,aa.C,aa.N,aa.Text]
theorem aa.facts{l:List aa}{b:Nat}(h:(l.map aa.wt).sum<=b):∀x∈l,x.wt<=b/\x.wt=x.Text.size:=λ x hx=>⟨Nat.le_trans (afn aa.wt hx) h,x.jy⟩
inductive ai where
 |mk (ar:List aa) (aM:List Int)
def ai.ar:ai->List aa
 | .mk a _=>a
def ai.aM:ai->List Int
 | .mk _ a=>a
def ai.cs:ai->List AV
 | .mk ar aM=>(.sl (ar.map aa.av)::(.sl (aM.map λ x=> .v (.int .i64 x)):: []))
def ai.av(x:ai):AV:= .agg x.cs
def ai.wt:ai->Nat
 | .mk ar aM=>(ar.length+(ar.map aa.wt).sum)+aM.length
theorem ai.aG:∀x:ai,AV.ad x.cs=true
 | .mk ar aM=>by simp[ai.cs,AV.ad,AV.ag,aF,bu (f:=aa.av) (l:=ar) aa.ag,bu (f:=λ x=> .v (.int .i64 x)) (l:=aM) (λ _=>rfl)]
theorem ai.ag(x:ai):x.av.ag=true:=ai.aG x
theorem ai.isAgg(x:ai):x.av.isAgg=true:=nr rfl
theorem ai.cv(x:ai):x.cs= [.sl (x.ar.map aa.av),.sl (x.aM.map λ x=> .v (.int .i64 x))]:=by
 obtain⟨ar,aM⟩:=x;simp only[ai.cs,ai.ar,ai.aM,cons_append,nil_append]
theorem ai.cells(x:ai):x.av.cells= [.sl (x.ar.map aa.av),.sl (x.aM.map λ x=> .v (.int .i64 x))]:=ai.cv x
theorem ai.width(x:ai):x.av.cells.length=2:=by rw[ai.cells];rfl
theorem ai.storable(x:ai):x.av.storable=true:=by unfold AV.storable;rw[ai.cells];rfl
theorem ai.eta(x:ai):AV.agg [.sl (x.ar.map aa.av),.sl (x.aM.map λ x=> .v (.int .i64 x))]=x.av:=by
 show _=AV.agg x.cs;rw[ai.cv]
theorem ai.jy(x:ai):x.wt=(x.ar.length+(x.ar.map aa.wt).sum)+x.aM.length:=by
 cases x;simp only[ai.wt,ai.ar,ai.aM]
inductive dW where
 |mk (At:Int) (Room:Int) (Put:Int)
def dW.At:dW->Int
 | .mk a _ _=>a
def dW.Room:dW->Int
 | .mk _ a _=>a
def dW.Put:dW->Int
 | .mk _ _ a=>a
def dW.cs:dW->List AV
 | .mk At Room Put=>(.v (.int .i64 At)::(.v (.int .i64 Room)::(.v (.int .i64 Put):: [])))
def dW.av(x:dW):AV:= .agg x.cs
theorem dW.aG:∀x:dW,AV.ad x.cs=true
 | .mk At Room Put=>by simp[dW.cs,AV.ad,AV.ag,aF]
theorem dW.ag(x:dW):x.av.ag=true:=dW.aG x
theorem dW.cv(x:dW):x.cs= [.v (.int .i64 x.At),.v (.int .i64 x.Room),.v (.int .i64 x.Put)]:=by
 obtain⟨At,Room,Put⟩:=x;simp only[dW.cs,dW.At,dW.Put,dW.Room,cons_append,nil_append]
theorem dW.cells(x:dW):x.av.cells= [.v (.int .i64 x.At),.v (.int .i64 x.Room),.v (.int .i64 x.Put)]:=dW.cv x
end Go.Ab
namespace Go.Ab
set_option maxRecDepth 100000
section
variable {P:Program} {L:AX->SS->List AV->Prop} {R:AV->Prop} {t:T} {r:List AV} {S:List (List AV->Prop)}
theorem rL{init:List AV}(n:Nat)(I:Nat->Prop)(σ:Nat->List AV)(h0:init=σ 0)(hI:I 0)
  (hr:∀i,i<=n->I i->bD P L R t (r++σ i) ((λ vs=>i<n/\I (i+1)/\vs=σ (i+1))::S)):rM P L R init t r S:=by
 refine cM (ι:=Nat) (λ i=>i<=n/\I i) σ (λ i=>n- i) 0 ⟨zero_le _,hI⟩ h0 λ i hi=> ?_
 refine eE (λ _ _ _ h=>h) (λ _ h=>h) t (.cons (λ vs hv=> ?_) (.refl _)) (hr i hi.1 hi.2);exact⟨i+1,⟨hv.1,hv.2.1⟩,by have:=hv.1;omega,hv.2.2⟩
end
theorem nJ{α:Type}{l:List α}{i:Nat}(h:i<l.length):l.drop i=l[i]::l.drop (i+1):=List.drop_eq_getElem_cons h
theorem adA{α:Type}(l:List α):l.drop l.length= []:=List.drop_length
def lr{α:Type}(p:α->Bool):List α->Nat->Int
 | [],_=> -1
 |x::r,k=>if p x=true then(k:Int)else lr p r (k+1)
theorem adf{α:Type}(p:α->Bool):∀(l:List α) (k:Nat),decide (0<=lr p l k)=l.any p
 | [],_=>by simp[lr]
 |x::r,k=>by
  unfold lr;by_cases h:p x=true
  ·simp[h]
  ·simp only[h,List.any_cons];rw[if_neg (by simp),adf p r (k+1)];simp
def aql(s:Nat):T:=
.bind 0 (
 .op (.cz (.x 0)) (
 .loop [(.c (.v (.int .i64 0)))] (
  .op (.bin .lss (.x 3) (.x 2)) (
  .ite (.x 4)
   (.op (.elem s (.x 0) (.x 3)) (
   .aP (.cells (.x 5) s) (
   .op (.eJ (.x 1) [(.x 5)] false) (
   .ite (.x 6)
    (.bn (.bn (.ret [(.x 3)])))
    (.op (.bin .add (.x 3) (.c (.v (.int .i64 1)))) (
    .jump [(.x 7)]))))))
   (.bn (.jump [])))))) (
.ret [(.c (.v (.int .i64 (-1))))])
theorem arJ{P:Program}{L:AX->SS->List AV->Prop}{α:Type}{av:α->AV}{s:Nat}{g:FuncId}{aX:List AV}{l:List α}(p:α->Bool)(hs:∀x,(av x).isAgg=true/\(av x).cells.length=s/\(av x).storable=true)
  (hl:l.length<=1073741824) (hc:∀x∈l,aI P g (av x::aX) (.v (.bool (p x)))):
  bD P L (λ a=>a= .v (.int .i64 (lr p l 0))) (aql s) [.sl (l.map av),.fn g aX] []:=by
 simp only[aql,WA,reduceEqDiff,reduceAdd,reduceLT,reduceLeDiff,reduceMul,reduceIte,reduceCtorEq,Int.reduceEq,Int.reduceLT,Int.reduceLE,Int.reduceNe];refine aB ?_;simp only[WA,reduceEqDiff,reduceAdd,reduceLT,reduceLeDiff,reduceMul,reduceIte,reduceCtorEq,Int.reduceEq,Int.reduceLT,Int.reduceLE,Int.reduceNe];refine rL l.length (λ i=>lr p l 0=lr p (l.drop i) i) (λ i=>[.v (.int .i64 i)]) rfl rfl λ i hi hI=> ?_
 simp only[WA,reduceEqDiff,reduceAdd,reduceLT,reduceLeDiff,reduceMul,reduceIte,reduceCtorEq,Int.reduceEq,Int.reduceLT,Int.reduceLE,Int.reduceNe];refine aq (λ h=> ?_) (λ h=> ?_)
 ·have au:i<l.length:=by omega
  obtain⟨x1,x2,x3⟩:=hs l[i];rw[nJ au,lr]at hI;simp only[WA,reduceEqDiff,reduceAdd,reduceLT,reduceLeDiff,reduceMul,reduceIte,reduceCtorEq,Int.reduceEq,Int.reduceLT,Int.reduceLE,Int.reduceNe];refine oM av au x2 ?_;simp only[x1,x2,x3,WA,reduceEqDiff,reduceAdd,reduceLT,reduceLeDiff,reduceMul,reduceIte,reduceCtorEq,Int.reduceEq,Int.reduceLT,Int.reduceLE,Int.reduceNe];refine bj (hc _ (getElem_mem au)) ?_;simp only[WA,reduceEqDiff,reduceAdd,reduceLT,reduceLeDiff,reduceMul,reduceIte,reduceCtorEq,Int.reduceEq,Int.reduceLT,Int.reduceLE,Int.reduceNe];refine bH (λ h=> ?_) (λ h=> ?_)
  ·simp only[h,if_pos]at hI;simp only[hI,WA,reduceEqDiff,reduceAdd,reduceLT,reduceLeDiff,reduceMul,reduceIte,reduceCtorEq,Int.reduceEq,Int.reduceLT,Int.reduceLE,Int.reduceNe]
  ·simp only[h]at hI;simp(disch:=omega) only[aD,WA,reduceEqDiff,reduceAdd,reduceLT,reduceLeDiff,reduceMul,reduceIte,reduceCtorEq,Int.reduceEq,Int.reduceLT,Int.reduceLE,Int.reduceNe];exact⟨au,by simpa using hI⟩
 ·have he:i=l.length:=by omega
  subst he;rw[adA,lr]at hI;simp only[hI,WA,reduceEqDiff,reduceAdd,reduceLT,reduceLeDiff,reduceMul,reduceIte,reduceCtorEq,Int.reduceEq,Int.reduceLT,Int.reduceLE,Int.reduceNe]
def aqm(f:FuncId)(fl:Bool):T:=
.op (.call f [(.x 0),(.x 1)] fl) (
.op (.bin .geq (.x 2) (.c (.v (.int .i64 0)))) (
.ret [(.x 3)]))
theorem amT{fl:Bool}{P:Program}{L:AX->SS->List AV->Prop}{α:Type}{a b:AV}{f:FuncId}{l:List α}{p:α->Bool}(hc:aI P f [a,b] (.v (.int .i64 (lr p l 0)))):
  bD P L (λ r=>r= .v (.bool (l.any p))) (aqm f fl) [a,b] []:=by
 simp only[aqm,WA,reduceEqDiff,reduceAdd,reduceLT,reduceLeDiff,reduceMul,reduceIte,reduceCtorEq,Int.reduceEq,Int.reduceLT,Int.reduceLE,Int.reduceNe];refine bj hc ?_;simp only[adf,WA,reduceEqDiff,reduceAdd,reduceLT,reduceLeDiff,reduceMul,reduceIte,reduceCtorEq,Int.reduceEq,Int.reduceLT,Int.reduceLE,Int.reduceNe]
end Go.Ab
namespace Go.Ab
set_option maxRecDepth 100000
theorem aoj{α:Type}(p:α->Bool)(l:List α):(!(l.any λ y=> !p y))=l.all p:=by
 induction l with
 |nil=>rfl
 |cons x l ih=>simp only[List.any_cons,List.all_cons,←ih];cases p x<;>simp
theorem aha{α:Type}(p:α->Bool)(l:List α):(l.any λ y=> !p y)= !l.all p:=by rw[←aoj,Bool.not_not]
theorem avb{a b:Bool}(h:a=true↔b=true):AV.v (.bool a)=AV.v (.bool b):=by rw[Bool.eq_iff_iff.2 h]
section
variable {P:Program} {L:AX->SS->List AV->Prop} {R:AV->Prop} {t:T} {r:List AV} {S:List (List AV->Prop)}
theorem kH{α β:Type}{init:List AV}(l:List α)(σ:Nat->β->List AV)(G:Nat->List α->β->Prop)(b0:β)(h0:init=σ 0 b0)(hG:G 0 l b0)
  (hc:∀(i:Nat) (x:α) (rest:List α) (b:β),i<l.length->l[i]? =some x->x∈l->(∀(f:α->AV) (s:Nat) (k:IntKind) (K:AV->Prop),(f x).cells.length=s->lL s (.sl (l.map f)) (.v (.int k (i:Int))) K=dU K (f x))->
   decide ((i:Int)<(l.length:Int))=true->G i (x::rest) b->bD P L R t (r++σ i b) ((λ vs=>i<l.length/\∃b',G (i+1) rest b'/\vs=σ (i+1) b')::S))
  (he:∀b,decide ((l.length:Int)<(l.length:Int))=false->G l.length [] b->bD P L R t (r++σ l.length b) ((λ _=>False)::S)):rM P L R init t r S:=by
 refine cM (ι:=Nat×β) (λ q=>q.1<=l.length/\G q.1 (l.drop q.1) q.2) (λ q=>σ q.1 q.2) (λ q=>l.length- q.1) (0,b0) ⟨zero_le _,hG⟩ h0 λ q hq=> ?_
 obtain⟨i,b⟩:=q;obtain⟨hi,hg⟩:=hq;rcases Nat.lt_or_ge i l.length with h|h
 ·have hg:G i (l[i]::l.drop (i+1)) b:=by rw[←nJ h];exact hg
  refine eE (λ _ _ _ h=>h) (λ _ h=>h) t (.cons (λ vs hv=> ?_) (.refl _)) (hc i l[i] (l.drop (i+1)) b h (getElem?_eq_getElem h) (getElem_mem h) (λ f s k K hs=> ?_) (by simp;exact h) hg)
  ·obtain⟨_,b',h1,h2⟩:=hv;exact⟨(i+1,b'),⟨h,h1⟩,by simp only;omega,h2⟩
  ·unfold lL;have hx:(l.map f).getD (Int.toNat (i:Int)) .top=f l[i]:=by simp[List.getD,h]
   simp only[hx,hs,true_and,dU];exact propext ⟨λ q=>q.2.2,λ q=>⟨Int.natCast_nonneg i,by simp;exact h,q⟩⟩
 ·have he':i=l.length:=by simp only at hi;omega
  subst he';have hg:G l.length [] b:=by simpa using hg
  refine eE (λ _ _ _ h=>h) (λ _ h=>h) t (.cons (λ vs hv=>hv.elim) (.refl _)) (he b (by simp) hg)
theorem afm{α β:Type}{init:List AV}(l:List α)(σ:Nat->β->List AV)(G:Nat->List α->β->Prop)(b0:β){F:α->Prop}(hF:∀x∈l,F x)(h0:init=σ 0 b0)(hG:G 0 l b0)
  (hc:∀(i:Nat) (x:α) (rest:List α) (b:β),i<l.length->l[i]? =some x->x∈l->(∀(f:α->AV) (s:Nat) (k:IntKind) (K:AV->Prop),(f x).cells.length=s->lL s (.sl (l.map f)) (.v (.int k (i:Int))) K=dU K (f x))->
   decide ((i:Int)<(l.length:Int))=true->F x->G i (x::rest) b->bD P L R t (r++σ i b) ((λ vs=>i<l.length/\∃b',G (i+1) rest b'/\vs=σ (i+1) b')::S))
  (he:∀b,decide ((l.length:Int)<(l.length:Int))=false->G l.length [] b->bD P L R t (r++σ l.length b) ((λ _=>False)::S)):rM P L R init t r S:=
 kH l σ G b0 h0 hG (λ i x rest b hi hx hm kJ hd hg=>hc i x rest b hi hx hm kJ hd (hF x hm) hg) he
def bs(s:ByteArray):List Int:=s.data.toList.map λ b=>(b.toNat:Int)
theorem ep(s:ByteArray):(bs s).length=s.size:=by simp[bs]
theorem iA{s:ByteArray}{c:Int}(h:c∈bs s):0<=c/\c<256:=by
 simp only[bs,List.mem_map]at h;obtain⟨b,_,rfl⟩:=h;exact⟨by omega,by have:=b.toNat_lt;omega⟩
theorem abP{s u:ByteArray}(h:bs s=bs u):s=u:=by
 cases s with|mk d=>cases u with|mk e=>
 cases d with|mk d=>cases e with|mk e=>
 simp only[bs]at h
 have:d=e:=(List.map_inj_right (λ x y hxy=>by
  have:x.toNat=y.toNat:=by exact_mod_cast hxy
  exact UInt8.toNat_inj.1 this)).1 h
 rw[this]
theorem alf{s:ByteArray}{i:Nat}{k:IntKind}{K:AV->Prop}(h:i<(bs s).length)(hk:dU K (.v (.int .u8 (bs s)[i]))):y9 (.v (.string s)) (.v (.int k (i:Int))) K:=by
 rw[apY];have hl:=ep s;refine⟨by omega,by omega,?_⟩
 have:(((s.data.toList.getD (Int.toNat (i:Int)) 0).toNat:Nat):Int)=(bs s)[i]:=by
  simp only[bs,Int.toNat_natCast,List.getElem_map,List.getD];have h1:i<s.data.toList.length:=by simpa [bs]using h
  rw[getElem?_eq_getElem h1];rfl
 rw[this];exact hk
theorem oG{s:ByteArray}{i:Nat}{c:Int}(h:(bs s)[i]? =some c)(k:IntKind)(K:AV->Prop):y9 (.v (.string s)) (.v (.int k (i:Int))) K=dU K (.v (.int .u8 c)):=by
 have hl:=ep s;obtain⟨h1,h2⟩:=List.getElem?_eq_some_iff.1 h;refine propext ⟨λ q=> ?_,λ q=>alf h1 (by rw[h2];exact q)⟩;rw[apY]at q;have q:=q.2.2
 have:(((s.data.toList.getD (Int.toNat (i:Int)) 0).toNat:Nat):Int)=c:=by
  rw[←h2];simp only[bs,Int.toNat_natCast,List.getElem_map,List.getD];have h1:i<s.data.toList.length:=by simpa [bs]using h1
  rw[getElem?_eq_getElem h1];rfl
 rw[this]at q;exact q
theorem zi{c:Int}(h:0<=c)(h':c<256):IntKind.i64.wrap c=c:=gv (by omega) (by omega)
theorem xw{β:Type}{init:List AV}(s:ByteArray)(σ:Nat->β->List AV)(G:Nat->List Int->β->Prop)(b0:β)(h0:init=σ 0 b0)(hG:G 0 (bs s) b0)
  (hc:∀(i:Nat) (c:Int) (rest:List Int) (b:β),i<s.size->(bs s)[i]? =some c->c∈bs s->(∀(k:IntKind) (K:AV->Prop),y9 (.v (.string s)) (.v (.int k (i:Int))) K=dU K (.v (.int .u8 c)))->
   decide ((i:Int)<(s.size:Int))=true->0<=c->c<256->IntKind.i64.wrap c=c->G i (c::rest) b->bD P L R t (r++σ i b) ((λ vs=>i<s.size/\∃b',G (i+1) rest b'/\vs=σ (i+1) b')::S))
  (he:∀b,decide ((s.size:Int)<(s.size:Int))=false->G s.size [] b->bD P L R t (r++σ s.size b) ((λ _=>False)::S)):rM P L R init t r S:=by
 have hl:=ep s;refine kH (bs s) σ G b0 h0 hG (λ i c rest b hi hx hm _ hd hg=> ?_) (λ b hd hg=> ?_)
 ·obtain⟨c0,c1⟩:=iA hm;rw[hl]at hi hd;rw[hl];exact hc i c rest b hi hx hm (oG hx) hd c0 c1 (zi c0 c1) hg
 ·rw[hl]at hd hg⊢;exact he b hd hg
end
theorem enters_of{P:Program}{f:FuncId}(h:(match P.funcs[f]? with|some fn=>fn.body.isSome&& !(fn.name== "runtime.NumGoroutine")|none=>false)=true):Enters P f:=by
 cases hf:P.funcs[f]? with
 |none=>rw[hf]at h;cases h
 |some fn=>
  rw[hf]at h;simp only[Bool.and_eq_true]at h;exact⟨fn,hf,h.1,by simpa using h.2⟩
theorem R.ajC{I:da}{L:Nat->Loc}{O:List ae}{a x:Value}(h:R I L O (.v a) x):x=a:=by cases h;rfl
theorem aI.of_same{P:Program}{f:FuncId}{xs:List Value}{y:Value}(he:Enters P f)(hy:y.oneCell'=true)(h:∀w,Calls P f xs.toArray w λ e w'=>e= .returned y/\w'=w):aI P f (xs.map .v) (.v y):=by
 refine⟨he,λ I L w vs hi hr=> ?_⟩
 have hv:vs=xs.toArray:=by
  obtain⟨hl,hr⟩:=hr;apply Array.ext
  ·simpa using hl.symm
  ·intro i h1 h2;have h3:i<xs.length:=by simpa using h2
   simpa using(hr i (.v xs[i]) vs[i] (by simp[h3]) (by simp[h1])).ajC
 rw[hv];refine(h w).mono ?_;rintro e w' ⟨rfl,rfl⟩;exact⟨y,I,L,rfl,.v y hy,Good.refl hi⟩
end Go.Ab
namespace Go.Ab
set_option maxRecDepth 100000
theorem apk(n:Nat){α:Type}{l:List α}{x:α}(hx:l[n]? =some x)(f:α->AV)(s:Nat)(k:IntKind)(K:AV->Prop)(hs:(f x).cells.length=s):
  lL s (.sl (l.map f)) (.v (.int k (n:Int))) K=dU K (f x):=by
 have hl:n<l.length:=(List.getElem?_eq_some_iff.1 hx).1;unfold lL;have yH:(l.map f).getD (Int.toNat (n:Int)) .top=f x:=by simp[List.getD,hx]
 simp only[yH,hs,true_and,dU];exact propext ⟨λ q=>q.2.2,λ q=>⟨Int.natCast_nonneg n,by simp;exact hl,q⟩⟩
end Go.Ab
namespace Go.Ab
set_option maxRecDepth 100000
theorem aI.oq{P:Program}{f:FuncId}{args:List AV}{y:Value}(he:Enters P f)(hy:y.oneCell'=true)
  (h:∀I L w vs,Inv I L [] w->RL I L [] args vs->Calls P f vs w λ e w'=>e= .returned y/\RowKit.Below w.heap.size w w'):aI P f args (.v y):=by
 refine⟨he,λ I L w vs hi hr=>(h I L w vs hi hr).mono ?_⟩;rintro e w' ⟨h1,hb⟩;refine⟨y,I,L,h1,.v y hy,⟨⟨λ b o x hx=> ?_,by simp,by simp,by simp,hi.fix,hi.lM (λ b jr _=>hb.block b jr) (λ _ _ _ h=>h),.no (by simp),.no (by simp)⟩,.refl _ _ _,⟨hb.os,hb.tape,hb.output,hb.size,λ b jr _=>hb.block b jr⟩,λ _ h=> .inl h,λ _ _ _ h=> .inl h⟩⟩;have:=hi.iy b o x hx;rw[←this];exact World.cell?_of_block (a:=⟨b,o,none⟩) (hb.block b (gm this))
theorem Inv.tab{P:Program}{I:da}{L:Nat->Loc}{O:List ae}{w:World}(hi:Inv I L O w)(hg:P.globalNamed "internal/strconv.uint64pow10" =some ui):Lib.TabIs P w "internal/strconv.uint64pow10" .u64 Lib.pow10Tab:=by
 obtain⟨h1,_⟩:=hi.bc (ui,20) (mem_of_getElem? (i:=0) rfl);unfold fA at h1
 split at h1
 case h_2=>cases h1
 rename_i c e f hc;simp only[Option.some.injEq]at h1
 have hz:∀k v,k9[k]? =some (ui,k,v)->c[k]? =some v:=λ k v hk=>by
  have:=hi.iy ui k v (hi.fix _ (mem_of_getElem? hk));rw[dV hc]at this;exact this
 unfold Lib.TabIs World.var?;rw[hg];simp only[Option.bind_some,hc,Option.some.injEq];apply Array.ext
 ·simp[h1,Lib.pow10Tab]
 ·intro k qY hk2;have hk:k<20:=by omega
  have:c[k]? =some ((Lib.pow10Tab.map λ z=>Value.int .u64 z).toArray[k]):=by
   clear qY
   match k,hk,hk2 with
   |0,_,_=>exact hz 0 _ rfl
   |1,_,_=>exact hz 1 _ rfl
   |2,_,_=>exact hz 2 _ rfl
   |3,_,_=>exact hz 3 _ rfl
   |4,_,_=>exact hz 4 _ rfl
   |5,_,_=>exact hz 5 _ rfl
   |6,_,_=>exact hz 6 _ rfl
   |7,_,_=>exact hz 7 _ rfl
   |8,_,_=>exact hz 8 _ rfl
   |9,_,_=>exact hz 9 _ rfl
   |10,_,_=>exact hz 10 _ rfl
   |11,_,_=>exact hz 11 _ rfl
   |12,_,_=>exact hz 12 _ rfl
   |13,_,_=>exact hz 13 _ rfl
   |14,_,_=>exact hz 14 _ rfl
   |15,_,_=>exact hz 15 _ rfl
   |16,_,_=>exact hz 16 _ rfl
   |17,_,_=>exact hz 17 _ rfl
   |18,_,_=>exact hz 18 _ rfl
   |19,_,_=>exact hz 19 _ rfl
   |k+20,hk,_=>exact absurd hk (by omega)
  rw[Array.getElem?_eq_getElem qY]at this;exact Option.some.inj this
def im(n:Int):ByteArray:=⟨(Lib.itoa n).toArray⟩
theorem fP{a b:ByteArray}(h:a.data.toList=b.data.toList):a=b:=by
 cases a with|mk a=>cases b with|mk b=>
 cases a with|mk a=>cases b with|mk b=>
 simp only at h;rw[h]
theorem gX(a b:ByteArray):(a++b).data.toList=a.data.toList++b.data.toList:=by simp
theorem ayZ(a:ByteArray):a++(⟨#[]⟩:ByteArray)=a:=fP (by rw[gX];simp)
theorem awl(a b c:ByteArray):a++b++c=a++(b++c):=fP (by simp only[gX,List.append_assoc])
theorem aL(a b:ByteArray):(a++b).size=a.size+b.size:=by simp
theorem atO{I:da}{L:Nat->Loc}{a:AV}{vs:Array Value}(h:RL I L [] [a] vs):∃x,vs= #[x]/\R I L [] a x:=by
 obtain⟨h1,h2⟩:=h
 match vs,h1 with
 |⟨[x]⟩,_=>exact⟨x,rfl,h2 0 a x rfl rfl⟩
end Go.Ab
namespace Go.Ab
set_option maxRecDepth 100000
def marks(b:Nat)(n:Nat):List Int:=(List.range n).map λ i=>IntKind.u8.wrap ((b+i:Nat):Int)
def val:List Int->Nat
 | []=>0
 |c::r=>(c%128).toNat+128*val r
def unz(x:Nat):Int:=if x%2=1 then-((x/2:Nat):Int)- 1 else((x/2:Nat):Int)
def gs(at':Int):Nat->Nat->List Int->Int×Int×Bool
 |_,_,[]=>(0,0,false)
 |k,acc,c::r=>if 10<=k then(0,0,false)else if 127<c then gs at' (k+1) (acc+(c%128).toNat*128^k) r
  else if(0<k/\c=0)∨(k=9/\1<c)then(0,0,false)else(unz (acc+(c%128).toNat*128^k),at'+k+1,true)
end Go.Ab
namespace Go.Ab
set_option maxRecDepth 100000
inductive AV.leD:AV->AV->Prop
 |refl (a:AV):AV.leD a a
 |nil:AV.leD .aQ (.sl [])
 |agg (cs ds:List AV) (hl:cs.length=ds.length) (h:∀(i:Nat) (c d:AV),cs[i]? =some c->ds[i]? =some d->AV.leD c d):AV.leD (.agg cs) (.agg ds)
 |sl (xs ys:List AV) (hl:xs.length=ys.length) (h:∀(i:Nat) (x y:AV),xs[i]? =some x->ys[i]? =some y->x.cells.length=y.cells.length)
  (hc:∀(i:Nat) (x y:AV) (j:Nat) (c d:AV),xs[i]? =some x->ys[i]? =some y->x.cells[j]? =some c->y.cells[j]? =some d->AV.leD c d):AV.leD (.sl xs) (.sl ys)
theorem pc{α β:Type}{l:List α}{m:List β}(hl:l.length=m.length){i:Nat}{y:β}(h:m[i]? =some y):∃x,l[i]? =some x:=by
 have:=(List.getElem?_eq_some_iff.1 h).1;exact⟨l[i],getElem?_eq_getElem (by omega)⟩
theorem AV.leD.sound{I:da}{L:Nat->Loc}{O:List ae}{a b:AV}(h:AV.leD a b):∀{x:Value},R I L O a x->R I L O b x:=by
 induction h with
 |refl=>intro x hr;exact hr
 |nil=>intro x hr;cases hr;exact .me _ _
 |agg cs ds hl h ih=>
  intro x hr;cases hr with
  |agg _ vs h1 h2=>
   refine .agg _ _ (by omega) λ i d y hd hy=> ?_
   obtain⟨c,hc⟩:=pc hl hd;exact ih i c d hc hd (h2 i c y hc hy)
 |sl xs ys hl h hc ih=>
  intro x hr;cases hr with
  |me a c=>
   have:ys= []:=by cases ys with|nil=>rfl|cons _ _=>simp at hl
   subst this;exact .me _ _
  |sl _ bc off cap s bB h1 h2 h3 h4 h5=>
   rw[hl]
   have hg:∀(i:Nat) (y:AV) (j:Nat) (d:AV),ys[i]? =some y->y.cells[j]? =some d->∃x c,xs[i]? =some x/\x.cells[j]? =some c:=λ i y j d hy hd=>by
    obtain⟨x,hx⟩:=pc hl hy;obtain⟨c,hcc⟩:=pc (h i x y hx hy) hd;exact⟨x,c,hx,hcc⟩
   refine .sl ys bc off cap s bB (by omega) (by rintro rfl;exact h2 (by cases xs with|nil=>rfl|cons _ _=>simp at hl)) (λ i y hy=> ?_) (λ i y j d hy hd=> ?_) (λ i y j d hy hd=> ?_)
   ·obtain⟨x,hx⟩:=pc hl hy;rw[←h i x y hx hy];exact h3 i x hx
   ·obtain⟨x,c,hx,hcc⟩:=hg i y j d hy hd;exact h4 i x j c hx hcc
   ·obtain⟨x,c,hx,hcc⟩:=hg i y j d hy hd;exact ih i x y j c d hx hy hcc hd (h5 i x j c hx hcc)
end Go.Ab
namespace Go.Ab
set_option maxRecDepth 100000
theorem aor{α:Type}{B R:List α}{y z:α}{i:Nat}(h:B.length=i):(B++y::R).set i z=B++z::R:=by
 subst h;simp
def slc:List AV->List AV
 | []=>[]
 | .v _::r=>slc r
 |a::r=>a::slc r
theorem sZ{e:Env}{O:List ae}:∀(rs:List ff) (acc:List AV) (M M':List AV->Prop),(∀xs,M xs->M' xs)->fi e O rs acc M->fi e O rs acc M':=by
 intro rs
 induction rs with
 |nil=>intro acc M M' hm h;exact hm _ h
 |cons r rs ih=>
  intro acc M M' hm h;cases r with
  |tmp t=>exact ih _ _ _ hm h
  |cell t n=>
   simp only[fi,ff.get]at h⊢
   split at h
   ·split at h
    ·exact⟨h.1,ih _ _ _ hm h.2⟩
    ·exact h.elim
   ·exact h.elim
theorem ajY{rs:List ff}{res rv:AV}{x:AX}(hx:x= .ret∨x= .normal){e:Env}{O:List ae}(b:Nat)(h:fi e O rs [] λ xs=>b4 xs=rv)(hr:rv=res.bO λ n=>b+n){O':List ae}(hO:O.drop b=O')(ho:∀ob∈O',∃d,ob= .own d)
  (hsc:res.inScope O'.length=true):lQ 0 rs res O' x e O:=by
 subst hr
 have:fi e O rs [] λ xs=>∃e',WK 0 (λ t=>if t=0 then b4 xs else .top) O e' O'/\e' 0=res:=by
  refine sZ rs _ _ _ (λ xs hp=> ?_) h;refine⟨λ t=>if t=0 then res else .top,.select (λ n=>b+n) (λ i hi=> ?_) (λ i j _ _ he=>by omega) (λ ob hb=> ?_) (λ t=> ?_),rfl⟩
  ·subst hO;rw[List.getElem?_drop];cases hq:O[b+i]? with
   |none=>rfl
   |some ob=>
    obtain⟨d,rfl⟩:=ho ob (mem_of_getElem? (by rw[List.getElem?_drop];exact hq))
    rfl
  ·obtain⟨d,rfl⟩:=ho ob hb;rfl
  ·by_cases ht:t=0
   ·subst ht;exact .inr ⟨by simp[hp],by simpa using hsc⟩
   ·exact .inl (by simp[ht])
 rcases hx with rfl|rfl<;>exact this
theorem an8(P:Program)(e:Env)(O:List ae)(K:KT):wpOp P .zP e O K=k1 (.own O.length) (O++ [.cN (.mp [])]) K:=nr rfl
def akL(ok:Bool)(d:KD)(z m k:AV)(O:List ae)(K:KT):Prop:=match m,k with
    | .own n,.v kv=>match O[n]? with
      |some (.cN (.mp es))=>d.ok kv=true/\d.all es=true/\K (match kX kv es 0 with
       |none=>if ok then .aK [z,.v (.bool false)]else z
       |some (_,v)=>if ok then .aK [v,.v (.bool true)]else v) O
      |_=>False
    |_,_=>False
theorem aro(P:Program)(ok:Bool)(d:KD)(z:AV)(m k:aE)(e:Env)(O:List ae)(K:KT):wpOp P (.afh ok d z m k) e O K=akL ok d z (m.ev e) (k.ev e) O K:=nr rfl
theorem mu{ok:Bool}{d:KD}{z v:AV}{n i:Nat}{kv:Value}{O:List ae}{K:KT}{es:List (AV×AV)}(hO:O[n]? =some (.cN (.mp es)))(hk:d.ok kv=true)(ha:d.all es=true)(hf:kX kv es 0=some (i,v))(h:k1 (if ok then .aK [v,.v (.bool true)]else v) O K):akL ok d z (.own n) (.v kv) O K:=by
 simp only[akL,hO];exact⟨hk,ha,by rw[hf];exact h⟩
def akE(d:KD)(m k v:AV)(O:List ae)(K:KT):Prop:=match m,k with
    | .own n,.v kv=>match O[n]? with
      |some (.cN (.mp es))=>d.ok kv=true/\d.all es=true/\K (.aK []) (O.set n (.cN (.mp (lT kv v es))))
      |_=>False
    |_,_=>False
theorem arl(P:Program)(d:KD)(m k v:aE)(e:Env)(O:List ae)(K:KT):wpOp P (.lT d m k v) e O K=akE d (m.ev e) (k.ev e) (v.ev e) O K:=nr rfl
theorem jG{d:KD}{v:AV}{n:Nat}{kv:Value}{O:List ae}{K:KT}{es:List (AV×AV)}(hO:O[n]? =some (.cN (.mp es)))(hk:d.ok kv=true)(ha:d.all es=true)(h:k1 (.aK []) (O.set n (.cN (.mp (lT kv v es)))) K):akE d (.own n) (.v kv) v O K:=by
 simp only[akE,hO];exact⟨hk,ha,h⟩
def atY(ok:Bool)(z m k:AV)(O:List ae)(K:KT):Prop:=match m,k with
    | .own n,.ptr j 1 0 0=>match O[n]? with
      |some (.cN (.mp es))=>fH O j=true/\mR O es=true/\K (match kV j es 0 with
       |none=>if ok then .aK [z,.v (.bool false)]else z
       |some (_,v)=>if ok then .aK [v,.v (.bool true)]else v) O
      |_=>False
    |_,_=>False
theorem ark(P:Program)(ok:Bool)(z:AV)(m k:aE)(e:Env)(O:List ae)(K:KT):wpOp P (.ae1 ok z m k) e O K=atY ok z (m.ev e) (k.ev e) O K:=nr rfl
def atV(m k v:AV)(O:List ae)(K:KT):Prop:=match m,k with
    | .own n,.ptr j 1 0 0=>match O[n]? with
      |some (.cN (.mp es))=>fH O j=true/\mR O es=true/\K (.aK []) (O.set n (.cN (.mp (qp j v es))))
      |_=>False
    |_,_=>False
theorem ari(P:Program)(m k v:aE)(e:Env)(O:List ae)(K:KT):wpOp P (.qp m k v) e O K=atV (m.ev e) (k.ev e) (v.ev e) O K:=nr rfl
def ajK(a:AV)(O:List ae)(K:KT):Prop:=match a with
    | .v (.string s)=>K (.own O.length) (O++ [.cN (.it s 0)])
    |_=>False
theorem an6(P:Program)(x:aE)(e:Env)(O:List ae)(K:KT):wpOp P (.uj x) e O K=ajK (x.ev e) O K:=nr rfl
theorem ahh(s:ByteArray)(O:List ae)(K:KT):ajK (.v (.string s)) O K=k1 (.own O.length) (O++ [.cN (.it s 0)]) K:=nr rfl
def wM(a:AV)(O:List ae)(K:KT):Prop:=match a with
    | .own n=>match O[n]? with
      |some (.cN (.it s pos))=>(pos<s.size->K (.aK [.v (.bool true),.v (.int .i64 pos),.v (.int .i32 (Utf8.decode s pos).1)]) (O.set n (.cN (.it s (pos+(Utf8.decode s pos).2)))))/\(¬pos<s.size->K (.aK [.v (.bool false)]) O)
      |_=>False
    |_=>False
theorem an7(P:Program)(x:aE)(e:Env)(O:List ae)(K:KT):wpOp P (.uq x) e O K=wM (x.ev e) O K:=nr rfl
theorem wL{n:Nat}{O:List ae}{K:KT}{s:ByteArray}{pos:Nat}(hO:O[n]? =some (.cN (.it s pos)))(hp:pos<s.size){c l:Nat}(hd:Utf8.decode s pos=(c,l))(h:k1 (.aK [.v (.bool true),.v (.int .i64 pos),.v (.int .i32 c)]) (O.set n (.cN (.it s (pos+l)))) K):wM (.own n) O K:=by
 simp only[wM,hO];exact⟨λ _=>by rw[hd];exact h,λ q=>(q hp).elim⟩
theorem zp{n:Nat}{O:List ae}{K:KT}{s:ByteArray}{pos:Nat}(hO:O[n]? =some (.cN (.it s pos)))(hp:¬pos<s.size)(h:k1 (.aK [.v (.bool false)]) O K):wM (.own n) O K:=by
 simp only[wM,hO];exact⟨λ q=>(hp q).elim,λ _=>h⟩
def atM(t:Nat)(a:AV)(O:List ae)(K:KT):Prop:=match a with
    | .v (.string s)=>s.size<=maxLen/\K (.row O.length s.size) (O++ [.live t 1 (s.data.toList.map λ c=> .v (.int .u8 c.toNat))])
    |_=>False
theorem auj(P:Program)(t:Nat)(x:aE)(e:Env)(O:List ae)(K:KT):wpOp P (.s2b t x) e O K=atM t (x.ev e) O K:=nr rfl
theorem anB(t:Nat)(s:ByteArray)(O:List ae)(K:KT):atM t (.v (.string s)) O K=(s.size<=maxLen/\k1 (.row O.length s.size) (O++ [.live t 1 (s.data.toList.map λ c=> .v (.int .u8 c.toNat))]) K):=nr rfl
def zD(neg:Bool)(a:AV)(O:List ae)(K:KT):Prop:=match a with
    | .v (.pointer none)=>K (.v (.bool (neg !=true))) O
    | .ptr n len _ _=>nR O[n]? λ _ _ xs=>xs.length=len/\K (.v (.bool (neg !=false))) O
    |_=>False
theorem arj(P:Program)(neg:Bool)(x:aE)(e:Env)(O:List ae)(K:KT):wpOp P (.yU neg x) e O K=zD neg (x.ev e) O K:=by
 simp only[wpOp,zD];cases x.ev e<;>first|rfl|(rename_i k l i f;cases O[k]? with|none=>rfl|some o=>cases o<;>rfl)
theorem aeY(O:List ae)(K:KT):zD false (.v (.pointer none)) O K=k1 (.v (.bool true)) O K:=nr rfl
theorem aeX(O:List ae)(K:KT):zD true (.v (.pointer none)) O K=k1 (.v (.bool false)) O K:=nr rfl
theorem aeW(n len i f:Nat)(O:List ae)(K:KT):zD false (.ptr n len i f) O K=nR O[n]? λ _ _ xs=>xs.length=len/\k1 (.v (.bool false)) O K:=nr rfl
theorem aeV(n len i f:Nat)(O:List ae)(K:KT):zD true (.ptr n len i f) O K=nR O[n]? λ _ _ xs=>xs.length=len/\k1 (.v (.bool true)) O K:=nr rfl
def aki(neg:Bool)(a b:AV)(O:List ae)(K:KT):Prop:=match a,b with
    | .ptr n 1 0 0,.ptr m 1 0 0=>fH O n=true/\fH O m=true/\K (.v (.bool (neg !=decide (n=m)))) O
    |_,_=>False
theorem auk(P:Program)(neg:Bool)(x y:aE)(e:Env)(O:List ae)(K:KT):wpOp P (.peq neg x y) e O K=aki neg (x.ev e) (y.ev e) O K:=nr rfl
theorem aq6(n m:Nat)(O:List ae)(K:KT):aki false (.ptr n 1 0 0) (.ptr m 1 0 0) O K=(fH O n=true/\fH O m=true/\k1 (.v (.bool (decide (n=m)))) O K):=by
 simp only[aki,Bool.false_bne,apW]
theorem aq5(n m:Nat)(O:List ae)(K:KT):aki true (.ptr n 1 0 0) (.ptr m 1 0 0) O K=(fH O n=true/\fH O m=true/\k1 (.v (.bool (!decide (n=m)))) O K):=by
 simp only[aki,Bool.true_bne,apW]
def aqk(y x:AV)(t s b:Nat)(O:List ae)(K:KT):Prop:=match y with
    | .v (.string c)=>s=1/\lB O x t s b (c.data.toList.map λ c=> .v (.int .u8 c.toNat)) K
    |_=>False
theorem arq(P:Program)(t s b:Nat)(x y:aE)(e:Env)(O:List ae)(K:KT):wpOp P (.jN t s b x y) e O K=aqk (y.ev e) (x.ev e) t s b O K:=by
 have h:∀ys,gY O (x.ev e) t s b ys K=lB O (x.ev e) t s b ys K:=by
  intro ys;unfold gY lB;cases x.ev e<;>first|rfl|(rename_i k l;cases O[k]? with|none=>rfl|some o=>cases o<;>rfl)
 simp only[wpOp,h]
 rfl
theorem amS(c:ByteArray)(x:AV)(t s b:Nat)(O:List ae)(K:KT):aqk (.v (.string c)) x t s b O K=(s=1/\lB O x t s b (c.data.toList.map λ c=> .v (.int .u8 c.toNat)) K):=nr rfl
def arw(bytes:Nat)(z a b:AV)(O:List ae)(K:KT):Prop:=match a,b with
    | .v (.int .i64 n),.v (.int .i64 c)=>0<=n/\n<=c/\bytes*c<=2^48/\c<=maxLen/\z.ag=true/\K (.sl (List.replicate n.toNat z)) O
    |_,_=>False
theorem aum(P:Program)(t s b:Nat)(z:AV)(x y:aE)(e:Env)(O:List ae)(K:KT):wpOp P (.mkF t s b z x y) e O K=arw b z (x.ev e) (y.ev e) O K:=nr rfl
theorem aoo(bytes:Nat)(z:AV)(n c:Int)(O:List ae)(K:KT):arw bytes z (.v (.int .i64 n)) (.v (.int .i64 c)) O K=(0<=n/\n<=c/\bytes*c<=281474976710656/\c<=9223372036854775807/\z.ag=true/\k1 (.sl (List.replicate n.toNat z)) O K):=by
 have h1:(2:Int)^48=281474976710656:=by decide
 have h2:((maxLen:Nat):Int)=9223372036854775807:=by decide
 simp only[arw,h1,h2,k1]
def akI(k t s bytes:Nat)(z a b:AV)(O:List ae)(K:KT):Prop:=match a,b with
    | .v (.int .i64 n),.v (.int .i64 c)=>0<n/\n<=c/\bytes*c<=2^48/\c<=maxLen/\z.ag=true/\O[k]? =some (.nil t s)/\K (.row k n.toNat) (O.set k (.live t s (List.replicate n.toNat z)))
    |_,_=>False
theorem arn(P:Program)(k t s b:Nat)(z:AV)(x y:aE)(e:Env)(O:List ae)(K:KT):wpOp P (.xr k t s b z x y) e O K=akI k t s b z (x.ev e) (y.ev e) O K:=nr rfl
theorem akH(k t s bytes:Nat)(z:AV)(n c:Int)(O:List ae)(K:KT):akI k t s bytes z (.v (.int .i64 n)) (.v (.int .i64 c)) O K=(0<n/\n<=c/\bytes*c<=281474976710656/\c<=9223372036854775807/\z.ag=true/\O[k]? =some (.nil t s)/\k1 (.row k n.toNat) (O.set k (.live t s (List.replicate n.toNat z))) K):=by
 have h1:(2:Int)^48=281474976710656:=by decide
 have h2:((maxLen:Nat):Int)=9223372036854775807:=by decide
 simp only[akI,h1,h2,k1]
def afj(t:Nat)(a:AV)(O:List ae)(K:KT):Prop:=match a with
    | .row n len=>nR O[n]? λ t' s xs=>t'=t/\s=1/\xs.length=len/\K (.row n len) O
    |_=>False
theorem an9(P:Program)(t:Nat)(x:aE)(e:Env)(O:List ae)(K:KT):wpOp P (.xu t x) e O K=afj t (x.ev e) O K:=by
 simp only[wpOp,afj];cases x.ev e<;>first|rfl|(rename_i k l;cases O[k]? with|none=>rfl|some o=>cases o<;>rfl)
theorem afi(t n len:Nat)(O:List ae)(K:KT):afj t (.row n len) O K=nR O[n]? λ t' s xs=>t'=t/\s=1/\xs.length=len/\k1 (.row n len) O K:=nr rfl
def aqg(P:Program)(n0:Nat)(rows:List (List Nat))(ops:List aN)(Q:AX->Env->List ae->Prop)(e:Env)(O:List ae):Prop:=ln P n0 (.region (some rows) ops) Q e O
theorem asF(P:Program)(n0:Nat)(rows:List (List Nat))(ops:List aN)(Q:AX->Env->List ae->Prop)(e:Env)(O:List ae):ln P n0 (.region (some rows) ops) Q e O=aqg P n0 rows ops Q e O:=nr rfl
theorem adC{P:Program}{n0:Nat}{rows:List (List Nat)}{ops:List aN}{Q:AX->Env->List ae->Prop}{e:Env}{O:List ae}(h:dq P ops [] e O λ jZ e O=>kD rows (ops.zip jZ)=true/\Q .normal e O):aqg P n0 rows ops Q e O:=⟨ops,rfl,h⟩
def zU(P:Program)(d:Option Nat)(e:Env)(r:List aN)(acc:List ll)(Q:List ll->Env->List ae->Prop):KT:=λ x O'=>dq P r acc (bI e d x) O' Q
theorem ak6(P:Program)(d:Option Nat)(e:Env)(r:List aN)(acc:List ll)(Q:List ll->Env->List ae->Prop)(a:AV)(O:List ae):k1 a O (zU P d e r acc Q)=dq P r acc (bI e d a) O Q:=nr rfl
theorem ab9(P:Program)(d:Option Nat)(op:dZ)(e:Env)(O:List ae)(r:List aN)(acc:List ll)(Q:List ll->Env->List ae->Prop):
 dq P (⟨none,d,op⟩::r) acc e O Q=wpOp P op e O (zU P d e r (acc++ [ck op e O.length]) Q):=nr rfl
theorem aew(P:Program)(e:Env)(O:List ae)(acc:List ll)(Q:List ll->Env->List ae->Prop):dq P [] acc e O Q=Q acc e O:=nr rfl
def av3(neg:Bool)(a b:AV)(O:List ae)(K:KT):Prop:=match a,b with
 | .v (.bool a),.v (.bool b)=>K (.v (.bool (neg !=(a==b)))) O
 |_,_=>False
theorem apw(neg a b:Bool)(O:List ae)(K:KT):av3 neg (.v (.bool a)) (.v (.bool b)) O K=k1 (.v (.bool (neg !=(a==b)))) O K:=nr rfl
theorem aup(P:Program)(neg:Bool)(x y:aE)(e:Env)(O:List ae)(K:KT):wpOp P (.beq neg x y) e O K=av3 neg (x.ev e) (y.ev e) O K:=nr rfl
theorem aI.any{P:Program}{f:FuncId}{args:List AV}{res:AV}(h:aI P f args res)(hn:AV.ad args=true)(hr:res.ag=true)(O:List ae):js P f args O res O:=by
 have:=js.fresh h hn O;rwa [cO res hr,map_nil,List.append_nil]at this
theorem aiO(n:Nat):(AV.own n).cells= [.own n]:=nr rfl
theorem afA(n:Nat):(AV.own n).cI=true:=nr rfl
theorem aaH(n:Nat):(AV.own n).storable=true:=nr rfl
theorem ano{a b:AV}{cs:List AV}{i:Nat}(n:Nat)(h:i<(a::b::cs).length):lN (.agg (a::b::cs)) i (.own n)= .agg ((a::b::cs).set i (.own n)):=mF rfl h
theorem anE(s:Nat->Nat)(n:Nat):(AV.own n).bO s= .own (s n):=nr rfl
theorem atQ(s:Nat->Nat)(x:Value):(AV.v x).bO s= .v x:=nr rfl
theorem anF(s:Nat->Nat)(cs:List AV):(AV.agg cs).bO s= .agg (cs.map (AV.bO s)):=by simp only[AV.bO,ec]
theorem akn(s:Nat->Nat)(a:AV):(ae.own a).bO s= .own a:=nr rfl
theorem ahR(s:Nat->Nat):ae.dead.bO s= .dead:=nr rfl
mutual
def AV.cnt:AV->Nat
 | .v _=>1
 | .sl xs=>AV.amq xs
 | .agg cs=>AV.amq cs
 |_=>0
def AV.amq:List AV->Nat
 | []=>0
 |x::xs=>x.cnt+AV.amq xs
end
theorem adG{α:Type}{f:α->AV}(h:∀x,1<=(f x).cnt):∀l:List α,l.length<=AV.amq (l.map f)
 | []=>zero_le _
 |x::l=>by
  have:=h x;have:=adG h l;simp only[List.length_cons,map_cons,AV.amq];omega
theorem Frz.ob{O:List ae}{n:Nat}{nl:Bool}{e s:Nat}{xs:List AV}(h:O[n]? =some (bX nl e s xs))(hn:AV.ad xs=true):Frz O (.row n xs.length) (.sl xs):=by
 unfold bX at h
 split at h
 ·rename_i hh
  have:xs= []:=by cases xs with
   |nil=>rfl
   |cons a l=>simp at hh
  subst this;exact .nil n _ _ h
 ·exact .row n _ _ _ _ h rfl hn
inductive agi(O:List ae):List AV->List AV->Prop
 |nil:agi O [] []
 |cons {a b:AV} {as bs:List AV}:Frz O a b->agi O as bs->agi O (a::as) (b::bs)
theorem agi.get{O:List ae}{as bs:List AV}(h:agi O as bs):as.length=bs.length/\∀(i:Nat) a b,as[i]? =some a->bs[i]? =some b->Frz O a b:=by
 induction h with
 |nil=>exact⟨rfl,λ i a b h=>by simp at h⟩
 |cons h _ ih=>
  refine⟨by simp[ih.1],λ i a b ha hb=> ?_⟩;cases i with
  |zero=>simp at ha hb;subst ha;subst hb;exact h
  |succ i=>exact ih.2 i a b (by simpa using ha) (by simpa using hb)
theorem aI.ac2{P:Program}{f:FuncId}{args ib:List AV}{O:List ae}{r:Value}(h:aI P f ib (.v r))(hf:agi O args ib):js P f args O (.v r) O:=by
 have:=js.auE h hf.get.1 hf.get.2 rfl rfl;rwa [map_nil,List.append_nil]at this
theorem oA{α:Type}{f:α->AV}(h:∀x,(f x).dj=true):∀l:List α,AV.fF (l.map f)=true
 | []=>rfl
 |x::l=>by simp[AV.fF,h x,oA h l]
theorem bm{nl:Bool}{e s:Nat}{xs:List AV}(hn:AV.ad xs=true):(bX nl e s xs).ad=true:=by
 unfold bX;split
 ·rfl
 ·exact hn
def aq2(o:PU)(xs:List AV)(O:List ae)(K:KT):Prop:=AV.ad xs=true/\puK o xs λ v=>K v O
theorem axf(P:Program)(o:PU)(as:List aE)(e:Env)(O:List ae)(K:KT):wpOp P (.pu o as) e O K=aq2 o (as.map λ x=>jl O (x.ev e)) O K:=nr rfl
theorem ake(k:IntKind)(a b:Int)(O:List ae)(K:KT):aq2 .max [.v (.int k a),.v (.int k b)] O K=k1 (.v (.int k (max a b))) O K:=by
 have:(if a<b then b else a)=max a b:=by rw[Int.max_def];split<;>split<;>omega
 simp[aq2,puK,w8,AV.ad,AV.ag,k1,this]
theorem js.back{P:Program}{f:FuncId}{args:List AV}{O1 lv:List ae}{res:AV}(h:js P f args O1 res lv)(hl:lv.length=O1.length)(ha:AV.cA O1.length args=true)(hr:res.ag=true)
  (ho:O1.all ae.ad=true) (ho':lv.all ae.ad=true) (A:List ae):js P f (args.map (AV.bO λ n=>A.length+n)) (A++O1) res (A++lv):=by
 have gO:∀{X:List ae},X.all ae.ad=true->∀i,(A++X)[A.length+i]? =(X[i]?).map (ae.bO λ n=>A.length+n):=by
  intro X hx i;rw[List.getElem?_append_right (by omega),Nat.add_sub_cancel_left];cases hq:X[i]? with
  |none=>rfl
  |some ob=>simp only[Option.map_some];rw[b9 (List.all_eq_true.1 hx ob (mem_of_getElem? hq))]
 have:=h.frame (O:=A++O1) (pC:=A++lv) (λ n=>A.length+n) (λ i hi=>by simp;omega) (λ i _=>gO ho i) (λ i j _ _ he=>by omega)
  (λ i hi=>by simp;omega) (λ a h'=>bP ha a h') (λ ob hb=>bf (List.all_eq_true.1 ho ob hb)) (by simp[hl]) (λ i _=>gO ho' i) (λ n hn cd=> ?_)
 ·rwa [cO res hr]at this
 ·have au:n<A.length:=by
    rcases Nat.lt_or_ge n A.length with h'|h'
    ·exact h'
    ·have:n<A.length+O1.length:=by simpa using hn
     exact(cd (n- A.length) (by omega) (by omega)).elim
  rw[List.getElem?_append_left au,List.getElem?_append_left au]
theorem js.auD{P:Program}{f:FuncId}{args ib:List AV}{O:List ae}{nl:Bool}{e s len:Nat}{v:Value}{xs:List AV}(h:js P f ib [] (.aK [.row 0 len,.v v]) [bX nl e s xs])(hf:agi O args ib)(hx:AV.fF xs=true)(hn:AV.ad xs=true):
  js P f args O (.aK [.row O.length len,.v v]) (O++ [bX nl e s xs]):=by
 have:=js.auE h hf.get.1 hf.get.2 rfl (by simp only[bX];split<;>simp[ae.dj,hx])
 have he:(bX nl e s xs).bO (λ n=>O.length+n)=bX nl e s xs:=by
  unfold bX;split
  ·rfl
  ·simp only[ae.bO];rw[←ec,dG xs hn]
 simp only[map_cons,map_nil,he,AV.bO,AV.pv,add_zero]at this;exact this
theorem je{n0 t:Nat}{res:AV}{x:AX}(hx:x= .ret∨x= .normal){e:Env}{O:List ae}(h:e t=res):lQ n0 [.tmp t] res O x e O:=by
 have:fi e O [.tmp t] [] λ hZ=>∃e',WK n0 (λ t=>if t=0 then b4 hZ else .top) O e' O/\e' 0=res:=by
  rw[acq,acs];simp only[List.reverse_cons,List.reverse_nil,nil_append,b4,h];exact⟨λ t=>if t=0 then res else .top,.refl _ _ _,rfl⟩
 rcases hx with rfl|rfl<;>exact this
theorem WK.jP{n0:Nat}{e:Env}{O:List ae}{n ty z t' z':Nat}{cs:List AV}{j:Nat}(hn:O[n]? =some (.live ty z [.agg cs]))(hj:cs[j]? =some .aQ):
  WK n0 e O e (O.set n (.live ty z [.agg (cs.set j (.row O.length 0))])++ [.nil t' z']):=by
 intro I0 L0 O0 w0 I L w f hl hg hr;have au:n<O.length:=(List.getElem?_eq_some_iff.1 hn).1
 let O':=O.set n (.live ty z [.agg (cs.set j (.row O.length 0))])++ [.nil t' z']
 have gn:O'[n]? =some (.live ty z [.agg (cs.set j (.row O.length 0))]):=by
  show(O.set n _++_)[n]? =_;rw[List.getElem?_append_left (by simpa using au),List.getElem?_set_self au]
 have go:∀{m:Nat},m<O.length->m≠n->O'[m]? =O[m]? :=λ {m} h h'=>by
  show(O.set n _++_)[m]? =_;rw[List.getElem?_append_left (by simpa using h),List.getElem?_set_ne (Ne.symm h')]
 have gl:O'[O.length]? =some (.nil t' z'):=by
  show(O.set n _++_)[O.length]? =_;rw[List.getElem?_append_right (by simp)];simp
 have gx:∀{m:Nat} {ob:ae},O'[m]? =some ob->m=n∨(m<O.length/\m≠n)∨m=O.length:=λ {m ob} h=>by
  have:m<O'.length:=(List.getElem?_eq_some_iff.1 h).1;have h2:O'.length=O.length+1:=by simp[O']
  omega
 have live:∀{m e' k:Nat} {xs:List AV},O'[m]? =some (ae.live e' k xs)->∃ys:List AV,O[m]? =some (ae.live e' k ys)/\ys.length=xs.length:=λ {m e' k xs} h=>by
  rcases gx h with rfl|⟨h1,h2⟩|rfl
  ·rw[gn]at h;cases h;exact⟨_,hn,rfl⟩
  ·rw[go h1 h2]at h;exact⟨xs,h,rfl⟩
  ·rw[gl]at h;cases h
 have own:∀{m:Nat} {a:AV},O'[m]? =some (ae.own a)->O[m]? =some (ae.own a):=λ {m a} h=>by
  rcases gx h with rfl|⟨h1,h2⟩|rfl
  ·rw[gn]at h;cases h
  ·rwa [go h1 h2]at h
  ·rw[gl]at h;cases h
 have cN:∀{m:Nat} {a:fT},O'[m]? =some (ae.cN a)->O[m]? =some (ae.cN a):=λ {m a} h=>by
  rcases gx h with rfl|⟨h1,h2⟩|rfl
  ·rw[gn]at h;cases h
  ·rwa [go h1 h2]at h
  ·rw[gl]at h;cases h
 have ext:Ext I L O I L O':=by
  refine⟨λ _ _ _ h=>h,by simp[O'],λ m hm e' k xs hx=> ?_,λ m hm e' k hx=> ?_,λ m hm a hx=>⟨⟨a,own hx⟩,rfl⟩,λ m hm a hx=>⟨⟨a,cN hx,rfl⟩,rfl⟩⟩
  ·obtain⟨ys,h1,h2⟩:=live hx;exact .inl ⟨ys,h1,by omega,λ _=>rfl⟩
  ·by_cases l6:m=n
   ·subst l6;rw[gn]at hx;cases hx
   ·rwa [go hm l6]at hx
 have hi:=hg.inv;refine⟨I,L,⟨⟨hi.iy,λ m e' k xs hx=> ?_,λ m m' e' k xs e'' k' ys hx hy hb=> ?_,λ m e' k xs o hx=> ?_,hi.fix,hi.bc,hi.ow.same (λ m a h=>⟨own h,rfl⟩) (λ b o v hv=> .inl ⟨o,v,hv⟩) (λ m e' k xs hx=> ?_) rfl,hi.gh.step (λ m a h=>⟨cN h,rfl⟩) (λ _ _ hr=>hr.mono ext) λ _ _=>rfl⟩,hg.ext.trans ext,hg.mE,?_,hg.iM⟩,λ t=>(hr t).mono ext⟩
 ·rcases gx hx with rfl|⟨h1,h2⟩|rfl
  ·rw[gn]at hx;cases hx;obtain⟨c,q1,q2,q3,q4,q5,q6⟩:=hi.obj m _ _ _ hn;refine⟨c,q1,q2,q3,q4,q5,λ i x hx=> ?_⟩;cases i with
   |succ i=>simp at hx
   |zero=>
    simp at hx;subst hx;obtain⟨r1,r2⟩:=q6 0 _ rfl;refine⟨by simpa [AV.cells]using r1,λ i a ha=> ?_⟩;simp only[AV.cells]at ha r2;rw[List.getElem?_set]at ha
    split at ha
    ·rename_i za;subst za
     split at ha
     ·cases ha;obtain⟨y,hy,ho,hry⟩:=r2 j _ hj;cases hry;exact⟨_,hy,ho,.eb O.length t' z' gl⟩
     ·cases ha
    ·obtain⟨y,hy,ho,hry⟩:=r2 i a ha;exact⟨y,hy,ho,hry.mono ext⟩
  ·rw[go h1 h2]at hx;exact(hi.obj m _ _ _ hx).congr rfl λ _ _ h=>h.mono ext
  ·rw[gl]at hx;cases hx
 ·obtain⟨pV,h1,_⟩:=live hx;obtain⟨azS,h2,_⟩:=live hy;exact hi.sep m m' _ _ _ _ _ _ h1 h2 hb
 ·obtain⟨pV,h1,_⟩:=live hx;exact hi.dT m _ _ _ o h1
 ·obtain⟨pV,h1,_⟩:=live hx;exact .inl ⟨m,_,_,_,h1,rfl⟩
 ·rintro b (⟨m,e',k,xs,hx,hb⟩|⟨m,a,o,v,hx,hv⟩|⟨m,a,hx,hb⟩)
  ·obtain⟨pV,h1,_⟩:=live hx;exact hg.lb b (.inl ⟨m,_,_,_,h1,hb⟩)
  ·exact hg.lb b (.inr (.inl ⟨m,a,o,v,own hx,hv⟩))
  ·exact hg.lb b (.inr (.inr ⟨m,a,cN hx,hb⟩))
def asp(P:Program)(f:FuncId)(args:List AV)(O:List ae)(K:KT):Prop:=∃res ob,AV.ad args=true/\js P f args [] res [ob]/\K (res.bO λ n=>O.length+n) (O++ [ob.bO λ n=>O.length+n])
theorem aoc(P:Program)(nl:Bool)(t s:Nat)(f:FuncId)(as:List aE)(e:Env)(O:List ae)(K:KT):wpOp P (.fK nl t s f as) e O K=asp P f (as.map (aE.ev e)) O K:=nr rfl
def arF(P:Program)(rd:List Nat)(f:FuncId)(args:List AV)(O:List ae)(K:KT):Prop:=∃res ob,(∀O':List ae,O'.length=O.length->(∀n∈rd,O'[n]? =O[n]?)->js P f args O' res (O'++ [ob]))/\K res (O++ [ob])
def arH(P:Program)(rd:List Nat)(f:FuncId)(args:List AV)(O:List ae)(K:KT):Prop:=∃res,(∀O':List ae,(∀n∈rd,O'[n]? =O[n]?)->js P f args O' res O')/\K res O
theorem aoa(P:Program)(rd:List Nat)(f:FuncId)(as:List aE)(e:Env)(O:List ae)(K:KT):wpOp P (.pJ rd f as) e O K=arF P rd f (as.map (aE.ev e)) O K:=nr rfl
theorem aob(P:Program)(rd:List Nat)(f:FuncId)(as:List aE)(e:Env)(O:List ae)(K:KT):wpOp P (.pK rd f as) e O K=arH P rd f (as.map (aE.ev e)) O K:=nr rfl
def aqH(P:Program)(kp:List Nat)(f:FuncId)(args:List AV)(O:List ae)(K:KT):Prop:=∃res O',js P f args O res O'/\(∀n∈kp,O'[n]? =O[n]?)/\K res O'
theorem an5(P:Program)(kp:List Nat)(f:FuncId)(as:List aE)(e:Env)(O:List ae)(K:KT):wpOp P (.n8 kp f as) e O K=aqH P kp f (as.map (aE.ev e)) O K:=nr rfl
def nG(P:Program)(a:AV)(want:Bool)(t:Nat)(d:Option Nat)(op:dZ)(r:List aN)(acc:List ll)(e:Env)(O:List ae)(Q:List ll->Env->List ae->Prop):Prop:=match a with
 | .v (.bool b)=>
   (b=want->wpOp P op (e.set t (.v (.bool want))) O (zU P d (e.set t (.v (.bool want))) r (acc++ [ck op (e.set t (.v (.bool want))) O.length]) Q))/\
   (b= !want->dq P r (acc++ [⟨[],.ou⟩]) (bI (e.set t (.v (.bool (!want)))) d (.aK [])) O Q)
 | .aK []=>dq P r (acc++ [⟨[],.ou⟩]) (bI e d (.aK [])) O Q
 |_=>False
section
variable (P:Program) (t:Nat) (d:Option Nat) (op:dZ) (r:List aN) (acc:List ll) (e:Env) (O:List ae) (Q:List ll->Env->List ae->Prop)
theorem aox(want:Bool):dq P (⟨some (t,want),d,op⟩::r) acc e O Q=nG P (e t) want t d op r acc e O Q:=by
 simp only[dq];unfold nG zU;cases e t<;>try rfl
theorem alR:nG P (.v (.bool true)) true t d op r acc e O Q=wpOp P op (e.set t (.v (.bool true))) O (zU P d (e.set t (.v (.bool true))) r (acc++ [ck op (e.set t (.v (.bool true))) O.length]) Q):=by simp[nG]
theorem alU:nG P (.v (.bool false)) false t d op r acc e O Q=wpOp P op (e.set t (.v (.bool false))) O (zU P d (e.set t (.v (.bool false))) r (acc++ [ck op (e.set t (.v (.bool false))) O.length]) Q):=by simp[nG]
theorem alS:nG P (.v (.bool true)) false t d op r acc e O Q=dq P r (acc++ [⟨[],.ou⟩]) (bI (e.set t (.v (.bool true))) d (.aK [])) O Q:=by simp[nG]
theorem alT:nG P (.v (.bool false)) true t d op r acc e O Q=dq P r (acc++ [⟨[],.ou⟩]) (bI (e.set t (.v (.bool false))) d (.aK [])) O Q:=by simp[nG]
theorem afS(want:Bool):nG P (.aK []) want t d op r acc e O Q=dq P r (acc++ [⟨[],.ou⟩]) (bI e d (.aK [])) O Q:=by simp[nG]
end
def OD0:=And.intro @asF (And.intro @ab9 (And.intro @aew (And.intro @aup (And.intro @axf (And.intro @aox (And.intro @aoc (And.intro @aoa (And.intro @aob (And.intro @an5 (And.intro @ajy (And.intro @aey (And.intro @av1 (And.intro @asG (And.intro @aps (And.intro @ajB (And.intro @anj (And.intro @asE (And.intro @asC (@ahd)))))))))))))))))))
def OD1:=And.intro @aev (And.intro @apr (And.intro @aqX (And.intro @aqY (And.intro @aqW (And.intro @amH (And.intro @amI (And.intro @amG (And.intro @aoz (And.intro @aoA (And.intro @aoy (And.intro @ajV (And.intro @ajU (And.intro @aul (And.intro @ae7 (And.intro @aof (And.intro @auo (And.intro @aoe (And.intro @aa7 (@o_load)))))))))))))))))))
def OD2:=And.intro @aa5 (And.intro @apQ (And.intro @aui (And.intro @aku (And.intro @o4 (And.intro @apO (And.intro @aa6 (And.intro @aog (And.intro @akt (And.intro @acG (And.intro @acH (And.intro @aun (And.intro @aks (And.intro @ae8 (And.intro @akv (And.intro @apP (And.intro @akq (And.intro @akr (And.intro @arp (@aod)))))))))))))))))))
def OD3:=And.intro @agB (And.intro @xl (And.intro @agA (And.intro @xk (And.intro @ahp (And.intro @ahq (And.intro @an8 (And.intro @aro (And.intro @arl (And.intro @ark (And.intro @ari (And.intro @an6 (And.intro @an7 (And.intro @auj (And.intro @arj (And.intro @auk (And.intro @arq (And.intro @aum (And.intro @arn (@an9)))))))))))))))))))
def OA0:=And.intro @aiO (And.intro @afA (And.intro @aaH (And.intro @ano (And.intro @anE (And.intro @atQ (And.intro @anF (And.intro @akn (And.intro @ahR (And.intro @ak6 (And.intro @apw (And.intro @alR (And.intro @alU (And.intro @alS (And.intro @alT (And.intro @afS (And.intro @ake (And.intro @aoC (And.intro @xc (@uw)))))))))))))))))))
def OA1:=And.intro @xd (And.intro @apv (And.intro @amJ (And.intro @ai7 (And.intro @amC (And.intro @ai6 (And.intro @gC (And.intro @kF (And.intro @mq (And.intro @qC (And.intro @tk (And.intro @qc (And.intro @ad9 (And.intro @adW (And.intro @ad2 (And.intro @ad8 (And.intro @ag6 (And.intro @adV (And.intro @ad0 (@adZ)))))))))))))))))))
def OA2:=And.intro @ad7 (And.intro @ad1 (And.intro @ad3 (And.intro @ad4 (And.intro @ad5 (And.intro @ad6 (And.intro @adY (And.intro @adX (And.intro @aay (And.intro @aax (And.intro @aaw (And.intro @agl (And.intro @agm (And.intro @adD (And.intro @oL (And.intro @nf (And.intro @agZ (And.intro @z8 (And.intro @aed (@agf)))))))))))))))))))
def OA3:=And.intro @xU (And.intro @ade (And.intro @adT (And.intro @adS (And.intro @wN (And.intro @wO (And.intro @akG (And.intro @ac3 (And.intro @xA (And.intro @xz (And.intro @ah8 (And.intro @aeH (And.intro @wy (And.intro @sJ (And.intro @acC (And.intro @qv (And.intro @ta (And.intro @ag1 (And.intro @qy (@xo)))))))))))))))))))
def OA4:=And.intro @zJ (And.intro @aiS (And.intro @qo (And.intro @qu (And.intro @ao3 (And.intro @ao4 (And.intro @ao5 (And.intro @ao6 (And.intro @aix (And.intro @af0 (And.intro @adE (And.intro @oB (And.intro @fZ (And.intro @zl (And.intro @atA (And.intro @aqF (And.intro @ajD (And.intro @anm (And.intro @ann (@aqG)))))))))))))))))))
def OA5:=And.intro @anp (And.intro @ajE (And.intro @avR (And.intro @asf (And.intro @alY (And.intro @ao7 (And.intro @asg (And.intro @acs (And.intro @acq (And.intro @ahw (And.intro @aiR (And.intro @adL (And.intro @ahP (And.intro @ae5 (And.intro @List.reverse_cons.{0} (And.intro @List.reverse_nil.{0} (And.intro @ne_eq.{1} (And.intro @Nat.add_eq_zero_iff (And.intro @not_false_eq_true (@Nat.one_ne_zero)))))))))))))))))))
def OA6:=And.intro @ayL (And.intro @ayM (And.intro @aqU (And.intro @amh (And.intro @pj (And.intro @ak5 (And.intro @List.map_cons.{0,0} (And.intro @List.map_nil.{0,0} (And.intro @Option.map_some.{0,0} (And.intro @Option.map_none.{0,0} (And.intro @List.getD_cons_zero.{0} (And.intro @List.getD_cons_succ.{0} (And.intro @List.length_nil.{0} (And.intro @List.length_cons.{0} (And.intro @List.length_append.{0} (And.intro @List.length_set.{0} (And.intro @List.nil_append.{0} (And.intro @List.cons_append.{0} (And.intro @List.append_nil.{0} (@List.getElem?_cons_zero.{0})))))))))))))))))))
def OA7:=And.intro @List.getElem?_cons_succ.{0} (And.intro @List.set_cons_zero.{0} (And.intro @List.set_cons_succ.{0} (And.intro @List.drop_succ_cons.{0} (And.intro @List.drop_zero.{0} (And.intro @List.take_succ_cons.{0} (And.intro @List.take_zero.{0} (And.intro @List.replicate_succ.{0} (And.intro @List.replicate_zero.{0} (And.intro @if_true.{1} (And.intro @if_false.{1} (And.intro @aat (And.intro @bp (And.intro @yy (And.intro @adJ (And.intro @aiM (And.intro @aiN (And.intro @adK (And.intro @z7 (@xL)))))))))))))))))))
def OA8:=And.intro @uI (And.intro @zZ (And.intro @afy (And.intro @afz (And.intro @z6 (And.intro @rh (And.intro @wx (And.intro @pE (And.intro @uk (And.intro @aaF (And.intro @aaG (And.intro @um (And.intro @aai (And.intro @sE (And.intro @asm (And.intro @afa (And.intro @acL (And.intro @aok (And.intro @aky (@ah0)))))))))))))))))))
def OA9:=And.intro @ahY (And.intro @afc (And.intro @akz (And.intro @List.all_cons.{0} (And.intro @List.all_nil.{0} (And.intro @Bool.and_true (And.intro @Bool.true_and (And.intro @Bool.or_true (And.intro @Bool.true_or (And.intro @Bool.not_true (And.intro @Bool.not_false (And.intro @decide_true (And.intro @decide_false (And.intro @ayU (And.intro @Option.getD_none.{0} (And.intro @Option.getD_some.{0} (And.intro @true_and (And.intro @and_true (And.intro @Nat.zero_add (@add_zero)))))))))))))))))))
def ay1:=And.intro @Nat.lt_add_one (And.intro @Nat.zero_lt_succ (And.intro @Nat.le_refl (And.intro @ahh (And.intro @anB (And.intro @aeY (And.intro @aeX (And.intro @aeW (And.intro @aeV (And.intro @aq6 (And.intro @aq5 (And.intro @amS (And.intro @aoo (And.intro @akH (@afi))))))))))))))
def OD:=And.intro @OD0 (And.intro @OD1 (And.intro @OD2 (@OD3)))
def OA:=And.intro @OA0 (And.intro @OA1 (And.intro @OA2 (And.intro @OA3 (And.intro @OA4 (And.intro @OA5 (And.intro @OA6 (And.intro @OA7 (And.intro @OA8 (And.intro @OA9 (@ay1))))))))))
end Go.Ab
