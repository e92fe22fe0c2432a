/- Part of a proof: the functions that the law reaches, walked by the abstract logic of the texts Ab. -/
import Derived.Test.YtfebhekplhjigaaAbM5
import Derived.Test.YtfebhekplhjigaaAbM3
open Nat(zero_le add_zero add_assoc le_refl zero_add add_eq_zero_iff one_ne_zero lt_add_one zero_lt_succ)
open Bool(and_eq_true)
open Option(map_some map_none getD_none getD_some)
open List(map_append map_cons map_nil sum_cons getElem_mem replicate_succ set_cons_zero cons_append nil_append all_cons length_append getElem?_cons_succ length_cons getElem?_cons_zero mem_of_getElem? reverse_cons reverse_nil getD_cons_zero getD_cons_succ length_nil length_set append_nil set_cons_succ drop_succ_cons drop_zero take_succ_cons take_zero replicate_zero all_nil)
open Nat(reduceEqDiff reduceLeDiff reduceAdd reduceLT reduceMul)
set_option linter.unusedVariables false
set_option linter.unusedSimpArgs false
set_option linter.defProp false
namespace Go.Ab
set_option maxRecDepth 100000
theorem da{n:Int}(h: -9223372036854775808<=n)(h':n<=9223372036854775807):IntKind.i64.wrap n=n:=ajI h h'
theorem br{a b:Nat}(h:b<=a)(h':a<=4611686018427387904):IntKind.i64.wrap ((a:Int)- (b:Int))=((a- b:Nat):Int):=by
 rw[da (by omega) (by omega)];omega
theorem bF{a b:Nat}(h:a+b<=4611686018427387904):IntKind.i64.wrap ((a:Int)+(b:Int))=((a+b:Nat):Int):=by
 rw[da (by omega) (by omega)];omega
theorem aG{a:Nat}(h:a<=4611686018427387904):IntKind.i64.wrap ((a:Int)+1)=((a+1:Nat):Int):=by
 rw[da (by omega) (by omega)];omega
theorem dv(n:Nat):decide ((n:Int)<0)=false:=by simp
theorem getM{α:Type}(f:α->AV){l:List α}{i:Nat}(h:i<l.length):(l.map f)[i]? =some (f l[i]):=by simp[h]
theorem yP{α:Type}(f:α->AV){l:List α}{s n:Nat}{k:IntKind}{K:AV->Prop}(h:n<l.length)(hs:(f l[n]).cells.length=s)(hk:gP K (f l[n])):wX s (.sl (l.map f)) (.v (.int k (n:Int))) K:=
 ajo _ (getM f h) hs hk
theorem bt{α:Type}{f:α->AV}{l:List α}(h:∀x,(f x).ag=true):AV.ae (l.map f)=true:=fA λ a ha=>by
 obtain⟨x,_,rfl⟩:=List.mem_map.1 ha;exact h x
section
variable {P:Program} {L:AX->SS->List AV->Prop} {R:AV->Prop} {t:T} {r:List AV} {S:List (List AV->Prop)}
theorem wv{init:List AV}(n:Nat)(σ:Nat->List AV)(h0:init=σ 0)
  (hr:∀i,i<=n->bW P L R t (r++σ i) ((λ vs=>i<n/\vs=σ (i+1))::S)):aa8 P L R init t r S:=by
 refine nV (ι:=Nat) (λ i=>i<=n) σ (λ i=>n- i) 0 (zero_le _) h0 λ i hi=> ?_
 refine ez (λ _ _ _ h=>h) (λ _ h=>h) t (.cons (λ vs hv=> ?_) (.refl _)) (hr i hi);exact⟨i+1,hv.1,by have:=hv.1;omega,hv.2⟩
end
def azO(s:Nat)(f:FuncId)(fl:Bool):T:=
.op (.bl (.x 0)) (
.op (.bin .sub (.x 1) (.x 2)) (
.op (.bin .lss (.x 3) (.c (.v (.int .i64 0)))) (
.ite (.x 4)
 (.ret [(.c (.v (.int .i64 (-1))))])
 (.bind 1 (
  .loop [(.x 3),(.c (.v (.int .i64 0)))] (
   .op (.bl (.x 0)) (
   .op (.bin .lss (.x 6) (.x 7)) (
   .ite (.x 8)
    (.op (.elem s (.x 0) (.x 6)) (
    .bI (.cells (.x 9) s) (
    .op (.call f [(.x 9),(.x 5)] fl) (
    .op (.bin .lss (.x 10) (.c (.v (.int .i64 0)))) (
    .ite (.x 11)
     (.eB (.eB (.ret [(.c (.v (.int .i64 (-1))))])))
     (.op (.bin .add (.x 6) (.c (.v (.int .i64 1)))) (
     .jump [(.x 10),(.x 12)])))))))
    (.eB (.jump [(.x 5)])))))) (
 .ret [(.x 5)])))))
theorem anc{α:Type}(wt:α->Nat)(l:List α)(i:Nat)(h:i<l.length):((l.take (i+1)).map wt).sum=((l.take i).map wt).sum+wt l[i]:=by
 rw[List.take_add_one,List.getElem?_eq_getElem h];simp only[Option.toList_some,map_append,List.sum_append,map_cons,map_nil,sum_cons,List.sum_nil,add_zero]
theorem atP{α:Type}(wt:α->Nat)(l:List α)(i:Nat):((l.take i).map wt).sum<=(l.map wt).sum:=by
 conv=>rhs;rw[←List.take_append_drop i l]
 rw[map_append,List.sum_append];omega
theorem asH{fl:Bool}{P:Program}{L:AX->SS->List AV->Prop}{α:Type}{av:α->AV}{wt:α->Nat}{s:Nat}{f:FuncId}{l:List α}(hs:∀x,(av x).isAgg=true/\(av x).cells.length=s/\(av x).storable=true)
  {b:Nat} (hb:l.length+(l.map wt).sum<=b) (kD:b<=1048576) (hc:∀x∈l,∀c:Nat,wt x<=c->c<=1048576->a7 P f [av x,.v (.int .i64 c)] (.v (.int .i64 (c- wt x:Nat)))):
  bW P L (λ a=>a= .v (.int .i64 (b- (l.length+(l.map wt).sum):Nat))) (azO s f fl) [.sl (l.map av),.v (.int .i64 b)] []:=by
 simp(disch:=omega) only[azO,br,dv,WA,reduceEqDiff,reduceAdd,reduceLT,reduceLeDiff,reduceMul,reduceIte,reduceCtorEq,Int.reduceEq,Int.reduceLT,Int.reduceLE,Int.reduceNe];refine fe [.v (.int .i64 (b- (l.length+(l.map wt).sum):Nat))] rfl ?_ (by simp only[WA,reduceEqDiff,reduceAdd,reduceLT,reduceLeDiff,reduceMul,reduceIte,reduceCtorEq,Int.reduceEq,Int.reduceLT,Int.reduceLE,Int.reduceNe]);simp only[WA,reduceEqDiff,reduceAdd,reduceLT,reduceLeDiff,reduceMul,reduceIte,reduceCtorEq,Int.reduceEq,Int.reduceLT,Int.reduceLE,Int.reduceNe];refine wv l.length (λ i=>[.v (.int .i64 (b- (l.length+((l.take i).map wt).sum):Nat)),.v (.int .i64 i)]) (by simp) λ i hi=> ?_
 simp only[WA,reduceEqDiff,reduceAdd,reduceLT,reduceLeDiff,reduceMul,reduceIte,reduceCtorEq,Int.reduceEq,Int.reduceLT,Int.reduceLE,Int.reduceNe];refine ba (λ h=> ?_) (λ h=> ?_)
 ·have aw:i<l.length:=by omega
  have h1:=anc wt l i aw;have h2:=atP wt l (i+1);obtain⟨x1,x2,x3⟩:=hs l[i];simp only[WA,reduceEqDiff,reduceAdd,reduceLT,reduceLeDiff,reduceMul,reduceIte,reduceCtorEq,Int.reduceEq,Int.reduceLT,Int.reduceLE,Int.reduceNe];refine yP av aw x2 ?_;simp only[x1,x2,x3,WA,reduceEqDiff,reduceAdd,reduceLT,reduceLeDiff,reduceMul,reduceIte,reduceCtorEq,Int.reduceEq,Int.reduceLT,Int.reduceLE,Int.reduceNe];refine bo (hc _ (getElem_mem aw) _ (by omega) (by omega)) ?_;simp(disch:=omega) only[dv,aG,WA,reduceEqDiff,reduceAdd,reduceLT,reduceLeDiff,reduceMul,reduceIte,reduceCtorEq,Int.reduceEq,Int.reduceLT,Int.reduceLE,Int.reduceNe];exact⟨aw,by rw[h1,Nat.sub_sub,add_assoc]⟩
 ·have he:i=l.length:=by omega
  subst he;simp only[List.take_length,WA,reduceEqDiff,reduceAdd,reduceLT,reduceLeDiff,reduceMul,reduceIte,reduceCtorEq,Int.reduceEq,Int.reduceLT,Int.reduceLE,Int.reduceNe]
def azN(s b:Nat)(z:AV)(f:FuncId):T:=
.op (.bl (.x 0)) (
.op (.rep b z (.x 1) (.x 1)) (
.bind 1 (
 .loop [(.x 2),(.c (.v (.int .i64 0)))] (
  .op (.bl (.x 0)) (
  .op (.bin .lss (.x 4) (.x 5)) (
  .ite (.x 6)
   (.op (.elem s (.x 0) (.x 4)) (
   .bI (.cells (.x 7) s) (
   .op (.call f [(.x 7)] false) (
   .bI (.idx (.x 3) (.x 4)) (
   .bI (.cells (.x 8) s) (
   .op (.set (.x 3) (.x 4) 0 s (.x 8)) (
   .op (.bin .add (.x 4) (.c (.v (.int .i64 1)))) (
   .jump [(.x 9),(.x 10)]))))))))
   (.eB (.jump [(.x 3)])))))) (
.ret [(.sl (.x 3))])))
def rX{α:Type}(av:α->AV)(z:AV)(l:List α)(i:Nat):List AV:=(l.take i).map av++List.replicate (l.length- i) z
theorem ame{α:Type}(av:α->AV)(z:AV)(l:List α)(i:Nat)(h:i<=l.length):(rX av z l i).length=l.length:=by simp[rX];omega
theorem ajl{α:Type}(av:α->AV)(z:AV)(l:List α):rX av z l 0=List.replicate l.length z:=by simp[rX]
theorem amg{α:Type}(av:α->AV)(z:AV)(l:List α):rX av z l l.length=l.map av:=by simp[rX]
theorem amf{α:Type}(av:α->AV)(z:AV)(l:List α)(i:Nat)(h:i<l.length):(rX av z l i).getD i .top=z:=by
 have h1:((l.take i).map av).length=i:=by simp;omega
 rw[rX,List.getD,List.getElem?_append_right (by omega),h1,Nat.sub_self,List.getElem?_replicate,if_pos (by omega)];rfl
theorem amd{α:Type}(av:α->AV)(z:AV)(l:List α)(i:Nat)(h:i<l.length):(rX av z l i).set i (av l[i])=rX av z l (i+1):=by
 have h1:((l.take i).map av).length=i:=by simp;omega
 unfold rX;rw[List.set_append_right _ _ (by omega),h1,Nat.sub_self];rw[show l.length- i=(l.length- (i+1))+1 by omega,replicate_succ,set_cons_zero,List.take_add_one,List.getElem?_eq_getElem h];simp only[Option.toList_some,map_append,map_cons,map_nil,List.append_assoc,cons_append,nil_append]
theorem asG{P:Program}{L:AX->SS->List AV->Prop}{α:Type}{av:α->AV}{s b:Nat}{z:AV}{f:FuncId}{l:List α}(hs:∀x,(av x).isAgg=true/\(av x).cells.length=s/\(av x).storable=true/\(av x).ag=true)
  (hz:z.cells.length=s) (hb:b<=1000) (hl:l.length<=1048576) (hc:∀x∈l,a7 P f [av x] (av x)):
  bW P L (λ a=>a= .sl (l.map av)) (azN s b z f) [.sl (l.map av)] []:=by
 have si:(b:Int)*(l.length:Int)<=1048576000:=by
  have h1:b*l.length<=1000*1048576:=Nat.mul_le_mul hb hl;have h2:((b*l.length:Nat):Int)<=((1048576000:Nat):Int):=Int.ofNat_le.2 h1;rwa [Int.natCast_mul]at h2
 simp only[azN,WA,reduceEqDiff,reduceAdd,reduceLT,reduceLeDiff,reduceMul,reduceIte,reduceCtorEq,Int.reduceEq,Int.reduceLT,Int.reduceLE,Int.reduceNe];refine⟨Int.le_refl _,by omega,by omega,?_⟩;refine fe [.sl (l.map av)] rfl ?_ (by simp only[WA,reduceEqDiff,reduceAdd,reduceLT,reduceLeDiff,reduceMul,reduceIte,reduceCtorEq,Int.reduceEq,Int.reduceLT,Int.reduceLE,Int.reduceNe]);simp only[WA,reduceEqDiff,reduceAdd,reduceLT,reduceLeDiff,reduceMul,reduceIte,reduceCtorEq,Int.reduceEq,Int.reduceLT,Int.reduceLE,Int.reduceNe];refine wv l.length (λ i=>[.sl (rX av z l i),.v (.int .i64 i)]) (by rw[ajl];simp) λ i hi=> ?_
 simp only[WA,reduceEqDiff,reduceAdd,reduceLT,reduceLeDiff,reduceMul,reduceIte,reduceCtorEq,Int.reduceEq,Int.reduceLT,Int.reduceLE,Int.reduceNe];refine ba (λ h=> ?_) (λ h=> ?_)
 ·have aw:i<l.length:=by omega
  obtain⟨x1,x2,x3,x4⟩:=hs l[i];simp only[WA,reduceEqDiff,reduceAdd,reduceLT,reduceLeDiff,reduceMul,reduceIte,reduceCtorEq,Int.reduceEq,Int.reduceLT,Int.reduceLE,Int.reduceNe];refine yP av aw x2 ?_;simp only[x1,x2,x3,WA,reduceEqDiff,reduceAdd,reduceLT,reduceLeDiff,reduceMul,reduceIte,reduceCtorEq,Int.reduceEq,Int.reduceLT,Int.reduceLE,Int.reduceNe];refine apP (hc _ (getElem_mem aw)) x4 ?_;simp(disch:=omega) only[x1,x2,x3,ame av z l i hi,amf av z l i aw,hz,aG,WA,reduceEqDiff,reduceAdd,reduceLT,reduceLeDiff,reduceMul,reduceIte,reduceCtorEq,Int.reduceEq,Int.reduceLT,Int.reduceLE,Int.reduceNe];exact⟨by omega,aw,⟨aw,by rw[k7 (by rw[x2,hz]),amd av z l i aw]⟩⟩
 ·have he:i=l.length:=by omega
  subst he;simp only[amg,WA,reduceEqDiff,reduceAdd,reduceLT,reduceLeDiff,reduceMul,reduceIte,reduceCtorEq,Int.reduceEq,Int.reduceLT,Int.reduceLE,Int.reduceNe]
def azP(s:Nat)(f:FuncId)(fl:Bool):T:=
.op (.bl (.x 0)) (
.op (.bl (.x 1)) (
.op (.bin .neq (.x 2) (.x 3)) (
.ite (.x 4)
 (.ret [(.c (.v (.bool false)))])
 (.bind 0 (
  .loop [(.c (.v (.int .i64 0)))] (
   .op (.bl (.x 0)) (
   .op (.bin .lss (.x 5) (.x 6)) (
   .ite (.x 7)
    (.op (.elem s (.x 0) (.x 5)) (
    .bI (.cells (.x 8) s) (
    .op (.elem s (.x 1) (.x 5)) (
    .bI (.cells (.x 9) s) (
    .op (.call f [(.x 8),(.x 9)] fl) (
    .op (.un .not (.x 10)) (
    .ite (.x 11)
     (.eB (.eB (.ret [(.c (.v (.bool false)))])))
     (.op (.bin .add (.x 5) (.c (.v (.int .i64 1)))) (
     .jump [(.x 12)])))))))))
    (.eB (.jump [])))))) (
 .ret [(.c (.v (.bool true)))])))))
theorem atm{fl:Bool}{P:Program}{L:AX->SS->List AV->Prop}{α:Type}{av:α->AV}{s:Nat}{f:FuncId}{l:List α}(hs:∀x,(av x).isAgg=true/\(av x).cells.length=s/\(av x).storable=true)
  (hl:l.length<=1048576) (hc:∀x∈l,a7 P f [av x,av x] (.v (.bool true))):
  bW P L (λ a=>a= .v (.bool true)) (azP s f fl) [.sl (l.map av),.sl (l.map av)] []:=by
 simp only[azP,WA,reduceEqDiff,reduceAdd,reduceLT,reduceLeDiff,reduceMul,reduceIte,reduceCtorEq,Int.reduceEq,Int.reduceLT,Int.reduceLE,Int.reduceNe];refine fe [] rfl ?_ (by simp only[WA,reduceEqDiff,reduceAdd,reduceLT,reduceLeDiff,reduceMul,reduceIte,reduceCtorEq,Int.reduceEq,Int.reduceLT,Int.reduceLE,Int.reduceNe]);simp only[WA,reduceEqDiff,reduceAdd,reduceLT,reduceLeDiff,reduceMul,reduceIte,reduceCtorEq,Int.reduceEq,Int.reduceLT,Int.reduceLE,Int.reduceNe];refine wv l.length (λ i=>[.v (.int .i64 i)]) rfl λ i hi=> ?_
 simp only[WA,reduceEqDiff,reduceAdd,reduceLT,reduceLeDiff,reduceMul,reduceIte,reduceCtorEq,Int.reduceEq,Int.reduceLT,Int.reduceLE,Int.reduceNe];refine ba (λ h=> ?_) (λ h=> ?_)
 ·have aw:i<l.length:=by omega
  obtain⟨x1,x2,x3⟩:=hs l[i];simp only[WA,reduceEqDiff,reduceAdd,reduceLT,reduceLeDiff,reduceMul,reduceIte,reduceCtorEq,Int.reduceEq,Int.reduceLT,Int.reduceLE,Int.reduceNe];refine yP av aw x2 ?_;simp only[x1,x2,x3,WA,reduceEqDiff,reduceAdd,reduceLT,reduceLeDiff,reduceMul,reduceIte,reduceCtorEq,Int.reduceEq,Int.reduceLT,Int.reduceLE,Int.reduceNe];refine yP av aw x2 ?_;simp only[x1,x2,x3,WA,reduceEqDiff,reduceAdd,reduceLT,reduceLeDiff,reduceMul,reduceIte,reduceCtorEq,Int.reduceEq,Int.reduceLT,Int.reduceLE,Int.reduceNe];refine bo (hc _ (getElem_mem aw)) ?_;simp(disch:=omega) only[aG,WA,reduceEqDiff,reduceAdd,reduceLT,reduceLeDiff,reduceMul,reduceIte,reduceCtorEq,Int.reduceEq,Int.reduceLT,Int.reduceLE,Int.reduceNe];exact aw
 ·simp only[WA,reduceEqDiff,reduceAdd,reduceLT,reduceLeDiff,reduceMul,reduceIte,reduceCtorEq,Int.reduceEq,Int.reduceLT,Int.reduceLE,Int.reduceNe]
abbrev aO(n:Int):AV:= .v (.int .i64 n)
abbrev cv(s:ByteArray):AV:= .v (.string s)
end Go.Ab
namespace Go.Ab
set_option maxRecDepth 100000
def inR(n:Int):Prop:= -9223372036854775808<=n/\n<=9223372036854775807
theorem de{α:Type}(w:α->Nat){l:List α}{x:α}(h:x∈l):w x<=(l.map w).sum:=by
 induction l with
 |nil=>simp at h
 |cons a l ih=>
  simp only[map_cons,sum_cons];rcases List.mem_cons.1 h with rfl|h
  ·omega
  ·have:=ih h;omega
inductive jg where
 |mk (Kind:Int) (Text:ByteArray) (uv:Int) (Pos:Int)
def jg.Text:jg->ByteArray
 | .mk _ a _ _=>a
def jg.uv:jg->Int
 | .mk _ _ a _=>a
def jg.Pos:jg->Int
 | .mk _ _ _ a=>a
def jg.cs:jg->List AV
 | .mk Kind Text uv Pos=>(.v (.int .i64 Kind)::(.v (.string Text)::(.v (.int .i64 uv)::(.v (.int .i64 Pos):: []))))
def jg.av(x:jg):AV:= .agg x.cs
theorem jg.aE:∀x:jg,AV.ae x.cs=true
 | .mk Kind Text uv Pos=>by simp[jg.cs,AV.ae,AV.ag,aD]
theorem jg.ag(x:jg):x.av.ag=true:=jg.aE x
inductive kJ where
 |mk (Kind:Int) (Name:ByteArray) (uv:Int) (Pos:Int) (Kids:List kJ)
def kJ.uv:kJ->Int
 | .mk _ _ a _ _=>a
def kJ.Pos:kJ->Int
 | .mk _ _ _ a _=>a
mutual
def kJ.cs:kJ->List AV
 | .mk Kind Name uv Pos Kids=>(.v (.int .i64 Kind)::(.v (.string Name)::(.v (.int .i64 uv)::(.v (.int .i64 Pos)::(.sl (kJ.oT Kids):: [])))))
def kJ.oT:List kJ->List AV
 | []=>[]
 |x::l=> .agg x.cs::kJ.oT l
end
def kJ.av(x:kJ):AV:= .agg x.cs
mutual
theorem kJ.aE:∀x:kJ,AV.ae x.cs=true
 | .mk Kind Name uv Pos Kids=>by simp[kJ.cs,AV.ae,AV.ag,aD,kJ.cw Kids]
theorem kJ.cw:∀l:List kJ,AV.ae (kJ.oT l)=true
 | []=>rfl
 |x::l=>by simp[kJ.oT,AV.ae,AV.ag,kJ.aE x,kJ.cw l]
end
theorem kJ.ag(x:kJ):x.av.ag=true:=kJ.aE x
mutual
inductive gQ where
 |mk (Kind:Int) (Name:ByteArray) (uv:Int) (Text:ByteArray) (Pos:Int) (Kids:List gQ) (acr:List lT)
inductive lT where
 |mk (P:kJ) (E:gQ)
end
def gQ.uv:gQ->Int
 | .mk _ _ a _ _ _ _=>a
def gQ.Text:gQ->ByteArray
 | .mk _ _ _ a _ _ _=>a
def gQ.Pos:gQ->Int
 | .mk _ _ _ _ a _ _=>a
def gQ.acr:gQ->List lT
 | .mk _ _ _ _ _ _ a=>a
def lT.P:lT->kJ
 | .mk a _=>a
def lT.E:lT->gQ
 | .mk _ a=>a
mutual
def gQ.cs:gQ->List AV
 | .mk Kind Name uv Text Pos Kids acr=>(.v (.int .i64 Kind)::(.v (.string Name)::(.v (.int .i64 uv)::(.v (.string Text)::(.v (.int .i64 Pos)::(.sl (gQ.oT Kids)::(.sl (lT.oT acr):: [])))))))
def lT.cs:lT->List AV
 | .mk P E=>(P.cs++(E.cs++ []))
def gQ.oT:List gQ->List AV
 | []=>[]
 |x::l=> .agg x.cs::gQ.oT l
def lT.oT:List lT->List AV
 | []=>[]
 |x::l=> .agg x.cs::lT.oT l
end
def gQ.av(x:gQ):AV:= .agg x.cs
def lT.av(x:lT):AV:= .agg x.cs
mutual
theorem gQ.aE:∀x:gQ,AV.ae x.cs=true
 | .mk Kind Name uv Text Pos Kids acr=>by simp[gQ.cs,AV.ae,AV.ag,aD,gQ.cw Kids,lT.cw acr]
theorem lT.aE:∀x:lT,AV.ae x.cs=true
 | .mk P E=>by simp[lT.cs,AV.ae,AV.ag,aD,kJ.aE P,gQ.aE E]
theorem gQ.cw:∀l:List gQ,AV.ae (gQ.oT l)=true
 | []=>rfl
 |x::l=>by simp[gQ.oT,AV.ae,AV.ag,gQ.aE x,gQ.cw l]
theorem lT.cw:∀l:List lT,AV.ae (lT.oT l)=true
 | []=>rfl
 |x::l=>by simp[lT.oT,AV.ae,AV.ag,lT.aE x,lT.cw l]
end
theorem gQ.ag(x:gQ):x.av.ag=true:=gQ.aE x
theorem lT.ag(x:lT):x.av.ag=true:=lT.aE x
inductive bP where
 |mk (Kind:Int) (Name:ByteArray) (Pos:Int) (Kids:List bP)
def bP.Pos:bP->Int
 | .mk _ _ a _=>a
mutual
def bP.cs:bP->List AV
 | .mk Kind Name Pos Kids=>(.v (.int .i64 Kind)::(.v (.string Name)::(.v (.int .i64 Pos)::(.sl (bP.oT Kids):: []))))
def bP.oT:List bP->List AV
 | []=>[]
 |x::l=> .agg x.cs::bP.oT l
end
def bP.av(x:bP):AV:= .agg x.cs
mutual
theorem bP.aE:∀x:bP,AV.ae x.cs=true
 | .mk Kind Name Pos Kids=>by simp[bP.cs,AV.ae,AV.ag,aD,bP.cw Kids]
theorem bP.cw:∀l:List bP,AV.ae (bP.oT l)=true
 | []=>rfl
 |x::l=>by simp[bP.oT,AV.ae,AV.ag,bP.aE x,bP.cw l]
end
theorem bP.ag(x:bP):x.av.ag=true:=bP.aE x
inductive jn where
 |mk (Name:ByteArray) (Has:Bool) (Arg:bP) (Pos:Int)
def jn.Has:jn->Bool
 | .mk _ a _ _=>a
def jn.Arg:jn->bP
 | .mk _ _ a _=>a
def jn.Pos:jn->Int
 | .mk _ _ _ a=>a
def jn.cs:jn->List AV
 | .mk Name Has Arg Pos=>(.v (.string Name)::(.v (.bool Has)::(Arg.cs++(.v (.int .i64 Pos):: []))))
def jn.av(x:jn):AV:= .agg x.cs
theorem jn.aE:∀x:jn,AV.ae x.cs=true
 | .mk Name Has Arg Pos=>by simp[jn.cs,AV.ae,AV.ag,aD,bP.aE Arg]
theorem jn.ag(x:jn):x.av.ag=true:=jn.aE x
inductive jm where
 |mk (Name:ByteArray) (vO:List ByteArray) (tu:List jn) (Pos:Int)
def jm.vO:jm->List ByteArray
 | .mk _ a _ _=>a
def jm.tu:jm->List jn
 | .mk _ _ a _=>a
def jm.Pos:jm->Int
 | .mk _ _ _ a=>a
def jm.cs:jm->List AV
 | .mk Name vO tu Pos=>(.v (.string Name)::(.sl (vO.map λ x=> .v (.string x))::(.sl (tu.map jn.av)::(.v (.int .i64 Pos):: []))))
def jm.av(x:jm):AV:= .agg x.cs
theorem jm.aE:∀x:jm,AV.ae x.cs=true
 | .mk Name vO tu Pos=>by simp[jm.cs,AV.ae,AV.ag,aD,bt (f:=λ x=> .v (.string x)) (l:=vO) (λ _=>rfl),bt (f:=jn.av) (l:=tu) jn.ag]
theorem jm.ag(x:jm):x.av.ag=true:=jm.aE x
inductive pw where
 |mk (Types:List jm) (Body:gQ)
def pw.Types:pw->List jm
 | .mk a _=>a
def pw.Body:pw->gQ
 | .mk _ a=>a
def pw.cs:pw->List AV
 | .mk Types Body=>(.sl (Types.map jm.av)::(Body.cs++ []))
def pw.av(x:pw):AV:= .agg x.cs
theorem pw.aE:∀x:pw,AV.ae x.cs=true
 | .mk Types Body=>by simp[pw.cs,AV.ae,AV.ag,aD,bt (f:=jm.av) (l:=Types) jm.ag,gQ.aE Body]
theorem pw.ag(x:pw):x.av.ag=true:=pw.aE x
inductive ad where
 |mk (Kind:Int) (N:Int) (Name:ByteArray) (Kids:List ad)
def ad.Kind:ad->Int
 | .mk a _ _ _=>a
def ad.N:ad->Int
 | .mk _ a _ _=>a
def ad.Name:ad->ByteArray
 | .mk _ _ a _=>a
def ad.Kids:ad->List ad
 | .mk _ _ _ a=>a
theorem ad.akM(Kind:Int)(N:Int)(Name:ByteArray)(Kids:List ad):(ad.mk Kind N Name Kids).Kids=Kids:=nr rfl
mutual
def ad.cs:ad->List AV
 | .mk Kind N Name Kids=>(.v (.int .i64 Kind)::(.v (.int .i64 N)::(.v (.string Name)::(.sl (ad.oT Kids):: []))))
def ad.oT:List ad->List AV
 | []=>[]
 |x::l=> .agg x.cs::ad.oT l
end
def ad.av(x:ad):AV:= .agg x.cs
theorem ad.awc(l:List ad):ad.oT l=l.map ad.av:=by
 induction l with
 |nil=>rfl
 |cons x l ih=>simp only[ad.oT,ih,map_cons,ad.av]
mutual
def ad.wt:ad->Nat
 | .mk Kind N Name Kids=>Name.size+(Kids.length+ad.wts Kids)
def ad.wts:List ad->Nat
 | []=>0
 |x::l=>x.wt+ad.wts l
end
theorem ad.atB(l:List ad):ad.wts l=(l.map ad.wt).sum:=by
 induction l with
 |nil=>rfl
 |cons x l ih=>simp only[ad.wts,ih,map_cons,sum_cons]
mutual
def ad.ok:ad->Prop
 | .mk Kind N Name Kids=>inR Kind/\inR N/\ad.oks Kids
def ad.oks:List ad->Prop
 | []=>True
 |x::l=>x.ok/\ad.oks l
end
theorem ad.arb(l:List ad):ad.oks l↔∀y∈l,y.ok:=by
 induction l with
 |nil=>simp[ad.oks]
 |cons x l ih=>simp[ad.oks,ih]
mutual
theorem ad.aE:∀x:ad,AV.ae x.cs=true
 | .mk Kind N Name Kids=>by simp[ad.cs,AV.ae,AV.ag,aD,ad.cw Kids]
theorem ad.cw:∀l:List ad,AV.ae (ad.oT l)=true
 | []=>rfl
 |x::l=>by simp[ad.oT,AV.ae,AV.ag,ad.aE x,ad.cw l]
end
theorem ad.ag(x:ad):x.av.ag=true:=ad.aE x
theorem ad.isAgg(x:ad):x.av.isAgg=true:=nr rfl
theorem ad.ato(x:ad):x.cs= [.v (.int .i64 x.Kind),.v (.int .i64 x.N),.v (.string x.Name),.sl (x.Kids.map ad.av)]:=by
 obtain⟨Kind,N,Name,Kids⟩:=x;simp only[ad.cs,ad.Kids,ad.Kind,ad.N,ad.Name,ad.awc,cons_append,nil_append]
theorem ad.cells(x:ad):x.av.cells= [.v (.int .i64 x.Kind),.v (.int .i64 x.N),.v (.string x.Name),.sl (x.Kids.map ad.av)]:=ad.ato x
theorem ad.width(x:ad):x.av.cells.length=4:=by rw[ad.cells];rfl
theorem ad.storable(x:ad):x.av.storable=true:=by unfold AV.storable;rw[ad.cells];rfl
theorem ad.eta(x:ad):AV.agg [.v (.int .i64 x.Kind),.v (.int .i64 x.N),.v (.string x.Name),.sl (x.Kids.map ad.av)]=x.av:=by
 show _=AV.agg x.cs;rw[ad.ato]
theorem ad.shape(x:ad):x.av.isAgg=true/\x.av.cells.length=4/\x.av.storable=true:=⟨rfl,ad.width x,ad.storable x⟩
theorem ad.anp(x:ad):x.av.isAgg=true/\x.av.cells.length=4/\x.av.storable=true/\x.av.ag=true:=⟨rfl,ad.width x,ad.storable x,ad.ag x⟩
theorem ad.gR(x:ad):x.wt=x.Name.size+(x.Kids.length+(x.Kids.map ad.wt).sum):=by
 cases x;simp only[ad.wt,ad.atB,ad.Kind,ad.N,ad.Name,ad.Kids]
theorem ad.aug(x:ad):x.ok↔inR x.Kind/\inR x.N/\(∀y∈x.Kids,y.ok):=by
 cases x;simp only[ad.ok,ad.arb,ad.Kind,ad.N,ad.Name,ad.Kids]
theorem ad.fg{x:ad}{y:ad}(h:y∈x.Kids):SizeOf.sizeOf y<SizeOf.sizeOf x:=by
 cases x;have:=List.sizeOf_lt_of_mem h;simp only[ad.Kids]at this;simp;omega
inductive cr where
 |mk (Name:ByteArray) (Has:Bool) (Arg:ad)
def cr.Has:cr->Bool
 | .mk _ a _=>a
def cr.Arg:cr->ad
 | .mk _ _ a=>a
def cr.cs:cr->List AV
 | .mk Name Has Arg=>(.v (.string Name)::(.v (.bool Has)::(Arg.cs++ [])))
def cr.av(x:cr):AV:= .agg x.cs
theorem cr.aE:∀x:cr,AV.ae x.cs=true
 | .mk Name Has Arg=>by simp[cr.cs,AV.ae,AV.ag,aD,ad.aE Arg]
theorem cr.ag(x:cr):x.av.ag=true:=cr.aE x
inductive dM where
 |mk (Name:ByteArray) (vO:Int) (tu:List cr)
def dM.vO:dM->Int
 | .mk _ a _=>a
def dM.tu:dM->List cr
 | .mk _ _ a=>a
def dM.cs:dM->List AV
 | .mk Name vO tu=>(.v (.string Name)::(.v (.int .i64 vO)::(.sl (tu.map cr.av):: [])))
def dM.av(x:dM):AV:= .agg x.cs
theorem dM.aE:∀x:dM,AV.ae x.cs=true
 | .mk Name vO tu=>by simp[dM.cs,AV.ae,AV.ag,aD,bt (f:=cr.av) (l:=tu) cr.ag]
theorem dM.ag(x:dM):x.av.ag=true:=dM.aE x
inductive fF where
 |mk (Kind:Int) (uv:Int) (Name:ByteArray) (T:ad) (Kids:List fF)
def fF.uv:fF->Int
 | .mk _ a _ _ _=>a
mutual
def fF.cs:fF->List AV
 | .mk Kind uv Name T Kids=>(.v (.int .i64 Kind)::(.v (.int .i64 uv)::(.v (.string Name)::(T.cs++(.sl (fF.oT Kids):: [])))))
def fF.oT:List fF->List AV
 | []=>[]
 |x::l=> .agg x.cs::fF.oT l
end
def fF.av(x:fF):AV:= .agg x.cs
mutual
theorem fF.aE:∀x:fF,AV.ae x.cs=true
 | .mk Kind uv Name T Kids=>by simp[fF.cs,AV.ae,AV.ag,aD,ad.aE T,fF.cw Kids]
theorem fF.cw:∀l:List fF,AV.ae (fF.oT l)=true
 | []=>rfl
 |x::l=>by simp[fF.oT,AV.ae,AV.ag,fF.aE x,fF.cw l]
end
theorem fF.ag(x:fF):x.av.ag=true:=fF.aE x
mutual
inductive dX where
 |mk (Kind:Int) (N:Int) (uv:Int) (Text:ByteArray) (Name:ByteArray) (T:ad) (Ts:List ad) (Kids:List dX) (acr:List fG)
inductive fG where
 |mk (P:fF) (E:dX)
end
def dX.uv:dX->Int
 | .mk _ _ a _ _ _ _ _ _=>a
def dX.Text:dX->ByteArray
 | .mk _ _ _ a _ _ _ _ _=>a
def dX.Ts:dX->List ad
 | .mk _ _ _ _ _ _ a _ _=>a
def dX.acr:dX->List fG
 | .mk _ _ _ _ _ _ _ _ a=>a
def fG.P:fG->fF
 | .mk a _=>a
def fG.E:fG->dX
 | .mk _ a=>a
mutual
def dX.cs:dX->List AV
 | .mk Kind N uv Text Name T Ts Kids acr=>(.v (.int .i64 Kind)::(.v (.int .i64 N)::(.v (.int .i64 uv)::(.v (.string Text)::(.v (.string Name)::(T.cs++(.sl (Ts.map ad.av)::(.sl (dX.oT Kids)::(.sl (fG.oT acr):: [])))))))))
def fG.cs:fG->List AV
 | .mk P E=>(P.cs++(E.cs++ []))
def dX.oT:List dX->List AV
 | []=>[]
 |x::l=> .agg x.cs::dX.oT l
def fG.oT:List fG->List AV
 | []=>[]
 |x::l=> .agg x.cs::fG.oT l
end
def dX.av(x:dX):AV:= .agg x.cs
def fG.av(x:fG):AV:= .agg x.cs
mutual
theorem dX.aE:∀x:dX,AV.ae x.cs=true
 | .mk Kind N uv Text Name T Ts Kids acr=>by simp[dX.cs,AV.ae,AV.ag,aD,ad.aE T,bt (f:=ad.av) (l:=Ts) ad.ag,dX.cw Kids,fG.cw acr]
theorem fG.aE:∀x:fG,AV.ae x.cs=true
 | .mk P E=>by simp[fG.cs,AV.ae,AV.ag,aD,fF.aE P,dX.aE E]
theorem dX.cw:∀l:List dX,AV.ae (dX.oT l)=true
 | []=>rfl
 |x::l=>by simp[dX.oT,AV.ae,AV.ag,dX.aE x,dX.cw l]
theorem fG.cw:∀l:List fG,AV.ae (fG.oT l)=true
 | []=>rfl
 |x::l=>by simp[fG.oT,AV.ae,AV.ag,fG.aE x,fG.cw l]
end
theorem dX.ag(x:dX):x.av.ag=true:=dX.aE x
theorem fG.ag(x:fG):x.av.ag=true:=fG.aE x
inductive kK where
 |mk (Kind:Int) (N:Int) (uv:Int) (Text:ByteArray)
def kK.uv:kK->Int
 | .mk _ _ a _=>a
def kK.Text:kK->ByteArray
 | .mk _ _ _ a=>a
def kK.cs:kK->List AV
 | .mk Kind N uv Text=>(.v (.int .i64 Kind)::(.v (.int .i64 N)::(.v (.int .i64 uv)::(.v (.string Text):: []))))
def kK.av(x:kK):AV:= .agg x.cs
theorem kK.aE:∀x:kK,AV.ae x.cs=true
 | .mk Kind N uv Text=>by simp[kK.cs,AV.ae,AV.ag,aD]
theorem kK.ag(x:kK):x.av.ag=true:=kK.aE x
inductive cq where
 |mk (Kind:Int) (Name:ByteArray) (N:Int) (uv:Int) (T:ad) (Ts:List ad) (Vs:List kK) (Kids:List cq)
def cq.uv:cq->Int
 | .mk _ _ _ a _ _ _ _=>a
def cq.Ts:cq->List ad
 | .mk _ _ _ _ _ a _ _=>a
def cq.Vs:cq->List kK
 | .mk _ _ _ _ _ _ a _=>a
mutual
def cq.cs:cq->List AV
 | .mk Kind Name N uv T Ts Vs Kids=>(.v (.int .i64 Kind)::(.v (.string Name)::(.v (.int .i64 N)::(.v (.int .i64 uv)::(T.cs++(.sl (Ts.map ad.av)::(.sl (Vs.map kK.av)::(.sl (cq.oT Kids):: []))))))))
def cq.oT:List cq->List AV
 | []=>[]
 |x::l=> .agg x.cs::cq.oT l
end
def cq.av(x:cq):AV:= .agg x.cs
mutual
theorem cq.aE:∀x:cq,AV.ae x.cs=true
 | .mk Kind Name N uv T Ts Vs Kids=>by simp[cq.cs,AV.ae,AV.ag,aD,ad.aE T,bt (f:=ad.av) (l:=Ts) ad.ag,bt (f:=kK.av) (l:=Vs) kK.ag,cq.cw Kids]
theorem cq.cw:∀l:List cq,AV.ae (cq.oT l)=true
 | []=>rfl
 |x::l=>by simp[cq.oT,AV.ae,AV.ag,cq.aE x,cq.cw l]
end
theorem cq.ag(x:cq):x.av.ag=true:=cq.aE x
inductive kI where
 |mk (T:ad) (asA:Int) (afW:Bool)
def kI.asA:kI->Int
 | .mk _ a _=>a
def kI.afW:kI->Bool
 | .mk _ _ a=>a
def kI.cs:kI->List AV
 | .mk T asA afW=>(T.cs++(.v (.int .i64 asA)::(.v (.bool afW):: [])))
def kI.av(x:kI):AV:= .agg x.cs
theorem kI.aE:∀x:kI,AV.ae x.cs=true
 | .mk T asA afW=>by simp[kI.cs,AV.ae,AV.ag,aD,ad.aE T]
theorem kI.ag(x:kI):x.av.ag=true:=kI.aE x
inductive eE where
 |mk (vO:Int) (aqi:List kI) (afW:Bool) (T:ad) (Body:cq)
def eE.vO:eE->Int
 | .mk a _ _ _ _=>a
def eE.aqi:eE->List kI
 | .mk _ a _ _ _=>a
def eE.afW:eE->Bool
 | .mk _ _ a _ _=>a
def eE.Body:eE->cq
 | .mk _ _ _ _ a=>a
def eE.cs:eE->List AV
 | .mk vO aqi afW T Body=>(.v (.int .i64 vO)::(.sl (aqi.map kI.av)::(.v (.bool afW)::(T.cs++(Body.cs++ [])))))
def eE.av(x:eE):AV:= .agg x.cs
theorem eE.aE:∀x:eE,AV.ae x.cs=true
 | .mk vO aqi afW T Body=>by simp[eE.cs,AV.ae,AV.ag,aD,bt (f:=kI.av) (l:=aqi) kI.ag,ad.aE T,cq.aE Body]
theorem eE.ag(x:eE):x.av.ag=true:=eE.aE x
inductive kL where
 |mk (acq:List eE) (Main:cq)
def kL.acq:kL->List eE
 | .mk a _=>a
def kL.Main:kL->cq
 | .mk _ a=>a
def kL.cs:kL->List AV
 | .mk acq Main=>(.sl (acq.map eE.av)::(Main.cs++ []))
def kL.av(x:kL):AV:= .agg x.cs
theorem kL.aE:∀x:kL,AV.ae x.cs=true
 | .mk acq Main=>by simp[kL.cs,AV.ae,AV.ag,aD,bt (f:=eE.av) (l:=acq) eE.ag,cq.aE Main]
theorem kL.ag(x:kL):x.av.ag=true:=kL.aE x
inductive dU where
 |mk (Op:Int) (A:Int) (B:Int) (C:Int) (N:Int) (Text:ByteArray)
def dU.Op:dU->Int
 | .mk a _ _ _ _ _=>a
def dU.A:dU->Int
 | .mk _ a _ _ _ _=>a
def dU.B:dU->Int
 | .mk _ _ a _ _ _=>a
def dU.C:dU->Int
 | .mk _ _ _ a _ _=>a
def dU.Text:dU->ByteArray
 | .mk _ _ _ _ _ a=>a
def dU.cs:dU->List AV
 | .mk Op A B C N Text=>(.v (.int .i64 Op)::(.v (.int .i64 A)::(.v (.int .i64 B)::(.v (.int .i64 C)::(.v (.int .i64 N)::(.v (.string Text):: []))))))
def dU.av(x:dU):AV:= .agg x.cs
theorem dU.aE:∀x:dU,AV.ae x.cs=true
 | .mk Op A B C N Text=>by simp[dU.cs,AV.ae,AV.ag,aD]
theorem dU.ag(x:dU):x.av.ag=true:=dU.aE x
inductive px where
 |mk (acp:List dU) (aco:List Int)
def px.acp:px->List dU
 | .mk a _=>a
def px.aco:px->List Int
 | .mk _ a=>a
def px.cs:px->List AV
 | .mk acp aco=>(.sl (acp.map dU.av)::(.sl (aco.map λ x=> .v (.int .i64 x)):: []))
def px.av(x:px):AV:= .agg x.cs
theorem px.aE:∀x:px,AV.ae x.cs=true
 | .mk acp aco=>by simp[px.cs,AV.ae,AV.ag,aD,bt (f:=dU.av) (l:=acp) dU.ag,bt (f:=λ x=> .v (.int .i64 x)) (l:=aco) (λ _=>rfl)]
theorem px.ag(x:px):x.av.ag=true:=px.aE x
inductive jh where
 |mk (At:Int) (Room:Int) (Put:Int)
def jh.At:jh->Int
 | .mk a _ _=>a
def jh.Room:jh->Int
 | .mk _ a _=>a
def jh.Put:jh->Int
 | .mk _ _ a=>a
def jh.cs:jh->List AV
 | .mk At Room Put=>(.v (.int .i64 At)::(.v (.int .i64 Room)::(.v (.int .i64 Put):: [])))
def jh.av(x:jh):AV:= .agg x.cs
theorem jh.aE:∀x:jh,AV.ae x.cs=true
 | .mk At Room Put=>by simp[jh.cs,AV.ae,AV.ag,aD]
theorem jh.ag(x:jh):x.av.ag=true:=jh.aE x
end Go.Ab
namespace Go.Ab
set_option maxRecDepth 100000
section
variable {P:Program} {L:AX->SS->List AV->Prop} {R:AV->Prop} {t:T} {r:List AV} {S:List (List AV->Prop)}
theorem sT{init:List AV}(n:Nat)(I:Nat->Prop)(σ:Nat->List AV)(h0:init=σ 0)(hI:I 0)
  (hr:∀i,i<=n->I i->bW P L R t (r++σ i) ((λ vs=>i<n/\I (i+1)/\vs=σ (i+1))::S)):aa8 P L R init t r S:=by
 refine nV (ι:=Nat) (λ i=>i<=n/\I i) σ (λ i=>n- i) 0 ⟨zero_le _,hI⟩ h0 λ i hi=> ?_
 refine ez (λ _ _ _ h=>h) (λ _ h=>h) t (.cons (λ vs hv=> ?_) (.refl _)) (hr i hi.1 hi.2);exact⟨i+1,⟨hv.1,hv.2.1⟩,by have:=hv.1;omega,hv.2.2⟩
end
theorem ab6{α:Type}{l:List α}{i:Nat}(h:i<l.length):l.drop i=l[i]::l.drop (i+1):=List.drop_eq_getElem_cons h
theorem aea{α:Type}(l:List α):l.drop l.length= []:=List.drop_length
def oe{α:Type}(p:α->Bool):List α->Nat->Int
 | [],_=> -1
 |x::r,k=>if p x=true then(k:Int)else oe p r (k+1)
theorem abD{α:Type}(p:α->Bool):∀(l:List α) (k:Nat),decide (0<=oe p l k)=l.any p
 | [],_=>by simp[oe]
 |x::r,k=>by
  unfold oe;by_cases h:p x=true
  ·simp[h]
  ·simp only[h,List.any_cons];rw[if_neg (by simp),abD p r (k+1)];simp
def att(s:Nat):T:=
.bind 0 (
 .op (.bl (.x 0)) (
 .loop [(.c (.v (.int .i64 0)))] (
  .op (.bin .lss (.x 3) (.x 2)) (
  .ite (.x 4)
   (.op (.elem s (.x 0) (.x 3)) (
   .bI (.cells (.x 5) s) (
   .op (.eI (.x 1) [(.x 5)] false) (
   .ite (.x 6)
    (.eB (.eB (.ret [(.x 3)])))
    (.op (.bin .add (.x 3) (.c (.v (.int .i64 1)))) (
    .jump [(.x 7)]))))))
   (.eB (.jump [])))))) (
.ret [(.c (.v (.int .i64 (-1))))])
theorem auN{P:Program}{L:AX->SS->List AV->Prop}{α:Type}{av:α->AV}{s:Nat}{g:FuncId}{aV:List AV}{l:List α}(p:α->Bool)(hs:∀x,(av x).isAgg=true/\(av x).cells.length=s/\(av x).storable=true)
  (hl:l.length<=1073741824) (hc:∀x∈l,a7 P g (av x::aV) (.v (.bool (p x)))):
  bW P L (λ a=>a= .v (.int .i64 (oe p l 0))) (att s) [.sl (l.map av),.fn g aV] []:=by
 simp only[att,WA,reduceEqDiff,reduceAdd,reduceLT,reduceLeDiff,reduceMul,reduceIte,reduceCtorEq,Int.reduceEq,Int.reduceLT,Int.reduceLE,Int.reduceNe];refine aN ?_;simp only[WA,reduceEqDiff,reduceAdd,reduceLT,reduceLeDiff,reduceMul,reduceIte,reduceCtorEq,Int.reduceEq,Int.reduceLT,Int.reduceLE,Int.reduceNe];refine sT l.length (λ i=>oe p l 0=oe p (l.drop i) i) (λ i=>[.v (.int .i64 i)]) rfl rfl λ i hi hI=> ?_
 simp only[WA,reduceEqDiff,reduceAdd,reduceLT,reduceLeDiff,reduceMul,reduceIte,reduceCtorEq,Int.reduceEq,Int.reduceLT,Int.reduceLE,Int.reduceNe];refine ba (λ h=> ?_) (λ h=> ?_)
 ·have aw:i<l.length:=by omega
  obtain⟨x1,x2,x3⟩:=hs l[i];rw[ab6 aw,oe]at hI;simp only[WA,reduceEqDiff,reduceAdd,reduceLT,reduceLeDiff,reduceMul,reduceIte,reduceCtorEq,Int.reduceEq,Int.reduceLT,Int.reduceLE,Int.reduceNe];refine yP av aw x2 ?_;simp only[x1,x2,x3,WA,reduceEqDiff,reduceAdd,reduceLT,reduceLeDiff,reduceMul,reduceIte,reduceCtorEq,Int.reduceEq,Int.reduceLT,Int.reduceLE,Int.reduceNe];refine bo (hc _ (getElem_mem aw)) ?_;simp only[WA,reduceEqDiff,reduceAdd,reduceLT,reduceLeDiff,reduceMul,reduceIte,reduceCtorEq,Int.reduceEq,Int.reduceLT,Int.reduceLE,Int.reduceNe];refine aS (λ h=> ?_) (λ h=> ?_)
  ·simp only[h,if_pos]at hI;simp only[hI,WA,reduceEqDiff,reduceAdd,reduceLT,reduceLeDiff,reduceMul,reduceIte,reduceCtorEq,Int.reduceEq,Int.reduceLT,Int.reduceLE,Int.reduceNe]
  ·simp only[h]at hI;simp(disch:=omega) only[aG,WA,reduceEqDiff,reduceAdd,reduceLT,reduceLeDiff,reduceMul,reduceIte,reduceCtorEq,Int.reduceEq,Int.reduceLT,Int.reduceLE,Int.reduceNe];exact⟨aw,by simpa using hI⟩
 ·have he:i=l.length:=by omega
  subst he;rw[aea,oe]at hI;simp only[hI,WA,reduceEqDiff,reduceAdd,reduceLT,reduceLeDiff,reduceMul,reduceIte,reduceCtorEq,Int.reduceEq,Int.reduceLT,Int.reduceLE,Int.reduceNe]
def atv(f:FuncId)(fl:Bool):T:=
.op (.call f [(.x 0),(.x 1)] fl) (
.op (.bin .geq (.x 2) (.c (.v (.int .i64 0)))) (
.ret [(.x 3)]))
theorem ajB{fl:Bool}{P:Program}{L:AX->SS->List AV->Prop}{α:Type}{a b:AV}{f:FuncId}{l:List α}{p:α->Bool}(hc:a7 P f [a,b] (.v (.int .i64 (oe p l 0)))):
  bW P L (λ r=>r= .v (.bool (l.any p))) (atv f fl) [a,b] []:=by
 simp only[atv,WA,reduceEqDiff,reduceAdd,reduceLT,reduceLeDiff,reduceMul,reduceIte,reduceCtorEq,Int.reduceEq,Int.reduceLT,Int.reduceLE,Int.reduceNe];refine bo hc ?_;simp only[abD,WA,reduceEqDiff,reduceAdd,reduceLT,reduceLeDiff,reduceMul,reduceIte,reduceCtorEq,Int.reduceEq,Int.reduceLT,Int.reduceLE,Int.reduceNe]
def atu:T:=
.bind 0 (
 .op (.bl (.x 0)) (
 .loop [(.c (.v (.int .i64 0)))] (
  .op (.bin .lss (.x 3) (.x 2)) (
  .ite (.x 4)
   (.op (.elem 1 (.x 0) (.x 3)) (
   .bI (.lt (.x 5) 0) (
   .op (.bin .eql (.x 1) (.cell 5 0)) (
   .ite (.x 6)
    (.eB (.eB (.ret [(.x 3)])))
    (.op (.bin .add (.x 3) (.c (.v (.int .i64 1)))) (
    .jump [(.x 7)]))))))
   (.eB (.jump [])))))) (
.ret [(.c (.v (.int .i64 (-1))))])
theorem aoE{P:Program}{L:AX->SS->List AV->Prop}{α:Type}[DecidableEq α]{g:α->Value}{l:List α}{x:α}(hg:∀(x y:α) (K:AV->Prop),gP K (.v (.bool (decide (x=y))))->ft .eql (.v (g x)) (.v (g y)) K)
  (hl:l.length<=1073741824):bW P L (λ a=>a= .v (.int .i64 (oe (λ y=>decide (x=y)) l 0))) atu [.sl (l.map λ y=> .v (g y)),.v (g x)] []:=by
 simp only[atu,WA,reduceEqDiff,reduceAdd,reduceLT,reduceLeDiff,reduceMul,reduceIte,reduceCtorEq,Int.reduceEq,Int.reduceLT,Int.reduceLE,Int.reduceNe];refine aN ?_;simp only[WA,reduceEqDiff,reduceAdd,reduceLT,reduceLeDiff,reduceMul,reduceIte,reduceCtorEq,Int.reduceEq,Int.reduceLT,Int.reduceLE,Int.reduceNe];refine sT l.length (λ i=>oe (λ y=>decide (x=y)) l 0=oe (λ y=>decide (x=y)) (l.drop i) i) (λ i=>[.v (.int .i64 i)]) rfl rfl λ i hi hI=> ?_
 simp only[WA,reduceEqDiff,reduceAdd,reduceLT,reduceLeDiff,reduceMul,reduceIte,reduceCtorEq,Int.reduceEq,Int.reduceLT,Int.reduceLE,Int.reduceNe];refine ba (λ h=> ?_) (λ h=> ?_)
 ·have aw:i<l.length:=by omega
  rw[ab6 aw,oe]at hI;simp only[WA,reduceEqDiff,reduceAdd,reduceLT,reduceLeDiff,reduceMul,reduceIte,reduceCtorEq,Int.reduceEq,Int.reduceLT,Int.reduceLE,Int.reduceNe];refine yP (λ y=> .v (g y)) aw rfl ?_;simp only[WA,reduceEqDiff,reduceAdd,reduceLT,reduceLeDiff,reduceMul,reduceIte,reduceCtorEq,Int.reduceEq,Int.reduceLT,Int.reduceLE,Int.reduceNe];refine hg _ _ _ ?_;simp only[WA,reduceEqDiff,reduceAdd,reduceLT,reduceLeDiff,reduceMul,reduceIte,reduceCtorEq,Int.reduceEq,Int.reduceLT,Int.reduceLE,Int.reduceNe];refine ba (λ h=> ?_) (λ h=> ?_)
  ·rw[if_pos (decide_eq_true h)]at hI;simp only[hI,WA,reduceEqDiff,reduceAdd,reduceLT,reduceLeDiff,reduceMul,reduceIte,reduceCtorEq,Int.reduceEq,Int.reduceLT,Int.reduceLE,Int.reduceNe]
  ·rw[if_neg (by simpa using h)]at hI;simp(disch:=omega) only[aG,WA,reduceEqDiff,reduceAdd,reduceLT,reduceLeDiff,reduceMul,reduceIte,reduceCtorEq,Int.reduceEq,Int.reduceLT,Int.reduceLE,Int.reduceNe];exact⟨aw,hI⟩
 ·have he:i=l.length:=by omega
  subst he;rw[aea,oe]at hI;simp only[hI,WA,reduceEqDiff,reduceAdd,reduceLT,reduceLeDiff,reduceMul,reduceIte,reduceCtorEq,Int.reduceEq,Int.reduceLT,Int.reduceLE,Int.reduceNe]
theorem aCD(k:IntKind)(x y:Int)(K:AV->Prop)(h:gP K (.v (.bool (decide (x=y))))):ft .eql (.v (.int k x)) (.v (.int k y)) K:=by rw[atq];exact h
theorem aCC(x y:ByteArray)(K:AV->Prop)(h:gP K (.v (.bool (decide (x=y))))):ft .eql (.v (.string x)) (.v (.string y)) K:=by rw[ap0];exact h
end Go.Ab
namespace Go.Ab
set_option maxRecDepth 100000
theorem arl{α:Type}(p:α->Bool)(l:List α):(!(l.any λ y=> !p y))=l.all p:=by
 induction l with
 |nil=>rfl
 |cons x l ih=>simp only[List.any_cons,all_cons,←ih];cases p x<;>simp
theorem avb{a b:Bool}(h:a=true↔b=true):AV.v (.bool a)=AV.v (.bool b):=by rw[Bool.eq_iff_iff.2 h]
section
variable {P:Program} {L:AX->SS->List AV->Prop} {R:AV->Prop} {t:T} {r:List AV} {S:List (List AV->Prop)}
theorem eQ{α β:Type}{init:List AV}(l:List α)(σ:Nat->β->List AV)(G:Nat->List α->β->Prop)(b0:β)(h0:init=σ 0 b0)(hG:G 0 l b0)
  (hc:∀(i:Nat) (x:α) (rest:List α) (b:β),i<l.length->l[i]? =some x->x∈l->(∀(f:α->AV) (s:Nat) (k:IntKind) (K:AV->Prop),(f x).cells.length=s->wX s (.sl (l.map f)) (.v (.int k (i:Int))) K=gP K (f x))->
   decide ((i:Int)<(l.length:Int))=true->G i (x::rest) b->bW P L R t (r++σ i b) ((λ vs=>i<l.length/\∃b',G (i+1) rest b'/\vs=σ (i+1) b')::S))
  (he:∀b,decide ((l.length:Int)<(l.length:Int))=false->G l.length [] b->bW P L R t (r++σ l.length b) ((λ _=>False)::S)):aa8 P L R init t r S:=by
 refine nV (ι:=Nat×β) (λ q=>q.1<=l.length/\G q.1 (l.drop q.1) q.2) (λ q=>σ q.1 q.2) (λ q=>l.length- q.1) (0,b0) ⟨zero_le _,hG⟩ h0 λ q hq=> ?_
 obtain⟨i,b⟩:=q;obtain⟨hi,hg⟩:=hq;rcases Nat.lt_or_ge i l.length with h|h
 ·have hg:G i (l[i]::l.drop (i+1)) b:=by rw[←ab6 h];exact hg
  refine ez (λ _ _ _ h=>h) (λ _ h=>h) t (.cons (λ vs hv=> ?_) (.refl _)) (hc i l[i] (l.drop (i+1)) b h (List.getElem?_eq_getElem h) (getElem_mem h) (λ f s k K hs=> ?_) (by simp;exact h) hg)
  ·obtain⟨_,b',h1,h2⟩:=hv;exact⟨(i+1,b'),⟨h,h1⟩,by simp only;omega,h2⟩
  ·unfold wX;have hx:(l.map f).getD (Int.toNat (i:Int)) .top=f l[i]:=by simp[List.getD,h]
   simp only[hx,hs,true_and,gP];exact propext ⟨λ q=>q.2.2,λ q=>⟨Int.natCast_nonneg i,by simp;exact h,q⟩⟩
 ·have he':i=l.length:=by simp only at hi;omega
  subst he';have hg:G l.length [] b:=by simpa using hg
  refine ez (λ _ _ _ h=>h) (λ _ h=>h) t (.cons (λ vs hv=>hv.elim) (.refl _)) (he b (by simp) hg)
def bs(s:ByteArray):List Int:=s.data.toList.map λ b=>(b.toNat:Int)
theorem afL(s:ByteArray):(bs s).length=s.size:=by simp[bs]
theorem tm{s:ByteArray}{c:Int}(h:c∈bs s):0<=c/\c<256:=by
 simp only[bs,List.mem_map]at h;obtain⟨b,_,rfl⟩:=h;exact⟨by omega,by have:=b.toNat_lt;omega⟩
theorem alX{s:ByteArray}{i:Nat}{k:IntKind}{K:AV->Prop}(h:i<(bs s).length)(hk:gP K (.v (.int .u8 (bs s)[i]))):aoC (.v (.string s)) (.v (.int k (i:Int))) K:=by
 rw[ax5];have hl:=afL s;refine⟨by omega,by omega,?_⟩
 have:(((s.data.toList.getD (Int.toNat (i:Int)) 0).toNat:Nat):Int)=(bs s)[i]:=by
  simp only[bs,Int.toNat_natCast,List.getElem_map,List.getD];have h1:i<s.data.toList.length:=by simpa [bs]using h
  rw[List.getElem?_eq_getElem h1];rfl
 rw[this];exact hk
theorem ajJ{c:Int}(h:0<=c)(h':c<256):IntKind.i64.wrap c=c:=da (by omega) (by omega)
end
end Go.Ab
namespace Go.Ab
set_option maxRecDepth 100000
end Go.Ab
namespace Go.Ab
set_option maxRecDepth 100000
def marks(b:Nat)(n:Nat):List Int:=(List.range n).map λ i=>IntKind.u8.wrap ((b+i:Nat):Int)
def val:List Int->Nat
 | []=>0
 |c::r=>(c%128).toNat+128*val r
def unz(x:Nat):Int:=if x%2=1 then-((x/2:Nat):Int)- 1 else((x/2:Nat):Int)
def gs(at':Int):Nat->Nat->List Int->Int×Int×Bool
 |_,_,[]=>(0,0,false)
 |k,acc,c::r=>if 10<=k then(0,0,false)else if 127<c then gs at' (k+1) (acc+(c%128).toNat*128^k) r
  else if(0<k/\c=0)∨(k=9/\1<c)then(0,0,false)else(unz (acc+(c%128).toNat*128^k),at'+k+1,true)
end Go.Ab
namespace Go.Ab
set_option maxRecDepth 100000
end Go.Ab
namespace Go.Ab
set_option maxRecDepth 100000
theorem mY{α:Type}{B R:List α}{y d:α}{i:Nat}(h:B.length=i):(B++y::R).getD i d=y:=by
 subst h;simp[List.getD]
theorem zN{α:Type}{B R:List α}{y z:α}{i:Nat}(h:B.length=i):(B++y::R).set i z=B++z::R:=by
 subst h;simp
theorem agO{α:Type}{x y:α}{B R:List α}{i:Nat}(h:B.length+1=i):(x::(B++y::R))[i]? =some y:=by
 subst h;simp
theorem agN{α:Type}{x y z:α}{B R:List α}{i:Nat}(h:B.length+1=i):(x::(B++y::R)).set i z=x::((B++ [z])++R):=by
 subst h;simp
theorem xv:∀(n:Nat) (cs:List AV),(sp n cs).1.length=cs.length
 |n,[]=>rfl
 |n,c::cs=>by cases c<;>simp[sp,xv]
theorem vY:∀(n m:Nat) (cs:List AV),(sp n cs).2=(sp m cs).2
 |n,m,[]=>rfl
 |n,m,c::cs=>by
  cases c<;>simp only[sp]<;>first|exact vY n m cs|rw[vY (n+1) (m+1) cs]
theorem xo(n m:Nat)(x:AV):(pW n x).2=(pW m x).2:=by
 cases x<;>simp only[pW]
 exact vY n m _
theorem fU:∀(n:Nat) (xs:List AV),(gJ n xs).1.length=xs.length
 |n,[]=>rfl
 |n,x::xs=>by simp[gJ,fU]
theorem aae:∀(n:Nat) (xs:List AV) (x:AV),gJ n (xs++ [x])=((gJ n xs).1++ [(pW (n+(gJ n xs).2.length) x).1],(gJ n xs).2++(pW 0 x).2)
 |n,[],x=>by simp[gJ,xo n 0 x]
 |n,y::xs,x=>by
  simp only[cons_append,gJ,aae _ xs x,length_append,List.append_assoc,add_assoc]
def slc:List AV->List AV
 | []=>[]
 | .v _::r=>slc r
 |a::r=>a::slc r
theorem ajW:∀(n:Nat) (cs:List AV),(sp n cs).2=(slc cs).map aa.own
 |n,[]=>rfl
 |n,c::cs=>by cases c<;>simp[sp,slc,ajW]
theorem ann(b:Nat):∀(n:Nat) (cs:List AV),(sp n cs).1.map (AV.bj λ k=>b+k)=(sp (b+n) cs).1
 |n,[]=>rfl
 |n,c::cs=>by
  cases c<;>simp only[sp,map_cons,AV.bj,ann b,add_assoc]
theorem ajS(b n:Nat)(x:AV):(pW n x).1.bj (λ k=>b+k)=(pW (b+n) x).1:=by
 cases x<;>simp only[pW,AV.bj,eF,ann]
theorem aev(n:Nat)(x:AV):∀ob∈(pW n x).2,∃d,ob= .own d:=by
 intro ob h;cases x<;>simp only[pW]at h
 case agg cs=>
  rw[ajW]at h;obtain⟨d,_,rfl⟩:=List.mem_map.1 h;exact⟨d,rfl⟩
 all_goals first|(simp at h;done)|(simp at h;exact⟨_,h⟩)
theorem ajT:∀(n:Nat) (xs:List AV),∀ob∈(gJ n xs).2,∃d,ob= .own d
 |n,[],ob,h=>by simp[gJ]at h
 |n,x::xs,ob,h=>by
  simp only[gJ,List.mem_append]at h;rcases h with h|h
  ·exact aev n x ob h
  ·exact ajT _ xs ob h
theorem aeS{s:Nat->Nat}{l:List aa}(h:∀ob∈l,∃d,ob= .own d):l.map (aa.bj s)=l:=by
 induction l with
 |nil=>rfl
 |cons a l ih=>
  obtain⟨d,rfl⟩:=h a (by simp);simp only[map_cons,aa.bj,ih λ ob ho=>h ob (by simp[ho])]
theorem ano:∀(n:Nat) (cs:List AV) (j:Nat) (c d:AV),(sp n cs).1[j]? =some c->cs[j]? =some d->(c=d/\∃v,d= .v v)∨∃k,c= .own (n+k)/\(sp n cs).2[k]? =some (.own d)
 |n,[],j,c,d,_,h=>by simp at h
 |n,a::cs,0,c,d,hc,hd=>by
  simp at hd;subst hd;cases a<;>simp[sp]at hc<;>subst hc<;>first|exact .inl ⟨rfl,_,rfl⟩|exact .inr ⟨0,rfl,rfl⟩
 |n,a::cs,j+1,c,d,hc,hd=>by
  simp at hd;cases a<;>simp[sp]at hc
  case v x=>exact ano n cs j c d hc hd
  all_goals
   rcases ano (n+1) cs j c d hc hd with h|⟨k,rfl,hk⟩
   ·exact .inl h
   ·exact .inr ⟨k+1,by congr 1;omega,by simpa [sp]using hk⟩
theorem aeG:∀(n:Nat) (cs:List AV) (j j' k:Nat),(sp n cs).1[j]? =some (.own k)->(sp n cs).1[j']? =some (.own k)->(∀c∈cs,∀m,c≠ .own m)->n<=k/\k<n+(sp n cs).2.length/\j=j'
 |n,[],j,j',k,h,_,_=>by simp[sp]at h
 |n,a::cs,j,j',k,h,h',hn=>by
  have ih:=λ n' j1 j2 h1 h2=>aeG n' cs j1 j2 k h1 h2 (λ c hc=>hn c (by simp[hc]))
  cases a
  case v x=>
   cases j with
   |zero=>simp[sp]at h
   |succ j=>
    cases j' with
    |zero=>simp[sp]at h'
    |succ j'=>
     simp only[sp,getElem?_cons_succ]at h h';obtain⟨h1,h2,h3⟩:=ih n j j' h h';exact⟨h1,by simpa [sp]using h2,by omega⟩
  case own m=>exact(hn (.own m) (by simp) m rfl).elim
  all_goals
   cases j with
   |zero=>
    simp[sp]at h;subst h;cases j' with
    |zero=>exact⟨le_refl _,by simp[sp],rfl⟩
    |succ j'=>
     simp only[sp,getElem?_cons_succ]at h';have:=(ih (n+1) j' j' h' h').1;omega
   |succ j=>
    simp only[sp,getElem?_cons_succ]at h;cases j' with
    |zero=>
     simp[sp]at h';subst h';have:=(ih (n+1) j j h h).1;omega
    |succ j'=>
     simp only[sp,getElem?_cons_succ]at h';obtain⟨h1,h2,h3⟩:=ih (n+1) j j' h h';exact⟨by omega,by simp only[sp,length_cons];omega,by omega⟩
theorem aim:∀(n:Nat) (cs:List AV) (k:Nat) (d:AV),(sp n cs).2[k]? =some (.own d)->∃j:Nat,(sp n cs).1[j]? =some (AV.own (n+k))/\cs[j]? =some d
 |n,[],k,d,h=>by simp[sp]at h
 |n,a::cs,k,d,h=>by
  cases a<;>simp only[sp]at h⊢
  case v x=>
   obtain⟨j,h1,h2⟩:=aim n cs k d h;exact⟨j+1,by simpa using h1,by simpa using h2⟩
  all_goals
   cases k with
   |zero=>simp at h;exact⟨0,by simp,by simp[h]⟩
   |succ k=>
    obtain⟨j,h1,h2⟩:=aim (n+1) cs k d (by simpa using h);exact⟨j+1,by simp only[getElem?_cons_succ];rw[h1];congr 2;omega,by simpa using h2⟩
def AV.elem(x:AV):Bool:=x.isAgg&&x.storable&&x.ag
theorem qL{x:AV}(h:x.isAgg=true)(n:Nat):pW n x=(.agg (sp n x.cells).1,(sp n x.cells).2):=by
 cases x<;>first|rfl|(simp[AV.isAgg]at h;done)
theorem als{x:AV}(h:x.ag=true):∀c∈x.cells,∀m,c≠ .own m:=by
 intro c hc m e;subst e;have:=ej h _ hc;simp[AV.ag]at this
theorem ail:∀(n:Nat) (xs:List AV) (i:Nat) (y:AV),(gJ n xs).1[i]? =some y->∃m x,xs[i]? =some x/\y=(pW (n+m) x).1/\m+(pW 0 x).2.length<=(gJ n xs).2.length/\∀k d,(pW 0 x).2[k]? =some (.own d)->(gJ n xs).2[m+k]? =some (.own d)
 |n,[],i,y,h=>by simp[gJ]at h
 |n,x::xs,0,y,h=>by
  simp[gJ]at h;subst h;refine⟨0,x,rfl,rfl,by simp[gJ,xo n 0 x],λ k d hk=> ?_⟩;simp only[gJ,xo n 0 x,zero_add];rw[List.getElem?_append_left (List.getElem?_eq_some_iff.1 hk).1,hk]
 |n,x::xs,i+1,y,h=>by
  simp only[gJ,getElem?_cons_succ]at h;obtain⟨m,x',h1,h2,h3,h4⟩:=ail _ xs i y h;refine⟨(pW n x).2.length+m,x',by simpa using h1,by rw[h2,add_assoc],by simp only[gJ,length_append];omega,λ k d hk=> ?_⟩;simp only[gJ];rw[List.getElem?_append_right (by omega),show(pW n x).2.length+m+k- (pW n x).2.length=m+k by omega];exact h4 k d hk
theorem ajU:∀(n:Nat) (xs:List AV) (i:Nat) (y:AV) (j i':Nat) (y':AV) (j' k:Nat),(∀x∈xs,x.elem=true)->(gJ n xs).1[i]? =some y->y.cells[j]? =some (.own k)->(gJ n xs).1[i']? =some y'->y'.cells[j']? =some (.own k)->n<=k/\i=i'/\j=j'
 |n,[],i,y,j,i',y',j',k,_,h,_,_,_=>by simp[gJ]at h
 |n,x::xs,i,y,j,i',y',j',k,he,h1,h2,h3,h4=>by
  have hx:=he x (by simp);simp only[AV.elem,and_eq_true]at hx;obtain⟨⟨ha,_⟩,hn⟩:=hx;have b8:=als hn;have q:=qL ha n;have ih:=λ i y j i' y' j'=>ajU (n+(pW n x).2.length) xs i y j i' y' j' k (λ z hz=>he z (by simp[hz]))
  cases i with
  |zero=>
   simp only[gJ,getElem?_cons_zero,Option.some.injEq]at h1;subst h1;rw[q]at h2;have hk:=aeG n x.cells j j k (by simpa [AV.cells]using h2) (by simpa [AV.cells]using h2) b8;cases i' with
   |zero=>
    simp only[gJ,getElem?_cons_zero,Option.some.injEq]at h3;subst h3;rw[q]at h4;have:=aeG n x.cells j j' k (by simpa [AV.cells]using h2) (by simpa [AV.cells]using h4) b8;exact⟨this.1,rfl,this.2.2⟩
   |succ i'=>
    simp only[gJ,getElem?_cons_succ]at h3;have:=(ih i' y' j' i' y' j' h3 h4 h3 h4).1;rw[q]at this;have:=hk.2.1
    first|omega|(simp only at*;omega)
  |succ i=>
   simp only[gJ,getElem?_cons_succ]at h1;cases i' with
   |zero=>
    simp only[gJ,getElem?_cons_zero,Option.some.injEq]at h3;subst h3;rw[q]at h4;have hk:=aeG n x.cells j' j' k (by simpa [AV.cells]using h4) (by simpa [AV.cells]using h4) b8;have:=(ih i y j i y j h1 h2 h1 h2).1;rw[q]at this;have:=hk.2.1
    first|omega|(simp only at*;omega)
   |succ i'=>
    simp only[gJ,getElem?_cons_succ]at h3;obtain⟨h5,h6,h7⟩:=ih i y j i' y' j' h1 h2 h3 h4;exact⟨by omega,by omega,h7⟩
theorem tE{xs:List AV}(he:∀x∈xs,x.elem=true)(ob:aa):Split (ob::(gJ 1 xs).2) (gJ 1 xs).1 xs:=by
 refine⟨fU 1 xs,λ i y x hy hx=> ?_,λ i y x j c d hy hx hc hd=> ?_,λ i y j i' y' j' k h1 h2 h3 h4=>(ajU 1 xs i y j i' y' j' k he h1 h2 h3 h4).2⟩
 ·obtain⟨m,x',h1,rfl,_⟩:=ail 1 xs i y hy;rw[hx]at h1;cases h1;have hxe:=he x (mem_of_getElem? hx);simp only[AV.elem,and_eq_true]at hxe;rw[qL hxe.1.1];simp only[AV.cells,xv]
 ·obtain⟨m,x',h1,rfl,h3,h4⟩:=ail 1 xs i y hy;rw[hx]at h1;cases h1;have hxe:=he x (mem_of_getElem? hx);simp only[AV.elem,and_eq_true]at hxe;rw[qL hxe.1.1]at hc;rcases ano _ x.cells j c d (by simpa [AV.cells]using hc) hd with h|⟨k,rfl,hk⟩
  ·exact .inl h
  ·refine .inr ⟨1+m+k,rfl,?_⟩;rw[show 1+m+k=(m+k)+1 by omega,getElem?_cons_succ];refine h4 k d ?_;rw[qL hxe.1.1,vY 0 (1+m)];exact hk
theorem ajV:∀(n:Nat) (xs:List AV) (k:Nat) (d:AV),(∀x∈xs,x.isAgg=true)->(gJ n xs).2[k]? =some (.own d)->∃(i:Nat) (y:AV) (j:Nat) (x:AV),(gJ n xs).1[i]? =some y/\y.cells[j]? =some (AV.own (n+k))/\xs[i]? =some x/\x.cells[j]? =some d
 |n,[],k,d,_,h=>by simp[gJ]at h
 |n,x::xs,k,d,he,h=>by
  have q:=qL (he x (by simp)) n;simp only[gJ]at h;by_cases hk:k<(pW n x).2.length
  ·rw[List.getElem?_append_left hk,q]at h;obtain⟨j,h1,h2⟩:=aim n x.cells k d h;exact⟨0,_,j,x,rfl,by rw[q];simpa [AV.cells]using h1,rfl,h2⟩
  ·rw[List.getElem?_append_right (by omega)]at h;obtain⟨i,y,j,x',h1,h2,h3,h4⟩:=ajV _ xs _ d (λ z hz=>he z (by simp[hz])) h;refine⟨i+1,y,j,x',by simpa [gJ]using h1,?_,by simpa using h3,h4⟩;rw[h2];congr 2;omega
theorem ado{xs:List AV}(he:∀x∈xs,x.isAgg=true):akN (gJ 1 xs).2 (gJ 1 xs).1 xs:=by
 refine⟨λ m ob h=>ajT 1 xs ob (mem_of_getElem? h),λ m d h=> ?_⟩;obtain⟨i,y,j,x,h1,h2,h3,h4⟩:=ajV 1 xs m d he h;exact⟨i,y,j,x,h1,by rw[h2];congr 2;omega,h3,h4⟩
theorem aqN{t:Nat}{res:AV}{x:AX}(hx:x= .ret∨x= .normal){e:Env}{O:List aa}(h:e t=res):mW 0 [.tmp t] res O x e O:=by
 have:cK e O [.tmp t] [] λ fI=>∃e',WK 0 (λ t=>if t=0 then bn fI else .top) O e' O/\e' 0=res:=by
  rw[kq,ku];simp only[reverse_cons,reverse_nil,nil_append,bn,h];exact⟨λ t=>if t=0 then res else .top,.refl _ _ _,rfl⟩
 rcases hx with rfl|rfl<;>exact this
theorem nk{e:Env}{O:List aa}:∀(rs:List dg) (acc:List AV) (M M':List AV->Prop),(∀xs,M xs->M' xs)->cK e O rs acc M->cK e O rs acc M':=by
 intro rs
 induction rs with
 |nil=>intro acc M M' hm h;exact hm _ h
 |cons r rs ih=>
  intro acc M M' hm h;cases r with
  |tmp t=>exact ih _ _ _ hm h
  |cell t n=>
   simp only[cK,dg.get]at h⊢
   split at h
   ·split at h
    ·exact⟨h.1,ih _ _ _ hm h.2⟩
    ·exact h.elim
   ·exact h.elim
theorem anu{rs:List dg}{res rv:AV}{x:AX}(hx:x= .ret∨x= .normal){e:Env}{O:List aa}(b:Nat)(h:cK e O rs [] λ xs=>bn xs=rv)(hr:rv=res.bj λ n=>b+n){O':List aa}(hO:O.drop b=O')(ho:∀ob∈O',∃d,ob= .own d)
  (hsc:res.inScope O'.length=true):mW 0 rs res O' x e O:=by
 subst hr
 have:cK e O rs [] λ xs=>∃e',WK 0 (λ t=>if t=0 then bn xs else .top) O e' O'/\e' 0=res:=by
  refine nk rs _ _ _ (λ xs hp=> ?_) h;refine⟨λ t=>if t=0 then res else .top,.select (λ n=>b+n) (λ i hi=> ?_) (λ i j _ _ he=>by omega) (λ ob hb=> ?_) (λ t=> ?_),rfl⟩
  ·subst hO;rw[List.getElem?_drop];cases hq:O[b+i]? with
   |none=>rfl
   |some ob=>
    obtain⟨d,rfl⟩:=ho ob (mem_of_getElem? (by rw[List.getElem?_drop];exact hq))
    rfl
  ·obtain⟨d,rfl⟩:=ho ob hb;rfl
  ·by_cases ht:t=0
   ·subst ht;exact .inr ⟨by simp[hp],by simpa using hsc⟩
   ·exact .inl (by simp[ht])
 rcases hx with rfl|rfl<;>exact this
theorem WK.die{n0:Nat}{e e':Env}{O:List aa}(h:∀t,e' t= .top∨∃v,e' t= .v v/\e t= .v v):WK n0 e O e' (List.replicate n0 .dead):=by
 intro I0 L0 O0 w0 I L w f hl hg hr;subst hl
 have no:∀{n:Nat} {ob:aa},(List.replicate O0.length aa.dead)[n]? =some ob->ob= .dead:=by
  intro n ob h;rw[List.getElem?_replicate]at h
  split at h<;>cases h
  rfl
 refine⟨I,L,⟨⟨hg.inv.gN,λ n e s xs hn=> ?_,λ n m e s xs e' s' ys hn=> ?_,λ n e s xs o hn=> ?_,hg.inv.fix,hg.inv.aZ,.no λ n a hn=> ?_,.no λ n a hn=> ?_⟩,⟨hg.ext.gN,by simp,λ n _ e s xs hn=> ?_,λ n _ e s hn=> ?_,λ n _ a hn=> ?_,λ n _ a hn=> ?_⟩,hg.lK,?_,hg.eK⟩,λ t=> ?_⟩
 any_goals (cases no hn;done)
 ·rintro b (⟨n,e,s,xs,hn,_⟩|⟨n,a,o,v,hn,_⟩|⟨n,a,hn,_⟩)<;>cases no hn
 ·rcases h t with h|⟨v,h1,h2⟩
  ·rw[h];exact .top _
  ·have:=hr t;rw[h2]at this;rw[h1];cases this;exact .v _ (by assumption)
theorem anv{n0 t:Nat}{v:Value}{x:AX}(hx:x= .ret∨x= .normal){e:Env}{O:List aa}(h:e t= .v v):mW n0 [.tmp t] (.v v) (List.replicate n0 .dead) x e O:=by
 have:cK e O [.tmp t] [] λ fI=>∃e',WK n0 (λ t=>if t=0 then bn fI else .top) O e' (List.replicate n0 .dead)/\e' 0= .v v:=by
  rw[kq,ku];simp only[reverse_cons,reverse_nil,nil_append,bn,h];refine⟨λ t=>if t=0 then .v v else .top,.die λ t=> ?_,rfl⟩;by_cases ht:t=0
  ·subst ht;exact .inr ⟨v,rfl,rfl⟩
  ·exact .inl (by simp[ht])
 rcases hx with rfl|rfl<;>exact this
theorem cF.kill{P:Program}{f:FuncId}{k:Value}{r:Value}{a:AV}(h:cF P f [.own 0,.v k] [.own a] (.v r) [.dead]){O:List aa}(m:Nat)(hm:O[m]? =some (.own a)):cF P f [.own m,.v k] O (.v r) (O.set m .dead):=
 h.auf (by simp[AV.one,AV.ag]) rfl rfl rfl m hm
def age(t s b:Nat)(z:AV)(f:FuncId):lZ where
 cg:=1
 nt:=23
 res:=[.tmp 2]
 code:= .seq (.ai [0] (.region none [
   ⟨none,(some 2),.aq (.c .aA)⟩]))
  (.seq (.ai [0,3] (.region none [
    ⟨none,(some 5),.aq (.t 0)⟩,
    ⟨none,(some 6),.bl (.t 5)⟩,
    ⟨none,(some 7),.mk t s b z (.t 6) (.t 6)⟩,
    ⟨none,(some 3),.aq (.t 7)⟩]))
  (.seq (.seq (.ai [0,3,4] (.region none [
    ⟨none,(some 4),.aq (.c (.v (.int .i64 0)))⟩]))
  (.block 0 (.loop (.seq (.seq (.ai [0,3,4,11] (.region none [
     ⟨none,(some 8),.aq (.t 4)⟩,
     ⟨none,(some 9),.aq (.t 0)⟩,
     ⟨none,(some 10),.bl (.t 9)⟩,
     ⟨none,(some 11),.bin .lss (.t 8) (.t 10)⟩]))
    (.cond (.t 11)
     (.skip)
     (.exit 0)))
    (.seq (.block 1 (.ai [0,3,4] (.region none [
     ⟨none,(some 14),.aq (.t 3)⟩,
     ⟨none,(some 15),.aq (.t 4)⟩,
     ⟨none,(some 16),.aq (.t 0)⟩,
     ⟨none,(some 17),.aq (.t 4)⟩,
     ⟨none,(some 18),.bg s (.t 16) (.t 17)⟩,
     ⟨none,(some 19),.load (some s) (.t 18)⟩,
     ⟨none,(some 20),.call f [(.t 19)]⟩,
     ⟨none,(some 21),.bg s (.t 14) (.t 15)⟩,
     ⟨none,none,.store s (.t 21) (.t 20)⟩])))
    (.ai [0,3,4] (.region none [
      ⟨none,(some 12),.aq (.t 4)⟩,
      ⟨none,(some 13),.bin .add (.t 12) (.c (.v (.int .i64 1)))⟩,
      ⟨none,(some 4),.aq (.t 13)⟩])))))))
  (.seq (.ai [2] (.region none [
    ⟨none,(some 22),.aq (.t 3)⟩,
    ⟨none,(some 2),.aq (.t 22)⟩]))
  (.ret))))
theorem akV{x:AV}(h:x.isAgg=true)(n:Nat):(pW n x).1.cells.length=x.cells.length:=by
 rw[qL h];simp only[AV.cells,xv]
theorem yq:∀(n:Nat) (cs:List AV),cs.all AV.bO=true->(sp n cs).1.all AV.bO=true
 |n,[],_=>rfl
 |n,c::cs,h=>by
  simp only[all_cons,and_eq_true]at h;cases c<;>simp only[sp,all_cons,yq _ cs h.2,Bool.and_true]<;>first|rfl|exact h.1
theorem aeu{x:AV}(h:x.isAgg=true)(hs:x.storable=true)(n:Nat):(pW n x).1.storable=true:=by
 rw[qL h];exact yq n _ hs
theorem ajN{P:Program}{fS f:FuncId}{t s b:Nat}{z:AV}(hA:rK P fS (age t s b z f))(xs:List AV)(hb:(b:Int)*(xs.length:Int)<=281474976710656)(hm:xs.length<=1048576)
  (hx:∀x∈xs,x.elem=true/\x.cells.length=s) (hz:z.cells.length=s) (hc:∀x∈xs,cF P f [x] [] (pW 0 x).1 (pW 0 x).2):cF P fS [.sl xs] [] (.own 0) [.own (.sl xs)]:=by
 refine cF.acd (len:=xs.length) (e:=t) (s:=s) (ys:=(gJ 1 xs).1) (T:=(gJ 1 xs).2) ?_ (fU 1 xs) (tE (λ x h=>(hx x h).1) _);refine cY hA rfl ?_;simp only[age,↓pP,↓kY,↓aeg,↓yi,↓uj,↓pQ,↓tv,↓yh,↓yg,↓nh,↓kX,↓ui,↓xy,↓xz,↓xx,↓qC,↓qD,↓qB,↓tS,↓tT,↓tR,↓p9,↓p8,↓adE,↓sQ,↓tK,↓adF,↓tJ,↓iL,↓pB,↓pe,↓aaV,↓aiJ,↓vu,↓ky,↓aaT,↓pf,↓tL,↓vt,↓nS,↓nT,↓aiK,↓vq,↓sR,↓yy,↓aaU,↓vo,↓vp,↓xG,↓tI,↓qW,↓mh,↓qV,↓mg,tU,jC,hD,jD,um,qE,nH,qA,nG,cX,eP,ib,ig,jZ,gS,oQ,oD,oJ,oP,rM,oC,oH,oG,oO,oI,oK,oL,oM,oN,oF,oE,lQ,lP,lO,qJ,qK,om,fP,gn,rB,lH,kb,lS,iw,od,oB,oA,jA,jB,vz,nW,ij,mo,lx,la,mc,jR,hZ,ia,jW,rD,ic,mi,lv,nF,gZ,hH,tX,tY,tZ,ua,ny,lM,j5,fN,cR,k7,adj,xm,pR,tx,tz,xn,tA,pS,ad0,x6,qw,ub,x7,ku,kq,nn,nE,j7,np,lj,reverse_cons,reverse_nil,ne_eq,add_eq_zero_iff,reduceEqDiff,not_false_eq_true,reduceCtorEq,one_ne_zero,↓ni,↓nj,amj,amk,xw,qy,lL,qj,map_cons,map_nil,map_some,map_none,getD_cons_zero,getD_cons_succ,length_nil,length_cons,length_append,length_set,nil_append,cons_append,append_nil,getElem?_cons_zero,getElem?_cons_succ,set_cons_zero,set_cons_succ,drop_succ_cons,drop_zero,take_succ_cons,take_zero,replicate_succ,replicate_zero,reduceEqDiff,reduceAdd,reduceLT,reduceLeDiff,if_true,if_false,reduceIte,lN,aF,jN,oo,nC,nD,oq,lF,n8,im,lB,lC,lD,lE,fR,js,fh,gT,iE,iF,gU,lJ,kH,yb,lq,jX,tO,qe,nu,nq,lu,qg,all_cons,all_nil,Bool.and_true,Bool.true_and,Bool.or_true,Bool.true_or,Bool.not_true,Bool.not_false,decide_true,decide_false,aml,getD_none,getD_some,true_and,and_true,zero_add,add_zero,lt_add_one,zero_lt_succ,le_refl];refine⟨by omega,by omega,hb,by omega,?_⟩
 refine aQ (ι:=List AV×List AV) (λ p=>p.1++p.2=xs) (λ p=>iA [(0,.sl xs),(3,.row 0 xs.length),(4,.v (.int .i64 p.1.length))]) (λ p=> .live t s ((gJ 1 p.1).1++List.replicate p.2.length z)::(gJ 1 p.1).2) (λ p=>p.2.length) ([],xs) rfl
  (.of_eq (by simp) (by simp[gJ])) ?_
 rintro⟨done,rest⟩ hd;simp only at hd;subst hd;simp only[Int.toNat_natCast,↓pP,↓kY,↓aeg,↓yi,↓uj,↓pQ,↓tv,↓yh,↓yg,↓nh,↓kX,↓ui,↓xy,↓xz,↓xx,↓qC,↓qD,↓qB,↓tS,↓tT,↓tR,↓p9,↓p8,↓adE,↓sQ,↓tK,↓adF,↓tJ,↓iL,↓pB,↓pe,↓aaV,↓aiJ,↓vu,↓ky,↓aaT,↓pf,↓tL,↓vt,↓nS,↓nT,↓aiK,↓vq,↓sR,↓yy,↓aaU,↓vo,↓vp,↓xG,↓tI,↓qW,↓mh,↓qV,↓mg,tU,jC,hD,jD,um,qE,nH,qA,nG,cX,eP,ib,ig,jZ,gS,oQ,oD,oJ,oP,rM,oC,oH,oG,oO,oI,oK,oL,oM,oN,oF,oE,lQ,lP,lO,qJ,qK,om,fP,gn,rB,lH,kb,lS,iw,od,oB,oA,jA,jB,vz,nW,ij,mo,lx,la,mc,jR,hZ,ia,jW,rD,ic,mi,lv,nF,gZ,hH,tX,tY,tZ,ua,ny,lM,j5,fN,cR,k7,adj,xm,pR,tx,tz,xn,tA,pS,ad0,x6,qw,ub,x7,ku,kq,nn,nE,j7,np,lj,reverse_cons,reverse_nil,ne_eq,add_eq_zero_iff,reduceEqDiff,not_false_eq_true,reduceCtorEq,one_ne_zero,↓ni,↓nj,amj,amk,xw,qy,lL,qj,map_cons,map_nil,map_some,map_none,getD_cons_zero,getD_cons_succ,length_nil,length_cons,length_append,length_set,nil_append,cons_append,append_nil,getElem?_cons_zero,getElem?_cons_succ,set_cons_zero,set_cons_succ,drop_succ_cons,drop_zero,take_succ_cons,take_zero,replicate_succ,replicate_zero,reduceEqDiff,reduceAdd,reduceLT,reduceLeDiff,if_true,if_false,reduceIte,lN,aF,jN,oo,nC,nD,oq,lF,n8,im,lB,lC,lD,lE,fR,js,fh,gT,iE,iF,gU,lJ,kH,yb,lq,jX,tO,qe,nu,nq,lu,qg,all_cons,all_nil,Bool.and_true,Bool.true_and,Bool.or_true,Bool.true_or,Bool.not_true,Bool.not_false,decide_true,decide_false,aml,getD_none,getD_some,true_and,and_true,zero_add,add_zero,lt_add_one,zero_lt_succ,le_refl];refine my (λ h=> ?_) (λ h=> ?_)
 ·cases rest with
  |nil=>simp at h
  |cons x r=>
  obtain⟨hx1,hx2⟩:=hx x (by simp);simp only[AV.elem,and_eq_true]at hx1;obtain⟨⟨ha,pK⟩,b8⟩:=hx1;have atf:=(hc x (by simp)).fresh (by simp[AV.ae,b8]) (.live t s ((gJ 1 done).1++List.replicate (r.length+1) z)::(gJ 1 done).2);rw[ajS,aeS (aev 0 x)]at atf;have uC:(gJ 1 done).1.length=done.length:=fU 1 done;have hdl:done.length<=1048576:=by simp at hm;omega
  simp only[Int.toNat_natCast,mY rfl,hx2,ha,↓pP,↓kY,↓aeg,↓yi,↓uj,↓pQ,↓tv,↓yh,↓yg,↓nh,↓kX,↓ui,↓xy,↓xz,↓xx,↓qC,↓qD,↓qB,↓tS,↓tT,↓tR,↓p9,↓p8,↓adE,↓sQ,↓tK,↓adF,↓tJ,↓iL,↓pB,↓pe,↓aaV,↓aiJ,↓vu,↓ky,↓aaT,↓pf,↓tL,↓vt,↓nS,↓nT,↓aiK,↓vq,↓sR,↓yy,↓aaU,↓vo,↓vp,↓xG,↓tI,↓qW,↓mh,↓qV,↓mg,tU,jC,hD,jD,um,qE,nH,qA,nG,cX,eP,ib,ig,jZ,gS,oQ,oD,oJ,oP,rM,oC,oH,oG,oO,oI,oK,oL,oM,oN,oF,oE,lQ,lP,lO,qJ,qK,om,fP,gn,rB,lH,kb,lS,iw,od,oB,oA,jA,jB,vz,nW,ij,mo,lx,la,mc,jR,hZ,ia,jW,rD,ic,mi,lv,nF,gZ,hH,tX,tY,tZ,ua,ny,lM,j5,fN,cR,k7,adj,xm,pR,tx,tz,xn,tA,pS,ad0,x6,qw,ub,x7,ku,kq,nn,nE,j7,np,lj,reverse_cons,reverse_nil,ne_eq,add_eq_zero_iff,reduceEqDiff,not_false_eq_true,reduceCtorEq,one_ne_zero,↓ni,↓nj,amj,amk,xw,qy,lL,qj,map_cons,map_nil,map_some,map_none,getD_cons_zero,getD_cons_succ,length_nil,length_cons,length_append,length_set,nil_append,cons_append,append_nil,getElem?_cons_zero,getElem?_cons_succ,set_cons_zero,set_cons_succ,drop_succ_cons,drop_zero,take_succ_cons,take_zero,replicate_succ,replicate_zero,reduceEqDiff,reduceAdd,reduceLT,reduceLeDiff,if_true,if_false,reduceIte,lN,aF,jN,oo,nC,nD,oq,lF,n8,im,lB,lC,lD,lE,fR,js,fh,gT,iE,iF,gU,lJ,kH,yb,lq,jX,tO,qe,nu,nq,lu,qg,all_cons,all_nil,Bool.and_true,Bool.true_and,Bool.or_true,Bool.true_or,Bool.not_true,Bool.not_false,decide_true,decide_false,aml,getD_none,getD_some,true_and,and_true,zero_add,add_zero,lt_add_one,zero_lt_succ,le_refl];refine⟨by omega,by omega,?_⟩;refine aj _ _ atf ?_;simp only[replicate_succ,Int.toNat_natCast,mY uC,hz,uC,akV ha,hx2,aeu ha pK,List.length_replicate,↓pP,↓kY,↓aeg,↓yi,↓uj,↓pQ,↓tv,↓yh,↓yg,↓nh,↓kX,↓ui,↓xy,↓xz,↓xx,↓qC,↓qD,↓qB,↓tS,↓tT,↓tR,↓p9,↓p8,↓adE,↓sQ,↓tK,↓adF,↓tJ,↓iL,↓pB,↓pe,↓aaV,↓aiJ,↓vu,↓ky,↓aaT,↓pf,↓tL,↓vt,↓nS,↓nT,↓aiK,↓vq,↓sR,↓yy,↓aaU,↓vo,↓vp,↓xG,↓tI,↓qW,↓mh,↓qV,↓mg,tU,jC,hD,jD,um,qE,nH,qA,nG,cX,eP,ib,ig,jZ,gS,oQ,oD,oJ,oP,rM,oC,oH,oG,oO,oI,oK,oL,oM,oN,oF,oE,lQ,lP,lO,qJ,qK,om,fP,gn,rB,lH,kb,lS,iw,od,oB,oA,jA,jB,vz,nW,ij,mo,lx,la,mc,jR,hZ,ia,jW,rD,ic,mi,lv,nF,gZ,hH,tX,tY,tZ,ua,ny,lM,j5,fN,cR,k7,adj,xm,pR,tx,tz,xn,tA,pS,ad0,x6,qw,ub,x7,ku,kq,nn,nE,j7,np,lj,reverse_cons,reverse_nil,ne_eq,add_eq_zero_iff,reduceEqDiff,not_false_eq_true,reduceCtorEq,one_ne_zero,↓ni,↓nj,amj,amk,xw,qy,lL,qj,map_cons,map_nil,map_some,map_none,getD_cons_zero,getD_cons_succ,length_nil,length_cons,length_append,length_set,nil_append,cons_append,append_nil,getElem?_cons_zero,getElem?_cons_succ,set_cons_zero,set_cons_succ,drop_succ_cons,drop_zero,take_succ_cons,take_zero,replicate_succ,replicate_zero,reduceEqDiff,reduceAdd,reduceLT,reduceLeDiff,if_true,if_false,reduceIte,lN,aF,jN,oo,nC,nD,oq,lF,n8,im,lB,lC,lD,lE,fR,js,fh,gT,iE,iF,gU,lJ,kH,yb,lq,jX,tO,qe,nu,nq,lu,qg,all_cons,all_nil,Bool.and_true,Bool.true_and,Bool.or_true,Bool.true_or,Bool.not_true,Bool.not_false,decide_true,decide_false,aml,getD_none,getD_some,true_and,and_true,zero_add,add_zero,lt_add_one,zero_lt_succ,le_refl];refine⟨by omega,by omega,by omega,?_⟩;rw[zN uC,ajI (by omega) (by omega)];refine aL (done++ [x],r) (by simp) (by simp) (.of_eq (by simp) ?_);simp only[aae,List.append_assoc,cons_append,nil_append,zero_add];congr 5;rw[Nat.add_comm]
 ·have:rest= []:=by
    cases rest with
    |nil=>rfl
    |cons x r=>simp at h;omega
  subst this;simp only[append_nil,length_nil,replicate_zero]at h⊢;refine aqN (.inl rfl) ?_;simp only[↓pP,↓kY,↓aeg,↓yi,↓uj,↓pQ,↓tv,↓yh,↓yg,↓nh,↓kX,↓ui,↓xy,↓xz,↓xx,↓qC,↓qD,↓qB,↓tS,↓tT,↓tR,↓p9,↓p8,↓adE,↓sQ,↓tK,↓adF,↓tJ,↓iL,↓pB,↓pe,↓aaV,↓aiJ,↓vu,↓ky,↓aaT,↓pf,↓tL,↓vt,↓nS,↓nT,↓aiK,↓vq,↓sR,↓yy,↓aaU,↓vo,↓vp,↓xG,↓tI,↓qW,↓mh,↓qV,↓mg,tU,jC,hD,jD,um,qE,nH,qA,nG,cX,eP,ib,ig,jZ,gS,oQ,oD,oJ,oP,rM,oC,oH,oG,oO,oI,oK,oL,oM,oN,oF,oE,lQ,lP,lO,qJ,qK,om,fP,gn,rB,lH,kb,lS,iw,od,oB,oA,jA,jB,vz,nW,ij,mo,lx,la,mc,jR,hZ,ia,jW,rD,ic,mi,lv,nF,gZ,hH,tX,tY,tZ,ua,ny,lM,j5,fN,cR,k7,adj,xm,pR,tx,tz,xn,tA,pS,ad0,x6,qw,ub,x7,ku,kq,nn,nE,j7,np,lj,reverse_cons,reverse_nil,ne_eq,add_eq_zero_iff,reduceEqDiff,not_false_eq_true,reduceCtorEq,one_ne_zero,↓ni,↓nj,amj,amk,xw,qy,lL,qj,map_cons,map_nil,map_some,map_none,getD_cons_zero,getD_cons_succ,length_nil,length_cons,length_append,length_set,nil_append,cons_append,append_nil,getElem?_cons_zero,getElem?_cons_succ,set_cons_zero,set_cons_succ,drop_succ_cons,drop_zero,take_succ_cons,take_zero,replicate_succ,replicate_zero,reduceEqDiff,reduceAdd,reduceLT,reduceLeDiff,if_true,if_false,reduceIte,lN,aF,jN,oo,nC,nD,oq,lF,n8,im,lB,lC,lD,lE,fR,js,fh,gT,iE,iF,gU,lJ,kH,yb,lq,jX,tO,qe,nu,nq,lu,qg,all_cons,all_nil,Bool.and_true,Bool.true_and,Bool.or_true,Bool.true_or,Bool.not_true,Bool.not_false,decide_true,decide_false,aml,getD_none,getD_some,true_and,and_true,zero_add,add_zero,lt_add_one,zero_lt_succ,le_refl]
theorem arf(P:Program)(e:Env)(O:List aa)(K:KT):wpOp P .aaZ e O K=k1 (.own O.length) (O++ [.cE (.mp [])]) K:=nr rfl
def axN(ok:Bool)(d:KD)(z m k:AV)(O:List aa)(K:KT):Prop:=match m,k with
    | .own n,.v kv=>match O[n]? with
      |some (.cE (.mp es))=>d.ok kv=true/\d.all es=true/\K (match ph kv es 0 with
       |none=>if ok then .a9 [z,.v (.bool false)]else z
       |some (_,v)=>if ok then .a9 [v,.v (.bool true)]else v) O
      |_=>False
    |_,_=>False
theorem aun(P:Program)(ok:Bool)(d:KD)(z:AV)(m k:aC)(e:Env)(O:List aa)(K:KT):wpOp P (.alC ok d z m k) e O K=axN ok d z (m.ev e) (k.ev e) O K:=nr rfl
def axL(d:KD)(m k v:AV)(O:List aa)(K:KT):Prop:=match m,k with
    | .own n,.v kv=>match O[n]? with
      |some (.cE (.mp es))=>d.ok kv=true/\d.all es=true/\K (.a9 []) (O.set n (.cE (.mp (se kv v es))))
      |_=>False
    |_,_=>False
theorem aul(P:Program)(d:KD)(m k v:aC)(e:Env)(O:List aa)(K:KT):wpOp P (.se d m k v) e O K=axL d (m.ev e) (k.ev e) (v.ev e) O K:=nr rfl
def agB(ok:Bool)(z m k:AV)(O:List aa)(K:KT):Prop:=match m,k with
    | .own n,.ptr j 1 0 0=>match O[n]? with
      |some (.cE (.mp es))=>dR O j=true/\jq O es=true/\K (match hF j es 0 with
       |none=>if ok then .a9 [z,.v (.bool false)]else z
       |some (_,v)=>if ok then .a9 [v,.v (.bool true)]else v) O
      |_=>False
    |_,_=>False
theorem auk(P:Program)(ok:Bool)(z:AV)(m k:aC)(e:Env)(O:List aa)(K:KT):wpOp P (.acN ok z m k) e O K=agB ok z (m.ev e) (k.ev e) O K:=nr rfl
theorem aj5{ok:Bool}{z:AV}{n j:Nat}{O:List aa}{K:KT}{es:List (AV×AV)}(hO:O[n]? =some (.cE (.mp es)))(hk:dR O j=true)(ha:jq O es=true)(hf:hF j es 0=none)(h:k1 (if ok then .a9 [z,.v (.bool false)]else z) O K):agB ok z (.own n) (.ptr j 1 0 0) O K:=by
 simp only[agB,hO];exact⟨hk,ha,by rw[hf];exact h⟩
theorem aaK{ok:Bool}{z v:AV}{n j i:Nat}{O:List aa}{K:KT}{es:List (AV×AV)}(hO:O[n]? =some (.cE (.mp es)))(hk:dR O j=true)(ha:jq O es=true)(hf:hF j es 0=some (i,v))(h:k1 (if ok then .a9 [v,.v (.bool true)]else v) O K):agB ok z (.own n) (.ptr j 1 0 0) O K:=by
 simp only[agB,hO];exact⟨hk,ha,by rw[hf];exact h⟩
def anP(m k v:AV)(O:List aa)(K:KT):Prop:=match m,k with
    | .own n,.ptr j 1 0 0=>match O[n]? with
      |some (.cE (.mp es))=>dR O j=true/\jq O es=true/\K (.a9 []) (O.set n (.cE (.mp (lh j v es))))
      |_=>False
    |_,_=>False
theorem aui(P:Program)(m k v:aC)(e:Env)(O:List aa)(K:KT):wpOp P (.lh m k v) e O K=anP (m.ev e) (k.ev e) (v.ev e) O K:=nr rfl
theorem vl{v:AV}{n j:Nat}{O:List aa}{K:KT}{es:List (AV×AV)}(hO:O[n]? =some (.cE (.mp es)))(hk:dR O j=true)(ha:jq O es=true)(h:k1 (.a9 []) (O.set n (.cE (.mp (lh j v es)))) K):anP (.own n) (.ptr j 1 0 0) v O K:=by
 simp only[anP,hO];exact⟨hk,ha,h⟩
def ang(a:AV)(O:List aa)(K:KT):Prop:=match a with
    | .v (.string s)=>K (.own O.length) (O++ [.cE (.it s 0)])
    |_=>False
theorem ard(P:Program)(x:aC)(e:Env)(O:List aa)(K:KT):wpOp P (.adm x) e O K=ang (x.ev e) O K:=nr rfl
theorem akU(s:ByteArray)(O:List aa)(K:KT):ang (.v (.string s)) O K=k1 (.own O.length) (O++ [.cE (.it s 0)]) K:=nr rfl
def atT(a:AV)(O:List aa)(K:KT):Prop:=match a with
    | .own n=>match O[n]? with
      |some (.cE (.it s pos))=>(pos<s.size->K (.a9 [.v (.bool true),.v (.int .i64 pos),.v (.int .i32 (Utf8.decode s pos).1)]) (O.set n (.cE (.it s (pos+(Utf8.decode s pos).2)))))/\(¬pos<s.size->K (.a9 [.v (.bool false)]) O)
      |_=>False
    |_=>False
theorem are(P:Program)(x:aC)(e:Env)(O:List aa)(K:KT):wpOp P (.adp x) e O K=atT (x.ev e) O K:=nr rfl
def aw2(t:Nat)(a:AV)(O:List aa)(K:KT):Prop:=match a with
    | .v (.string s)=>s.size<=maxLen/\K (.row O.length s.size) (O++ [.live t 1 (s.data.toList.map λ c=> .v (.int .u8 c.toNat))])
    |_=>False
theorem axs(P:Program)(t:Nat)(x:aC)(e:Env)(O:List aa)(K:KT):wpOp P (.s2b t x) e O K=aw2 t (x.ev e) O K:=nr rfl
theorem aqK(t:Nat)(s:ByteArray)(O:List aa)(K:KT):aw2 t (.v (.string s)) O K=(s.size<=maxLen/\k1 (.row O.length s.size) (O++ [.live t 1 (s.data.toList.map λ c=> .v (.int .u8 c.toNat))]) K):=nr rfl
def adA(neg:Bool)(a:AV)(O:List aa)(K:KT):Prop:=match a with
    | .v (.pointer none)=>K (.v (.bool (neg !=true))) O
    | .ptr n len _ _=>sd O[n]? λ _ _ xs=>xs.length=len/\K (.v (.bool (neg !=false))) O
    |_=>False
theorem auj(P:Program)(neg:Bool)(x:aC)(e:Env)(O:List aa)(K:KT):wpOp P (.y8 neg x) e O K=adA neg (x.ev e) O K:=by
 simp only[wpOp,adA];cases x.ev e<;>first|rfl|(rename_i k l i f;cases O[k]? with|none=>rfl|some o=>cases o<;>rfl)
theorem aiC(O:List aa)(K:KT):adA false (.v (.pointer none)) O K=k1 (.v (.bool true)) O K:=nr rfl
theorem aiB(O:List aa)(K:KT):adA true (.v (.pointer none)) O K=k1 (.v (.bool false)) O K:=nr rfl
theorem aiA(n len i f:Nat)(O:List aa)(K:KT):adA false (.ptr n len i f) O K=sd O[n]? λ _ _ xs=>xs.length=len/\k1 (.v (.bool false)) O K:=nr rfl
theorem aiz(n len i f:Nat)(O:List aa)(K:KT):adA true (.ptr n len i f) O K=sd O[n]? λ _ _ xs=>xs.length=len/\k1 (.v (.bool true)) O K:=nr rfl
def anR(neg:Bool)(a b:AV)(O:List aa)(K:KT):Prop:=match a,b with
    | .ptr n 1 0 0,.ptr m 1 0 0=>dR O n=true/\dR O m=true/\K (.v (.bool (neg !=decide (n=m)))) O
    |_,_=>False
theorem axt(P:Program)(neg:Bool)(x y:aC)(e:Env)(O:List aa)(K:KT):wpOp P (.peq neg x y) e O K=anR neg (x.ev e) (y.ev e) O K:=nr rfl
theorem at3(n m:Nat)(O:List aa)(K:KT):anR false (.ptr n 1 0 0) (.ptr m 1 0 0) O K=(dR O n=true/\dR O m=true/\k1 (.v (.bool (decide (n=m)))) O K):=by
 simp only[anR,Bool.false_bne,asX]
theorem at2(n m:Nat)(O:List aa)(K:KT):anR true (.ptr n 1 0 0) (.ptr m 1 0 0) O K=(dR O n=true/\dR O m=true/\k1 (.v (.bool (!decide (n=m)))) O K):=by
 simp only[anR,Bool.true_bne,asX]
def atr(y x:AV)(t s b:Nat)(O:List aa)(K:KT):Prop:=match y with
    | .v (.string c)=>s=1/\pc O x t s b (c.data.toList.map λ c=> .v (.int .u8 c.toNat)) K
    |_=>False
theorem auo(P:Program)(t s b:Nat)(x y:aC)(e:Env)(O:List aa)(K:KT):wpOp P (.mz t s b x y) e O K=atr (y.ev e) (x.ev e) t s b O K:=by
 have h:∀ys,iB O (x.ev e) t s b ys K=pc O (x.ev e) t s b ys K:=by
  intro ys;unfold iB pc;cases x.ev e<;>first|rfl|(rename_i k l;cases O[k]? with|none=>rfl|some o=>cases o<;>rfl)
 simp only[wpOp,h]
 rfl
theorem ap8(c:ByteArray)(x:AV)(t s b:Nat)(O:List aa)(K:KT):atr (.v (.string c)) x t s b O K=(s=1/\pc O x t s b (c.data.toList.map λ c=> .v (.int .u8 c.toNat)) K):=nr rfl
def auv(bytes:Nat)(z a b:AV)(O:List aa)(K:KT):Prop:=match a,b with
    | .v (.int .i64 n),.v (.int .i64 c)=>0<=n/\n<=c/\bytes*c<=2^48/\c<=maxLen/\z.ag=true/\K (.sl (List.replicate n.toNat z)) O
    |_,_=>False
theorem axu(P:Program)(t s b:Nat)(z:AV)(x y:aC)(e:Env)(O:List aa)(K:KT):wpOp P (.mkF t s b z x y) e O K=auv b z (x.ev e) (y.ev e) O K:=nr rfl
theorem arp(bytes:Nat)(z:AV)(n c:Int)(O:List aa)(K:KT):auv bytes z (.v (.int .i64 n)) (.v (.int .i64 c)) O K=(0<=n/\n<=c/\bytes*c<=281474976710656/\c<=9223372036854775807/\z.ag=true/\k1 (.sl (List.replicate n.toNat z)) O K):=by
 have h1:(2:Int)^48=281474976710656:=by decide
 have h2:((maxLen:Nat):Int)=9223372036854775807:=by decide
 simp only[auv,h1,h2,k1]
def an7(k t s bytes:Nat)(z a b:AV)(O:List aa)(K:KT):Prop:=match a,b with
    | .v (.int .i64 n),.v (.int .i64 c)=>0<n/\n<=c/\bytes*c<=2^48/\c<=maxLen/\z.ag=true/\O[k]? =some (.nil t s)/\K (.row k n.toNat) (O.set k (.live t s (List.replicate n.toNat z)))
    |_,_=>False
theorem aum(P:Program)(k t s b:Nat)(z:AV)(x y:aC)(e:Env)(O:List aa)(K:KT):wpOp P (.aa0 k t s b z x y) e O K=an7 k t s b z (x.ev e) (y.ev e) O K:=nr rfl
theorem an6(k t s bytes:Nat)(z:AV)(n c:Int)(O:List aa)(K:KT):an7 k t s bytes z (.v (.int .i64 n)) (.v (.int .i64 c)) O K=(0<n/\n<=c/\bytes*c<=281474976710656/\c<=9223372036854775807/\z.ag=true/\O[k]? =some (.nil t s)/\k1 (.row k n.toNat) (O.set k (.live t s (List.replicate n.toNat z))) K):=by
 have h1:(2:Int)^48=281474976710656:=by decide
 have h2:((maxLen:Nat):Int)=9223372036854775807:=by decide
 simp only[an7,h1,h2,k1]
def aiS(t:Nat)(a:AV)(O:List aa)(K:KT):Prop:=match a with
    | .row n len=>sd O[n]? λ t' s xs=>t'=t/\s=1/\xs.length=len/\K (.row n len) O
    |_=>False
theorem arh(P:Program)(t:Nat)(x:aC)(e:Env)(O:List aa)(K:KT):wpOp P (.aa5 t x) e O K=aiS t (x.ev e) O K:=by
 simp only[wpOp,aiS];cases x.ev e<;>first|rfl|(rename_i k l;cases O[k]? with|none=>rfl|some o=>cases o<;>rfl)
theorem aiR(t n len:Nat)(O:List aa)(K:KT):aiS t (.row n len) O K=sd O[n]? λ t' s xs=>t'=t/\s=1/\xs.length=len/\k1 (.row n len) O K:=nr rfl
def apH(P:Program)(n0:Nat)(rows:List (List Nat))(ops:List aH)(Q:AX->Env->List aa->Prop)(e:Env)(O:List aa):Prop:=kZ P n0 (.region (some rows) ops) Q e O
theorem av4(P:Program)(n0:Nat)(rows:List (List Nat))(ops:List aH)(Q:AX->Env->List aa->Prop)(e:Env)(O:List aa):kZ P n0 (.region (some rows) ops) Q e O=apH P n0 rows ops Q e O:=nr rfl
theorem dc{P:Program}{n0:Nat}{rows:List (List Nat)}{ops:List aH}{Q:AX->Env->List aa->Prop}{e:Env}{O:List aa}(h:cd P ops [] e O λ iM e O=>iR rows (ops.zip iM)=true/\Q .normal e O):apH P n0 rows ops Q e O:=⟨ops,rfl,h⟩
theorem ab8{P:Program}{n0:Nat}{rows:List (List Nat)}{ops al:List aH}{Q:AX->Env->List aa->Prop}{e:Env}{O:List aa}(hs:al.map aH.strip=ops.map aH.strip)(h:cd P al [] e O λ iM e O=>iR rows (al.zip iM)=true/\Q .normal e O):apH P n0 rows ops Q e O:=⟨al,hs,h⟩
def adQ(P:Program)(d:Option Nat)(e:Env)(r:List aH)(acc:List iD)(Q:List iD->Env->List aa->Prop):KT:=λ x O'=>cd P r acc (bB e d x) O' Q
theorem aou(P:Program)(d:Option Nat)(e:Env)(r:List aH)(acc:List iD)(Q:List iD->Env->List aa->Prop)(a:AV)(O:List aa):k1 a O (adQ P d e r acc Q)=cd P r acc (bB e d a) O Q:=nr rfl
theorem af5(P:Program)(d:Option Nat)(op:dY)(e:Env)(O:List aa)(r:List aH)(acc:List iD)(Q:List iD->Env->List aa->Prop):
 cd P (⟨none,d,op⟩::r) acc e O Q=wpOp P op e O (adQ P d e r (acc++ [ch op e O.length]) Q):=nr rfl
theorem aic(P:Program)(e:Env)(O:List aa)(acc:List iD)(Q:List iD->Env->List aa->Prop):cd P [] acc e O Q=Q acc e O:=nr rfl
def azs(neg:Bool)(a b:AV)(O:List aa)(K:KT):Prop:=match a,b with
 | .v (.bool a),.v (.bool b)=>K (.v (.bool (neg !=(a==b)))) O
 |_,_=>False
theorem asq(neg a b:Bool)(O:List aa)(K:KT):azs neg (.v (.bool a)) (.v (.bool b)) O K=k1 (.v (.bool (neg !=(a==b)))) O K:=nr rfl
theorem axv(P:Program)(neg:Bool)(x y:aC)(e:Env)(O:List aa)(K:KT):wpOp P (.beq neg x y) e O K=azs neg (x.ev e) (y.ev e) O K:=nr rfl
theorem aa2{α:Type}{B R:List α}{y d:α}:(B++y::R).getD B.length d=y:=mY rfl
theorem aa1{α:Type}{B R:List α}{y z:α}:(B++y::R).set B.length z=B++z::R:=zN rfl
theorem cF.die{P:Program}{f:FuncId}{args:List AV}{O O':List aa}{res:AV}(h:cF P f args O res O')(hr:res.flat=true):cF P f args O res (List.replicate O.length .dead):=by
 refine⟨h.1,λ I L w vs hi hv=>(h.2 I L w vs hi hv).mono ?_⟩;rintro e w' ⟨y,I',L',rfl,hy,hg⟩
 have no:∀{n:Nat} {ob:aa},(List.replicate O.length aa.dead)[n]? =some ob->ob= .dead:=by
  intro n ob h;rw[List.getElem?_replicate]at h
  split at h<;>cases h
  rfl
 refine⟨y,I',L',rfl,hy.flat hr,⟨⟨hg.inv.gN,λ n e s xs hn=> ?_,λ n m e s xs e' s' ys hn=> ?_,λ n e s xs o hn=> ?_,hg.inv.fix,hg.inv.aZ,.no λ n a hn=> ?_,.no λ n a hn=> ?_⟩,⟨hg.ext.gN,by simp,λ n _ e s xs hn=> ?_,λ n _ e s hn=> ?_,λ n _ a hn=> ?_,λ n _ a hn=> ?_⟩,hg.lK,?_,hg.eK⟩⟩
 any_goals (cases no hn;done)
 rintro b (⟨n,e,s,xs,hn,_⟩|⟨n,a,o,v,hn,_⟩|⟨n,a,hn,_⟩)<;>cases no hn
theorem a7.any{P:Program}{f:FuncId}{args:List AV}{res:AV}(h:a7 P f args res)(hn:AV.ae args=true)(hr:res.ag=true)(O:List aa):cF P f args O res O:=by
 have:=cF.fresh h hn O;rwa [dI res hr,map_nil,append_nil]at this
theorem cF.axn{P:Program}{f:FuncId}{rest:List AV}{r:Value}(h:a7 P f (.sl []::rest) (.v r))(qo:AV.ae rest=true):cF P f (.own 0::rest) [.own (.sl [])] (.v r) [.dead]:=by
 have:=cF.auD (args:= .own 0::rest) (O:=[.own (.sl [])]) h rfl (λ i a b ha hb=>by
  cases i with
  |zero=>simp at ha hb;subst ha;subst hb;exact .own 0 _ rfl
  |succ i=>
   simp at ha hb;rw[ha]at hb;cases hb;exact .same a (aW qo a (mem_of_getElem? ha))) rfl rfl
 exact this.die rfl
theorem amn(n:Nat):(AV.own n).cells= [.own n]:=nr rfl
theorem ai1(n:Nat):(AV.own n).bO=true:=nr rfl
theorem aet(n:Nat):(AV.own n).storable=true:=nr rfl
theorem aqw{a b:AV}{cs:List AV}{i:Nat}(n:Nat)(h:i<(a::b::cs).length):u6 (.agg (a::b::cs)) i (.own n)= .agg ((a::b::cs).set i (.own n)):=qH rfl h
theorem aqQ(s:Nat->Nat)(n:Nat):(AV.own n).bj s= .own (s n):=nr rfl
theorem jk(s:Nat->Nat)(x:Value):(AV.v x).bj s= .v x:=nr rfl
theorem aqR(s:Nat->Nat)(cs:List AV):(AV.agg cs).bj s= .agg (cs.map (AV.bj s)):=by simp only[AV.bj,eF]
theorem anY(s:Nat->Nat)(a:AV):(aa.own a).bj s= .own a:=nr rfl
theorem alo(s:Nat->Nat):aa.dead.bj s= .dead:=nr rfl
def aa.aox:aa->Bool
 | .own _=>true
 |_=>false
theorem aj8{l:List aa}(h:l.all aa.aox=true):∀ob∈l,∃d,ob= .own d:=λ ob hb=>by
 have:=List.all_eq_true.1 h ob hb;cases ob<;>simp[aa.aox]at this
 exact⟨_,rfl⟩
theorem qi{P:Program}{f:FuncId}{args:List AV}{res:AV}{O1:List aa}(h:cF P f args [] res O1)(hn:AV.ae args=true)(ho:O1.all aa.aox=true)(O:List aa):cF P f args O (res.bj λ n=>O.length+n) (O++O1):=by
 have:=h.fresh hn O;rwa [aeS (aj8 ho)]at this
mutual
def AV.cnt:AV->Nat
 | .v _=>1
 | .sl xs=>AV.dS xs
 | .agg cs=>AV.dS cs
 |_=>0
def AV.dS:List AV->Nat
 | []=>0
 |x::xs=>x.cnt+AV.dS xs
end
theorem ti{α:Type}{f:α->AV}(h:∀x,1<=(f x).cnt):∀l:List α,l.length<=AV.dS (l.map f)
 | []=>zero_le _
 |x::l=>by
  have:=h x;have:=ti h l;simp only[length_cons,map_cons,AV.dS];omega
theorem xb{α:Type}{f:α->AV}(wt:α->Nat)(C:Nat):∀l:List α,(∀x∈l,(f x).cnt<=C*(wt x+1))->AV.dS (l.map f)<=C*(l.length+(l.map wt).sum)
 | [],_=>zero_le _
 |x::l,h=>by
  have h1:=h x (by simp);have h2:=xb wt C l λ y hy=>h y (by simp[hy])
  simp only[length_cons,map_cons,AV.dS,sum_cons];have:C*(l.length+1+(wt x+(l.map wt).sum))=C*(wt x+1)+C*(l.length+(l.map wt).sum):=by rw[←Nat.mul_add];congr 1;omega
  omega
inductive ajG(O:List aa):List AV->List AV->Prop
 |nil:ajG O [] []
 |cons {a b:AV} {as bs:List AV}:Frz O a b->ajG O as bs->ajG O (a::as) (b::bs)
theorem ajG.get{O:List aa}{as bs:List AV}(h:ajG O as bs):as.length=bs.length/\∀(i:Nat) a b,as[i]? =some a->bs[i]? =some b->Frz O a b:=by
 induction h with
 |nil=>exact⟨rfl,λ i a b h=>by simp at h⟩
 |cons h _ ih=>
  refine⟨by simp[ih.1],λ i a b ha hb=> ?_⟩;cases i with
  |zero=>simp at ha hb;subst ha;subst hb;exact h
  |succ i=>exact ih.2 i a b (by simpa using ha) (by simpa using hb)
theorem a7.yC{P:Program}{f:FuncId}{args kF:List AV}{O:List aa}{r:Value}(h:a7 P f kF (.v r))(hf:ajG O args kF):cF P f args O (.v r) O:=by
 have:=cF.auD h hf.get.1 hf.get.2 rfl rfl;rwa [map_nil,append_nil]at this
theorem aeM{nl:Bool}{e s:Nat}{xs:List AV}(hn:AV.ae xs=true):(b6 nl e s xs).ae=true:=by
 unfold b6;split
 ·rfl
 ·exact hn
def anM(o:PU)(xs:List AV)(O:List aa)(K:KT):Prop:=AV.ae xs=true/\puK o xs λ v=>K v O
theorem aAP(P:Program)(o:PU)(as:List aC)(e:Env)(O:List aa)(K:KT):wpOp P (.pu o as) e O K=anM o (as.map λ x=>jL O (x.ev e)) O K:=nr rfl
theorem anL(k:IntKind)(a b:Int)(O:List aa)(K:KT):anM .max [.v (.int k a),.v (.int k b)] O K=k1 (.v (.int k (max a b))) O K:=by
 have:(if a<b then b else a)=max a b:=by rw[Int.max_def];split<;>split<;>omega
 simp[anM,puK,puF,AV.ae,AV.ag,k1,this]
theorem cF.back{P:Program}{f:FuncId}{args:List AV}{O1 oZ:List aa}{res:AV}(h:cF P f args O1 res oZ)(hl:oZ.length=O1.length)(ha:AV.cD O1.length args=true)(hr:res.ag=true)
  (ho:O1.all aa.ae=true) (ho':oZ.all aa.ae=true) (A:List aa):cF P f (args.map (AV.bj λ n=>A.length+n)) (A++O1) res (A++oZ):=by
 have gO:∀{X:List aa},X.all aa.ae=true->∀i,(A++X)[A.length+i]? =(X[i]?).map (aa.bj λ n=>A.length+n):=by
  intro X hx i;rw[List.getElem?_append_right (by omega),Nat.add_sub_cancel_left];cases hq:X[i]? with
  |none=>rfl
  |some ob=>simp only[map_some];rw[fy (List.all_eq_true.1 hx ob (mem_of_getElem? hq))]
 have:=h.frame (O:=A++O1) (oR:=A++oZ) (λ n=>A.length+n) (λ i hi=>by simp;omega) (λ i _=>gO ho i) (λ i j _ _ he=>by omega)
  (λ i hi=>by simp;omega) (λ a h'=>bG ha a h') (λ ob hb=>pd (List.all_eq_true.1 ho ob hb)) (by simp[hl]) (λ i _=>gO ho' i) (λ n hn b8=> ?_)
 ·rwa [dI res hr]at this
 ·have aw:n<A.length:=by
    rcases Nat.lt_or_ge n A.length with h'|h'
    ·exact h'
    ·have:n<A.length+O1.length:=by simpa using hn
     exact(b8 (n- A.length) (by omega) (by omega)).elim
  rw[List.getElem?_append_left aw,List.getElem?_append_left aw]
theorem mf{n0 t:Nat}{res:AV}{x:AX}(hx:x= .ret∨x= .normal){e:Env}{O:List aa}(h:e t=res):mW n0 [.tmp t] res O x e O:=by
 have:cK e O [.tmp t] [] λ fI=>∃e',WK n0 (λ t=>if t=0 then bn fI else .top) O e' O/\e' 0=res:=by
  rw[kq,ku];simp only[reverse_cons,reverse_nil,nil_append,bn,h];exact⟨λ t=>if t=0 then res else .top,.refl _ _ _,rfl⟩
 rcases hx with rfl|rfl<;>exact this
theorem cF.agc{P:Program}{f:FuncId}{k:Value}{r:Value}{a a':AV}(h:cF P f [.own 0,.v k] [.own a] (.v r) [.own a']){O:List aa}(m:Nat)(hm:O[m]? =some (.own a)):cF P f [.own m,.v k] O (.v r) (O.set m (.own a')):=
 h.auf (by simp[AV.one,AV.ag]) rfl rfl rfl m hm
def avP(P:Program)(f:FuncId)(args:List AV)(O:List aa)(K:KT):Prop:=∃res ob,AV.ae args=true/\cF P f args [] res [ob]/\K (res.bj λ n=>O.length+n) (O++ [ob.bj λ n=>O.length+n])
theorem ark(P:Program)(nl:Bool)(t s:Nat)(f:FuncId)(as:List aC)(e:Env)(O:List aa)(K:KT):wpOp P (.fc nl t s f as) e O K=avP P f (as.map (aC.ev e)) O K:=nr rfl
def auF(P:Program)(rd:List Nat)(f:FuncId)(args:List AV)(O:List aa)(K:KT):Prop:=∃res ob,(∀O':List aa,O'.length=O.length->(∀n∈rd,O'[n]? =O[n]?)->cF P f args O' res (O'++ [ob]))/\K res (O++ [ob])
def auK(P:Program)(rd:List Nat)(f:FuncId)(args:List AV)(O:List aa)(K:KT):Prop:=∃res,(∀O':List aa,(∀n∈rd,O'[n]? =O[n]?)->cF P f args O' res O')/\K res O
theorem ari(P:Program)(rd:List Nat)(f:FuncId)(as:List aC)(e:Env)(O:List aa)(K:KT):wpOp P (.uM rd f as) e O K=auF P rd f (as.map (aC.ev e)) O K:=nr rfl
theorem arj(P:Program)(rd:List Nat)(f:FuncId)(as:List aC)(e:Env)(O:List aa)(K:KT):wpOp P (.uO rd f as) e O K=auK P rd f (as.map (aC.ev e)) O K:=nr rfl
def am6(P:Program)(kp:List Nat)(f:FuncId)(args:List AV)(O:List aa)(K:KT):Prop:=∃res O',cF P f args O res O'/\(∀n∈kp,O'[n]? =O[n]?)/\K res O'
theorem arc(P:Program)(kp:List Nat)(f:FuncId)(as:List aC)(e:Env)(O:List aa)(K:KT):wpOp P (.o7 kp f as) e O K=am6 P kp f (as.map (aC.ev e)) O K:=nr rfl
theorem mU{P:Program}{kp:List Nat}{f:FuncId}{args:List AV}{O O':List aa}{K:KT}{res:AV}(h:cF P f args O res O')(hk:∀n∈kp,O'[n]? =O[n]?)(k:k1 res O' K):am6 P kp f args O K:=⟨res,O',h,hk,k⟩
def rV(P:Program)(a:AV)(want:Bool)(t:Nat)(d:Option Nat)(op:dY)(r:List aH)(acc:List iD)(e:Env)(O:List aa)(Q:List iD->Env->List aa->Prop):Prop:=match a with
 | .v (.bool b)=>
   (b=want->wpOp P op (e.set t (.v (.bool want))) O (adQ P d (e.set t (.v (.bool want))) r (acc++ [ch op (e.set t (.v (.bool want))) O.length]) Q))/\
   (b= !want->cd P r (acc++ [⟨[],.cu⟩]) (bB (e.set t (.v (.bool (!want)))) d (.a9 [])) O Q)
 | .a9 []=>cd P r (acc++ [⟨[],.cu⟩]) (bB e d (.a9 [])) O Q
 |_=>False
section
variable (P:Program) (t:Nat) (d:Option Nat) (op:dY) (r:List aH) (acc:List iD) (e:Env) (O:List aa) (Q:List iD->Env->List aa->Prop)
theorem ary(want:Bool):cd P (⟨some (t,want),d,op⟩::r) acc e O Q=rV P (e t) want t d op r acc e O Q:=by
 simp only[cd];unfold rV adQ;cases e t<;>try rfl
theorem aph:rV P (.v (.bool true)) true t d op r acc e O Q=wpOp P op (e.set t (.v (.bool true))) O (adQ P d (e.set t (.v (.bool true))) r (acc++ [ch op (e.set t (.v (.bool true))) O.length]) Q):=by simp[rV]
theorem apk:rV P (.v (.bool false)) false t d op r acc e O Q=wpOp P op (e.set t (.v (.bool false))) O (adQ P d (e.set t (.v (.bool false))) r (acc++ [ch op (e.set t (.v (.bool false))) O.length]) Q):=by simp[rV]
theorem api:rV P (.v (.bool true)) false t d op r acc e O Q=cd P r (acc++ [⟨[],.cu⟩]) (bB (e.set t (.v (.bool true))) d (.a9 [])) O Q:=by simp[rV]
theorem apj:rV P (.v (.bool false)) true t d op r acc e O Q=cd P r (acc++ [⟨[],.cu⟩]) (bB (e.set t (.v (.bool false))) d (.a9 [])) O Q:=by simp[rV]
theorem ajh(want:Bool):rV P (.a9 []) want t d op r acc e O Q=cd P r (acc++ [⟨[],.cu⟩]) (bB e d (.a9 [])) O Q:=by simp[rV]
end
theorem Split.congr{O O':List aa}{ys xs:List AV}(h:Split O ys xs)(ho:∀(m:Nat) d,O[m]? =some (.own d)->O'[m]? =some (.own d)):Split O' ys xs:=
 ⟨h.len,h.cells,λ i y x j c d hy hx hc hd=>(h.half i y x j c d hy hx hc hd).imp id λ ⟨k,h1,h2⟩=>⟨k,h1,ho k d h2⟩,h.inj⟩
theorem Split.nil(O:List aa):Split O [] []:=⟨rfl,λ i y x h=>by simp at h,λ i y x j c d h=>by simp at h,λ i y j i' y' j' k h=>by simp at h⟩
def OD0:=And.intro @av4 (And.intro @af5 (And.intro @aic (And.intro @axv (And.intro @aAP (And.intro @ary (And.intro @ark (And.intro @ari (And.intro @arj (And.intro @arc (And.intro @pP (And.intro @kY (And.intro @aeg (And.intro @yi (And.intro @uj (And.intro @pQ (And.intro @tv (And.intro @yh (And.intro @yg (@nh)))))))))))))))))))
def OD1:=And.intro @kX (And.intro @ui (And.intro @xy (And.intro @xz (And.intro @xx (And.intro @qC (And.intro @qD (And.intro @qB (And.intro @tS (And.intro @tT (And.intro @tR (And.intro @p9 (And.intro @p8 (And.intro @adE (And.intro @sQ (And.intro @tK (And.intro @adF (And.intro @tJ (And.intro @iL (@pB)))))))))))))))))))
def OD2:=And.intro @pe (And.intro @aaV (And.intro @aiJ (And.intro @vu (And.intro @ky (And.intro @aaT (And.intro @pf (And.intro @tL (And.intro @vt (And.intro @nS (And.intro @nT (And.intro @aiK (And.intro @vq (And.intro @sR (And.intro @yy (And.intro @aaU (And.intro @vo (And.intro @vp (And.intro @xG (@tI)))))))))))))))))))
def OD3:=And.intro @qW (And.intro @mh (And.intro @qV (And.intro @mg (And.intro @ni (And.intro @nj (And.intro @arf (And.intro @aun (And.intro @aul (And.intro @auk (And.intro @aui (And.intro @ard (And.intro @are (And.intro @axs (And.intro @auj (And.intro @axt (And.intro @auo (And.intro @axu (And.intro @aum (@arh)))))))))))))))))))
def OA0:=And.intro @amn (And.intro @ai1 (And.intro @aet (And.intro @aqw (And.intro @aqQ (And.intro @jk (And.intro @aqR (And.intro @anY (And.intro @alo (And.intro @aou (And.intro @asq (And.intro @aph (And.intro @apk (And.intro @api (And.intro @apj (And.intro @ajh (And.intro @anL (And.intro @tU (And.intro @jC (@hD)))))))))))))))))))
def OA1:=And.intro @jD (And.intro @um (And.intro @qE (And.intro @nH (And.intro @qA (And.intro @nG (And.intro @cX (And.intro @eP (And.intro @ib (And.intro @ig (And.intro @jZ (And.intro @gS (And.intro @oQ (And.intro @oD (And.intro @oJ (And.intro @oP (And.intro @rM (And.intro @oC (And.intro @oH (@oG)))))))))))))))))))
def OA2:=And.intro @oO (And.intro @oI (And.intro @oK (And.intro @oL (And.intro @oM (And.intro @oN (And.intro @oF (And.intro @oE (And.intro @lQ (And.intro @lP (And.intro @lO (And.intro @qJ (And.intro @qK (And.intro @om (And.intro @fP (And.intro @gn (And.intro @rB (And.intro @lH (And.intro @kb (@lS)))))))))))))))))))
def OA3:=And.intro @iw (And.intro @od (And.intro @oB (And.intro @oA (And.intro @jA (And.intro @jB (And.intro @vz (And.intro @nW (And.intro @ij (And.intro @mo (And.intro @lx (And.intro @la (And.intro @mc (And.intro @jR (And.intro @hZ (And.intro @ia (And.intro @jW (And.intro @rD (And.intro @ic (@mi)))))))))))))))))))
def OA4:=And.intro @lv (And.intro @nF (And.intro @gZ (And.intro @hH (And.intro @tX (And.intro @tY (And.intro @tZ (And.intro @ua (And.intro @ny (And.intro @lM (And.intro @j5 (And.intro @fN (And.intro @cR (And.intro @k7 (And.intro @adj (And.intro @xm (And.intro @pR (And.intro @tx (And.intro @tz (@xn)))))))))))))))))))
def OA5:=And.intro @tA (And.intro @pS (And.intro @ad0 (And.intro @x6 (And.intro @qw (And.intro @ub (And.intro @x7 (And.intro @ku (And.intro @kq (And.intro @nn (And.intro @nE (And.intro @j7 (And.intro @np (And.intro @lj (And.intro @List.reverse_cons.{0} (And.intro @List.reverse_nil.{0} (And.intro @ne_eq.{1} (And.intro @add_eq_zero_iff (And.intro @not_false_eq_true (@one_ne_zero)))))))))))))))))))
def OA6:=And.intro @amj (And.intro @amk (And.intro @xw (And.intro @qy (And.intro @lL (And.intro @qj (And.intro @List.map_cons.{0,0} (And.intro @List.map_nil.{0,0} (And.intro @Option.map_some.{0,0} (And.intro @Option.map_none.{0,0} (And.intro @List.getD_cons_zero.{0} (And.intro @List.getD_cons_succ.{0} (And.intro @List.length_nil.{0} (And.intro @List.length_cons.{0} (And.intro @List.length_append.{0} (And.intro @List.length_set.{0} (And.intro @List.nil_append.{0} (And.intro @List.cons_append.{0} (And.intro @List.append_nil.{0} (@List.getElem?_cons_zero.{0})))))))))))))))))))
def OA7:=And.intro @List.getElem?_cons_succ.{0} (And.intro @List.set_cons_zero.{0} (And.intro @List.set_cons_succ.{0} (And.intro @List.drop_succ_cons.{0} (And.intro @List.drop_zero.{0} (And.intro @List.take_succ_cons.{0} (And.intro @List.take_zero.{0} (And.intro @List.replicate_succ.{0} (And.intro @List.replicate_zero.{0} (And.intro @if_true.{1} (And.intro @if_false.{1} (And.intro @lN (And.intro @aF (And.intro @jN (And.intro @oo (And.intro @nC (And.intro @nD (And.intro @oq (And.intro @lF (@n8)))))))))))))))))))
def OA8:=And.intro @im (And.intro @lB (And.intro @lC (And.intro @lD (And.intro @lE (And.intro @fR (And.intro @js (And.intro @fh (And.intro @gT (And.intro @iE (And.intro @iF (And.intro @gU (And.intro @lJ (And.intro @kH (And.intro @yb (And.intro @lq (And.intro @jX (And.intro @tO (And.intro @qe (@nu)))))))))))))))))))
def OA9:=And.intro @nq (And.intro @lu (And.intro @qg (And.intro @List.all_cons.{0} (And.intro @List.all_nil.{0} (And.intro @Bool.and_true (And.intro @Bool.true_and (And.intro @Bool.or_true (And.intro @Bool.true_or (And.intro @Bool.not_true (And.intro @Bool.not_false (And.intro @decide_true (And.intro @decide_false (And.intro @aml (And.intro @Option.getD_none.{0} (And.intro @Option.getD_some.{0} (And.intro @true_and (And.intro @and_true (And.intro @zero_add (@add_zero)))))))))))))))))))
def aCR:=And.intro @lt_add_one (And.intro @zero_lt_succ (And.intro @le_refl (And.intro @akU (And.intro @aqK (And.intro @aiC (And.intro @aiB (And.intro @aiA (And.intro @aiz (And.intro @at3 (And.intro @at2 (And.intro @ap8 (And.intro @arp (And.intro @an6 (@aiR))))))))))))))
def OD:=And.intro @OD0 (And.intro @OD1 (And.intro @OD2 (@OD3)))
def OA:=And.intro @OA0 (And.intro @OA1 (And.intro @OA2 (And.intro @OA3 (And.intro @OA4 (And.intro @OA5 (And.intro @OA6 (And.intro @OA7 (And.intro @OA8 (And.intro @OA9 (@aCR))))))))))
end Go.Ab
