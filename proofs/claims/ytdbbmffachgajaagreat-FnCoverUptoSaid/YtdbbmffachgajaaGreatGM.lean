/- Part of a proof: the functions that the law reaches, walked by the abstract logic of the texts Ab. -/
import Derived.Test.YtdbbmffachgajaaGreatAbM5
import Derived.Test.YtdbbmffachgajaaGreatAbM3
set_option maxRecDepth 100000
open Nat(zero_le lt_or_ge)
open Bool(and_eq_true)
open Option(map_some)
open List(map_cons sum_cons getElem_mem)
set_option linter.unusedVariables false
set_option linter.unusedSimpArgs false
set_option linter.defProp false
namespace Go.Ab
theorem cE{n:Int}(h: -9223372036854775808<=n)(h':n<=9223372036854775807):IntKind.i64.wrap n=n:=aAV h h'
theorem cD{a b:Nat}(h:b<=a)(h':a<=4611686018427387904):IntKind.i64.wrap ((a:Int)- (b:Int))=((a- b:Nat):Int):=by
 rw[cE (by omega) (by omega)];omega
theorem cu{a b:Nat}(h:a+b<=4611686018427387904):IntKind.i64.wrap ((a:Int)+(b:Int))=((a+b:Nat):Int):=by
 rw[cE (by omega) (by omega)];omega
theorem aI{a:Nat}(h:a<=4611686018427387904):IntKind.i64.wrap ((a:Int)+1)=((a+1:Nat):Int):=by
 rw[cE (by omega) (by omega)];omega
theorem mP(n:Nat):decide ((n:Int)<0)=false:=by simp
theorem getM{α:Type}(f:α->AV){l:List α}{i:Nat}(h:i<l.length):(l.map f)[i]? =some (f l[i]):=by simp[h]
theorem fS{α:Type}(f:α->AV){l:List α}{s n:Nat}{k:IntKind}{K:AV->Prop}(h:n<l.length)(hs:(f l[n]).cells.length=s)(hk:gn K (f l[n])):jE s (.sl (l.map f)) (.v (.int k (n:Int))) K:=
 xT _ (getM f h) hs hk
theorem bt{α:Type}{f:α->AV}{l:List α}(h:∀x,(f x).ag=true):AV.ae (l.map f)=true:=jL λ a ha=>by
 obtain⟨x,_,rfl⟩:=List.mem_map.1 ha;exact h x
section
variable {P:Program} {L:AX->SS->List AV->Prop} {R:AV->Prop} {t:T} {r:List AV} {S:List (List AV->Prop)}
theorem sV{init:List AV}(n:Nat)(σ:Nat->List AV)(h0:init=σ 0)
  (hr:∀i,i<=n->cL P L R t (r++σ i) ((λ vs=>i<n/\vs=σ (i+1))::S)):tL P L R init t r S:=by
 refine fK (ι:=Nat) (λ i=>i<=n) σ (λ i=>n- i) 0 (zero_le _) h0 λ i hi=> ?_
 refine ef (λ _ _ _ h=>h) (λ _ h=>h) t (.cons (λ vs hv=> ?_) (.refl _)) (hr i hi);exact⟨i+1,hv.1,by have:=hv.1;omega,hv.2⟩
end
def aOJ(s:Nat)(f:FuncId)(fl:Bool):T:=
.op (.ch (.x 0)) (
.op (.bin .sub (.x 1) (.x 2)) (
.op (.bin .lss (.x 3) (.c (.v (.int .i64 0)))) (
.ite (.x 4)
 (.ret [(.c (.v (.int .i64 (-1))))])
 (.bind 1 (
  .loop [(.x 3),(.c (.v (.int .i64 0)))] (
   .op (.ch (.x 0)) (
   .op (.bin .lss (.x 6) (.x 7)) (
   .ite (.x 8)
    (.op (.elem s (.x 0) (.x 6)) (
    .aq (.cells (.x 9) s) (
    .op (.call f [(.x 9),(.x 5)] fl) (
    .op (.bin .lss (.x 10) (.c (.v (.int .i64 0)))) (
    .ite (.x 11)
     (.cM (.cM (.ret [(.c (.v (.int .i64 (-1))))])))
     (.op (.bin .add (.x 6) (.c (.v (.int .i64 1)))) (
     .jump [(.x 10),(.x 12)])))))))
    (.cM (.jump [(.x 5)])))))) (
 .ret [(.x 5)])))))
theorem axe{α:Type}(wt:α->Nat)(l:List α)(i:Nat)(h:i<l.length):((l.take (i+1)).map wt).sum=((l.take i).map wt).sum+wt l[i]:=by
 rw[List.take_add_one,List.getElem?_eq_getElem h];simp only[Option.toList_some,List.map_append,List.sum_append,map_cons,List.map_nil,sum_cons,List.sum_nil,Nat.add_zero]
theorem aGm{α:Type}(wt:α->Nat)(l:List α)(i:Nat):((l.take i).map wt).sum<=(l.map wt).sum:=by
 conv=>rhs;rw[←List.take_append_drop i l]
 rw[List.map_append,List.sum_append];omega
theorem aR9{fl:Bool}{P:Program}{L:AX->SS->List AV->Prop}{α:Type}{av:α->AV}{wt:α->Nat}{s:Nat}{f:FuncId}{l:List α}(hs:∀x,(av x).isAgg=true/\(av x).cells.length=s/\(av x).storable=true)
  {b:Nat} (hb:l.length+(l.map wt).sum<=b) (wW:b<=1048576) (hc:∀x∈l,∀c:Nat,wt x<=c->c<=1048576->aW P f [av x,.v (.int .i64 c)] (.v (.int .i64 (c- wt x:Nat)))):
  cL P L (λ a=>a= .v (.int .i64 (b- (l.length+(l.map wt).sum):Nat))) (aOJ s f fl) [.sl (l.map av),.v (.int .i64 b)] []:=by
 simp(disch:=omega) only[aOJ,cD,mP,WA,seval];refine aG [.v (.int .i64 (b- (l.length+(l.map wt).sum):Nat))] rfl ?_ (by simp only[WA,seval]);simp only[WA,seval];refine sV l.length (λ i=>[.v (.int .i64 (b- (l.length+((l.take i).map wt).sum):Nat)),.v (.int .i64 i)]) (by simp) λ i hi=> ?_
 simp only[WA,seval];refine aC (λ h=> ?_) (λ h=> ?_)
 ·have aK:i<l.length:=by omega
  have h1:=axe wt l i aK;have h2:=aGm wt l (i+1);obtain⟨x1,x2,x3⟩:=hs l[i];simp only[WA,seval];refine fS av aK x2 ?_;simp only[x1,x2,x3,WA,seval];refine aJ (hc _ (getElem_mem aK) _ (by omega) (by omega)) ?_;simp(disch:=omega) only[mP,aI,WA,seval];exact⟨aK,by rw[h1,Nat.sub_sub,Nat.add_assoc]⟩
 ·have he:i=l.length:=by omega
  subst he;simp only[List.take_length,WA,seval]
abbrev aD(n:Int):AV:= .v (.int .i64 n)
abbrev oJ(s:ByteArray):AV:= .v (.string s)
def inR(n:Int):Prop:= -9223372036854775808<=n/\n<=9223372036854775807
theorem eH{α:Type}(w:α->Nat){l:List α}{x:α}(h:x∈l):w x<=(l.map w).sum:=by
 induction l with
 |nil=>simp at h
 |cons a l ih=>
  simp only[map_cons,sum_cons];rcases List.mem_cons.1 h with rfl|h
  ·omega
  ·have:=ih h;omega
inductive ln where
 |mk (Kind:Int) (Text:ByteArray) (fM:Int) (Pos:Int)
def ln.Kind:ln->Int
 | .mk a _ _ _=>a
def ln.Text:ln->ByteArray
 | .mk _ a _ _=>a
def ln.Pos:ln->Int
 | .mk _ _ _ a=>a
def ln.cs:ln->List AV
 | .mk Kind Text fM Pos=>(.v (.int .i64 Kind)::(.v (.string Text)::(.v (.int .i64 fM)::(.v (.int .i64 Pos):: []))))
def ln.av(x:ln):AV:= .agg x.cs
theorem ln.aV:∀x:ln,AV.ae x.cs=true
 | .mk Kind Text fM Pos=>by simp[ln.cs,AV.ae,AV.ag]
theorem ln.ag(x:ln):x.av.ag=true:=ln.aV x
inductive kW where
 |mk (Kind:Int) (Name:ByteArray) (fM:Int) (Pos:Int) (Kids:List kW)
def kW.Kind:kW->Int
 | .mk a _ _ _ _=>a
def kW.Name:kW->ByteArray
 | .mk _ a _ _ _=>a
def kW.Pos:kW->Int
 | .mk _ _ _ a _=>a
def kW.Kids:kW->List kW
 | .mk _ _ _ _ a=>a
mutual
def kW.cs:kW->List AV
 | .mk Kind Name fM Pos Kids=>(.v (.int .i64 Kind)::(.v (.string Name)::(.v (.int .i64 fM)::(.v (.int .i64 Pos)::(.sl (kW.gL Kids):: [])))))
def kW.gL:List kW->List AV
 | []=>[]
 |x::l=> .agg x.cs::kW.gL l
end
def kW.av(x:kW):AV:= .agg x.cs
mutual
theorem kW.aV:∀x:kW,AV.ae x.cs=true
 | .mk Kind Name fM Pos Kids=>by simp[kW.cs,AV.ae,AV.ag,kW.dN Kids]
theorem kW.dN:∀l:List kW,AV.ae (kW.gL l)=true
 | []=>rfl
 |x::l=>by simp[kW.gL,AV.ae,AV.ag,kW.aV x,kW.dN l]
end
theorem kW.ag(x:kW):x.av.ag=true:=kW.aV x
mutual
inductive iV where
 |mk (Kind:Int) (Name:ByteArray) (fM:Int) (Text:ByteArray) (Pos:Int) (Kids:List iV) (agl:List oR)
inductive oR where
 |mk (P:kW) (E:iV)
end
def iV.Kind:iV->Int
 | .mk a _ _ _ _ _ _=>a
def iV.Name:iV->ByteArray
 | .mk _ a _ _ _ _ _=>a
def iV.Text:iV->ByteArray
 | .mk _ _ _ a _ _ _=>a
def iV.Pos:iV->Int
 | .mk _ _ _ _ a _ _=>a
def iV.Kids:iV->List iV
 | .mk _ _ _ _ _ a _=>a
def iV.agl:iV->List oR
 | .mk _ _ _ _ _ _ a=>a
def oR.P:oR->kW
 | .mk a _=>a
mutual
def iV.cs:iV->List AV
 | .mk Kind Name fM Text Pos Kids agl=>(.v (.int .i64 Kind)::(.v (.string Name)::(.v (.int .i64 fM)::(.v (.string Text)::(.v (.int .i64 Pos)::(.sl (iV.gL Kids)::(.sl (oR.gL agl):: [])))))))
def oR.cs:oR->List AV
 | .mk P E=>(P.cs++(E.cs++ []))
def iV.gL:List iV->List AV
 | []=>[]
 |x::l=> .agg x.cs::iV.gL l
def oR.gL:List oR->List AV
 | []=>[]
 |x::l=> .agg x.cs::oR.gL l
end
def iV.av(x:iV):AV:= .agg x.cs
def oR.av(x:oR):AV:= .agg x.cs
mutual
theorem iV.aV:∀x:iV,AV.ae x.cs=true
 | .mk Kind Name fM Text Pos Kids agl=>by simp[iV.cs,AV.ae,AV.ag,iV.dN Kids,oR.dN agl]
theorem oR.aV:∀x:oR,AV.ae x.cs=true
 | .mk P E=>by simp[oR.cs,b9,kW.aV P,iV.aV E]
theorem iV.dN:∀l:List iV,AV.ae (iV.gL l)=true
 | []=>rfl
 |x::l=>by simp[iV.gL,AV.ae,AV.ag,iV.aV x,iV.dN l]
theorem oR.dN:∀l:List oR,AV.ae (oR.gL l)=true
 | []=>rfl
 |x::l=>by simp[oR.gL,AV.ae,AV.ag,oR.aV x,oR.dN l]
end
theorem iV.ag(x:iV):x.av.ag=true:=iV.aV x
theorem oR.ag(x:oR):x.av.ag=true:=oR.aV x
inductive bV where
 |mk (Kind:Int) (Name:ByteArray) (Pos:Int) (Kids:List bV)
def bV.Kind:bV->Int
 | .mk a _ _ _=>a
def bV.Name:bV->ByteArray
 | .mk _ a _ _=>a
def bV.Pos:bV->Int
 | .mk _ _ a _=>a
def bV.Kids:bV->List bV
 | .mk _ _ _ a=>a
mutual
def bV.cs:bV->List AV
 | .mk Kind Name Pos Kids=>(.v (.int .i64 Kind)::(.v (.string Name)::(.v (.int .i64 Pos)::(.sl (bV.gL Kids):: []))))
def bV.gL:List bV->List AV
 | []=>[]
 |x::l=> .agg x.cs::bV.gL l
end
def bV.av(x:bV):AV:= .agg x.cs
mutual
theorem bV.aV:∀x:bV,AV.ae x.cs=true
 | .mk Kind Name Pos Kids=>by simp[bV.cs,AV.ae,AV.ag,bV.dN Kids]
theorem bV.dN:∀l:List bV,AV.ae (bV.gL l)=true
 | []=>rfl
 |x::l=>by simp[bV.gL,AV.ae,AV.ag,bV.aV x,bV.dN l]
end
theorem bV.ag(x:bV):x.av.ag=true:=bV.aV x
inductive kZ where
 |mk (Name:ByteArray) (Has:Bool) (Arg:bV) (Pos:Int)
def kZ.Name:kZ->ByteArray
 | .mk a _ _ _=>a
def kZ.Has:kZ->Bool
 | .mk _ a _ _=>a
def kZ.Arg:kZ->bV
 | .mk _ _ a _=>a
def kZ.Pos:kZ->Int
 | .mk _ _ _ a=>a
def kZ.cs:kZ->List AV
 | .mk Name Has Arg Pos=>(.v (.string Name)::(.v (.bool Has)::(Arg.cs++(.v (.int .i64 Pos):: []))))
def kZ.av(x:kZ):AV:= .agg x.cs
theorem kZ.aV:∀x:kZ,AV.ae x.cs=true
 | .mk Name Has Arg Pos=>by simp[kZ.cs,AV.ae,AV.ag,b9,bV.aV Arg]
theorem kZ.ag(x:kZ):x.av.ag=true:=kZ.aV x
inductive mU where
 |mk (Name:ByteArray) (qz:List ByteArray) (br:List kZ) (Pos:Int)
def mU.Name:mU->ByteArray
 | .mk a _ _ _=>a
def mU.Pos:mU->Int
 | .mk _ _ _ a=>a
def mU.cs:mU->List AV
 | .mk Name qz br Pos=>(.v (.string Name)::(.sl (qz.map λ x=> .v (.string x))::(.sl (br.map kZ.av)::(.v (.int .i64 Pos):: []))))
def mU.av(x:mU):AV:= .agg x.cs
theorem mU.aV:∀x:mU,AV.ae x.cs=true
 | .mk Name qz br Pos=>by simp[mU.cs,AV.ae,AV.ag,bt (f:=λ x=> .v (.string x)) (l:=qz) (λ _=>rfl),bt (f:=kZ.av) (l:=br) kZ.ag]
theorem mU.ag(x:mU):x.av.ag=true:=mU.aV x
inductive rn where
 |mk (Types:List mU) (Body:iV)
def rn.Types:rn->List mU
 | .mk a _=>a
def rn.Body:rn->iV
 | .mk _ a=>a
def rn.cs:rn->List AV
 | .mk Types Body=>(.sl (Types.map mU.av)::(Body.cs++ []))
def rn.av(x:rn):AV:= .agg x.cs
theorem rn.aV:∀x:rn,AV.ae x.cs=true
 | .mk Types Body=>by simp[rn.cs,AV.ae,AV.ag,bt (f:=mU.av) (l:=Types) mU.ag,iV.aV Body]
theorem rn.ag(x:rn):x.av.ag=true:=rn.aV x
inductive ai where
 |mk (Kind:Int) (N:Int) (Name:ByteArray) (Kids:List ai)
def ai.Kind:ai->Int
 | .mk a _ _ _=>a
def ai.N:ai->Int
 | .mk _ a _ _=>a
def ai.Name:ai->ByteArray
 | .mk _ _ a _=>a
def ai.Kids:ai->List ai
 | .mk _ _ _ a=>a
theorem ai.asO(Kind:Int)(N:Int)(Name:ByteArray)(Kids:List ai):(ai.mk Kind N Name Kids).Name=Name:=nr rfl
theorem ai.asP(Kind:Int)(N:Int)(Name:ByteArray)(Kids:List ai):(ai.mk Kind N Name Kids).Kids=Kids:=nr rfl
mutual
def ai.cs:ai->List AV
 | .mk Kind N Name Kids=>(.v (.int .i64 Kind)::(.v (.int .i64 N)::(.v (.string Name)::(.sl (ai.gL Kids):: []))))
def ai.gL:List ai->List AV
 | []=>[]
 |x::l=> .agg x.cs::ai.gL l
end
def ai.av(x:ai):AV:= .agg x.cs
theorem ai.af8(l:List ai):ai.gL l=l.map ai.av:=by
 induction l with
 |nil=>rfl
 |cons x l ih=>simp only[ai.gL,ih,map_cons,ai.av]
mutual
def ai.wt:ai->Nat
 | .mk Kind N Name Kids=>Name.size+(Kids.length+ai.wts Kids)
def ai.wts:List ai->Nat
 | []=>0
 |x::l=>x.wt+ai.wts l
end
theorem ai.aoO(l:List ai):ai.wts l=(l.map ai.wt).sum:=by
 induction l with
 |nil=>rfl
 |cons x l ih=>simp only[ai.wts,ih,map_cons,sum_cons]
mutual
def ai.ok:ai->Prop
 | .mk Kind N Name Kids=>inR Kind/\inR N/\ai.oks Kids
def ai.oks:List ai->Prop
 | []=>True
 |x::l=>x.ok/\ai.oks l
end
theorem ai.aBG(l:List ai):ai.oks l↔∀y∈l,y.ok:=by
 induction l with
 |nil=>simp[ai.oks]
 |cons x l ih=>simp[ai.oks,ih]
mutual
theorem ai.aV:∀x:ai,AV.ae x.cs=true
 | .mk Kind N Name Kids=>by simp[ai.cs,AV.ae,AV.ag,ai.dN Kids]
theorem ai.dN:∀l:List ai,AV.ae (ai.gL l)=true
 | []=>rfl
 |x::l=>by simp[ai.gL,AV.ae,AV.ag,ai.aV x,ai.dN l]
end
theorem ai.ag(x:ai):x.av.ag=true:=ai.aV x
theorem ai.isAgg(x:ai):x.av.isAgg=true:=nr rfl
theorem ai.sy(x:ai):x.cs= [.v (.int .i64 x.Kind),.v (.int .i64 x.N),.v (.string x.Name),.sl (x.Kids.map ai.av)]:=by
 obtain⟨Kind,N,Name,Kids⟩:=x;simp only[ai.cs,ai.Kids,ai.Kind,ai.N,ai.Name,ai.af8]
theorem ai.cells(x:ai):x.av.cells= [.v (.int .i64 x.Kind),.v (.int .i64 x.N),.v (.string x.Name),.sl (x.Kids.map ai.av)]:=ai.sy x
theorem ai.width(x:ai):x.av.cells.length=4:=by rw[ai.cells];rfl
theorem ai.storable(x:ai):x.av.storable=true:=by unfold AV.storable;rw[ai.cells];rfl
theorem ai.eta(x:ai):AV.agg [.v (.int .i64 x.Kind),.v (.int .i64 x.N),.v (.string x.Name),.sl (x.Kids.map ai.av)]=x.av:=by
 show _=AV.agg x.cs;rw[ai.sy]
def ai.B:=And.intro @ai.cells (And.intro @ai.isAgg (And.intro @ai.storable @ai.width))
def ai.E:=And.intro @ai.eta ai.B
theorem ai.shape(x:ai):x.av.isAgg=true/\x.av.cells.length=4/\x.av.storable=true:=⟨rfl,ai.width x,ai.storable x⟩
theorem ai.dY(x:ai):x.wt=x.Name.size+(x.Kids.length+(x.Kids.map ai.wt).sum):=by
 cases x;simp only[ai.wt,ai.aoO,ai.Name,ai.Kids]
theorem ai.axR(x:ai):x.ok↔inR x.Kind/\inR x.N/\(∀y∈x.Kids,y.ok):=by
 cases x;simp only[ai.ok,ai.aBG,ai.Kind,ai.N,ai.Kids]
theorem ai.cT{x:ai}{y:ai}(h:y∈x.Kids):SizeOf.sizeOf y<SizeOf.sizeOf x:=by
 cases x;have:=List.sizeOf_lt_of_mem h;simp only[ai.Kids]at this;simp;omega
inductive ak where
 |mk (Name:ByteArray) (Has:Bool) (Arg:ai)
def ak.Name:ak->ByteArray
 | .mk a _ _=>a
def ak.Has:ak->Bool
 | .mk _ a _=>a
def ak.Arg:ak->ai
 | .mk _ _ a=>a
def ak.cs:ak->List AV
 | .mk Name Has Arg=>(.v (.string Name)::(.v (.bool Has)::(Arg.cs++ [])))
def ak.av(x:ak):AV:= .agg x.cs
def ak.wt:ak->Nat
 | .mk Name Has Arg=>Name.size+Arg.wt
theorem ak.aV:∀x:ak,AV.ae x.cs=true
 | .mk Name Has Arg=>by simp[ak.cs,AV.ae,AV.ag,ai.aV Arg]
theorem ak.ag(x:ak):x.av.ag=true:=ak.aV x
theorem ak.isAgg(x:ak):x.av.isAgg=true:=nr rfl
theorem ak.sy(x:ak):x.cs= [.v (.string x.Name),.v (.bool x.Has),.v (.int .i64 x.Arg.Kind),.v (.int .i64 x.Arg.N),.v (.string x.Arg.Name),.sl (x.Arg.Kids.map ai.av)]:=by
 obtain⟨Name,Has,⟨aOP,aSR,aOO,aOQ⟩⟩:=x;simp only[ak.cs,ai.cs,ak.Arg,ak.Has,ak.Name,ai.Kids,ai.Kind,ai.N,ai.Name,ai.af8,List.cons_append,List.nil_append]
theorem ak.cells(x:ak):x.av.cells= [.v (.string x.Name),.v (.bool x.Has),.v (.int .i64 x.Arg.Kind),.v (.int .i64 x.Arg.N),.v (.string x.Arg.Name),.sl (x.Arg.Kids.map ai.av)]:=ak.sy x
theorem ak.width(x:ak):x.av.cells.length=6:=by rw[ak.cells];rfl
theorem ak.storable(x:ak):x.av.storable=true:=by unfold AV.storable;rw[ak.cells];rfl
theorem ak.eta(x:ak):AV.agg [.v (.string x.Name),.v (.bool x.Has),.v (.int .i64 x.Arg.Kind),.v (.int .i64 x.Arg.N),.v (.string x.Arg.Name),.sl (x.Arg.Kids.map ai.av)]=x.av:=by
 show _=AV.agg x.cs;rw[ak.sy]
def ak.B:=And.intro @ak.cells (And.intro @ak.isAgg (And.intro @ak.storable @ak.width))
def ak.E:=And.intro @ak.eta ak.B
theorem ak.shape(x:ak):x.av.isAgg=true/\x.av.cells.length=6/\x.av.storable=true:=⟨rfl,ak.width x,ak.storable x⟩
theorem ak.ov(x:ak):cA (some 4) x.av 2=x.Arg.av:=by
 unfold cA;simp only;rw[if_neg (λ h=>by have:=h.2.2;rw[ak.width]at this;omega),ak.cells];exact ai.eta _
inductive ad where
 |mk (Name:ByteArray) (qz:Int) (br:List ak)
def ad.Name:ad->ByteArray
 | .mk a _ _=>a
def ad.qz:ad->Int
 | .mk _ a _=>a
def ad.br:ad->List ak
 | .mk _ _ a=>a
def ad.cs:ad->List AV
 | .mk Name qz br=>(.v (.string Name)::(.v (.int .i64 qz)::(.sl (br.map ak.av):: [])))
def ad.av(x:ad):AV:= .agg x.cs
def ad.wt:ad->Nat
 | .mk Name qz br=>Name.size+(br.length+(br.map ak.wt).sum)
theorem ad.aV:∀x:ad,AV.ae x.cs=true
 | .mk Name qz br=>by simp[ad.cs,AV.ae,AV.ag,bt (f:=ak.av) (l:=br) ak.ag]
theorem ad.ag(x:ad):x.av.ag=true:=ad.aV x
theorem ad.isAgg(x:ad):x.av.isAgg=true:=nr rfl
theorem ad.sy(x:ad):x.cs= [.v (.string x.Name),.v (.int .i64 x.qz),.sl (x.br.map ak.av)]:=by
 obtain⟨Name,qz,br⟩:=x;simp only[ad.cs,ad.br,ad.Name,ad.qz]
theorem ad.cells(x:ad):x.av.cells= [.v (.string x.Name),.v (.int .i64 x.qz),.sl (x.br.map ak.av)]:=ad.sy x
theorem ad.width(x:ad):x.av.cells.length=3:=by rw[ad.cells];rfl
theorem ad.storable(x:ad):x.av.storable=true:=by unfold AV.storable;rw[ad.cells];rfl
theorem ad.eta(x:ad):AV.agg [.v (.string x.Name),.v (.int .i64 x.qz),.sl (x.br.map ak.av)]=x.av:=by
 show _=AV.agg x.cs;rw[ad.sy]
def ad.B:=And.intro @ad.cells (And.intro @ad.isAgg (And.intro @ad.storable @ad.width))
def ad.E:=And.intro @ad.eta ad.B
theorem ad.shape(x:ad):x.av.isAgg=true/\x.av.cells.length=3/\x.av.storable=true:=⟨rfl,ad.width x,ad.storable x⟩
theorem ad.dY(x:ad):x.wt=x.Name.size+(x.br.length+(x.br.map ak.wt).sum):=by
 cases x;simp only[ad.wt,ad.Name,ad.br]
theorem ad.facts{l:List ad}{b:Nat}(h:(l.map ad.wt).sum<=b):∀x∈l,x.wt<=b/\x.wt=x.Name.size+(x.br.length+(x.br.map ak.wt).sum):=λ x hx=>⟨Nat.le_trans (eH ad.wt hx) h,x.dY⟩
inductive aa where
 |mk (Kind:Int) (fM:Int) (Name:ByteArray) (T:ai) (Kids:List aa)
def aa.Kind:aa->Int
 | .mk a _ _ _ _=>a
def aa.fM:aa->Int
 | .mk _ a _ _ _=>a
def aa.Name:aa->ByteArray
 | .mk _ _ a _ _=>a
def aa.T:aa->ai
 | .mk _ _ _ a _=>a
def aa.Kids:aa->List aa
 | .mk _ _ _ _ a=>a
mutual
def aa.cs:aa->List AV
 | .mk Kind fM Name T Kids=>(.v (.int .i64 Kind)::(.v (.int .i64 fM)::(.v (.string Name)::(T.cs++(.sl (aa.gL Kids):: [])))))
def aa.gL:List aa->List AV
 | []=>[]
 |x::l=> .agg x.cs::aa.gL l
end
def aa.av(x:aa):AV:= .agg x.cs
theorem aa.af8(l:List aa):aa.gL l=l.map aa.av:=by
 induction l with
 |nil=>rfl
 |cons x l ih=>simp only[aa.gL,ih,map_cons,aa.av]
mutual
def aa.wt:aa->Nat
 | .mk Kind fM Name T Kids=>Name.size+T.wt+(Kids.length+aa.wts Kids)
def aa.wts:List aa->Nat
 | []=>0
 |x::l=>x.wt+aa.wts l
end
theorem aa.aoO(l:List aa):aa.wts l=(l.map aa.wt).sum:=by
 induction l with
 |nil=>rfl
 |cons x l ih=>simp only[aa.wts,ih,map_cons,sum_cons]
mutual
theorem aa.aV:∀x:aa,AV.ae x.cs=true
 | .mk Kind fM Name T Kids=>by simp[aa.cs,AV.ae,AV.ag,b9,ai.aV T,aa.dN Kids]
theorem aa.dN:∀l:List aa,AV.ae (aa.gL l)=true
 | []=>rfl
 |x::l=>by simp[aa.gL,AV.ae,AV.ag,aa.aV x,aa.dN l]
end
theorem aa.ag(x:aa):x.av.ag=true:=aa.aV x
theorem aa.isAgg(x:aa):x.av.isAgg=true:=nr rfl
theorem aa.sy(x:aa):x.cs= [.v (.int .i64 x.Kind),.v (.int .i64 x.fM),.v (.string x.Name),.v (.int .i64 x.T.Kind),.v (.int .i64 x.T.N),.v (.string x.T.Name),.sl (x.T.Kids.map ai.av),.sl (x.Kids.map aa.av)]:=by
 obtain⟨Kind,fM,Name,⟨aRZ,T_N,aRY,aR0⟩,Kids⟩:=x;simp only[aa.cs,ai.cs,aa.Kids,aa.Kind,aa.Name,aa.fM,aa.T,ai.Kids,ai.Kind,ai.N,ai.Name,aa.af8,ai.af8,List.cons_append,List.nil_append]
theorem aa.cells(x:aa):x.av.cells= [.v (.int .i64 x.Kind),.v (.int .i64 x.fM),.v (.string x.Name),.v (.int .i64 x.T.Kind),.v (.int .i64 x.T.N),.v (.string x.T.Name),.sl (x.T.Kids.map ai.av),.sl (x.Kids.map aa.av)]:=aa.sy x
theorem aa.width(x:aa):x.av.cells.length=8:=by rw[aa.cells];rfl
theorem aa.storable(x:aa):x.av.storable=true:=by unfold AV.storable;rw[aa.cells];rfl
theorem aa.eta(x:aa):AV.agg [.v (.int .i64 x.Kind),.v (.int .i64 x.fM),.v (.string x.Name),.v (.int .i64 x.T.Kind),.v (.int .i64 x.T.N),.v (.string x.T.Name),.sl (x.T.Kids.map ai.av),.sl (x.Kids.map aa.av)]=x.av:=by
 show _=AV.agg x.cs;rw[aa.sy]
def aa.B:=And.intro @aa.cells (And.intro @aa.isAgg (And.intro @aa.storable @aa.width))
def aa.E:=And.intro @aa.eta aa.B
theorem aa.ji(x:aa):cA (some 4) x.av 3=x.T.av:=by
 unfold cA;simp only;rw[if_neg (λ h=>by have:=h.2.2;rw[aa.width]at this;omega),aa.cells];exact ai.eta _
theorem aa.dY(x:aa):x.wt=x.Name.size+x.T.wt+(x.Kids.length+(x.Kids.map aa.wt).sum):=by
 cases x;simp only[aa.wt,aa.aoO,aa.Name,aa.T,aa.Kids]
theorem aa.cT{x:aa}{y:aa}(h:y∈x.Kids):SizeOf.sizeOf y<SizeOf.sizeOf x:=by
 cases x;have:=List.sizeOf_lt_of_mem h;simp only[aa.Kids]at this;simp;omega
mutual
inductive eJ where
 |mk (Kind:Int) (N:Int) (fM:Int) (Text:ByteArray) (Name:ByteArray) (T:ai) (Ts:List ai) (Kids:List eJ) (agl:List jG)
inductive jG where
 |mk (P:aa) (E:eJ)
end
def eJ.Kind:eJ->Int
 | .mk a _ _ _ _ _ _ _ _=>a
def eJ.N:eJ->Int
 | .mk _ a _ _ _ _ _ _ _=>a
def eJ.Text:eJ->ByteArray
 | .mk _ _ _ a _ _ _ _ _=>a
def eJ.Name:eJ->ByteArray
 | .mk _ _ _ _ a _ _ _ _=>a
def eJ.Ts:eJ->List ai
 | .mk _ _ _ _ _ _ a _ _=>a
def eJ.Kids:eJ->List eJ
 | .mk _ _ _ _ _ _ _ a _=>a
def eJ.agl:eJ->List jG
 | .mk _ _ _ _ _ _ _ _ a=>a
def jG.P:jG->aa
 | .mk a _=>a
mutual
def eJ.cs:eJ->List AV
 | .mk Kind N fM Text Name T Ts Kids agl=>(.v (.int .i64 Kind)::(.v (.int .i64 N)::(.v (.int .i64 fM)::(.v (.string Text)::(.v (.string Name)::(T.cs++(.sl (Ts.map ai.av)::(.sl (eJ.gL Kids)::(.sl (jG.gL agl):: [])))))))))
def jG.cs:jG->List AV
 | .mk P E=>(P.cs++(E.cs++ []))
def eJ.gL:List eJ->List AV
 | []=>[]
 |x::l=> .agg x.cs::eJ.gL l
def jG.gL:List jG->List AV
 | []=>[]
 |x::l=> .agg x.cs::jG.gL l
end
def eJ.av(x:eJ):AV:= .agg x.cs
def jG.av(x:jG):AV:= .agg x.cs
mutual
theorem eJ.aV:∀x:eJ,AV.ae x.cs=true
 | .mk Kind N fM Text Name T Ts Kids agl=>by simp[eJ.cs,AV.ae,AV.ag,b9,ai.aV T,bt (f:=ai.av) (l:=Ts) ai.ag,eJ.dN Kids,jG.dN agl]
theorem jG.aV:∀x:jG,AV.ae x.cs=true
 | .mk P E=>by simp[jG.cs,b9,aa.aV P,eJ.aV E]
theorem eJ.dN:∀l:List eJ,AV.ae (eJ.gL l)=true
 | []=>rfl
 |x::l=>by simp[eJ.gL,AV.ae,AV.ag,eJ.aV x,eJ.dN l]
theorem jG.dN:∀l:List jG,AV.ae (jG.gL l)=true
 | []=>rfl
 |x::l=>by simp[jG.gL,AV.ae,AV.ag,jG.aV x,jG.dN l]
end
theorem eJ.ag(x:eJ):x.av.ag=true:=eJ.aV x
theorem jG.ag(x:jG):x.av.ag=true:=jG.aV x
inductive lG where
 |mk (Kind:Int) (N:Int) (fM:Int) (Text:ByteArray)
def lG.Kind:lG->Int
 | .mk a _ _ _=>a
def lG.N:lG->Int
 | .mk _ a _ _=>a
def lG.Text:lG->ByteArray
 | .mk _ _ _ a=>a
def lG.cs:lG->List AV
 | .mk Kind N fM Text=>(.v (.int .i64 Kind)::(.v (.int .i64 N)::(.v (.int .i64 fM)::(.v (.string Text):: []))))
def lG.av(x:lG):AV:= .agg x.cs
theorem lG.aV:∀x:lG,AV.ae x.cs=true
 | .mk Kind N fM Text=>by simp[lG.cs,AV.ae,AV.ag]
theorem lG.ag(x:lG):x.av.ag=true:=lG.aV x
inductive cI where
 |mk (Kind:Int) (Name:ByteArray) (N:Int) (fM:Int) (T:ai) (Ts:List ai) (Vs:List lG) (Kids:List cI)
def cI.Kind:cI->Int
 | .mk a _ _ _ _ _ _ _=>a
def cI.Name:cI->ByteArray
 | .mk _ a _ _ _ _ _ _=>a
def cI.N:cI->Int
 | .mk _ _ a _ _ _ _ _=>a
def cI.Ts:cI->List ai
 | .mk _ _ _ _ _ a _ _=>a
def cI.Vs:cI->List lG
 | .mk _ _ _ _ _ _ a _=>a
def cI.Kids:cI->List cI
 | .mk _ _ _ _ _ _ _ a=>a
mutual
def cI.cs:cI->List AV
 | .mk Kind Name N fM T Ts Vs Kids=>(.v (.int .i64 Kind)::(.v (.string Name)::(.v (.int .i64 N)::(.v (.int .i64 fM)::(T.cs++(.sl (Ts.map ai.av)::(.sl (Vs.map lG.av)::(.sl (cI.gL Kids):: []))))))))
def cI.gL:List cI->List AV
 | []=>[]
 |x::l=> .agg x.cs::cI.gL l
end
def cI.av(x:cI):AV:= .agg x.cs
mutual
theorem cI.aV:∀x:cI,AV.ae x.cs=true
 | .mk Kind Name N fM T Ts Vs Kids=>by simp[cI.cs,AV.ae,AV.ag,b9,ai.aV T,bt (f:=ai.av) (l:=Ts) ai.ag,bt (f:=lG.av) (l:=Vs) lG.ag,cI.dN Kids]
theorem cI.dN:∀l:List cI,AV.ae (cI.gL l)=true
 | []=>rfl
 |x::l=>by simp[cI.gL,AV.ae,AV.ag,cI.aV x,cI.dN l]
end
theorem cI.ag(x:cI):x.av.ag=true:=cI.aV x
inductive mT where
 |mk (T:ai) (aDm:Int) (alp:Bool)
def mT.aDm:mT->Int
 | .mk _ a _=>a
def mT.alp:mT->Bool
 | .mk _ _ a=>a
def mT.cs:mT->List AV
 | .mk T aDm alp=>(T.cs++(.v (.int .i64 aDm)::(.v (.bool alp):: [])))
def mT.av(x:mT):AV:= .agg x.cs
theorem mT.aV:∀x:mT,AV.ae x.cs=true
 | .mk T aDm alp=>by simp[mT.cs,AV.ae,AV.ag,b9,ai.aV T]
theorem mT.ag(x:mT):x.av.ag=true:=mT.aV x
inductive iy where
 |mk (qz:Int) (aAF:List mT) (alp:Bool) (T:ai) (Body:cI)
def iy.aAF:iy->List mT
 | .mk _ a _ _ _=>a
def iy.alp:iy->Bool
 | .mk _ _ a _ _=>a
def iy.Body:iy->cI
 | .mk _ _ _ _ a=>a
def iy.cs:iy->List AV
 | .mk qz aAF alp T Body=>(.v (.int .i64 qz)::(.sl (aAF.map mT.av)::(.v (.bool alp)::(T.cs++(Body.cs++ [])))))
def iy.av(x:iy):AV:= .agg x.cs
theorem iy.aV:∀x:iy,AV.ae x.cs=true
 | .mk qz aAF alp T Body=>by simp[iy.cs,AV.ae,AV.ag,b9,bt (f:=mT.av) (l:=aAF) mT.ag,ai.aV T,cI.aV Body]
theorem iy.ag(x:iy):x.av.ag=true:=iy.aV x
inductive mV where
 |mk (agk:List iy) (Main:cI)
def mV.agk:mV->List iy
 | .mk a _=>a
def mV.Main:mV->cI
 | .mk _ a=>a
def mV.cs:mV->List AV
 | .mk agk Main=>(.sl (agk.map iy.av)::(Main.cs++ []))
def mV.av(x:mV):AV:= .agg x.cs
theorem mV.aV:∀x:mV,AV.ae x.cs=true
 | .mk agk Main=>by simp[mV.cs,AV.ae,AV.ag,bt (f:=iy.av) (l:=agk) iy.ag,cI.aV Main]
theorem mV.ag(x:mV):x.av.ag=true:=mV.aV x
inductive fL where
 |mk (Op:Int) (A:Int) (B:Int) (C:Int) (N:Int) (Text:ByteArray)
def fL.Op:fL->Int
 | .mk a _ _ _ _ _=>a
def fL.A:fL->Int
 | .mk _ a _ _ _ _=>a
def fL.C:fL->Int
 | .mk _ _ _ a _ _=>a
def fL.N:fL->Int
 | .mk _ _ _ _ a _=>a
def fL.Text:fL->ByteArray
 | .mk _ _ _ _ _ a=>a
def fL.cs:fL->List AV
 | .mk Op A B C N Text=>(.v (.int .i64 Op)::(.v (.int .i64 A)::(.v (.int .i64 B)::(.v (.int .i64 C)::(.v (.int .i64 N)::(.v (.string Text):: []))))))
def fL.av(x:fL):AV:= .agg x.cs
theorem fL.aV:∀x:fL,AV.ae x.cs=true
 | .mk Op A B C N Text=>by simp[fL.cs,AV.ae,AV.ag]
theorem fL.ag(x:fL):x.av.ag=true:=fL.aV x
inductive rq where
 |mk (agi:List fL) (agh:List Int)
def rq.agi:rq->List fL
 | .mk a _=>a
def rq.agh:rq->List Int
 | .mk _ a=>a
def rq.cs:rq->List AV
 | .mk agi agh=>(.sl (agi.map fL.av)::(.sl (agh.map λ x=> .v (.int .i64 x)):: []))
def rq.av(x:rq):AV:= .agg x.cs
theorem rq.aV:∀x:rq,AV.ae x.cs=true
 | .mk agi agh=>by simp[rq.cs,AV.ae,AV.ag,bt (f:=fL.av) (l:=agi) fL.ag,bt (f:=λ x=> .v (.int .i64 x)) (l:=agh) (λ _=>rfl)]
theorem rq.ag(x:rq):x.av.ag=true:=rq.aV x
inductive lq where
 |mk (At:Int) (Room:Int) (Put:Int)
def lq.At:lq->Int
 | .mk a _ _=>a
def lq.Room:lq->Int
 | .mk _ a _=>a
def lq.Put:lq->Int
 | .mk _ _ a=>a
def lq.cs:lq->List AV
 | .mk At Room Put=>(.v (.int .i64 At)::(.v (.int .i64 Room)::(.v (.int .i64 Put):: [])))
def lq.av(x:lq):AV:= .agg x.cs
theorem lq.aV:∀x:lq,AV.ae x.cs=true
 | .mk At Room Put=>by simp[lq.cs,AV.ae,AV.ag]
theorem lq.ag(x:lq):x.av.ag=true:=lq.aV x
section
variable {P:Program} {L:AX->SS->List AV->Prop} {R:AV->Prop} {t:T} {r:List AV} {S:List (List AV->Prop)}
theorem sj{init:List AV}(n:Nat)(I:Nat->Prop)(σ:Nat->List AV)(h0:init=σ 0)(hI:I 0)
  (hr:∀i,i<=n->I i->cL P L R t (r++σ i) ((λ vs=>i<n/\I (i+1)/\vs=σ (i+1))::S)):tL P L R init t r S:=by
 refine fK (ι:=Nat) (λ i=>i<=n/\I i) σ (λ i=>n- i) 0 ⟨zero_le _,hI⟩ h0 λ i hi=> ?_
 refine ef (λ _ _ _ h=>h) (λ _ h=>h) t (.cons (λ vs hv=> ?_) (.refl _)) (hr i hi.1 hi.2);exact⟨i+1,⟨hv.1,hv.2.1⟩,by have:=hv.1;omega,hv.2.2⟩
end
theorem vi{α:Type}{l:List α}{i:Nat}(h:i<l.length):l.drop i=l[i]::l.drop (i+1):=List.drop_eq_getElem_cons h
theorem wX{α:Type}(l:List α):l.drop l.length= []:=List.drop_length
def fQ{α:Type}(p:α->Bool):List α->Nat->Int
 | [],_=> -1
 |x::r,k=>if p x=true then(k:Int)else fQ p r (k+1)
theorem anu{α:Type}(p:α->Bool):∀(l:List α) (k:Nat),decide (0<=fQ p l k)=l.any p
 | [],_=>by simp[fQ]
 |x::r,k=>by
  unfold fQ;by_cases h:p x=true
  ·simp[h]
  ·simp only[h,List.any_cons];rw[if_neg (by simp),anu p r (k+1)];simp
def aFU(s:Nat):T:=
.bind 0 (
 .op (.ch (.x 0)) (
 .loop [(.c (.v (.int .i64 0)))] (
  .op (.bin .lss (.x 3) (.x 2)) (
  .ite (.x 4)
   (.op (.elem s (.x 0) (.x 3)) (
   .aq (.cells (.x 5) s) (
   .op (.ib (.x 1) [(.x 5)] false) (
   .ite (.x 6)
    (.cM (.cM (.ret [(.x 3)])))
    (.op (.bin .add (.x 3) (.c (.v (.int .i64 1)))) (
    .jump [(.x 7)]))))))
   (.cM (.jump [])))))) (
.ret [(.c (.v (.int .i64 (-1))))])
theorem ap0{P:Program}{L:AX->SS->List AV->Prop}{α:Type}{av:α->AV}{s:Nat}{g:FuncId}{bl:List AV}{l:List α}(p:α->Bool)(hs:∀x,(av x).isAgg=true/\(av x).cells.length=s/\(av x).storable=true)
  (hl:l.length<=1073741824) (hc:∀x∈l,aW P g (av x::bl) (.v (.bool (p x)))):
  cL P L (λ a=>a= .v (.int .i64 (fQ p l 0))) (aFU s) [.sl (l.map av),.fn g bl] []:=by
 simp only[aFU,WA,seval];refine aw ?_;simp only[WA,seval];refine sj l.length (λ i=>fQ p l 0=fQ p (l.drop i) i) (λ i=>[.v (.int .i64 i)]) rfl rfl λ i hi hI=> ?_
 simp only[WA,seval];refine aC (λ h=> ?_) (λ h=> ?_)
 ·have aK:i<l.length:=by omega
  obtain⟨x1,x2,x3⟩:=hs l[i];rw[vi aK,fQ]at hI;simp only[WA,seval];refine fS av aK x2 ?_;simp only[x1,x2,x3,WA,seval];refine aJ (hc _ (getElem_mem aK)) ?_;simp only[WA,seval];refine aA (λ h=> ?_) (λ h=> ?_)
  ·simp only[h,if_pos]at hI;simp only[hI,WA,seval]
  ·simp only[h]at hI;simp(disch:=omega) only[aI,WA,seval];exact⟨aK,by simpa using hI⟩
 ·have he:i=l.length:=by omega
  subst he;rw[wX,fQ]at hI;simp only[hI,WA,seval]
def aFW(f:FuncId)(fl:Bool):T:=
.op (.call f [(.x 0),(.x 1)] fl) (
.op (.bin .geq (.x 2) (.c (.v (.int .i64 0)))) (
.ret [(.x 3)]))
theorem aqD{fl:Bool}{P:Program}{L:AX->SS->List AV->Prop}{α:Type}{a b:AV}{f:FuncId}{l:List α}{p:α->Bool}(hc:aW P f [a,b] (.v (.int .i64 (fQ p l 0)))):
  cL P L (λ r=>r= .v (.bool (l.any p))) (aFW f fl) [a,b] []:=by
 simp only[aFW,WA,seval];refine aJ hc ?_;simp only[anu,WA,seval]
def aFV:T:=
.bind 0 (
 .op (.ch (.x 0)) (
 .loop [(.c (.v (.int .i64 0)))] (
  .op (.bin .lss (.x 3) (.x 2)) (
  .ite (.x 4)
   (.op (.elem 1 (.x 0) (.x 3)) (
   .aq (.lt (.x 5) 0) (
   .op (.bin .eql (.x 1) (.cell 5 0)) (
   .ite (.x 6)
    (.cM (.cM (.ret [(.x 3)])))
    (.op (.bin .add (.x 3) (.c (.v (.int .i64 1)))) (
    .jump [(.x 7)]))))))
   (.cM (.jump [])))))) (
.ret [(.c (.v (.int .i64 (-1))))])
theorem aG9{P:Program}{L:AX->SS->List AV->Prop}{α:Type}[DecidableEq α]{g:α->Value}{l:List α}{x:α}(hg:∀(x y:α) (K:AV->Prop),gn K (.v (.bool (decide (x=y))))->ic .eql (.v (g x)) (.v (g y)) K)
  (hl:l.length<=1073741824):cL P L (λ a=>a= .v (.int .i64 (fQ (λ y=>decide (x=y)) l 0))) aFV [.sl (l.map λ y=> .v (g y)),.v (g x)] []:=by
 simp only[aFV,WA,seval];refine aw ?_;simp only[WA,seval];refine sj l.length (λ i=>fQ (λ y=>decide (x=y)) l 0=fQ (λ y=>decide (x=y)) (l.drop i) i) (λ i=>[.v (.int .i64 i)]) rfl rfl λ i hi hI=> ?_
 simp only[WA,seval];refine aC (λ h=> ?_) (λ h=> ?_)
 ·have aK:i<l.length:=by omega
  rw[vi aK,fQ]at hI;simp only[WA,seval];refine fS (λ y=> .v (g y)) aK rfl ?_;simp only[WA,seval];refine hg _ _ _ ?_;simp only[WA,seval];refine aC (λ h=> ?_) (λ h=> ?_)
  ·rw[if_pos (decide_eq_true h)]at hI;simp only[hI,WA,seval]
  ·rw[if_neg (by simpa using h)]at hI;simp(disch:=omega) only[aI,WA,seval];exact⟨aK,hI⟩
 ·have he:i=l.length:=by omega
  subst he;rw[wX,fQ]at hI;simp only[hI,WA,seval]
theorem aRE(x y:ByteArray)(K:AV->Prop)(h:gn K (.v (.bool (decide (x=y))))):ic .eql (.v (.string x)) (.v (.string y)) K:=by rw[aAm];exact h
def qD{α:Type}(p:α->α->Bool):List α->List α->Bool
 | [],[]=>true
 |x::l,y::m=>p x y&&qD p l m
 |_,_=>false
theorem agc{α:Type}(p:α->α->Bool):∀(l m:List α),l.length≠m.length->qD p l m=false
 | [],[],h=>(h rfl).elim
 | [],_::_,_=>rfl
 |_::_,[],_=>rfl
 |x::l,y::m,h=>by simp only[qD,agc p l m (by simpa using h),Bool.and_false]
def aOK(s:Nat):T:=
.op (.ch (.x 0)) (
.op (.ch (.x 1)) (
.op (.bin .neq (.x 3) (.x 4)) (
.ite (.x 5)
 (.ret [(.c (.v (.bool false)))])
 (.bind 0 (
  .op (.ch (.x 0)) (
  .loop [(.c (.v (.int .i64 0)))] (
   .op (.bin .lss (.x 7) (.x 6)) (
   .ite (.x 8)
    (.op (.elem s (.x 0) (.x 7)) (
    .aq (.cells (.x 9) s) (
    .aq (.cells (.x 9) s) (
    .op (.elem s (.x 1) (.x 7)) (
    .aq (.cells (.x 10) s) (
    .aq (.cells (.x 10) s) (
    .aq (.cells (.x 9) s) (
    .aq (.cells (.x 10) s) (
    .op (.ib (.x 2) [(.x 9),(.x 10)] false) (
    .op (.un .not (.x 11)) (
    .ite (.x 12)
     (.cM (.cM (.ret [(.c (.v (.bool false)))])))
     (.op (.bin .add (.x 7) (.c (.v (.int .i64 1)))) (
     .jump [(.x 13)])))))))))))))
    (.cM (.jump [])))))) (
 .ret [(.c (.v (.bool true)))])))))
theorem aOf{P:Program}{L:AX->SS->List AV->Prop}{α:Type}{av:α->AV}{s:Nat}{g:FuncId}{bl:List AV}{l m:List α}(p:α->α->Bool)(hs:∀x,(av x).isAgg=true/\(av x).cells.length=s/\(av x).storable=true)
  (hl:l.length<=1073741824) (hc:∀x∈l,∀y∈m,aW P g (av x::av y::bl) (.v (.bool (p x y)))):
  cL P L (λ a=>a= .v (.bool (qD p l m))) (aOK s) [.sl (l.map av),.sl (m.map av),.fn g bl] []:=by
 simp only[aOK,WA,seval];refine aP (λ h=> ?_) (λ h=> ?_)
 ·simp only[agc p l m (by omega),WA,seval]
 ·have hlm:l.length=m.length:=by omega
  simp only[WA,seval];refine aw ?_;simp only[WA,seval];refine sj l.length (λ i=>qD p l m=qD p (l.drop i) (m.drop i)) (λ i=>[.v (.int .i64 i)]) rfl rfl λ i hi hI=> ?_
  simp only[WA,seval];refine aC (λ h=> ?_) (λ h=> ?_)
  ·have aK:i<l.length:=by omega
   have dm:i<m.length:=by omega
   obtain⟨x1,x2,x3⟩:=hs l[i];obtain⟨y1,y2,y3⟩:=hs m[i];rw[vi aK,vi dm,qD]at hI;simp only[WA,seval];refine fS av aK x2 ?_;simp only[x1,x2,x3,WA,seval];refine fS av dm y2 ?_;simp only[x1,x2,x3,y1,y2,y3,WA,seval];refine aJ (hc _ (getElem_mem aK) _ (getElem_mem dm)) ?_;simp only[WA,seval];refine aA (λ h=> ?_) (λ h=> ?_)
   ·have h:p l[i] m[i]=false:=by simpa using h
    simp only[h,Bool.false_and]at hI;simp only[hI,WA,seval]
   ·have h:p l[i] m[i]=true:=by simpa using h
    simp only[h,Bool.true_and]at hI;simp(disch:=omega) only[aI,WA,seval];exact⟨aK,hI⟩
  ·have he:i=l.length:=by omega
   subst he;rw[wX,hlm,wX,qD]at hI;simp only[hI,WA,seval]
theorem aBM{α:Type}(p:α->Bool)(l:List α):(!(l.any λ y=> !p y))=l.all p:=by
 induction l with
 |nil=>rfl
 |cons x l ih=>simp only[List.any_cons,List.all_cons,←ih];cases p x<;>simp
theorem avb{a b:Bool}(h:a=true↔b=true):AV.v (.bool a)=AV.v (.bool b):=by rw[Bool.eq_iff_iff.2 h]
section
variable {P:Program} {L:AX->SS->List AV->Prop} {R:AV->Prop} {t:T} {r:List AV} {S:List (List AV->Prop)}
theorem bk{α β:Type}{init:List AV}(l:List α)(σ:Nat->β->List AV)(G:Nat->List α->β->Prop)(b0:β)(h0:init=σ 0 b0)(hG:G 0 l b0)
  (hc:∀(i:Nat) (x:α) (rest:List α) (b:β),i<l.length->l[i]? =some x->x∈l->(∀(f:α->AV) (s:Nat) (k:IntKind) (K:AV->Prop),(f x).cells.length=s->jE s (.sl (l.map f)) (.v (.int k (i:Int))) K=gn K (f x))->
   decide ((i:Int)<(l.length:Int))=true->G i (x::rest) b->cL P L R t (r++σ i b) ((λ vs=>i<l.length/\∃b',G (i+1) rest b'/\vs=σ (i+1) b')::S))
  (he:∀b,decide ((l.length:Int)<(l.length:Int))=false->G l.length [] b->cL P L R t (r++σ l.length b) ((λ _=>False)::S)):tL P L R init t r S:=by
 refine fK (ι:=Nat×β) (λ q=>q.1<=l.length/\G q.1 (l.drop q.1) q.2) (λ q=>σ q.1 q.2) (λ q=>l.length- q.1) (0,b0) ⟨zero_le _,hG⟩ h0 λ q hq=> ?_
 obtain⟨i,b⟩:=q;obtain⟨hi,hg⟩:=hq;rcases lt_or_ge i l.length with h|h
 ·have hg:G i (l[i]::l.drop (i+1)) b:=by rw[←vi h];exact hg
  refine ef (λ _ _ _ h=>h) (λ _ h=>h) t (.cons (λ vs hv=> ?_) (.refl _)) (hc i l[i] (l.drop (i+1)) b h (List.getElem?_eq_getElem h) (getElem_mem h) (λ f s k K hs=> ?_) (by simp;exact h) hg)
  ·obtain⟨_,b',h1,h2⟩:=hv;exact⟨(i+1,b'),⟨h,h1⟩,by simp only;omega,h2⟩
  ·unfold jE;have hx:(l.map f).getD (Int.toNat (i:Int)) .top=f l[i]:=by simp[List.getD,h]
   simp only[hx,hs,true_and,gn];exact propext ⟨λ q=>q.2.2,λ q=>⟨Int.natCast_nonneg i,by simp;exact h,q⟩⟩
 ·have he':i=l.length:=by simp only at hi;omega
  subst he';have hg:G l.length [] b:=by simpa using hg
  refine ef (λ _ _ _ h=>h) (λ _ h=>h) t (.cons (λ vs hv=>hv.elim) (.refl _)) (he b (by simp) hg)
theorem apE{α β:Type}{init:List AV}(l:List α)(σ:Nat->β->List AV)(G:Nat->List α->β->Prop)(b0:β){F:α->Prop}(hF:∀x∈l,F x)(h0:init=σ 0 b0)(hG:G 0 l b0)
  (hc:∀(i:Nat) (x:α) (rest:List α) (b:β),i<l.length->l[i]? =some x->x∈l->(∀(f:α->AV) (s:Nat) (k:IntKind) (K:AV->Prop),(f x).cells.length=s->jE s (.sl (l.map f)) (.v (.int k (i:Int))) K=gn K (f x))->
   decide ((i:Int)<(l.length:Int))=true->F x->G i (x::rest) b->cL P L R t (r++σ i b) ((λ vs=>i<l.length/\∃b',G (i+1) rest b'/\vs=σ (i+1) b')::S))
  (he:∀b,decide ((l.length:Int)<(l.length:Int))=false->G l.length [] b->cL P L R t (r++σ l.length b) ((λ _=>False)::S)):tL P L R init t r S:=
 bk l σ G b0 h0 hG (λ i x rest b hi hx hm ez hd hg=>hc i x rest b hi hx hm ez hd (hF x hm) hg) he
theorem ayd{α γ β:Type}{init:List AV}(l:List α)(m:List γ)(hlm:l.length=m.length)(σ:Nat->β->List AV)(G:Nat->List α->List γ->β->Prop)(b0:β)(h0:init=σ 0 b0)(hG:G 0 l m b0)
  (hc:∀(i:Nat) (x:α) (y:γ) (rest:List α) (amK:List γ) (b:β),i<l.length->x∈l->y∈m->
   (∀(f:α->AV) (s:Nat) (k:IntKind) (K:AV->Prop),(f x).cells.length=s->jE s (.sl (l.map f)) (.v (.int k (i:Int))) K=gn K (f x))->
   (∀(f:γ->AV) (s:Nat) (k:IntKind) (K:AV->Prop),(f y).cells.length=s->jE s (.sl (m.map f)) (.v (.int k (i:Int))) K=gn K (f y))->
   decide ((i:Int)<(l.length:Int))=true->decide ((i:Int)<(m.length:Int))=true->G i (x::rest) (y::amK) b->cL P L R t (r++σ i b) ((λ vs=>i<l.length/\∃b',G (i+1) rest amK b'/\vs=σ (i+1) b')::S))
  (he:∀b,decide ((l.length:Int)<(l.length:Int))=false->decide ((l.length:Int)<(m.length:Int))=false->G l.length [] [] b->cL P L R t (r++σ l.length b) ((λ _=>False)::S)):tL P L R init t r S:=by
 refine fK (ι:=Nat×β) (λ q=>q.1<=l.length/\G q.1 (l.drop q.1) (m.drop q.1) q.2) (λ q=>σ q.1 q.2) (λ q=>l.length- q.1) (0,b0) ⟨zero_le _,hG⟩ h0 λ q hq=> ?_
 obtain⟨i,b⟩:=q;obtain⟨hi,hg⟩:=hq;rcases lt_or_ge i l.length with h|h
 ·have h':i<m.length:=by omega
  have hg:G i (l[i]::l.drop (i+1)) (m[i]::m.drop (i+1)) b:=by rw[←vi h,←vi h'];exact hg
  refine ef (λ _ _ _ h=>h) (λ _ h=>h) t (.cons (λ vs hv=> ?_) (.refl _)) (hc i l[i] m[i] (l.drop (i+1)) (m.drop (i+1)) b h (getElem_mem h) (getElem_mem h') (λ f s k K hs=> ?_) (λ f s k K hs=> ?_) (by simp;exact h) (by simp;exact h') hg)
  ·obtain⟨_,b',h1,h2⟩:=hv;exact⟨(i+1,b'),⟨h,h1⟩,by simp only;omega,h2⟩
  ·unfold jE;have hx:(l.map f).getD (Int.toNat (i:Int)) .top=f l[i]:=by simp[List.getD,h]
   simp only[hx,hs,true_and,gn];exact propext ⟨λ q=>q.2.2,λ q=>⟨Int.natCast_nonneg i,by simp;exact h,q⟩⟩
  ·unfold jE;have hx:(m.map f).getD (Int.toNat (i:Int)) .top=f m[i]:=by simp[List.getD,h']
   simp only[hx,hs,true_and,gn];exact propext ⟨λ q=>q.2.2,λ q=>⟨Int.natCast_nonneg i,by simp;exact h',q⟩⟩
 ·have he':i=l.length:=by simp only at hi;omega
  subst he';have hg:G l.length [] [] b:=by rw[wX,hlm,wX]at hg;rw[hlm];exact hg
  exact ef (λ _ _ _ h=>h) (λ _ h=>h) t (.cons (λ vs hv=>hv.elim) (.refl _)) (he b (by simp) (by simp[hlm]) hg)
def bs(s:ByteArray):List Int:=s.data.toList.map λ b=>(b.toNat:Int)
theorem ald(s:ByteArray):(bs s).length=s.size:=by simp[bs]
theorem vo{s:ByteArray}{c:Int}(h:c∈bs s):0<=c/\c<256:=by
 simp only[bs,List.mem_map]at h;obtain⟨b,_,rfl⟩:=h;exact⟨by omega,by have:=b.toNat_lt;omega⟩
theorem at1{s:ByteArray}{i:Nat}{k:IntKind}{K:AV->Prop}(h:i<(bs s).length)(hk:gn K (.v (.int .u8 (bs s)[i]))):ayJ (.v (.string s)) (.v (.int k (i:Int))) K:=by
 rw[aMP];have hl:=ald s;refine⟨by omega,by omega,?_⟩
 have:(((s.data.toList.getD (Int.toNat (i:Int)) 0).toNat:Nat):Int)=(bs s)[i]:=by
  simp only[bs,Int.toNat_natCast,List.getElem_map,List.getD];have h1:i<s.data.toList.length:=by simpa [bs]using h
  rw[List.getElem?_eq_getElem h1];rfl
 rw[this];exact hk
theorem arK{c:Int}(h:0<=c)(h':c<256):IntKind.i64.wrap c=c:=cE (by omega) (by omega)
end
theorem enters_of{P:Program}{f:FuncId}(h:(match P.funcs[f]? with|some fn=>fn.body.isSome&& !(fn.name== "runtime.NumGoroutine")|none=>false)=true):Enters P f:=by
 cases hf:P.funcs[f]? with
 |none=>rw[hf]at h;cases h
 |some fn=>
  rw[hf]at h;simp only[and_eq_true]at h;exact⟨fn,hf,h.1,by simpa using h.2⟩
abbrev by1(n:Int):AV:= .v (.int .u8 n)
abbrev rk(l:List Int):List AV:=l.map by1
theorem cH(l:List Int):AV.ae (rk l)=true:=by
 induction l with
 |nil=>rfl
 |cons a l ih=>simpa [AV.ae,AV.ag]using ih
def marks(b:Nat)(n:Nat):List Int:=(List.range n).map λ i=>IntKind.u8.wrap ((b+i:Nat):Int)
def zz(n:Int):Nat:=if n<0 then(2*(-n- 1)+1).toNat else(2*n).toNat
def val:List Int->Nat
 | []=>0
 |c::r=>(c%128).toNat+128*val r
def unz(x:Nat):Int:=if x%2=1 then-((x/2:Nat):Int)- 1 else((x/2:Nat):Int)
def gs(at':Int):Nat->Nat->List Int->Int×Int×Bool
 |_,_,[]=>(0,0,false)
 |k,acc,c::r=>if 10<=k then(0,0,false)else if 127<c then gs at' (k+1) (acc+(c%128).toNat*128^k) r
  else if(0<k/\c=0)∨(k=9/\1<c)then(0,0,false)else(unz (acc+(c%128).toNat*128^k),at'+k+1,true)
inductive AV.oY:AV->AV->Prop
 |refl (a:AV):AV.oY a a
 |nil:AV.oY .an (.sl [])
 |agg (cs ds:List AV) (hl:cs.length=ds.length) (h:∀(i:Nat) (c d:AV),cs[i]? =some c->ds[i]? =some d->AV.oY c d):AV.oY (.agg cs) (.agg ds)
 |sl (xs ys:List AV) (hl:xs.length=ys.length) (h:∀(i:Nat) (x y:AV),xs[i]? =some x->ys[i]? =some y->x.cells.length=y.cells.length)
  (hc:∀(i:Nat) (x y:AV) (j:Nat) (c d:AV),xs[i]? =some x->ys[i]? =some y->x.cells[j]? =some c->y.cells[j]? =some d->AV.oY c d):AV.oY (.sl xs) (.sl ys)
theorem pJ{α β:Type}{l:List α}{m:List β}(hl:l.length=m.length){i:Nat}{y:β}(h:m[i]? =some y):∃x,l[i]? =some x:=by
 have:=(List.getElem?_eq_some_iff.1 h).1;exact⟨l[i],List.getElem?_eq_getElem (by omega)⟩
theorem AV.oY.sound{I:eW}{L:Nat->Loc}{O:List aj}{a b:AV}(h:AV.oY a b):∀{x:Value},R I L O a x->R I L O b x:=by
 induction h with
 |refl=>intro x hr;exact hr
 |nil=>intro x hr;cases hr;exact .oX _ _
 |agg cs ds hl h ih=>
  intro x hr;cases hr with
  |agg _ vs h1 h2=>
   refine .agg _ _ (by omega) λ i d y hd hy=> ?_
   obtain⟨c,hc⟩:=pJ hl hd;exact ih i c d hc hd (h2 i c y hc hy)
 |sl xs ys hl h hc ih=>
  intro x hr;cases hr with
  |oX a c=>
   have:ys= []:=by cases ys with|nil=>rfl|cons _ _=>simp at hl
   subst this;exact .oX _ _
  |sl _ bO off cap s cg h1 h2 h3 h4 h5=>
   rw[hl]
   have hg:∀(i:Nat) (y:AV) (j:Nat) (d:AV),ys[i]? =some y->y.cells[j]? =some d->∃x c,xs[i]? =some x/\x.cells[j]? =some c:=λ i y j d hy hd=>by
    obtain⟨x,hx⟩:=pJ hl hy;obtain⟨c,hcc⟩:=pJ (h i x y hx hy) hd;exact⟨x,c,hx,hcc⟩
   refine .sl ys bO off cap s cg (by omega) (by rintro rfl;exact h2 (by cases xs with|nil=>rfl|cons _ _=>simp at hl)) (λ i y hy=> ?_) (λ i y j d hy hd=> ?_) (λ i y j d hy hd=> ?_)
   ·obtain⟨x,hx⟩:=pJ hl hy;rw[←h i x y hx hy];exact h3 i x hx
   ·obtain⟨x,c,hx,hcc⟩:=hg i y j d hy hd;exact h4 i x j c hx hcc
   ·obtain⟨x,c,hx,hcc⟩:=hg i y j d hy hd;exact ih i x y j c d hx hy hcc hd (h5 i x j c hx hcc)
theorem aW.abY{P:Program}{f:FuncId}{tq bs:List AV}{res:AV}(h:aW P f bs res)(hl:tq.length=bs.length)(hle:∀(i:Nat) (a b:AV),tq[i]? =some a->bs[i]? =some b->AV.oY a b):aW P f tq res:=by
 refine⟨h.1,λ I L w vs hi hr=>h.2 I L w vs hi ⟨by rw[←hl];exact hr.1,λ i b x hb hx=> ?_⟩⟩;obtain⟨a,ha⟩:=pJ hl hb;exact(hle i _ _ ha hb).sound (hr.2 i _ x ha hx)
theorem aW.ahb{P:Program}{f:FuncId}{tq:List AV}{a b:AV}(h:aW P f tq a)(hle:AV.oY a b):aW P f tq b:=by
 refine⟨h.1,λ I L w vs hi hr=>(h.2 I L w vs hi hr).mono ?_⟩;rintro e w' ⟨y,I',L',rfl,hy,hg⟩;exact⟨y,I',L',rfl,hle.sound hy,hg⟩
theorem aBU{α:Type}{B R:List α}{y d:α}{i:Nat}(h:B.length=i):(B++y::R).getD i d=y:=by
 subst h;simp[List.getD]
theorem asc{α:Type}{B R:List α}{y z:α}{i:Nat}(h:B.length=i):(B++y::R).set i z=B++z::R:=by
 subst h;simp
def slc:List AV->List AV
 | []=>[]
 | .v _::r=>slc r
 |a::r=>a::slc r
theorem vF{e:Env}{O:List aj}:∀(rs:List ff) (acc:List AV) (M M':List AV->Prop),(∀xs,M xs->M' xs)->fm e O rs acc M->fm e O rs acc M':=by
 intro rs
 induction rs with
 |nil=>intro acc M M' hm h;exact hm _ h
 |cons r rs ih=>
  intro acc M M' hm h;cases r with
  |tmp t=>exact ih _ _ _ hm h
  |cell t n=>
   simp only[fm,ff.get]at h⊢
   split at h
   ·split at h
    ·exact⟨h.1,ih _ _ _ hm h.2⟩
    ·exact h.elim
   ·exact h.elim
mutual
theorem aan{k:Nat}{s s':Nat->Nat}(hs:∀n,n<k->s n=s' n):∀(a:AV),a.inScope k=true->a.bL s=a.bL s'
 | .top,_| .v _,_| .an,_| .xK,_=>rfl
 | .sl xs,h=>by simp only[AV.bL];rw[km hs xs (by simpa [AV.inScope]using h)]
 | .bW x f,h=>by simp only[AV.bL];rw[aan hs x (by simpa [AV.inScope]using h)]
 | .row n l,h=>by simp only[AV.bL];rw[hs n (by simpa [AV.inScope]using h)]
 | .ptr n l i f,h=>by simp only[AV.bL];rw[hs n (by simpa [AV.inScope]using h)]
 | .fn f cs,h=>by simp only[AV.bL];rw[km hs cs (by simpa [AV.inScope]using h)]
 | .agg cs,h=>by simp only[AV.bL];rw[km hs cs (by simpa [AV.inScope]using h)]
 | .aZ cs,h=>by simp only[AV.bL];rw[km hs cs (by simpa [AV.inScope]using h)]
 | .own n,h=>by simp only[AV.bL];rw[hs n (by simpa [AV.inScope]using h)]
theorem km{k:Nat}{s s':Nat->Nat}(hs:∀n,n<k->s n=s' n):∀(xs:List AV),AV.bK k xs=true->AV.mZ s xs=AV.mZ s' xs
 | [],_=>rfl
 |x::xs,h=>by
  simp only[AV.bK,and_eq_true]at h;simp only[AV.mZ];rw[aan hs x h.1,km hs xs h.2]
end
def aGn(a:AV)(O:List aj)(K:KT):Prop:=match a with
    | .v (.string s)=>K (.own O.length) (O++ [.jq (.it s 0)])
    |_=>False
theorem asZ(s:ByteArray)(O:List aj)(K:KT):aGn (.v (.string s)) O K=k1 (.own O.length) (O++ [.jq (.it s 0)]) K:=nr rfl
def aPM(t:Nat)(a:AV)(O:List aj)(K:KT):Prop:=match a with
    | .v (.string s)=>s.size<=maxLen/\K (.row O.length s.size) (O++ [.live t 1 (s.data.toList.map λ c=> .v (.int .u8 c.toNat))])
    |_=>False
def azU(s:Nat)(a b c:AV)(O:List aj)(K:KT):Prop:=match a,b,c with
 | .sl xs,.v (.int _ i),.v (.int _ j)=>0<=i/\i<=j/\j<=xs.length/\(∀y∈xs,y.cells.length=s)/\k1 (.sl (xs.take i.toNat)) O K
 |_,_,_=>False
theorem aGP(P:Program)(s:Nat)(x h m:bj)(e:Env)(O:List aj)(K:KT):wpOp P (.acQ s x h m) e O K=azU s (x.ev e) (h.ev e) (m.ev e) O K:=by simp only[wpOp,azU];cases x.ev e<;>cases h.ev e<;>cases m.ev e<;>rfl
theorem azT(s:Nat)(xs:List AV)(k k':IntKind)(i j:Int)(O:List aj)(K:KT):azU s (.sl xs) (.v (.int k i)) (.v (.int k' j)) O K=(0<=i/\i<=j/\j<=xs.length/\(∀y∈xs,y.cells.length=s)/\k1 (.sl (xs.take i.toNat)) O K):=nr rfl
theorem aBf(t:Nat)(s:ByteArray)(O:List aj)(K:KT):aPM t (.v (.string s)) O K=(s.size<=maxLen/\k1 (.row O.length s.size) (O++ [.live t 1 (s.data.toList.map λ c=> .v (.int .u8 c.toNat))]) K):=nr rfl
def ar0(neg:Bool)(a:AV)(O:List aj)(K:KT):Prop:=match a with
    | .v (.pointer none)=>K (.v (.bool (neg !=true))) O
    | .ptr n len _ _=>vY O[n]? λ _ _ xs=>xs.length=len/\K (.v (.bool (neg !=false))) O
    |_=>False
theorem api(O:List aj)(K:KT):ar0 false (.v (.pointer none)) O K=k1 (.v (.bool true)) O K:=nr rfl
theorem aph(O:List aj)(K:KT):ar0 true (.v (.pointer none)) O K=k1 (.v (.bool false)) O K:=nr rfl
theorem apg(n len i f:Nat)(O:List aj)(K:KT):ar0 false (.ptr n len i f) O K=vY O[n]? λ _ _ xs=>xs.length=len/\k1 (.v (.bool false)) O K:=nr rfl
theorem apf(n len i f:Nat)(O:List aj)(K:KT):ar0 true (.ptr n len i f) O K=vY O[n]? λ _ _ xs=>xs.length=len/\k1 (.v (.bool true)) O K:=nr rfl
def aOI(y x:AV)(t s b:Nat)(O:List aj)(K:KT):Prop:=match y with
    | .v (.string c)=>s=1/\yG O x t s b (c.data.toList.map λ c=> .v (.int .u8 c.toNat)) K
    |_=>False
theorem aAt(c:ByteArray)(x:AV)(t s b:Nat)(O:List aj)(K:KT):aOI (.v (.string c)) x t s b O K=(s=1/\yG O x t s b (c.data.toList.map λ c=> .v (.int .u8 c.toNat)) K):=nr rfl
theorem sF{P:Program}{n0:Nat}{c:ba}{Q:AX->Env->List aj->Prop}{e:Env}{O:List aj}(e':Env)(O':List aj)(h:WK n0 e O e' O')(k:mD P n0 c Q e' O'):mD P n0 (.mu c) Q e O:=⟨e',O',h,k⟩
def asG(P:Program)(n0:Nat)(rows:List (List Nat))(ops:List aQ)(Q:AX->Env->List aj->Prop)(e:Env)(O:List aj):Prop:=mD P n0 (.region (some rows) ops) Q e O
theorem aId(P:Program)(n0:Nat)(rows:List (List Nat))(ops:List aQ)(Q:AX->Env->List aj->Prop)(e:Env)(O:List aj):mD P n0 (.region (some rows) ops) Q e O=asG P n0 rows ops Q e O:=nr rfl
theorem kB{P:Program}{n0:Nat}{rows:List (List Nat)}{ops:List aQ}{Q:AX->Env->List aj->Prop}{e:Env}{O:List aj}(h:cN P ops [] e O λ ir e O=>nT rows (ops.zip ir)=true/\Q .normal e O):asG P n0 rows ops Q e O:=⟨ops,rfl,gk ops (λ a e O h=>⟨.inl h.1,h.2⟩) h⟩
theorem oG{P:Program}{n0:Nat}{rows:List (List Nat)}{ops al:List aQ}{Q:AX->Env->List aj->Prop}{e:Env}{O:List aj}(hs:al.map aQ.strip=ops.map aQ.strip)(h:cN P al [] e O λ ir e O=>nT rows (al.zip ir)=true/\Q .normal e O):asG P n0 rows ops Q e O:=⟨al,hs,gk al (λ a e O h=>⟨.inl h.1,h.2⟩) h⟩
theorem auB{P:Program}{n0:Nat}{rows:List (List Nat)}{ops al ex al':List aQ}{ord:List Nat}{p0 i0:Nat}{Q:AX->Env->List aj->Prop}{e:Env}{O:List aj}(hs:al.map aQ.strip=ops.map aQ.strip)(hs':al'.map aQ.strip=ops.map aQ.strip)(hex:ex=ord.map λ i=>al'.getD i ⟨none,none,.bD (.c .top)⟩)
  (h:cN P al [] e O λ ir e1 O1=>cN P ex [] e O (λ oA e2 O2=>zv rows (al.zip ir) al' oA ord p0 i0=true/\WK n0 e2 O2 e1 O1)/\Q .normal e1 O1):asG P n0 rows ops Q e O:=by
 subst hex;exact⟨al,hs,gk al (λ a e O h=>⟨.inr ⟨al',ord,p0,i0,hs',h.1⟩,h.2⟩) h⟩
def aiU(P:Program)(d:Option Nat)(e:Env)(r:List aQ)(acc:List lK)(Q:List lK->Env->List aj->Prop):KT:=λ x O'=>cN P r acc (cq e d x) O' Q
theorem ayB(P:Program)(d:Option Nat)(e:Env)(r:List aQ)(acc:List lK)(Q:List lK->Env->List aj->Prop)(a:AV)(O:List aj):k1 a O (aiU P d e r acc Q)=cN P r acc (cq e d a) O Q:=nr rfl
theorem amn(P:Program)(d:Option Nat)(op:gj)(e:Env)(O:List aj)(r:List aQ)(acc:List lK)(Q:List lK->Env->List aj->Prop):
 cN P (⟨none,d,op⟩::r) acc e O Q=wpOp P op e O (aiU P d e r (acc++ [eX op e O.length]) Q):=nr rfl
theorem aoQ(P:Program)(e:Env)(O:List aj)(acc:List lK)(Q:List lK->Env->List aj->Prop):cN P [] acc e O Q=Q acc e O:=nr rfl
def aOo(neg:Bool)(a b:AV)(O:List aj)(K:KT):Prop:=match a,b with
 | .v (.bool a),.v (.bool b)=>K (.v (.bool (neg !=(a==b)))) O
 |_,_=>False
theorem aC8(neg a b:Bool)(O:List aj)(K:KT):aOo neg (.v (.bool a)) (.v (.bool b)) O K=k1 (.v (.bool (neg !=(a==b)))) O K:=nr rfl
theorem aMs(P:Program)(neg:Bool)(x y:bj)(e:Env)(O:List aj)(K:KT):wpOp P (.beq neg x y) e O K=aOo neg (x.ev e) (y.ev e) O K:=nr rfl
theorem ax8{α:Type}{B R:List α}{y z:α}:(B++y::R).set B.length z=B++z::R:=asc rfl
theorem aW.any{P:Program}{f:FuncId}{args:List AV}{res:AV}(h:aW P f args res)(hn:AV.ae args=true)(hr:res.ag=true)(O:List aj):j7 P f args O res O:=by
 have:=j7.fresh h hn O;rwa [cU res hr,List.map_nil,List.append_nil]at this
theorem auI(n:Nat):(AV.own n).cells= [.own n]:=nr rfl
theorem apR(n:Nat):(AV.own n).cB=true:=nr rfl
theorem ajC(n:Nat):(AV.own n).storable=true:=nr rfl
theorem aA1{a b:AV}{cs:List AV}{i:Nat}(n:Nat)(h:i<(a::b::cs).length):ua (.agg (a::b::cs)) i (.own n)= .agg ((a::b::cs).set i (.own n)):=sH rfl h
theorem aBi(s:Nat->Nat)(n:Nat):(AV.own n).bL s= .own (s n):=nr rfl
theorem aLY(s:Nat->Nat)(x:Value):(AV.v x).bL s= .v x:=nr rfl
theorem aBj(s:Nat->Nat)(cs:List AV):(AV.agg cs).bL s= .agg (cs.map (AV.bL s)):=by simp only[AV.bL,dM]
theorem axP(s:Nat->Nat)(a:AV):(aj.own a).bL s= .own a:=nr rfl
theorem att(s:Nat->Nat):aj.dead.bL s= .dead:=nr rfl
theorem Frz.ob{O:List aj}{n:Nat}{nl:Bool}{e s:Nat}{xs:List AV}(h:O[n]? =some (fp nl e s xs))(hn:AV.ae xs=true):Frz O (.row n xs.length) (.sl xs):=by
 unfold fp at h
 split at h
 ·rename_i hh
  have:xs= []:=by cases xs with
   |nil=>rfl
   |cons a l=>simp at hh
  subst this;exact .nil n _ _ h
 ·exact .row n _ _ _ _ h rfl hn
def apc(o:PU)(xs:List AV)(O:List aj)(K:KT):Prop:=AV.ae xs=true/\puK o xs λ v=>K v O
theorem aPS(P:Program)(o:PU)(as:List bj)(e:Env)(O:List aj)(K:KT):wpOp P (.pu o as) e O K=apc o (as.map λ x=>lh O (x.ev e)) O K:=nr rfl
theorem axE(k:IntKind)(a b:Int)(O:List aj)(K:KT):apc .max [.v (.int k a),.v (.int k b)] O K=k1 (.v (.int k (max a b))) O K:=by
 have:(if a<b then b else a)=max a b:=by rw[Int.max_def];split<;>split<;>omega
 simp[apc,puK,zR,AV.ae,AV.ag,k1,this]
mutual
theorem ao7:∀a:AV,a.bL (λ n=>n)=a
 | .top| .v _| .an| .xK=>rfl
 | .sl xs=>by simp only[AV.bL];rw[qP xs]
 | .bW x f=>by simp only[AV.bL];rw[ao7 x]
 | .row n l=>rfl
 | .ptr n l i f=>rfl
 | .fn f cs=>by simp only[AV.bL];rw[qP cs]
 | .agg cs=>by simp only[AV.bL];rw[qP cs]
 | .aZ cs=>by simp only[AV.bL];rw[qP cs]
 | .own n=>rfl
theorem qP:∀xs:List AV,AV.mZ (λ n=>n) xs=xs
 | []=>rfl
 |x::xs=>by simp only[AV.mZ];rw[ao7 x,qP xs]
end
theorem amX{s:Nat->Nat}{k:Nat}(hs:∀n,n<k->s n=n){ob:aj}(h:ob.inScope k=true):ob.bL s=ob:=by
 cases ob with
 |live e z xs=>
  simp only[aj.bL];have:AV.mZ s xs=xs:=by rw[km (s':=λ n=>n) hs xs h,qP]
  rw[←dM,this]
 |jq g=>
  cases g with
  |it a b=>rfl
  |mp es=>
   have key:∀a:AV,a.inScope k=true->a.bL s=a:=λ a ha=>by
    have:AV.mZ s [a]= [a]:=by rw[km (s':=λ n=>n) hs [a] (by simpa [AV.bK]using ha),qP]
    simpa [AV.mZ]using this
   have he:=List.all_eq_true.1 (show es.all (λ p=>p.1.inScope k&&p.2.inScope k)=true from h)
   have:(es.map λ p=>(p.1.bL s,p.2.bL s))=es.map id:=List.map_congr_left λ p hp=>by
    have:=he p hp;simp only[and_eq_true]at this;rw[key _ this.1,key _ this.2];rfl
   simp only[aj.bL,qE.bL];rw[this,List.map_id]
 |_=>rfl
theorem j7.front{P:Program}{f:FuncId}{args:List AV}{O1 oS:List aj}{res:AV}(h:j7 P f args O1 res oS)(hl:oS.length=O1.length)(ha:AV.bK O1.length args=true)(hr:res.inScope O1.length=true)
  (ho:O1.all (aj.inScope O1.length)=true) (ho':oS.all (aj.inScope O1.length)=true) (B:List aj):j7 P f args (O1++B) res (oS++B):=by
 let s:Nat->Nat:=λ n=>if n<O1.length then n else B.length+n
 have hs:∀n,n<O1.length->s n=n:=λ n hn=>if_pos hn
 have gO:∀{X:List aj},X.length=O1.length->X.all (aj.inScope O1.length)=true->∀i,i<O1.length->(X++B)[s i]? =(X[i]?).map (aj.bL s):=by
  intro X hX hx i hi;rw[hs i hi,List.getElem?_append_left (by omega)];cases hq:X[i]? with
  |none=>rfl
  |some ob=>simp only[map_some];rw[amX hs (List.all_eq_true.1 hx ob (List.mem_of_getElem? hq))]
 have:=h.frame (O:=O1++B) (zK:=oS++B) s (λ i hi=>by rw[hs i hi];simp;omega) (gO rfl ho) (λ i j hi hj he=>by rw[hs i hi,hs j hj]at he;exact he)
  (λ i hi=>by show(if i<O1.length then _ else _)=_;rw[if_neg (by omega)];simp;omega) (λ a h'=>cp ha a h') (λ ob hb=>List.all_eq_true.1 ho ob hb) (by simp[hl]) (λ i hi=>gO hl ho' i (by omega)) (λ n hn cJ=> ?_)
 ·have e1:args.map (AV.bL s)=args:=by rw[←dM,km (s':=λ n=>n) hs args ha,qP]
  have e2:res.bL s=res:=by rw[aan (s':=λ n=>n) hs res hr,ao7]
  rwa [e1,e2]at this
 ·have hge:O1.length<=n:=by
    rcases lt_or_ge n O1.length with h'|h'
    ·exact(cJ n h' (hs n h')).elim
    ·exact h'
  rw[List.getElem?_append_right (by omega),List.getElem?_append_right hge,hl]
theorem j7.back{P:Program}{f:FuncId}{args:List AV}{O1 oS:List aj}{res:AV}(h:j7 P f args O1 res oS)(hl:oS.length=O1.length)(ha:AV.bK O1.length args=true)(hr:res.ag=true)
  (ho:O1.all aj.ae=true) (ho':oS.all aj.ae=true) (A:List aj):j7 P f (args.map (AV.bL λ n=>A.length+n)) (A++O1) res (A++oS):=by
 have gO:∀{X:List aj},X.all aj.ae=true->∀i,(A++X)[A.length+i]? =(X[i]?).map (aj.bL λ n=>A.length+n):=by
  intro X hx i;rw[List.getElem?_append_right (by omega),Nat.add_sub_cancel_left];cases hq:X[i]? with
  |none=>rfl
  |some ob=>simp only[map_some];rw[kq (List.all_eq_true.1 hx ob (List.mem_of_getElem? hq))]
 have:=h.frame (O:=A++O1) (zK:=A++oS) (λ n=>A.length+n) (λ i hi=>by simp;omega) (λ i _=>gO ho i) (λ i j _ _ he=>by omega)
  (λ i hi=>by simp;omega) (λ a h'=>cp ha a h') (λ ob hb=>qR (List.all_eq_true.1 ho ob hb)) (by simp[hl]) (λ i _=>gO ho' i) (λ n hn cJ=> ?_)
 ·rwa [cU res hr]at this
 ·have aK:n<A.length:=by
    rcases lt_or_ge n A.length with h'|h'
    ·exact h'
    ·have:n<A.length+O1.length:=by simpa using hn
     exact(cJ (n- A.length) (by omega) (by omega)).elim
  rw[List.getElem?_append_left aK,List.getElem?_append_left aK]
def azH(P:Program)(f:FuncId)(args:List AV)(O:List aj)(K:KT):Prop:=∃res ob,AV.ae args=true/\j7 P f args [] res [ob]/\K (res.bL λ n=>O.length+n) (O++ [ob.bL λ n=>O.length+n])
theorem aBI(P:Program)(nl:Bool)(t s:Nat)(f:FuncId)(as:List bj)(e:Env)(O:List aj)(K:KT):wpOp P (.gq nl t s f as) e O K=azH P f (as.map (bj.ev e)) O K:=nr rfl
def aw5(P:Program)(kp:List Nat)(f:FuncId)(args:List AV)(O:List aj)(K:KT):Prop:=∃res O',j7 P f args O res O'/\(∀n∈kp,O'[n]? =O[n]?)/\K res O'
theorem aBH(P:Program)(kp:List Nat)(f:FuncId)(as:List bj)(e:Env)(O:List aj)(K:KT):wpOp P (.n6 kp f as) e O K=aw5 P kp f (as.map (bj.ev e)) O K:=nr rfl
theorem kE{P:Program}{kp:List Nat}{f:FuncId}{args:List AV}{O O':List aj}{K:KT}{res:AV}(h:j7 P f args O res O')(hk:∀n∈kp,O'[n]? =O[n]?)(k:k1 res O' K):aw5 P kp f args O K:=⟨res,O',h,hk,k⟩
def tT(P:Program)(a:AV)(want:Bool)(t:Nat)(d:Option Nat)(op:gj)(r:List aQ)(acc:List lK)(e:Env)(O:List aj)(Q:List lK->Env->List aj->Prop):Prop:=match a with
 | .v (.bool b)=>
   (b=want->wpOp P op (e.set t (.v (.bool want))) O (aiU P d (e.set t (.v (.bool want))) r (acc++ [eX op (e.set t (.v (.bool want))) O.length]) Q))/\
   (b= !want->cN P r (acc++ [⟨[],.vZ⟩]) (cq (e.set t (.v (.bool (!want)))) d (.aZ [])) O Q)
 | .aZ []=>cN P r (acc++ [⟨[],.vZ⟩]) (cq e d (.aZ [])) O Q
 |_=>False
section
variable (P:Program) (t:Nat) (d:Option Nat) (op:gj) (r:List aQ) (acc:List lK) (e:Env) (O:List aj) (Q:List lK->Env->List aj->Prop)
theorem aB0(want:Bool):cN P (⟨some (t,want),d,op⟩::r) acc e O Q=tT P (e t) want t d op r acc e O Q:=by
 simp only[cN];unfold tT aiU;cases e t<;>try rfl
theorem azn:tT P (.v (.bool true)) true t d op r acc e O Q=wpOp P op (e.set t (.v (.bool true))) O (aiU P d (e.set t (.v (.bool true))) r (acc++ [eX op (e.set t (.v (.bool true))) O.length]) Q):=by simp[tT]
theorem azq:tT P (.v (.bool false)) false t d op r acc e O Q=wpOp P op (e.set t (.v (.bool false))) O (aiU P d (e.set t (.v (.bool false))) r (acc++ [eX op (e.set t (.v (.bool false))) O.length]) Q):=by simp[tT]
theorem azo:tT P (.v (.bool true)) false t d op r acc e O Q=cN P r (acc++ [⟨[],.vZ⟩]) (cq (e.set t (.v (.bool true))) d (.aZ [])) O Q:=by simp[tT]
theorem azp:tT P (.v (.bool false)) true t d op r acc e O Q=cN P r (acc++ [⟨[],.vZ⟩]) (cq (e.set t (.v (.bool false))) d (.aZ [])) O Q:=by simp[tT]
theorem aqi(want:Bool):tT P (.aZ []) want t d op r acc e O Q=cN P r (acc++ [⟨[],.vZ⟩]) (cq e d (.aZ [])) O Q:=by simp[tT]
end
def OD0:=And.intro @aId (And.intro @amn (And.intro @aoQ (And.intro @aMs (And.intro @aPS (And.intro @aB0 (And.intro @aBI (And.intro @aBH (And.intro @awT (And.intro @aoS (And.intro @aOm (And.intro @aIe (And.intro @aC4 (And.intro @awV (And.intro @aAW (And.intro @aIc (And.intro @aIb (@asS)))))))))))))))))
def OD1:=And.intro @aoP (And.intro @aC3 (And.intro @aGs (And.intro @aGt (And.intro @aGr (And.intro @aAj (And.intro @aAk (And.intro @aAi (And.intro @aB6 (And.intro @aB7 (And.intro @aB5 (And.intro @axr (And.intro @axq (And.intro @aMq (And.intro @apr (And.intro @aBL (And.intro @aMr (And.intro @aBK (And.intro @akl (@o_load)))))))))))))))))))
def OD2:=And.intro @akj (And.intro @aFu (And.intro @aMp (And.intro @axW (And.intro @vI (And.intro @aFs (And.intro @akk (And.intro @axV (And.intro @am0 (And.intro @am1 (And.intro @axU (And.intro @aps (And.intro @axX (And.intro @aFt (And.intro @axS (And.intro @axT (And.intro @aGQ (@aBJ)))))))))))))))))
def OD3:=And.intro @asa (And.intro @aeU (And.intro @ar9 (And.intro @as3 (@as4))))
def OD4:= @aGP
def OA0:=And.intro @auI (And.intro @apR (And.intro @ajC (And.intro @aA1 (And.intro @aBi (And.intro @aLY (And.intro @aBj (And.intro @axP (And.intro @att (And.intro @ayB (And.intro @aC8 (And.intro @azn (And.intro @azq (And.intro @azo (And.intro @azp (And.intro @aqi (And.intro @axE (And.intro @aB9 (And.intro @aeJ (@abz)))))))))))))))))))
def OA1:=And.intro @aeK (And.intro @aC6 (And.intro @aAl (And.intro @auT (And.intro @aAg (And.intro @auS (And.intro @jK (And.intro @sh (And.intro @uR (And.intro @xB (And.intro @aax (And.intro @xf (And.intro @aot (And.intro @aog (And.intro @aom (And.intro @aos (And.intro @asK (And.intro @aof (And.intro @aok (@aoj)))))))))))))))))))
def OA2:=And.intro @aor (And.intro @aol (And.intro @aon (And.intro @aoo (And.intro @aop (And.intro @aoq (And.intro @aoi (And.intro @aoh (And.intro @ajt (And.intro @ajs (And.intro @ajr (And.intro @arN (And.intro @arO (And.intro @anY (And.intro @vg (And.intro @tf (And.intro @asy (And.intro @ai0 (And.intro @aoB (@aqG)))))))))))))))))))
def OA3:=And.intro @afA (And.intro @ant (And.intro @aod (And.intro @aoc (And.intro @aeo (And.intro @aep (And.intro @aGX (And.intro @am8 (And.intro @ae9 (And.intro @ae8 (And.intro @atJ (And.intro @ao1 (And.intro @ad0 (And.intro @zZ (And.intro @amY (And.intro @aeT (And.intro @aiG (And.intro @asB (And.intro @xA (@aeY)))))))))))))))))))
def OA4:=And.intro @aiH (And.intro @auM (And.intro @apb (And.intro @xx (And.intro @aCA (And.intro @aCB (And.intro @aCC (And.intro @aCD (And.intro @aul (And.intro @aqw (And.intro @anZ (And.intro @eg (And.intro @jj (And.intro @aip (And.intro @aLI (And.intro @aGb (And.intro @aw1 (And.intro @aAZ (And.intro @aA0 (@aGc)))))))))))))))))))
def OA5:=And.intro @aA2 (And.intro @aw2 (And.intro @aOb (And.intro @aHO (And.intro @azv (And.intro @aCH (And.intro @aHP (And.intro @uP (And.intro @p8 (And.intro @atd (And.intro @auL (And.intro @an4 (And.intro @atr (And.intro @apn (And.intro @List.reverse_cons.{0} (And.intro @List.reverse_nil.{0} (And.intro @ne_eq.{1} (And.intro @Nat.add_eq_zero_iff (And.intro @not_false_eq_true (@Nat.one_ne_zero)))))))))))))))))))
def OA6:=And.intro @aRz (And.intro @aRA (And.intro @aGq (And.intro @azO (And.intro @aaZ (And.intro @ayA (And.intro @List.map_cons.{0,0} (And.intro @List.map_nil.{0,0} (And.intro @Option.map_some.{0,0} (And.intro @Option.map_none.{0,0} (And.intro @List.getD_cons_zero.{0} (And.intro @List.getD_cons_succ.{0} (And.intro @List.length_nil.{0} (And.intro @List.length_cons.{0} (And.intro @List.length_append.{0} (And.intro @List.length_set.{0} (And.intro @List.nil_append.{0} (And.intro @List.cons_append.{0} (And.intro @List.append_nil.{0} (@List.getElem?_cons_zero.{0})))))))))))))))))))
def OA7:=And.intro @List.getElem?_cons_succ.{0} (And.intro @List.set_cons_zero.{0} (And.intro @List.set_cons_succ.{0} (And.intro @List.drop_succ_cons.{0} (And.intro @List.drop_zero.{0} (And.intro @List.take_succ_cons.{0} (And.intro @List.take_zero.{0} (And.intro @List.replicate_succ.{0} (And.intro @List.replicate_zero.{0} (And.intro @if_true.{1} (And.intro @if_false.{1} (And.intro @ajm (And.intro @au (And.intro @af3 (And.intro @ia (And.intro @auG (And.intro @auH (And.intro @an3 (And.intro @aiY (@jy)))))))))))))))))))
def OA8:=And.intro @abL (And.intro @aiW (And.intro @apP (And.intro @apQ (And.intro @aiX (And.intro @yq (And.intro @adZ (And.intro @wH (And.intro @abq (And.intro @ajA (And.intro @ajB (And.intro @abr (And.intro @aaU (And.intro @zJ (And.intro @aHT (And.intro @apv (And.intro @am2 (And.intro @aBN (And.intro @ax1 (@atA)))))))))))))))))))
def OA9:=And.intro @aty (And.intro @apx (And.intro @ax2 (And.intro @List.all_cons.{0} (And.intro @List.all_nil.{0} (And.intro @Bool.and_true (And.intro @Bool.true_and (And.intro @Bool.or_true (And.intro @Bool.true_or (And.intro @Bool.not_true (And.intro @Bool.not_false (And.intro @decide_true (And.intro @decide_false (And.intro @aRN (And.intro @Option.getD_none.{0} (And.intro @Option.getD_some.{0} (And.intro @true_and (And.intro @and_true (And.intro @Nat.zero_add (@Nat.add_zero)))))))))))))))))))
def aR1:=And.intro @Nat.lt_add_one (And.intro @Nat.zero_lt_succ (And.intro @Nat.le_refl (And.intro @asZ (And.intro @aBf (And.intro @api (And.intro @aph (And.intro @apg (And.intro @apf (And.intro @aAt (@azT))))))))))
def OD:=And.intro @OD0 (And.intro @OD1 (And.intro @OD2 (And.intro @OD3 (@OD4))))
def OA:=And.intro @OA0 (And.intro @OA1 (And.intro @OA2 (And.intro @OA3 (And.intro @OA4 (And.intro @OA5 (And.intro @OA6 (And.intro @OA7 (And.intro @OA8 (And.intro @OA9 (@aR1))))))))))
end Go.Ab
