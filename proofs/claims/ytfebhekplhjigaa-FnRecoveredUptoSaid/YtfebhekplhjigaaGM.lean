/- Part of a proof: the functions that the law reaches, walked by the abstract logic of the texts Ab. -/
import Derived.Test.YtfebhekplhjigaaAbM5
import Derived.Test.YtfebhekplhjigaaAbM3
open Nat(zero_le le_trans lt_or_ge)
open List(map_cons sum_cons getElem_mem)
open Nat(reduceEqDiff reduceLeDiff reduceAdd reduceLT reduceMul)
set_option linter.unusedVariables false
set_option linter.unusedSimpArgs false
set_option linter.defProp false
namespace Go.Ab
set_option maxRecDepth 100000
theorem bm{n:Int}(h: -9223372036854775808<=n)(h':n<=9223372036854775807):IntKind.i64.wrap n=n:=an6 h h'
theorem aK{a b:Nat}(h:b<=a)(h':a<=4611686018427387904):IntKind.i64.wrap ((a:Int)- (b:Int))=((a- b:Nat):Int):=by
 rw[bm (by omega) (by omega)];omega
theorem aS{a b:Nat}(h:a+b<=4611686018427387904):IntKind.i64.wrap ((a:Int)+(b:Int))=((a+b:Nat):Int):=by
 rw[bm (by omega) (by omega)];omega
theorem au{a:Nat}(h:a<=4611686018427387904):IntKind.i64.wrap ((a:Int)+1)=((a+1:Nat):Int):=by
 rw[bm (by omega) (by omega)];omega
theorem dJ(n:Nat):decide ((n:Int)<0)=false:=by simp
theorem getM{α:Type}(f:α->AV){l:List α}{i:Nat}(h:i<l.length):(l.map f)[i]? =some (f l[i]):=by simp[h]
theorem nP{α:Type}(f:α->AV){l:List α}{s n:Nat}{k:IntKind}{K:AV->Prop}(h:n<l.length)(hs:(f l[n]).cells.length=s)(hk:e7 K (f l[n])):kK s (.sl (l.map f)) (.v (.int k (n:Int))) K:=
 oF _ (getM f h) hs hk
theorem bH{α:Type}{f:α->AV}{l:List α}(h:∀x,(f x).ag=true):AV.ad (l.map f)=true:=fF λ a ha=>by
 obtain⟨x,_,rfl⟩:=List.mem_map.1 ha;exact h x
section
variable {P:Program} {L:AX->SS->List AV->Prop} {R:AV->Prop} {t:T} {r:List AV} {S:List (List AV->Prop)}
theorem abJ{init:List AV}(n:Nat)(σ:Nat->List AV)(h0:init=σ 0)
  (hr:∀i,i<=n->bF P L R t (r++σ i) ((λ vs=>i<n/\vs=σ (i+1))::S)):qL P L R init t r S:=by
 refine dk (ι:=Nat) (λ i=>i<=n) σ (λ i=>n- i) 0 (zero_le _) h0 λ i hi=> ?_
 refine dz (λ _ _ _ h=>h) (λ _ h=>h) t (.cons (λ vs hv=> ?_) (.refl _)) (hr i hi);exact⟨i+1,hv.1,by have:=hv.1;omega,hv.2⟩
end
abbrev aA(n:Int):AV:= .v (.int .i64 n)
abbrev ch(s:ByteArray):AV:= .v (.string s)
end Go.Ab
namespace Go.Ab
set_option maxRecDepth 100000
def l9(n:Int):Prop:= -9223372036854775808<=n/\n<=9223372036854775807
theorem ca{α:Type}(w:α->Nat){l:List α}{x:α}(h:x∈l):w x<=(l.map w).sum:=by
 induction l with
 |nil=>simp at h
 |cons a l ih=>
  simp only[map_cons,sum_cons];rcases List.mem_cons.1 h with rfl|h
  ·omega
  ·have:=ih h;omega
inductive cY where
 |mk (Kind:Int) (Text:ByteArray) (lN:Int) (Pos:Int)
def cY.Kind:cY->Int
 | .mk a _ _ _=>a
def cY.Text:cY->ByteArray
 | .mk _ a _ _=>a
def cY.lN:cY->Int
 | .mk _ _ a _=>a
def cY.Pos:cY->Int
 | .mk _ _ _ a=>a
def cY.cs:cY->List AV
 | .mk Kind Text lN Pos=>(.v (.int .i64 Kind)::(.v (.string Text)::(.v (.int .i64 lN)::(.v (.int .i64 Pos):: []))))
def cY.av(x:cY):AV:= .agg x.cs
def cY.wt:cY->Nat
 | .mk Kind Text lN Pos=>Text.size
theorem cY.aN:∀x:cY,AV.ad x.cs=true
 | .mk Kind Text lN Pos=>by simp[cY.cs,AV.ad,AV.ag,aG]
theorem cY.ag(x:cY):x.av.ag=true:=cY.aN x
theorem cY.bg(x:cY):x.wt=x.Text.size:=by
 cases x;simp only[cY.wt,cY.Kind,cY.Text,cY.lN,cY.Pos]
theorem cY.facts{l:List cY}{b:Nat}(h:(l.map cY.wt).sum<=b):∀x∈l,x.wt<=b/\x.wt=x.Text.size:=λ x hx=>⟨le_trans (ca cY.wt hx) h,x.bg⟩
inductive da where
 |mk (Kind:Int) (Name:ByteArray) (lN:Int) (Pos:Int) (Kids:List da)
def da.Kind:da->Int
 | .mk a _ _ _ _=>a
def da.Name:da->ByteArray
 | .mk _ a _ _ _=>a
def da.lN:da->Int
 | .mk _ _ a _ _=>a
def da.Pos:da->Int
 | .mk _ _ _ a _=>a
def da.Kids:da->List da
 | .mk _ _ _ _ a=>a
mutual
def da.cs:da->List AV
 | .mk Kind Name lN Pos Kids=>(.v (.int .i64 Kind)::(.v (.string Name)::(.v (.int .i64 lN)::(.v (.int .i64 Pos)::(.sl (da.eM Kids):: [])))))
def da.eM:List da->List AV
 | []=>[]
 |x::l=> .agg x.cs::da.eM l
end
def da.av(x:da):AV:= .agg x.cs
mutual
def da.wt:da->Nat
 | .mk Kind Name lN Pos Kids=>Name.size+(Kids.length+da.mD Kids)
def da.mD:List da->Nat
 | []=>0
 |x::l=>x.wt+da.mD l
end
theorem da.fo(l:List da):da.mD l=(l.map da.wt).sum:=by
 induction l with
 |nil=>rfl
 |cons x l ih=>simp only[da.mD,ih,map_cons,sum_cons]
mutual
theorem da.aN:∀x:da,AV.ad x.cs=true
 | .mk Kind Name lN Pos Kids=>by simp[da.cs,AV.ad,AV.ag,aG,da.cQ Kids]
theorem da.cQ:∀l:List da,AV.ad (da.eM l)=true
 | []=>rfl
 |x::l=>by simp[da.eM,AV.ad,AV.ag,da.aN x,da.cQ l]
end
theorem da.ag(x:da):x.av.ag=true:=da.aN x
theorem da.bg(x:da):x.wt=x.Name.size+(x.Kids.length+(x.Kids.map da.wt).sum):=by
 cases x;simp only[da.wt,da.fo,da.Kind,da.Name,da.lN,da.Pos,da.Kids]
theorem da.facts{l:List da}{b:Nat}(h:(l.map da.wt).sum<=b):∀x∈l,x.wt<=b/\x.wt=x.Name.size+(x.Kids.length+(x.Kids.map da.wt).sum):=λ x hx=>⟨le_trans (ca da.wt hx) h,x.bg⟩
mutual
inductive cH where
 |mk (Kind:Int) (Name:ByteArray) (lN:Int) (Text:ByteArray) (Pos:Int) (Kids:List cH) (kc:List ej)
inductive ej where
 |mk (P:da) (E:cH)
end
def cH.Kind:cH->Int
 | .mk a _ _ _ _ _ _=>a
def cH.Name:cH->ByteArray
 | .mk _ a _ _ _ _ _=>a
def cH.lN:cH->Int
 | .mk _ _ a _ _ _ _=>a
def cH.Text:cH->ByteArray
 | .mk _ _ _ a _ _ _=>a
def cH.Pos:cH->Int
 | .mk _ _ _ _ a _ _=>a
def cH.Kids:cH->List cH
 | .mk _ _ _ _ _ a _=>a
def cH.kc:cH->List ej
 | .mk _ _ _ _ _ _ a=>a
def ej.P:ej->da
 | .mk a _=>a
def ej.E:ej->cH
 | .mk _ a=>a
mutual
def cH.cs:cH->List AV
 | .mk Kind Name lN Text Pos Kids kc=>(.v (.int .i64 Kind)::(.v (.string Name)::(.v (.int .i64 lN)::(.v (.string Text)::(.v (.int .i64 Pos)::(.sl (cH.eM Kids)::(.sl (ej.eM kc):: [])))))))
def ej.cs:ej->List AV
 | .mk P E=>(P.cs++(E.cs++ []))
def cH.eM:List cH->List AV
 | []=>[]
 |x::l=> .agg x.cs::cH.eM l
def ej.eM:List ej->List AV
 | []=>[]
 |x::l=> .agg x.cs::ej.eM l
end
def cH.av(x:cH):AV:= .agg x.cs
def ej.av(x:ej):AV:= .agg x.cs
mutual
def cH.wt:cH->Nat
 | .mk Kind Name lN Text Pos Kids kc=>Name.size+Text.size+(Kids.length+cH.mD Kids)+(kc.length+ej.mD kc)
def ej.wt:ej->Nat
 | .mk P E=>P.wt+E.wt
def cH.mD:List cH->Nat
 | []=>0
 |x::l=>x.wt+cH.mD l
def ej.mD:List ej->Nat
 | []=>0
 |x::l=>x.wt+ej.mD l
end
theorem cH.fo(l:List cH):cH.mD l=(l.map cH.wt).sum:=by
 induction l with
 |nil=>rfl
 |cons x l ih=>simp only[cH.mD,ih,map_cons,sum_cons]
theorem ej.fo(l:List ej):ej.mD l=(l.map ej.wt).sum:=by
 induction l with
 |nil=>rfl
 |cons x l ih=>simp only[ej.mD,ih,map_cons,sum_cons]
mutual
theorem cH.aN:∀x:cH,AV.ad x.cs=true
 | .mk Kind Name lN Text Pos Kids kc=>by simp[cH.cs,AV.ad,AV.ag,aG,cH.cQ Kids,ej.cQ kc]
theorem ej.aN:∀x:ej,AV.ad x.cs=true
 | .mk P E=>by simp[ej.cs,AV.ad,AV.ag,aG,da.aN P,cH.aN E]
theorem cH.cQ:∀l:List cH,AV.ad (cH.eM l)=true
 | []=>rfl
 |x::l=>by simp[cH.eM,AV.ad,AV.ag,cH.aN x,cH.cQ l]
theorem ej.cQ:∀l:List ej,AV.ad (ej.eM l)=true
 | []=>rfl
 |x::l=>by simp[ej.eM,AV.ad,AV.ag,ej.aN x,ej.cQ l]
end
theorem cH.ag(x:cH):x.av.ag=true:=cH.aN x
theorem cH.bg(x:cH):x.wt=x.Name.size+x.Text.size+(x.Kids.length+(x.Kids.map cH.wt).sum)+(x.kc.length+(x.kc.map ej.wt).sum):=by
 cases x;simp only[cH.wt,cH.fo,ej.fo,cH.Kind,cH.Name,cH.lN,cH.Text,cH.Pos,cH.Kids,cH.kc]
theorem cH.facts{l:List cH}{b:Nat}(h:(l.map cH.wt).sum<=b):∀x∈l,x.wt<=b/\x.wt=x.Name.size+x.Text.size+(x.Kids.length+(x.Kids.map cH.wt).sum)+(x.kc.length+(x.kc.map ej.wt).sum):=λ x hx=>⟨le_trans (ca cH.wt hx) h,x.bg⟩
theorem ej.ag(x:ej):x.av.ag=true:=ej.aN x
theorem ej.bg(x:ej):x.wt=x.P.wt+x.E.wt:=by
 cases x;simp only[ej.wt,cH.fo,ej.fo,ej.P,ej.E]
theorem ej.facts{l:List ej}{b:Nat}(h:(l.map ej.wt).sum<=b):∀x∈l,x.wt<=b/\x.wt=x.P.wt+x.E.wt:=λ x hx=>⟨le_trans (ca ej.wt hx) h,x.bg⟩
inductive aH where
 |mk (Kind:Int) (Name:ByteArray) (Pos:Int) (Kids:List aH)
def aH.Kind:aH->Int
 | .mk a _ _ _=>a
def aH.Name:aH->ByteArray
 | .mk _ a _ _=>a
def aH.Pos:aH->Int
 | .mk _ _ a _=>a
def aH.Kids:aH->List aH
 | .mk _ _ _ a=>a
mutual
def aH.cs:aH->List AV
 | .mk Kind Name Pos Kids=>(.v (.int .i64 Kind)::(.v (.string Name)::(.v (.int .i64 Pos)::(.sl (aH.eM Kids):: []))))
def aH.eM:List aH->List AV
 | []=>[]
 |x::l=> .agg x.cs::aH.eM l
end
def aH.av(x:aH):AV:= .agg x.cs
mutual
def aH.wt:aH->Nat
 | .mk Kind Name Pos Kids=>Name.size+(Kids.length+aH.mD Kids)
def aH.mD:List aH->Nat
 | []=>0
 |x::l=>x.wt+aH.mD l
end
theorem aH.fo(l:List aH):aH.mD l=(l.map aH.wt).sum:=by
 induction l with
 |nil=>rfl
 |cons x l ih=>simp only[aH.mD,ih,map_cons,sum_cons]
mutual
theorem aH.aN:∀x:aH,AV.ad x.cs=true
 | .mk Kind Name Pos Kids=>by simp[aH.cs,AV.ad,AV.ag,aG,aH.cQ Kids]
theorem aH.cQ:∀l:List aH,AV.ad (aH.eM l)=true
 | []=>rfl
 |x::l=>by simp[aH.eM,AV.ad,AV.ag,aH.aN x,aH.cQ l]
end
theorem aH.ag(x:aH):x.av.ag=true:=aH.aN x
theorem aH.bg(x:aH):x.wt=x.Name.size+(x.Kids.length+(x.Kids.map aH.wt).sum):=by
 cases x;simp only[aH.wt,aH.fo,aH.Kind,aH.Name,aH.Pos,aH.Kids]
theorem aH.facts{l:List aH}{b:Nat}(h:(l.map aH.wt).sum<=b):∀x∈l,x.wt<=b/\x.wt=x.Name.size+(x.Kids.length+(x.Kids.map aH.wt).sum):=λ x hx=>⟨le_trans (ca aH.wt hx) h,x.bg⟩
inductive dq where
 |mk (Name:ByteArray) (Has:Bool) (Arg:aH) (Pos:Int)
def dq.Name:dq->ByteArray
 | .mk a _ _ _=>a
def dq.Has:dq->Bool
 | .mk _ a _ _=>a
def dq.Arg:dq->aH
 | .mk _ _ a _=>a
def dq.Pos:dq->Int
 | .mk _ _ _ a=>a
def dq.cs:dq->List AV
 | .mk Name Has Arg Pos=>(.v (.string Name)::(.v (.bool Has)::(Arg.cs++(.v (.int .i64 Pos):: []))))
def dq.av(x:dq):AV:= .agg x.cs
def dq.wt:dq->Nat
 | .mk Name Has Arg Pos=>Name.size+Arg.wt
theorem dq.aN:∀x:dq,AV.ad x.cs=true
 | .mk Name Has Arg Pos=>by simp[dq.cs,AV.ad,AV.ag,aG,aH.aN Arg]
theorem dq.ag(x:dq):x.av.ag=true:=dq.aN x
theorem dq.bg(x:dq):x.wt=x.Name.size+x.Arg.wt:=by
 cases x;simp only[dq.wt,dq.Name,dq.Has,dq.Arg,dq.Pos]
theorem dq.facts{l:List dq}{b:Nat}(h:(l.map dq.wt).sum<=b):∀x∈l,x.wt<=b/\x.wt=x.Name.size+x.Arg.wt:=λ x hx=>⟨le_trans (ca dq.wt hx) h,x.bg⟩
inductive dp where
 |mk (Name:ByteArray) (j9:List ByteArray) (fK:List dq) (Pos:Int)
def dp.Name:dp->ByteArray
 | .mk a _ _ _=>a
def dp.j9:dp->List ByteArray
 | .mk _ a _ _=>a
def dp.fK:dp->List dq
 | .mk _ _ a _=>a
def dp.Pos:dp->Int
 | .mk _ _ _ a=>a
def dp.cs:dp->List AV
 | .mk Name j9 fK Pos=>(.v (.string Name)::(.sl (j9.map λ x=> .v (.string x))::(.sl (fK.map dq.av)::(.v (.int .i64 Pos):: []))))
def dp.av(x:dp):AV:= .agg x.cs
def dp.wt:dp->Nat
 | .mk Name j9 fK Pos=>Name.size+(j9.length+(j9.map λ x=>x.size).sum)+(fK.length+(fK.map dq.wt).sum)
theorem dp.aN:∀x:dp,AV.ad x.cs=true
 | .mk Name j9 fK Pos=>by simp[dp.cs,AV.ad,AV.ag,aG,bH (f:=λ x=> .v (.string x)) (l:=j9) (λ _=>rfl),bH (f:=dq.av) (l:=fK) dq.ag]
theorem dp.ag(x:dp):x.av.ag=true:=dp.aN x
theorem dp.bg(x:dp):x.wt=x.Name.size+(x.j9.length+(x.j9.map λ x=>x.size).sum)+(x.fK.length+(x.fK.map dq.wt).sum):=by
 cases x;simp only[dp.wt,dp.Name,dp.j9,dp.fK,dp.Pos]
theorem dp.facts{l:List dp}{b:Nat}(h:(l.map dp.wt).sum<=b):∀x∈l,x.wt<=b/\x.wt=x.Name.size+(x.j9.length+(x.j9.map λ x=>x.size).sum)+(x.fK.length+(x.fK.map dq.wt).sum):=λ x hx=>⟨le_trans (ca dp.wt hx) h,x.bg⟩
inductive gy where
 |mk (Types:List dp) (Body:cH)
def gy.Types:gy->List dp
 | .mk a _=>a
def gy.Body:gy->cH
 | .mk _ a=>a
def gy.cs:gy->List AV
 | .mk Types Body=>(.sl (Types.map dp.av)::(Body.cs++ []))
def gy.av(x:gy):AV:= .agg x.cs
def gy.wt:gy->Nat
 | .mk Types Body=>(Types.length+(Types.map dp.wt).sum)+Body.wt
theorem gy.aN:∀x:gy,AV.ad x.cs=true
 | .mk Types Body=>by simp[gy.cs,AV.ad,AV.ag,aG,bH (f:=dp.av) (l:=Types) dp.ag,cH.aN Body]
theorem gy.ag(x:gy):x.av.ag=true:=gy.aN x
theorem gy.bg(x:gy):x.wt=(x.Types.length+(x.Types.map dp.wt).sum)+x.Body.wt:=by
 cases x;simp only[gy.wt,gy.Types,gy.Body]
theorem gy.facts{l:List gy}{b:Nat}(h:(l.map gy.wt).sum<=b):∀x∈l,x.wt<=b/\x.wt=(x.Types.length+(x.Types.map dp.wt).sum)+x.Body.wt:=λ x hx=>⟨le_trans (ca gy.wt hx) h,x.bg⟩
inductive aa where
 |mk (Kind:Int) (N:Int) (Name:ByteArray) (Kids:List aa)
def aa.Kind:aa->Int
 | .mk a _ _ _=>a
def aa.N:aa->Int
 | .mk _ a _ _=>a
def aa.Name:aa->ByteArray
 | .mk _ _ a _=>a
def aa.Kids:aa->List aa
 | .mk _ _ _ a=>a
theorem aa.wz(Kind:Int)(N:Int)(Name:ByteArray)(Kids:List aa):(aa.mk Kind N Name Kids).Kind=Kind:=nr rfl
theorem aa.aqq(Kind:Int)(N:Int)(Name:ByteArray)(Kids:List aa):(aa.mk Kind N Name Kids).N=N:=nr rfl
theorem aa.iL(Kind:Int)(N:Int)(Name:ByteArray)(Kids:List aa):(aa.mk Kind N Name Kids).Name=Name:=nr rfl
theorem aa.eR(Kind:Int)(N:Int)(Name:ByteArray)(Kids:List aa):(aa.mk Kind N Name Kids).Kids=Kids:=nr rfl
mutual
def aa.cs:aa->List AV
 | .mk Kind N Name Kids=>(.v (.int .i64 Kind)::(.v (.int .i64 N)::(.v (.string Name)::(.sl (aa.eM Kids):: []))))
def aa.eM:List aa->List AV
 | []=>[]
 |x::l=> .agg x.cs::aa.eM l
end
def aa.av(x:aa):AV:= .agg x.cs
theorem aa.aum(l:List aa):aa.eM l=l.map aa.av:=by
 induction l with
 |nil=>rfl
 |cons x l ih=>simp only[aa.eM,ih,map_cons,aa.av]
mutual
def aa.wt:aa->Nat
 | .mk Kind N Name Kids=>Name.size+(Kids.length+aa.mD Kids)
def aa.mD:List aa->Nat
 | []=>0
 |x::l=>x.wt+aa.mD l
end
theorem aa.fo(l:List aa):aa.mD l=(l.map aa.wt).sum:=by
 induction l with
 |nil=>rfl
 |cons x l ih=>simp only[aa.mD,ih,map_cons,sum_cons]
mutual
def aa.ok:aa->Prop
 | .mk Kind N Name Kids=>l9 Kind/\l9 N/\aa.oks Kids
def aa.oks:List aa->Prop
 | []=>True
 |x::l=>x.ok/\aa.oks l
end
theorem aa.aoT(l:List aa):aa.oks l↔∀y∈l,y.ok:=by
 induction l with
 |nil=>simp[aa.oks]
 |cons x l ih=>simp[aa.oks,ih]
mutual
theorem aa.aN:∀x:aa,AV.ad x.cs=true
 | .mk Kind N Name Kids=>by simp[aa.cs,AV.ad,AV.ag,aG,aa.cQ Kids]
theorem aa.cQ:∀l:List aa,AV.ad (aa.eM l)=true
 | []=>rfl
 |x::l=>by simp[aa.eM,AV.ad,AV.ag,aa.aN x,aa.cQ l]
end
theorem aa.ag(x:aa):x.av.ag=true:=aa.aN x
theorem aa.isAgg(x:aa):x.av.isAgg=true:=nr rfl
theorem aa.arh(x:aa):x.cs= [.v (.int .i64 x.Kind),.v (.int .i64 x.N),.v (.string x.Name),.sl (x.Kids.map aa.av)]:=by
 obtain⟨Kind,N,Name,Kids⟩:=x;simp only[aa.cs,aa.Kids,aa.Kind,aa.N,aa.Name,aa.aum,List.cons_append,List.nil_append]
theorem aa.cells(x:aa):x.av.cells= [.v (.int .i64 x.Kind),.v (.int .i64 x.N),.v (.string x.Name),.sl (x.Kids.map aa.av)]:=aa.arh x
theorem aa.width(x:aa):x.av.cells.length=4:=by rw[aa.cells];rfl
theorem aa.storable(x:aa):x.av.storable=true:=by unfold AV.storable;rw[aa.cells];rfl
theorem aa.eta(x:aa):AV.agg [.v (.int .i64 x.Kind),.v (.int .i64 x.N),.v (.string x.Name),.sl (x.Kids.map aa.av)]=x.av:=by
 show _=AV.agg x.cs;rw[aa.arh]
theorem aa.shape(x:aa):x.av.isAgg=true/\x.av.cells.length=4/\x.av.storable=true:=⟨rfl,aa.width x,aa.storable x⟩
theorem aa.bg(x:aa):x.wt=x.Name.size+(x.Kids.length+(x.Kids.map aa.wt).sum):=by
 cases x;simp only[aa.wt,aa.fo,aa.Kind,aa.N,aa.Name,aa.Kids]
theorem aa.facts{l:List aa}{b:Nat}(h:(l.map aa.wt).sum<=b):∀x∈l,x.wt<=b/\x.wt=x.Name.size+(x.Kids.length+(x.Kids.map aa.wt).sum):=λ x hx=>⟨le_trans (ca aa.wt hx) h,x.bg⟩
theorem aa.od(x:aa):x.ok↔l9 x.Kind/\l9 x.N/\(∀y∈x.Kids,y.ok):=by
 cases x;simp only[aa.ok,aa.aoT,aa.Kind,aa.N,aa.Name,aa.Kids]
theorem aa.cP{x:aa}{y:aa}(h:y∈x.Kids):SizeOf.sizeOf y<SizeOf.sizeOf x:=by
 cases x;have:=List.sizeOf_lt_of_mem h;simp only[aa.Kids]at this;simp;omega
inductive bd where
 |mk (Name:ByteArray) (Has:Bool) (Arg:aa)
def bd.Name:bd->ByteArray
 | .mk a _ _=>a
def bd.Has:bd->Bool
 | .mk _ a _=>a
def bd.Arg:bd->aa
 | .mk _ _ a=>a
def bd.cs:bd->List AV
 | .mk Name Has Arg=>(.v (.string Name)::(.v (.bool Has)::(Arg.cs++ [])))
def bd.av(x:bd):AV:= .agg x.cs
def bd.wt:bd->Nat
 | .mk Name Has Arg=>Name.size+Arg.wt
theorem bd.aN:∀x:bd,AV.ad x.cs=true
 | .mk Name Has Arg=>by simp[bd.cs,AV.ad,AV.ag,aG,aa.aN Arg]
theorem bd.ag(x:bd):x.av.ag=true:=bd.aN x
theorem bd.bg(x:bd):x.wt=x.Name.size+x.Arg.wt:=by
 cases x;simp only[bd.wt,bd.Name,bd.Has,bd.Arg]
theorem bd.facts{l:List bd}{b:Nat}(h:(l.map bd.wt).sum<=b):∀x∈l,x.wt<=b/\x.wt=x.Name.size+x.Arg.wt:=λ x hx=>⟨le_trans (ca bd.wt hx) h,x.bg⟩
inductive bG where
 |mk (Name:ByteArray) (j9:Int) (fK:List bd)
def bG.Name:bG->ByteArray
 | .mk a _ _=>a
def bG.j9:bG->Int
 | .mk _ a _=>a
def bG.fK:bG->List bd
 | .mk _ _ a=>a
def bG.cs:bG->List AV
 | .mk Name j9 fK=>(.v (.string Name)::(.v (.int .i64 j9)::(.sl (fK.map bd.av):: [])))
def bG.av(x:bG):AV:= .agg x.cs
def bG.wt:bG->Nat
 | .mk Name j9 fK=>Name.size+(fK.length+(fK.map bd.wt).sum)
theorem bG.aN:∀x:bG,AV.ad x.cs=true
 | .mk Name j9 fK=>by simp[bG.cs,AV.ad,AV.ag,aG,bH (f:=bd.av) (l:=fK) bd.ag]
theorem bG.ag(x:bG):x.av.ag=true:=bG.aN x
theorem bG.bg(x:bG):x.wt=x.Name.size+(x.fK.length+(x.fK.map bd.wt).sum):=by
 cases x;simp only[bG.wt,bG.Name,bG.j9,bG.fK]
theorem bG.facts{l:List bG}{b:Nat}(h:(l.map bG.wt).sum<=b):∀x∈l,x.wt<=b/\x.wt=x.Name.size+(x.fK.length+(x.fK.map bd.wt).sum):=λ x hx=>⟨le_trans (ca bG.wt hx) h,x.bg⟩
inductive bR where
 |mk (Kind:Int) (lN:Int) (Name:ByteArray) (T:aa) (Kids:List bR)
def bR.Kind:bR->Int
 | .mk a _ _ _ _=>a
def bR.lN:bR->Int
 | .mk _ a _ _ _=>a
def bR.Name:bR->ByteArray
 | .mk _ _ a _ _=>a
def bR.T:bR->aa
 | .mk _ _ _ a _=>a
def bR.Kids:bR->List bR
 | .mk _ _ _ _ a=>a
mutual
def bR.cs:bR->List AV
 | .mk Kind lN Name T Kids=>(.v (.int .i64 Kind)::(.v (.int .i64 lN)::(.v (.string Name)::(T.cs++(.sl (bR.eM Kids):: [])))))
def bR.eM:List bR->List AV
 | []=>[]
 |x::l=> .agg x.cs::bR.eM l
end
def bR.av(x:bR):AV:= .agg x.cs
mutual
def bR.wt:bR->Nat
 | .mk Kind lN Name T Kids=>Name.size+T.wt+(Kids.length+bR.mD Kids)
def bR.mD:List bR->Nat
 | []=>0
 |x::l=>x.wt+bR.mD l
end
theorem bR.fo(l:List bR):bR.mD l=(l.map bR.wt).sum:=by
 induction l with
 |nil=>rfl
 |cons x l ih=>simp only[bR.mD,ih,map_cons,sum_cons]
mutual
theorem bR.aN:∀x:bR,AV.ad x.cs=true
 | .mk Kind lN Name T Kids=>by simp[bR.cs,AV.ad,AV.ag,aG,aa.aN T,bR.cQ Kids]
theorem bR.cQ:∀l:List bR,AV.ad (bR.eM l)=true
 | []=>rfl
 |x::l=>by simp[bR.eM,AV.ad,AV.ag,bR.aN x,bR.cQ l]
end
theorem bR.ag(x:bR):x.av.ag=true:=bR.aN x
theorem bR.bg(x:bR):x.wt=x.Name.size+x.T.wt+(x.Kids.length+(x.Kids.map bR.wt).sum):=by
 cases x;simp only[bR.wt,bR.fo,bR.Kind,bR.lN,bR.Name,bR.T,bR.Kids]
theorem bR.facts{l:List bR}{b:Nat}(h:(l.map bR.wt).sum<=b):∀x∈l,x.wt<=b/\x.wt=x.Name.size+x.T.wt+(x.Kids.length+(x.Kids.map bR.wt).sum):=λ x hx=>⟨le_trans (ca bR.wt hx) h,x.bg⟩
mutual
inductive bo where
 |mk (Kind:Int) (N:Int) (lN:Int) (Text:ByteArray) (Name:ByteArray) (T:aa) (Ts:List aa) (Kids:List bo) (kc:List cu)
inductive cu where
 |mk (P:bR) (E:bo)
end
def bo.Kind:bo->Int
 | .mk a _ _ _ _ _ _ _ _=>a
def bo.N:bo->Int
 | .mk _ a _ _ _ _ _ _ _=>a
def bo.lN:bo->Int
 | .mk _ _ a _ _ _ _ _ _=>a
def bo.Text:bo->ByteArray
 | .mk _ _ _ a _ _ _ _ _=>a
def bo.Name:bo->ByteArray
 | .mk _ _ _ _ a _ _ _ _=>a
def bo.T:bo->aa
 | .mk _ _ _ _ _ a _ _ _=>a
def bo.Ts:bo->List aa
 | .mk _ _ _ _ _ _ a _ _=>a
def bo.Kids:bo->List bo
 | .mk _ _ _ _ _ _ _ a _=>a
def bo.kc:bo->List cu
 | .mk _ _ _ _ _ _ _ _ a=>a
def cu.P:cu->bR
 | .mk a _=>a
def cu.E:cu->bo
 | .mk _ a=>a
mutual
def bo.cs:bo->List AV
 | .mk Kind N lN Text Name T Ts Kids kc=>(.v (.int .i64 Kind)::(.v (.int .i64 N)::(.v (.int .i64 lN)::(.v (.string Text)::(.v (.string Name)::(T.cs++(.sl (Ts.map aa.av)::(.sl (bo.eM Kids)::(.sl (cu.eM kc):: [])))))))))
def cu.cs:cu->List AV
 | .mk P E=>(P.cs++(E.cs++ []))
def bo.eM:List bo->List AV
 | []=>[]
 |x::l=> .agg x.cs::bo.eM l
def cu.eM:List cu->List AV
 | []=>[]
 |x::l=> .agg x.cs::cu.eM l
end
def bo.av(x:bo):AV:= .agg x.cs
def cu.av(x:cu):AV:= .agg x.cs
mutual
def bo.wt:bo->Nat
 | .mk Kind N lN Text Name T Ts Kids kc=>Text.size+Name.size+T.wt+(Ts.length+(Ts.map aa.wt).sum)+(Kids.length+bo.mD Kids)+(kc.length+cu.mD kc)
def cu.wt:cu->Nat
 | .mk P E=>P.wt+E.wt
def bo.mD:List bo->Nat
 | []=>0
 |x::l=>x.wt+bo.mD l
def cu.mD:List cu->Nat
 | []=>0
 |x::l=>x.wt+cu.mD l
end
theorem bo.fo(l:List bo):bo.mD l=(l.map bo.wt).sum:=by
 induction l with
 |nil=>rfl
 |cons x l ih=>simp only[bo.mD,ih,map_cons,sum_cons]
theorem cu.fo(l:List cu):cu.mD l=(l.map cu.wt).sum:=by
 induction l with
 |nil=>rfl
 |cons x l ih=>simp only[cu.mD,ih,map_cons,sum_cons]
mutual
theorem bo.aN:∀x:bo,AV.ad x.cs=true
 | .mk Kind N lN Text Name T Ts Kids kc=>by simp[bo.cs,AV.ad,AV.ag,aG,aa.aN T,bH (f:=aa.av) (l:=Ts) aa.ag,bo.cQ Kids,cu.cQ kc]
theorem cu.aN:∀x:cu,AV.ad x.cs=true
 | .mk P E=>by simp[cu.cs,AV.ad,AV.ag,aG,bR.aN P,bo.aN E]
theorem bo.cQ:∀l:List bo,AV.ad (bo.eM l)=true
 | []=>rfl
 |x::l=>by simp[bo.eM,AV.ad,AV.ag,bo.aN x,bo.cQ l]
theorem cu.cQ:∀l:List cu,AV.ad (cu.eM l)=true
 | []=>rfl
 |x::l=>by simp[cu.eM,AV.ad,AV.ag,cu.aN x,cu.cQ l]
end
theorem bo.ag(x:bo):x.av.ag=true:=bo.aN x
theorem bo.bg(x:bo):x.wt=x.Text.size+x.Name.size+x.T.wt+(x.Ts.length+(x.Ts.map aa.wt).sum)+(x.Kids.length+(x.Kids.map bo.wt).sum)+(x.kc.length+(x.kc.map cu.wt).sum):=by
 cases x;simp only[bo.wt,bo.fo,cu.fo,bo.Kind,bo.N,bo.lN,bo.Text,bo.Name,bo.T,bo.Ts,bo.Kids,bo.kc]
theorem bo.facts{l:List bo}{b:Nat}(h:(l.map bo.wt).sum<=b):∀x∈l,x.wt<=b/\x.wt=x.Text.size+x.Name.size+x.T.wt+(x.Ts.length+(x.Ts.map aa.wt).sum)+(x.Kids.length+(x.Kids.map bo.wt).sum)+(x.kc.length+(x.kc.map cu.wt).sum):=λ x hx=>⟨le_trans (ca bo.wt hx) h,x.bg⟩
theorem cu.ag(x:cu):x.av.ag=true:=cu.aN x
theorem cu.bg(x:cu):x.wt=x.P.wt+x.E.wt:=by
 cases x;simp only[cu.wt,bo.fo,cu.fo,cu.P,cu.E]
theorem cu.facts{l:List cu}{b:Nat}(h:(l.map cu.wt).sum<=b):∀x∈l,x.wt<=b/\x.wt=x.P.wt+x.E.wt:=λ x hx=>⟨le_trans (ca cu.wt hx) h,x.bg⟩
inductive dm where
 |mk (Kind:Int) (N:Int) (lN:Int) (Text:ByteArray)
def dm.Kind:dm->Int
 | .mk a _ _ _=>a
def dm.N:dm->Int
 | .mk _ a _ _=>a
def dm.lN:dm->Int
 | .mk _ _ a _=>a
def dm.Text:dm->ByteArray
 | .mk _ _ _ a=>a
def dm.cs:dm->List AV
 | .mk Kind N lN Text=>(.v (.int .i64 Kind)::(.v (.int .i64 N)::(.v (.int .i64 lN)::(.v (.string Text):: []))))
def dm.av(x:dm):AV:= .agg x.cs
def dm.wt:dm->Nat
 | .mk Kind N lN Text=>Text.size
theorem dm.aN:∀x:dm,AV.ad x.cs=true
 | .mk Kind N lN Text=>by simp[dm.cs,AV.ad,AV.ag,aG]
theorem dm.ag(x:dm):x.av.ag=true:=dm.aN x
theorem dm.bg(x:dm):x.wt=x.Text.size:=by
 cases x;simp only[dm.wt,dm.Kind,dm.N,dm.lN,dm.Text]
theorem dm.facts{l:List dm}{b:Nat}(h:(l.map dm.wt).sum<=b):∀x∈l,x.wt<=b/\x.wt=x.Text.size:=λ x hx=>⟨le_trans (ca dm.wt hx) h,x.bg⟩
inductive aW where
 |mk (Kind:Int) (Name:ByteArray) (N:Int) (lN:Int) (T:aa) (Ts:List aa) (Vs:List dm) (Kids:List aW)
def aW.Kind:aW->Int
 | .mk a _ _ _ _ _ _ _=>a
def aW.Name:aW->ByteArray
 | .mk _ a _ _ _ _ _ _=>a
def aW.N:aW->Int
 | .mk _ _ a _ _ _ _ _=>a
def aW.lN:aW->Int
 | .mk _ _ _ a _ _ _ _=>a
def aW.T:aW->aa
 | .mk _ _ _ _ a _ _ _=>a
def aW.Ts:aW->List aa
 | .mk _ _ _ _ _ a _ _=>a
def aW.Vs:aW->List dm
 | .mk _ _ _ _ _ _ a _=>a
def aW.Kids:aW->List aW
 | .mk _ _ _ _ _ _ _ a=>a
mutual
def aW.cs:aW->List AV
 | .mk Kind Name N lN T Ts Vs Kids=>(.v (.int .i64 Kind)::(.v (.string Name)::(.v (.int .i64 N)::(.v (.int .i64 lN)::(T.cs++(.sl (Ts.map aa.av)::(.sl (Vs.map dm.av)::(.sl (aW.eM Kids):: []))))))))
def aW.eM:List aW->List AV
 | []=>[]
 |x::l=> .agg x.cs::aW.eM l
end
def aW.av(x:aW):AV:= .agg x.cs
mutual
def aW.wt:aW->Nat
 | .mk Kind Name N lN T Ts Vs Kids=>Name.size+T.wt+(Ts.length+(Ts.map aa.wt).sum)+(Vs.length+(Vs.map dm.wt).sum)+(Kids.length+aW.mD Kids)
def aW.mD:List aW->Nat
 | []=>0
 |x::l=>x.wt+aW.mD l
end
theorem aW.fo(l:List aW):aW.mD l=(l.map aW.wt).sum:=by
 induction l with
 |nil=>rfl
 |cons x l ih=>simp only[aW.mD,ih,map_cons,sum_cons]
mutual
theorem aW.aN:∀x:aW,AV.ad x.cs=true
 | .mk Kind Name N lN T Ts Vs Kids=>by simp[aW.cs,AV.ad,AV.ag,aG,aa.aN T,bH (f:=aa.av) (l:=Ts) aa.ag,bH (f:=dm.av) (l:=Vs) dm.ag,aW.cQ Kids]
theorem aW.cQ:∀l:List aW,AV.ad (aW.eM l)=true
 | []=>rfl
 |x::l=>by simp[aW.eM,AV.ad,AV.ag,aW.aN x,aW.cQ l]
end
theorem aW.ag(x:aW):x.av.ag=true:=aW.aN x
theorem aW.bg(x:aW):x.wt=x.Name.size+x.T.wt+(x.Ts.length+(x.Ts.map aa.wt).sum)+(x.Vs.length+(x.Vs.map dm.wt).sum)+(x.Kids.length+(x.Kids.map aW.wt).sum):=by
 cases x;simp only[aW.wt,aW.fo,aW.Kind,aW.Name,aW.N,aW.lN,aW.T,aW.Ts,aW.Vs,aW.Kids]
theorem aW.facts{l:List aW}{b:Nat}(h:(l.map aW.wt).sum<=b):∀x∈l,x.wt<=b/\x.wt=x.Name.size+x.T.wt+(x.Ts.length+(x.Ts.map aa.wt).sum)+(x.Vs.length+(x.Vs.map dm.wt).sum)+(x.Kids.length+(x.Kids.map aW.wt).sum):=λ x hx=>⟨le_trans (ca aW.wt hx) h,x.bg⟩
inductive dH where
 |mk (T:aa) (ajX:Int) (uv:Bool)
def dH.T:dH->aa
 | .mk a _ _=>a
def dH.ajX:dH->Int
 | .mk _ a _=>a
def dH.uv:dH->Bool
 | .mk _ _ a=>a
def dH.cs:dH->List AV
 | .mk T ajX uv=>(T.cs++(.v (.int .i64 ajX)::(.v (.bool uv):: [])))
def dH.av(x:dH):AV:= .agg x.cs
def dH.wt:dH->Nat
 | .mk T ajX uv=>T.wt
theorem dH.aN:∀x:dH,AV.ad x.cs=true
 | .mk T ajX uv=>by simp[dH.cs,AV.ad,AV.ag,aG,aa.aN T]
theorem dH.ag(x:dH):x.av.ag=true:=dH.aN x
theorem dH.bg(x:dH):x.wt=x.T.wt:=by
 cases x;simp only[dH.wt,dH.T,dH.ajX,dH.uv]
theorem dH.facts{l:List dH}{b:Nat}(h:(l.map dH.wt).sum<=b):∀x∈l,x.wt<=b/\x.wt=x.T.wt:=λ x hx=>⟨le_trans (ca dH.wt hx) h,x.bg⟩
inductive cc where
 |mk (j9:Int) (uw:List dH) (uv:Bool) (T:aa) (Body:aW)
def cc.j9:cc->Int
 | .mk a _ _ _ _=>a
def cc.uw:cc->List dH
 | .mk _ a _ _ _=>a
def cc.uv:cc->Bool
 | .mk _ _ a _ _=>a
def cc.T:cc->aa
 | .mk _ _ _ a _=>a
def cc.Body:cc->aW
 | .mk _ _ _ _ a=>a
def cc.cs:cc->List AV
 | .mk j9 uw uv T Body=>(.v (.int .i64 j9)::(.sl (uw.map dH.av)::(.v (.bool uv)::(T.cs++(Body.cs++ [])))))
def cc.av(x:cc):AV:= .agg x.cs
def cc.wt:cc->Nat
 | .mk j9 uw uv T Body=>(uw.length+(uw.map dH.wt).sum)+T.wt+Body.wt
theorem cc.aN:∀x:cc,AV.ad x.cs=true
 | .mk j9 uw uv T Body=>by simp[cc.cs,AV.ad,AV.ag,aG,bH (f:=dH.av) (l:=uw) dH.ag,aa.aN T,aW.aN Body]
theorem cc.ag(x:cc):x.av.ag=true:=cc.aN x
theorem cc.bg(x:cc):x.wt=(x.uw.length+(x.uw.map dH.wt).sum)+x.T.wt+x.Body.wt:=by
 cases x;simp only[cc.wt,cc.j9,cc.uw,cc.uv,cc.T,cc.Body]
theorem cc.facts{l:List cc}{b:Nat}(h:(l.map cc.wt).sum<=b):∀x∈l,x.wt<=b/\x.wt=(x.uw.length+(x.uw.map dH.wt).sum)+x.T.wt+x.Body.wt:=λ x hx=>⟨le_trans (ca cc.wt hx) h,x.bg⟩
inductive ei where
 |mk (kb:List cc) (Main:aW)
def ei.kb:ei->List cc
 | .mk a _=>a
def ei.Main:ei->aW
 | .mk _ a=>a
def ei.cs:ei->List AV
 | .mk kb Main=>(.sl (kb.map cc.av)::(Main.cs++ []))
def ei.av(x:ei):AV:= .agg x.cs
def ei.wt:ei->Nat
 | .mk kb Main=>(kb.length+(kb.map cc.wt).sum)+Main.wt
theorem ei.aN:∀x:ei,AV.ad x.cs=true
 | .mk kb Main=>by simp[ei.cs,AV.ad,AV.ag,aG,bH (f:=cc.av) (l:=kb) cc.ag,aW.aN Main]
theorem ei.ag(x:ei):x.av.ag=true:=ei.aN x
theorem ei.bg(x:ei):x.wt=(x.kb.length+(x.kb.map cc.wt).sum)+x.Main.wt:=by
 cases x;simp only[ei.wt,ei.kb,ei.Main]
theorem ei.facts{l:List ei}{b:Nat}(h:(l.map ei.wt).sum<=b):∀x∈l,x.wt<=b/\x.wt=(x.kb.length+(x.kb.map cc.wt).sum)+x.Main.wt:=λ x hx=>⟨le_trans (ca ei.wt hx) h,x.bg⟩
inductive bW where
 |mk (Op:Int) (A:Int) (B:Int) (C:Int) (N:Int) (Text:ByteArray)
def bW.Op:bW->Int
 | .mk a _ _ _ _ _=>a
def bW.A:bW->Int
 | .mk _ a _ _ _ _=>a
def bW.B:bW->Int
 | .mk _ _ a _ _ _=>a
def bW.C:bW->Int
 | .mk _ _ _ a _ _=>a
def bW.N:bW->Int
 | .mk _ _ _ _ a _=>a
def bW.Text:bW->ByteArray
 | .mk _ _ _ _ _ a=>a
def bW.cs:bW->List AV
 | .mk Op A B C N Text=>(.v (.int .i64 Op)::(.v (.int .i64 A)::(.v (.int .i64 B)::(.v (.int .i64 C)::(.v (.int .i64 N)::(.v (.string Text):: []))))))
def bW.av(x:bW):AV:= .agg x.cs
def bW.wt:bW->Nat
 | .mk Op A B C N Text=>Text.size
theorem bW.aN:∀x:bW,AV.ad x.cs=true
 | .mk Op A B C N Text=>by simp[bW.cs,AV.ad,AV.ag,aG]
theorem bW.ag(x:bW):x.av.ag=true:=bW.aN x
theorem bW.bg(x:bW):x.wt=x.Text.size:=by
 cases x;simp only[bW.wt,bW.Op,bW.A,bW.B,bW.C,bW.N,bW.Text]
theorem bW.facts{l:List bW}{b:Nat}(h:(l.map bW.wt).sum<=b):∀x∈l,x.wt<=b/\x.wt=x.Text.size:=λ x hx=>⟨le_trans (ca bW.wt hx) h,x.bg⟩
inductive gz where
 |mk (ka:List bW) (nd:List Int)
def gz.ka:gz->List bW
 | .mk a _=>a
def gz.nd:gz->List Int
 | .mk _ a=>a
def gz.cs:gz->List AV
 | .mk ka nd=>(.sl (ka.map bW.av)::(.sl (nd.map λ x=> .v (.int .i64 x)):: []))
def gz.av(x:gz):AV:= .agg x.cs
def gz.wt:gz->Nat
 | .mk ka nd=>(ka.length+(ka.map bW.wt).sum)+nd.length
theorem gz.aN:∀x:gz,AV.ad x.cs=true
 | .mk ka nd=>by simp[gz.cs,AV.ad,AV.ag,aG,bH (f:=bW.av) (l:=ka) bW.ag,bH (f:=λ x=> .v (.int .i64 x)) (l:=nd) (λ _=>rfl)]
theorem gz.ag(x:gz):x.av.ag=true:=gz.aN x
theorem gz.bg(x:gz):x.wt=(x.ka.length+(x.ka.map bW.wt).sum)+x.nd.length:=by
 cases x;simp only[gz.wt,gz.ka,gz.nd]
theorem gz.facts{l:List gz}{b:Nat}(h:(l.map gz.wt).sum<=b):∀x∈l,x.wt<=b/\x.wt=(x.ka.length+(x.ka.map bW.wt).sum)+x.nd.length:=λ x hx=>⟨le_trans (ca gz.wt hx) h,x.bg⟩
inductive dw where
 |mk (At:Int) (Room:Int) (Put:Int)
def dw.At:dw->Int
 | .mk a _ _=>a
def dw.Room:dw->Int
 | .mk _ a _=>a
def dw.Put:dw->Int
 | .mk _ _ a=>a
def dw.cs:dw->List AV
 | .mk At Room Put=>(.v (.int .i64 At)::(.v (.int .i64 Room)::(.v (.int .i64 Put):: [])))
def dw.av(x:dw):AV:= .agg x.cs
def dw.wt:dw->Nat
 | .mk At Room Put=>0
theorem dw.aN:∀x:dw,AV.ad x.cs=true
 | .mk At Room Put=>by simp[dw.cs,AV.ad,AV.ag,aG]
theorem dw.ag(x:dw):x.av.ag=true:=dw.aN x
theorem dw.bg(x:dw):x.wt=0:=by
 cases x;simp only[dw.wt,dw.At,dw.Room,dw.Put]
theorem dw.facts{l:List dw}{b:Nat}(h:(l.map dw.wt).sum<=b):∀x∈l,x.wt<=b/\x.wt=0:=λ x hx=>⟨le_trans (ca dw.wt hx) h,x.bg⟩
end Go.Ab
namespace Go.Ab
set_option maxRecDepth 100000
section
variable {P:Program} {L:AX->SS->List AV->Prop} {R:AV->Prop} {t:T} {r:List AV} {S:List (List AV->Prop)}
theorem nH{init:List AV}(n:Nat)(I:Nat->Prop)(σ:Nat->List AV)(h0:init=σ 0)(hI:I 0)
  (hr:∀i,i<=n->I i->bF P L R t (r++σ i) ((λ vs=>i<n/\I (i+1)/\vs=σ (i+1))::S)):qL P L R init t r S:=by
 refine dk (ι:=Nat) (λ i=>i<=n/\I i) σ (λ i=>n- i) 0 ⟨zero_le _,hI⟩ h0 λ i hi=> ?_
 refine dz (λ _ _ _ h=>h) (λ _ h=>h) t (.cons (λ vs hv=> ?_) (.refl _)) (hr i hi.1 hi.2);exact⟨i+1,⟨hv.1,hv.2.1⟩,by have:=hv.1;omega,hv.2.2⟩
end
theorem pO{α:Type}{l:List α}{i:Nat}(h:i<l.length):l.drop i=l[i]::l.drop (i+1):=List.drop_eq_getElem_cons h
theorem qV{α:Type}(l:List α):l.drop l.length= []:=List.drop_length
def mc{α:Type}(p:α->Bool):List α->Nat->Int
 | [],_=> -1
 |x::r,k=>if p x=true then(k:Int)else mc p r (k+1)
theorem yh{α:Type}(p:α->Bool):∀(l:List α) (k:Nat),decide (0<=mc p l k)=l.any p
 | [],_=>by simp[mc]
 |x::r,k=>by
  unfold mc;by_cases h:p x=true
  ·simp[h]
  ·simp only[h,List.any_cons];rw[if_neg (by simp),yh p r (k+1)];simp
def arn(s:Nat):T:=
.bind 0 (
 .op (.bM (.x 0)) (
 .loop [(.c (.v (.int .i64 0)))] (
  .op (.bin .lss (.x 3) (.x 2)) (
  .ite (.x 4)
   (.op (.elem s (.x 0) (.x 3)) (
   .aJ (.cells (.x 5) s) (
   .op (.eu (.x 1) [(.x 5)] false) (
   .ite (.x 6)
    (.dM (.dM (.ret [(.x 3)])))
    (.op (.bin .add (.x 3) (.c (.v (.int .i64 1)))) (
    .jump [(.x 7)]))))))
   (.dM (.jump [])))))) (
.ret [(.c (.v (.int .i64 (-1))))])
theorem asX{P:Program}{L:AX->SS->List AV->Prop}{α:Type}{av:α->AV}{s:Nat}{g:FuncId}{a6:List AV}{l:List α}(p:α->Bool)(hs:∀x,(av x).isAgg=true/\(av x).cells.length=s/\(av x).storable=true)
  (hl:l.length<=1073741824) (hc:∀x∈l,a7 P g (av x::a6) (.v (.bool (p x)))):
  bF P L (λ a=>a= .v (.int .i64 (mc p l 0))) (arn s) [.sl (l.map av),.fn g a6] []:=by
 simp only[arn,WA,reduceEqDiff,reduceAdd,reduceLT,reduceLeDiff,reduceMul,reduceIte,reduceCtorEq,Int.reduceEq,Int.reduceLT,Int.reduceLE,Int.reduceNe];refine aB ?_;simp only[WA,reduceEqDiff,reduceAdd,reduceLT,reduceLeDiff,reduceMul,reduceIte,reduceCtorEq,Int.reduceEq,Int.reduceLT,Int.reduceLE,Int.reduceNe];refine nH l.length (λ i=>mc p l 0=mc p (l.drop i) i) (λ i=>[.v (.int .i64 i)]) rfl rfl λ i hi hI=> ?_
 simp only[WA,reduceEqDiff,reduceAdd,reduceLT,reduceLeDiff,reduceMul,reduceIte,reduceCtorEq,Int.reduceEq,Int.reduceLT,Int.reduceLE,Int.reduceNe];refine aE (λ h=> ?_) (λ h=> ?_)
 ·have aF:i<l.length:=by omega
  obtain⟨x1,x2,x3⟩:=hs l[i];rw[pO aF,mc]at hI;simp only[WA,reduceEqDiff,reduceAdd,reduceLT,reduceLeDiff,reduceMul,reduceIte,reduceCtorEq,Int.reduceEq,Int.reduceLT,Int.reduceLE,Int.reduceNe];refine nP av aF x2 ?_;simp only[x1,x2,x3,WA,reduceEqDiff,reduceAdd,reduceLT,reduceLeDiff,reduceMul,reduceIte,reduceCtorEq,Int.reduceEq,Int.reduceLT,Int.reduceLE,Int.reduceNe];refine bn (hc _ (getElem_mem aF)) ?_;simp only[WA,reduceEqDiff,reduceAdd,reduceLT,reduceLeDiff,reduceMul,reduceIte,reduceCtorEq,Int.reduceEq,Int.reduceLT,Int.reduceLE,Int.reduceNe];refine aD (λ h=> ?_) (λ h=> ?_)
  ·simp only[h,if_pos]at hI;simp only[hI,WA,reduceEqDiff,reduceAdd,reduceLT,reduceLeDiff,reduceMul,reduceIte,reduceCtorEq,Int.reduceEq,Int.reduceLT,Int.reduceLE,Int.reduceNe]
  ·simp only[h]at hI;simp(disch:=omega) only[au,WA,reduceEqDiff,reduceAdd,reduceLT,reduceLeDiff,reduceMul,reduceIte,reduceCtorEq,Int.reduceEq,Int.reduceLT,Int.reduceLE,Int.reduceNe];exact⟨aF,by simpa using hI⟩
 ·have he:i=l.length:=by omega
  subst he;rw[qV,mc]at hI;simp only[hI,WA,reduceEqDiff,reduceAdd,reduceLT,reduceLeDiff,reduceMul,reduceIte,reduceCtorEq,Int.reduceEq,Int.reduceLT,Int.reduceLE,Int.reduceNe]
def arp(f:FuncId)(fl:Bool):T:=
.op (.call f [(.x 0),(.x 1)] fl) (
.op (.bin .geq (.x 2) (.c (.v (.int .i64 0)))) (
.ret [(.x 3)]))
theorem agN{fl:Bool}{P:Program}{L:AX->SS->List AV->Prop}{α:Type}{a b:AV}{f:FuncId}{l:List α}{p:α->Bool}(hc:a7 P f [a,b] (.v (.int .i64 (mc p l 0)))):
  bF P L (λ r=>r= .v (.bool (l.any p))) (arp f fl) [a,b] []:=by
 simp only[arp,WA,reduceEqDiff,reduceAdd,reduceLT,reduceLeDiff,reduceMul,reduceIte,reduceCtorEq,Int.reduceEq,Int.reduceLT,Int.reduceLE,Int.reduceNe];refine bn hc ?_;simp only[yh,WA,reduceEqDiff,reduceAdd,reduceLT,reduceLeDiff,reduceMul,reduceIte,reduceCtorEq,Int.reduceEq,Int.reduceLT,Int.reduceLE,Int.reduceNe]
def aro:T:=
.bind 0 (
 .op (.bM (.x 0)) (
 .loop [(.c (.v (.int .i64 0)))] (
  .op (.bin .lss (.x 3) (.x 2)) (
  .ite (.x 4)
   (.op (.elem 1 (.x 0) (.x 3)) (
   .aJ (.lt (.x 5) 0) (
   .op (.bin .eql (.x 1) (.cell 5 0)) (
   .ite (.x 6)
    (.dM (.dM (.ret [(.x 3)])))
    (.op (.bin .add (.x 3) (.c (.v (.int .i64 1)))) (
    .jump [(.x 7)]))))))
   (.dM (.jump [])))))) (
.ret [(.c (.v (.int .i64 (-1))))])
theorem al4{P:Program}{L:AX->SS->List AV->Prop}{α:Type}[DecidableEq α]{g:α->Value}{l:List α}{x:α}(hg:∀(x y:α) (K:AV->Prop),e7 K (.v (.bool (decide (x=y))))->fu .eql (.v (g x)) (.v (g y)) K)
  (hl:l.length<=1073741824):bF P L (λ a=>a= .v (.int .i64 (mc (λ y=>decide (x=y)) l 0))) aro [.sl (l.map λ y=> .v (g y)),.v (g x)] []:=by
 simp only[aro,WA,reduceEqDiff,reduceAdd,reduceLT,reduceLeDiff,reduceMul,reduceIte,reduceCtorEq,Int.reduceEq,Int.reduceLT,Int.reduceLE,Int.reduceNe];refine aB ?_;simp only[WA,reduceEqDiff,reduceAdd,reduceLT,reduceLeDiff,reduceMul,reduceIte,reduceCtorEq,Int.reduceEq,Int.reduceLT,Int.reduceLE,Int.reduceNe];refine nH l.length (λ i=>mc (λ y=>decide (x=y)) l 0=mc (λ y=>decide (x=y)) (l.drop i) i) (λ i=>[.v (.int .i64 i)]) rfl rfl λ i hi hI=> ?_
 simp only[WA,reduceEqDiff,reduceAdd,reduceLT,reduceLeDiff,reduceMul,reduceIte,reduceCtorEq,Int.reduceEq,Int.reduceLT,Int.reduceLE,Int.reduceNe];refine aE (λ h=> ?_) (λ h=> ?_)
 ·have aF:i<l.length:=by omega
  rw[pO aF,mc]at hI;simp only[WA,reduceEqDiff,reduceAdd,reduceLT,reduceLeDiff,reduceMul,reduceIte,reduceCtorEq,Int.reduceEq,Int.reduceLT,Int.reduceLE,Int.reduceNe];refine nP (λ y=> .v (g y)) aF rfl ?_;simp only[WA,reduceEqDiff,reduceAdd,reduceLT,reduceLeDiff,reduceMul,reduceIte,reduceCtorEq,Int.reduceEq,Int.reduceLT,Int.reduceLE,Int.reduceNe];refine hg _ _ _ ?_;simp only[WA,reduceEqDiff,reduceAdd,reduceLT,reduceLeDiff,reduceMul,reduceIte,reduceCtorEq,Int.reduceEq,Int.reduceLT,Int.reduceLE,Int.reduceNe];refine aE (λ h=> ?_) (λ h=> ?_)
  ·rw[if_pos (decide_eq_true h)]at hI;simp only[hI,WA,reduceEqDiff,reduceAdd,reduceLT,reduceLeDiff,reduceMul,reduceIte,reduceCtorEq,Int.reduceEq,Int.reduceLT,Int.reduceLE,Int.reduceNe]
  ·rw[if_neg (by simpa using h)]at hI;simp(disch:=omega) only[au,WA,reduceEqDiff,reduceAdd,reduceLT,reduceLeDiff,reduceMul,reduceIte,reduceCtorEq,Int.reduceEq,Int.reduceLT,Int.reduceLE,Int.reduceNe];exact⟨aF,hI⟩
 ·have he:i=l.length:=by omega
  subst he;rw[qV,mc]at hI;simp only[hI,WA,reduceEqDiff,reduceAdd,reduceLT,reduceLeDiff,reduceMul,reduceIte,reduceCtorEq,Int.reduceEq,Int.reduceLT,Int.reduceLE,Int.reduceNe]
theorem aAM(k:IntKind)(x y:Int)(K:AV->Prop)(h:e7 K (.v (.bool (decide (x=y))))):fu .eql (.v (.int k x)) (.v (.int k y)) K:=by rw[arj];exact h
theorem aAL(x y:ByteArray)(K:AV->Prop)(h:e7 K (.v (.bool (decide (x=y))))):fu .eql (.v (.string x)) (.v (.string y)) K:=by rw[anz];exact h
def kX{α:Type}(p:α->α->Bool):List α->List α->Bool
 | [],[]=>true
 |x::l,y::m=>p x y&&kX p l m
 |_,_=>false
theorem yW{α:Type}(p:α->α->Bool):∀(l m:List α),l.length≠m.length->kX p l m=false
 | [],[],h=>(h rfl).elim
 | [],_::_,_=>rfl
 |_::_,[],_=>rfl
 |x::l,y::m,h=>by simp only[kX,yW p l m (by simpa using h),Bool.and_false]
def ayb(s:Nat):T:=
.op (.bM (.x 0)) (
.op (.bM (.x 1)) (
.op (.bin .neq (.x 3) (.x 4)) (
.ite (.x 5)
 (.ret [(.c (.v (.bool false)))])
 (.bind 0 (
  .op (.bM (.x 0)) (
  .loop [(.c (.v (.int .i64 0)))] (
   .op (.bin .lss (.x 7) (.x 6)) (
   .ite (.x 8)
    (.op (.elem s (.x 0) (.x 7)) (
    .aJ (.cells (.x 9) s) (
    .aJ (.cells (.x 9) s) (
    .op (.elem s (.x 1) (.x 7)) (
    .aJ (.cells (.x 10) s) (
    .aJ (.cells (.x 10) s) (
    .aJ (.cells (.x 9) s) (
    .aJ (.cells (.x 10) s) (
    .op (.eu (.x 2) [(.x 9),(.x 10)] false) (
    .op (.un .not (.x 11)) (
    .ite (.x 12)
     (.dM (.dM (.ret [(.c (.v (.bool false)))])))
     (.op (.bin .add (.x 7) (.c (.v (.int .i64 1)))) (
     .jump [(.x 13)])))))))))))))
    (.dM (.jump [])))))) (
 .ret [(.c (.v (.bool true)))])))))
theorem axC{P:Program}{L:AX->SS->List AV->Prop}{α:Type}{av:α->AV}{s:Nat}{g:FuncId}{a6:List AV}{l m:List α}(p:α->α->Bool)(hs:∀x,(av x).isAgg=true/\(av x).cells.length=s/\(av x).storable=true)
  (hl:l.length<=1073741824) (hc:∀x∈l,∀y∈m,a7 P g (av x::av y::a6) (.v (.bool (p x y)))):
  bF P L (λ a=>a= .v (.bool (kX p l m))) (ayb s) [.sl (l.map av),.sl (m.map av),.fn g a6] []:=by
 simp only[ayb,WA,reduceEqDiff,reduceAdd,reduceLT,reduceLeDiff,reduceMul,reduceIte,reduceCtorEq,Int.reduceEq,Int.reduceLT,Int.reduceLE,Int.reduceNe];refine a8 (λ h=> ?_) (λ h=> ?_)
 ·simp only[yW p l m (by omega),WA,reduceEqDiff,reduceAdd,reduceLT,reduceLeDiff,reduceMul,reduceIte,reduceCtorEq,Int.reduceEq,Int.reduceLT,Int.reduceLE,Int.reduceNe]
 ·have hlm:l.length=m.length:=by omega
  simp only[WA,reduceEqDiff,reduceAdd,reduceLT,reduceLeDiff,reduceMul,reduceIte,reduceCtorEq,Int.reduceEq,Int.reduceLT,Int.reduceLE,Int.reduceNe];refine aB ?_;simp only[WA,reduceEqDiff,reduceAdd,reduceLT,reduceLeDiff,reduceMul,reduceIte,reduceCtorEq,Int.reduceEq,Int.reduceLT,Int.reduceLE,Int.reduceNe];refine nH l.length (λ i=>kX p l m=kX p (l.drop i) (m.drop i)) (λ i=>[.v (.int .i64 i)]) rfl rfl λ i hi hI=> ?_
  simp only[WA,reduceEqDiff,reduceAdd,reduceLT,reduceLeDiff,reduceMul,reduceIte,reduceCtorEq,Int.reduceEq,Int.reduceLT,Int.reduceLE,Int.reduceNe];refine aE (λ h=> ?_) (λ h=> ?_)
  ·have aF:i<l.length:=by omega
   have oq:i<m.length:=by omega
   obtain⟨x1,x2,x3⟩:=hs l[i];obtain⟨y1,y2,y3⟩:=hs m[i];rw[pO aF,pO oq,kX]at hI;simp only[WA,reduceEqDiff,reduceAdd,reduceLT,reduceLeDiff,reduceMul,reduceIte,reduceCtorEq,Int.reduceEq,Int.reduceLT,Int.reduceLE,Int.reduceNe];refine nP av aF x2 ?_;simp only[x1,x2,x3,WA,reduceEqDiff,reduceAdd,reduceLT,reduceLeDiff,reduceMul,reduceIte,reduceCtorEq,Int.reduceEq,Int.reduceLT,Int.reduceLE,Int.reduceNe];refine nP av oq y2 ?_;simp only[x1,x2,x3,y1,y2,y3,WA,reduceEqDiff,reduceAdd,reduceLT,reduceLeDiff,reduceMul,reduceIte,reduceCtorEq,Int.reduceEq,Int.reduceLT,Int.reduceLE,Int.reduceNe];refine bn (hc _ (getElem_mem aF) _ (getElem_mem oq)) ?_;simp only[WA,reduceEqDiff,reduceAdd,reduceLT,reduceLeDiff,reduceMul,reduceIte,reduceCtorEq,Int.reduceEq,Int.reduceLT,Int.reduceLE,Int.reduceNe];refine aD (λ h=> ?_) (λ h=> ?_)
   ·have h:p l[i] m[i]=false:=by simpa using h
    simp only[h,Bool.false_and]at hI;simp only[hI,WA,reduceEqDiff,reduceAdd,reduceLT,reduceLeDiff,reduceMul,reduceIte,reduceCtorEq,Int.reduceEq,Int.reduceLT,Int.reduceLE,Int.reduceNe]
   ·have h:p l[i] m[i]=true:=by simpa using h
    simp only[h,Bool.true_and]at hI;simp(disch:=omega) only[au,WA,reduceEqDiff,reduceAdd,reduceLT,reduceLeDiff,reduceMul,reduceIte,reduceCtorEq,Int.reduceEq,Int.reduceLT,Int.reduceLE,Int.reduceNe];exact⟨aF,hI⟩
  ·have he:i=l.length:=by omega
   subst he;rw[qV,hlm,qV,kX]at hI;simp only[hI,WA,reduceEqDiff,reduceAdd,reduceLT,reduceLeDiff,reduceMul,reduceIte,reduceCtorEq,Int.reduceEq,Int.reduceLT,Int.reduceLE,Int.reduceNe]
end Go.Ab
namespace Go.Ab
set_option maxRecDepth 100000
theorem ao6{α:Type}(p:α->Bool)(l:List α):(!(l.any λ y=> !p y))=l.all p:=by
 induction l with
 |nil=>rfl
 |cons x l ih=>simp only[List.any_cons,List.all_cons,←ih];cases p x<;>simp
theorem avb{a b:Bool}(h:a=true↔b=true):AV.v (.bool a)=AV.v (.bool b):=by rw[Bool.eq_iff_iff.2 h]
section
variable {P:Program} {L:AX->SS->List AV->Prop} {R:AV->Prop} {t:T} {r:List AV} {S:List (List AV->Prop)}
theorem eK{α β:Type}{init:List AV}(l:List α)(σ:Nat->β->List AV)(G:Nat->List α->β->Prop)(b0:β)(h0:init=σ 0 b0)(hG:G 0 l b0)
  (hc:∀(i:Nat) (x:α) (rest:List α) (b:β),i<l.length->l[i]? =some x->x∈l->(∀(f:α->AV) (s:Nat) (k:IntKind) (K:AV->Prop),(f x).cells.length=s->kK s (.sl (l.map f)) (.v (.int k (i:Int))) K=e7 K (f x))->
   decide ((i:Int)<(l.length:Int))=true->G i (x::rest) b->bF P L R t (r++σ i b) ((λ vs=>i<l.length/\∃b',G (i+1) rest b'/\vs=σ (i+1) b')::S))
  (he:∀b,decide ((l.length:Int)<(l.length:Int))=false->G l.length [] b->bF P L R t (r++σ l.length b) ((λ _=>False)::S)):qL P L R init t r S:=by
 refine dk (ι:=Nat×β) (λ q=>q.1<=l.length/\G q.1 (l.drop q.1) q.2) (λ q=>σ q.1 q.2) (λ q=>l.length- q.1) (0,b0) ⟨zero_le _,hG⟩ h0 λ q hq=> ?_
 obtain⟨i,b⟩:=q;obtain⟨hi,hg⟩:=hq;rcases lt_or_ge i l.length with h|h
 ·have hg:G i (l[i]::l.drop (i+1)) b:=by rw[←pO h];exact hg
  refine dz (λ _ _ _ h=>h) (λ _ h=>h) t (.cons (λ vs hv=> ?_) (.refl _)) (hc i l[i] (l.drop (i+1)) b h (List.getElem?_eq_getElem h) (getElem_mem h) (λ f s k K hs=> ?_) (by simp;exact h) hg)
  ·obtain⟨_,b',h1,h2⟩:=hv;exact⟨(i+1,b'),⟨h,h1⟩,by simp only;omega,h2⟩
  ·unfold kK;have hx:(l.map f).getD (Int.toNat (i:Int)) .top=f l[i]:=by simp[List.getD,h]
   simp only[hx,hs,true_and,e7];exact propext ⟨λ q=>q.2.2,λ q=>⟨Int.natCast_nonneg i,by simp;exact h,q⟩⟩
 ·have he':i=l.length:=by simp only at hi;omega
  subst he';have hg:G l.length [] b:=by simpa using hg
  refine dz (λ _ _ _ h=>h) (λ _ h=>h) t (.cons (λ vs hv=>hv.elim) (.refl _)) (he b (by simp) hg)
theorem alz{α γ β:Type}{init:List AV}(l:List α)(m:List γ)(hlm:l.length=m.length)(σ:Nat->β->List AV)(G:Nat->List α->List γ->β->Prop)(b0:β)(h0:init=σ 0 b0)(hG:G 0 l m b0)
  (hc:∀(i:Nat) (x:α) (y:γ) (rest:List α) (ac7:List γ) (b:β),i<l.length->x∈l->y∈m->
   (∀(f:α->AV) (s:Nat) (k:IntKind) (K:AV->Prop),(f x).cells.length=s->kK s (.sl (l.map f)) (.v (.int k (i:Int))) K=e7 K (f x))->
   (∀(f:γ->AV) (s:Nat) (k:IntKind) (K:AV->Prop),(f y).cells.length=s->kK s (.sl (m.map f)) (.v (.int k (i:Int))) K=e7 K (f y))->
   decide ((i:Int)<(l.length:Int))=true->decide ((i:Int)<(m.length:Int))=true->G i (x::rest) (y::ac7) b->bF P L R t (r++σ i b) ((λ vs=>i<l.length/\∃b',G (i+1) rest ac7 b'/\vs=σ (i+1) b')::S))
  (he:∀b,decide ((l.length:Int)<(l.length:Int))=false->decide ((l.length:Int)<(m.length:Int))=false->G l.length [] [] b->bF P L R t (r++σ l.length b) ((λ _=>False)::S)):qL P L R init t r S:=by
 refine dk (ι:=Nat×β) (λ q=>q.1<=l.length/\G q.1 (l.drop q.1) (m.drop q.1) q.2) (λ q=>σ q.1 q.2) (λ q=>l.length- q.1) (0,b0) ⟨zero_le _,hG⟩ h0 λ q hq=> ?_
 obtain⟨i,b⟩:=q;obtain⟨hi,hg⟩:=hq;rcases lt_or_ge i l.length with h|h
 ·have h':i<m.length:=by omega
  have hg:G i (l[i]::l.drop (i+1)) (m[i]::m.drop (i+1)) b:=by rw[←pO h,←pO h'];exact hg
  refine dz (λ _ _ _ h=>h) (λ _ h=>h) t (.cons (λ vs hv=> ?_) (.refl _)) (hc i l[i] m[i] (l.drop (i+1)) (m.drop (i+1)) b h (getElem_mem h) (getElem_mem h') (λ f s k K hs=> ?_) (λ f s k K hs=> ?_) (by simp;exact h) (by simp;exact h') hg)
  ·obtain⟨_,b',h1,h2⟩:=hv;exact⟨(i+1,b'),⟨h,h1⟩,by simp only;omega,h2⟩
  ·unfold kK;have hx:(l.map f).getD (Int.toNat (i:Int)) .top=f l[i]:=by simp[List.getD,h]
   simp only[hx,hs,true_and,e7];exact propext ⟨λ q=>q.2.2,λ q=>⟨Int.natCast_nonneg i,by simp;exact h,q⟩⟩
  ·unfold kK;have hx:(m.map f).getD (Int.toNat (i:Int)) .top=f m[i]:=by simp[List.getD,h']
   simp only[hx,hs,true_and,e7];exact propext ⟨λ q=>q.2.2,λ q=>⟨Int.natCast_nonneg i,by simp;exact h',q⟩⟩
 ·have he':i=l.length:=by simp only at hi;omega
  subst he';have hg:G l.length [] [] b:=by rw[qV,hlm,qV]at hg;rw[hlm];exact hg
  exact dz (λ _ _ _ h=>h) (λ _ h=>h) t (.cons (λ vs hv=>hv.elim) (.refl _)) (he b (by simp) (by simp[hlm]) hg)
def bs(s:ByteArray):List Int:=s.data.toList.map λ b=>(b.toNat:Int)
theorem acv(s:ByteArray):(bs s).length=s.size:=by simp[bs]
theorem pV{s:ByteArray}{c:Int}(h:c∈bs s):0<=c/\c<256:=by
 simp only[bs,List.mem_map]at h;obtain⟨b,_,rfl⟩:=h;exact⟨by omega,by have:=b.toNat_lt;omega⟩
theorem ajb{s:ByteArray}{i:Nat}{k:IntKind}{K:AV->Prop}(h:i<(bs s).length)(hk:e7 K (.v (.int .u8 (bs s)[i]))):al2 (.v (.string s)) (.v (.int k (i:Int))) K:=by
 rw[awu];have hl:=acv s;refine⟨by omega,by omega,?_⟩
 have:(((s.data.toList.getD (Int.toNat (i:Int)) 0).toNat:Nat):Int)=(bs s)[i]:=by
  simp only[bs,Int.toNat_natCast,List.getElem_map,List.getD];have h1:i<s.data.toList.length:=by simpa [bs]using h
  rw[List.getElem?_eq_getElem h1];rfl
 rw[this];exact hk
theorem agU{c:Int}(h:0<=c)(h':c<256):IntKind.i64.wrap c=c:=bm (by omega) (by omega)
end
end Go.Ab
namespace Go.Ab
set_option maxRecDepth 100000
end Go.Ab
namespace Go.Ab
set_option maxRecDepth 100000
abbrev by1(n:Int):AV:= .v (.int .u8 n)
abbrev jx(l:List Int):List AV:=l.map by1
theorem bl(l:List Int):AV.ad (jx l)=true:=by
 induction l with
 |nil=>rfl
 |cons a l ih=>simpa [AV.ad,AV.ag]using ih
def marks(b:Nat)(n:Nat):List Int:=(List.range n).map λ i=>IntKind.u8.wrap ((b+i:Nat):Int)
def val:List Int->Nat
 | []=>0
 |c::r=>(c%128).toNat+128*val r
def unz(x:Nat):Int:=if x%2=1 then-((x/2:Nat):Int)- 1 else((x/2:Nat):Int)
def gs(at':Int):Nat->Nat->List Int->Int×Int×Bool
 |_,_,[]=>(0,0,false)
 |k,acc,c::r=>if 10<=k then(0,0,false)else if 127<c then gs at' (k+1) (acc+(c%128).toNat*128^k) r
  else if(0<k/\c=0)∨(k=9/\1<c)then(0,0,false)else(unz (acc+(c%128).toNat*128^k),at'+k+1,true)
end Go.Ab
namespace Go.Ab
set_option maxRecDepth 100000
inductive AV.uO:AV->AV->Prop
 |refl (a:AV):AV.uO a a
 |nil:AV.uO .aw (.sl [])
 |agg (cs ds:List AV) (hl:cs.length=ds.length) (h:∀(i:Nat) (c d:AV),cs[i]? =some c->ds[i]? =some d->AV.uO c d):AV.uO (.agg cs) (.agg ds)
 |sl (xs ys:List AV) (hl:xs.length=ys.length) (h:∀(i:Nat) (x y:AV),xs[i]? =some x->ys[i]? =some y->x.cells.length=y.cells.length)
  (hc:∀(i:Nat) (x y:AV) (j:Nat) (c d:AV),xs[i]? =some x->ys[i]? =some y->x.cells[j]? =some c->y.cells[j]? =some d->AV.uO c d):AV.uO (.sl xs) (.sl ys)
theorem lI{α β:Type}{l:List α}{m:List β}(hl:l.length=m.length){i:Nat}{y:β}(h:m[i]? =some y):∃x,l[i]? =some x:=by
 have:=(List.getElem?_eq_some_iff.1 h).1;exact⟨l[i],List.getElem?_eq_getElem (by omega)⟩
theorem AV.uO.sound{I:dv}{L:Nat->Loc}{O:List ae}{a b:AV}(h:AV.uO a b):∀{x:Value},R I L O a x->R I L O b x:=by
 induction h with
 |refl=>intro x hr;exact hr
 |nil=>intro x hr;cases hr;exact .lG _ _
 |agg cs ds hl h ih=>
  intro x hr;cases hr with
  |agg _ vs h1 h2=>
   refine .agg _ _ (by omega) λ i d y hd hy=> ?_
   obtain⟨c,hc⟩:=lI hl hd;exact ih i c d hc hd (h2 i c y hc hy)
 |sl xs ys hl h hc ih=>
  intro x hr;cases hr with
  |lG a c=>
   have:ys= []:=by cases ys with|nil=>rfl|cons _ _=>simp at hl
   subst this;exact .lG _ _
  |sl _ bh off cap s bA h1 h2 h3 h4 h5=>
   rw[hl]
   have hg:∀(i:Nat) (y:AV) (j:Nat) (d:AV),ys[i]? =some y->y.cells[j]? =some d->∃x c,xs[i]? =some x/\x.cells[j]? =some c:=λ i y j d hy hd=>by
    obtain⟨x,hx⟩:=lI hl hy;obtain⟨c,hcc⟩:=lI (h i x y hx hy) hd;exact⟨x,c,hx,hcc⟩
   refine .sl ys bh off cap s bA (by omega) (by rintro rfl;exact h2 (by cases xs with|nil=>rfl|cons _ _=>simp at hl)) (λ i y hy=> ?_) (λ i y j d hy hd=> ?_) (λ i y j d hy hd=> ?_)
   ·obtain⟨x,hx⟩:=lI hl hy;rw[←h i x y hx hy];exact h3 i x hx
   ·obtain⟨x,c,hx,hcc⟩:=hg i y j d hy hd;exact h4 i x j c hx hcc
   ·obtain⟨x,c,hx,hcc⟩:=hg i y j d hy hd;exact ih i x y j c d hx hy hcc hd (h5 i x j c hx hcc)
theorem a7.anA{P:Program}{f:FuncId}{as' bs:List AV}{res:AV}(h:a7 P f bs res)(hl:as'.length=bs.length)(hle:∀(i:Nat) (a b:AV),as'[i]? =some a->bs[i]? =some b->AV.uO a b):a7 P f as' res:=by
 refine⟨h.1,λ I L w vs hi hr=>h.2 I L w vs hi ⟨by rw[←hl];exact hr.1,λ i b x hb hx=> ?_⟩⟩;obtain⟨a,ha⟩:=lI hl hb;exact(hle i _ _ ha hb).sound (hr.2 i _ x ha hx)
end Go.Ab
namespace Go.Ab
set_option maxRecDepth 100000
theorem wh{α:Type}{B R:List α}{y d:α}{i:Nat}(h:B.length=i):(B++y::R).getD i d=y:=by
 subst h;simp[List.getD]
theorem apd{α:Type}{B R:List α}{y z:α}{i:Nat}(h:B.length=i):(B++y::R).set i z=B++z::R:=by
 subst h;simp
def slc:List AV->List AV
 | []=>[]
 | .v _::r=>slc r
 |a::r=>a::slc r
theorem nE{e:Env}{O:List ae}:∀(rs:List dO) (acc:List AV) (M M':List AV->Prop),(∀xs,M xs->M' xs)->dQ e O rs acc M->dQ e O rs acc M':=by
 intro rs
 induction rs with
 |nil=>intro acc M M' hm h;exact hm _ h
 |cons r rs ih=>
  intro acc M M' hm h;cases r with
  |tmp t=>exact ih _ _ _ hm h
  |cell t n=>
   simp only[dQ,dO.get]at h⊢
   split at h
   ·split at h
    ·exact⟨h.1,ih _ _ _ hm h.2⟩
    ·exact h.elim
   ·exact h.elim
theorem aoX(P:Program)(e:Env)(O:List ae)(K:KT):wpOp P .xF e O K=k1 (.own O.length) (O++ [.dc (.mp [])]) K:=nr rfl
def awf(ok:Bool)(d:KD)(z m k:AV)(O:List ae)(K:KT):Prop:=match m,k with
    | .own n,.v kv=>match O[n]? with
      |some (.dc (.mp es))=>d.ok kv=true/\d.all es=true/\K (match mK kv es 0 with
       |none=>if ok then .ba [z,.v (.bool false)]else z
       |some (_,v)=>if ok then .ba [v,.v (.bool true)]else v) O
      |_=>False
    |_,_=>False
theorem asp(P:Program)(ok:Bool)(d:KD)(z:AV)(m k:aI)(e:Env)(O:List ae)(K:KT):wpOp P (.aiS ok d z m k) e O K=awf ok d z (m.ev e) (k.ev e) O K:=nr rfl
def awd(d:KD)(m k v:AV)(O:List ae)(K:KT):Prop:=match m,k with
    | .own n,.v kv=>match O[n]? with
      |some (.dc (.mp es))=>d.ok kv=true/\d.all es=true/\K (.ba []) (O.set n (.dc (.mp (o5 kv v es))))
      |_=>False
    |_,_=>False
theorem asn(P:Program)(d:KD)(m k v:aI)(e:Env)(O:List ae)(K:KT):wpOp P (.o5 d m k v) e O K=awd d (m.ev e) (k.ev e) (v.ev e) O K:=nr rfl
def adj(ok:Bool)(z m k:AV)(O:List ae)(K:KT):Prop:=match m,k with
    | .own n,.ptr j 1 0 0=>match O[n]? with
      |some (.dc (.mp es))=>eg O j=true/\iJ O es=true/\K (match gR j es 0 with
       |none=>if ok then .ba [z,.v (.bool false)]else z
       |some (_,v)=>if ok then .ba [v,.v (.bool true)]else v) O
      |_=>False
    |_,_=>False
theorem asm(P:Program)(ok:Bool)(z:AV)(m k:aI)(e:Env)(O:List ae)(K:KT):wpOp P (.zt ok z m k) e O K=adj ok z (m.ev e) (k.ev e) O K:=nr rfl
theorem ahe{ok:Bool}{z:AV}{n j:Nat}{O:List ae}{K:KT}{es:List (AV×AV)}(hO:O[n]? =some (.dc (.mp es)))(hk:eg O j=true)(ha:iJ O es=true)(hf:gR j es 0=none)(h:k1 (if ok then .ba [z,.v (.bool false)]else z) O K):adj ok z (.own n) (.ptr j 1 0 0) O K:=by
 simp only[adj,hO];exact⟨hk,ha,by rw[hf];exact h⟩
theorem xo{ok:Bool}{z v:AV}{n j i:Nat}{O:List ae}{K:KT}{es:List (AV×AV)}(hO:O[n]? =some (.dc (.mp es)))(hk:eg O j=true)(ha:iJ O es=true)(hf:gR j es 0=some (i,v))(h:k1 (if ok then .ba [v,.v (.bool true)]else v) O K):adj ok z (.own n) (.ptr j 1 0 0) O K:=by
 simp only[adj,hO];exact⟨hk,ha,by rw[hf];exact h⟩
def ak1(m k v:AV)(O:List ae)(K:KT):Prop:=match m,k with
    | .own n,.ptr j 1 0 0=>match O[n]? with
      |some (.dc (.mp es))=>eg O j=true/\iJ O es=true/\K (.ba []) (O.set n (.dc (.mp (jY j v es))))
      |_=>False
    |_,_=>False
theorem asj(P:Program)(m k v:aI)(e:Env)(O:List ae)(K:KT):wpOp P (.jY m k v) e O K=ak1 (m.ev e) (k.ev e) (v.ev e) O K:=nr rfl
theorem rD{v:AV}{n j:Nat}{O:List ae}{K:KT}{es:List (AV×AV)}(hO:O[n]? =some (.dc (.mp es)))(hk:eg O j=true)(ha:iJ O es=true)(h:k1 (.ba []) (O.set n (.dc (.mp (jY j v es)))) K):ak1 (.own n) (.ptr j 1 0 0) v O K:=by
 simp only[ak1,hO];exact⟨hk,ha,h⟩
def akx(a:AV)(O:List ae)(K:KT):Prop:=match a with
    | .v (.string s)=>K (.own O.length) (O++ [.dc (.it s 0)])
    |_=>False
theorem aoV(P:Program)(x:aI)(e:Env)(O:List ae)(K:KT):wpOp P (.zR x) e O K=akx (x.ev e) O K:=nr rfl
theorem ah7(s:ByteArray)(O:List ae)(K:KT):akx (.v (.string s)) O K=k1 (.own O.length) (O++ [.dc (.it s 0)]) K:=nr rfl
def arT(a:AV)(O:List ae)(K:KT):Prop:=match a with
    | .own n=>match O[n]? with
      |some (.dc (.it s pos))=>(pos<s.size->K (.ba [.v (.bool true),.v (.int .i64 pos),.v (.int .i32 (Utf8.decode s pos).1)]) (O.set n (.dc (.it s (pos+(Utf8.decode s pos).2)))))/\(¬pos<s.size->K (.ba [.v (.bool false)]) O)
      |_=>False
    |_=>False
theorem aoW(P:Program)(x:aI)(e:Env)(O:List ae)(K:KT):wpOp P (.zU x) e O K=arT (x.ev e) O K:=nr rfl
def avr(t:Nat)(a:AV)(O:List ae)(K:KT):Prop:=match a with
    | .v (.string s)=>s.size<=maxLen/\K (.row O.length s.size) (O++ [.live t 1 (s.data.toList.map λ c=> .v (.int .u8 c.toNat))])
    |_=>False
theorem avW(P:Program)(t:Nat)(x:aI)(e:Env)(O:List ae)(K:KT):wpOp P (.s2b t x) e O K=avr t (x.ev e) O K:=nr rfl
theorem aot(t:Nat)(s:ByteArray)(O:List ae)(K:KT):avr t (.v (.string s)) O K=(s.size<=maxLen/\k1 (.row O.length s.size) (O++ [.live t 1 (s.data.toList.map λ c=> .v (.int .u8 c.toNat))]) K):=nr rfl
def aag(neg:Bool)(a:AV)(O:List ae)(K:KT):Prop:=match a with
    | .v (.pointer none)=>K (.v (.bool (neg !=true))) O
    | .ptr n len _ _=>o4 O[n]? λ _ _ xs=>xs.length=len/\K (.v (.bool (neg !=false))) O
    |_=>False
theorem asl(P:Program)(neg:Bool)(x:aI)(e:Env)(O:List ae)(K:KT):wpOp P (.vt neg x) e O K=aag neg (x.ev e) O K:=by
 simp only[wpOp,aag];cases x.ev e<;>first|rfl|(rename_i k l i f;cases O[k]? with|none=>rfl|some o=>cases o<;>rfl)
theorem afA(O:List ae)(K:KT):aag false (.v (.pointer none)) O K=k1 (.v (.bool true)) O K:=nr rfl
theorem afz(O:List ae)(K:KT):aag true (.v (.pointer none)) O K=k1 (.v (.bool false)) O K:=nr rfl
theorem afy(n len i f:Nat)(O:List ae)(K:KT):aag false (.ptr n len i f) O K=o4 O[n]? λ _ _ xs=>xs.length=len/\k1 (.v (.bool false)) O K:=nr rfl
theorem afx(n len i f:Nat)(O:List ae)(K:KT):aag true (.ptr n len i f) O K=o4 O[n]? λ _ _ xs=>xs.length=len/\k1 (.v (.bool true)) O K:=nr rfl
def ak3(neg:Bool)(a b:AV)(O:List ae)(K:KT):Prop:=match a,b with
    | .ptr n 1 0 0,.ptr m 1 0 0=>eg O n=true/\eg O m=true/\K (.v (.bool (neg !=decide (n=m)))) O
    |_,_=>False
theorem avX(P:Program)(neg:Bool)(x y:aI)(e:Env)(O:List ae)(K:KT):wpOp P (.peq neg x y) e O K=ak3 neg (x.ev e) (y.ev e) O K:=nr rfl
theorem ar6(n m:Nat)(O:List ae)(K:KT):ak3 false (.ptr n 1 0 0) (.ptr m 1 0 0) O K=(eg O n=true/\eg O m=true/\k1 (.v (.bool (decide (n=m)))) O K):=by
 simp only[ak3,Bool.false_bne,aqO]
theorem ar5(n m:Nat)(O:List ae)(K:KT):ak3 true (.ptr n 1 0 0) (.ptr m 1 0 0) O K=(eg O n=true/\eg O m=true/\k1 (.v (.bool (!decide (n=m)))) O K):=by
 simp only[ak3,Bool.true_bne,aqO]
def arl(y x:AV)(t s b:Nat)(O:List ae)(K:KT):Prop:=match y with
    | .v (.string c)=>s=1/\mH O x t s b (c.data.toList.map λ c=> .v (.int .u8 c.toNat)) K
    |_=>False
theorem asr(P:Program)(t s b:Nat)(x y:aI)(e:Env)(O:List ae)(K:KT):wpOp P (.j7 t s b x y) e O K=arl (y.ev e) (x.ev e) t s b O K:=by
 have h:∀ys,gY O (x.ev e) t s b ys K=mH O (x.ev e) t s b ys K:=by
  intro ys;unfold gY mH;cases x.ev e<;>first|rfl|(rename_i k l;cases O[k]? with|none=>rfl|some o=>cases o<;>rfl)
 simp only[wpOp,h]
 rfl
theorem anI(c:ByteArray)(x:AV)(t s b:Nat)(O:List ae)(K:KT):arl (.v (.string c)) x t s b O K=(s=1/\mH O x t s b (c.data.toList.map λ c=> .v (.int .u8 c.toNat)) K):=nr rfl
def asx(bytes:Nat)(z a b:AV)(O:List ae)(K:KT):Prop:=match a,b with
    | .v (.int .i64 n),.v (.int .i64 c)=>0<=n/\n<=c/\bytes*c<=2^48/\c<=maxLen/\z.ag=true/\K (.sl (List.replicate n.toNat z)) O
    |_,_=>False
theorem avZ(P:Program)(t s b:Nat)(z:AV)(x y:aI)(e:Env)(O:List ae)(K:KT):wpOp P (.mkF t s b z x y) e O K=asx b z (x.ev e) (y.ev e) O K:=nr rfl
theorem apa(bytes:Nat)(z:AV)(n c:Int)(O:List ae)(K:KT):asx bytes z (.v (.int .i64 n)) (.v (.int .i64 c)) O K=(0<=n/\n<=c/\bytes*c<=281474976710656/\c<=9223372036854775807/\z.ag=true/\k1 (.sl (List.replicate n.toNat z)) O K):=by
 have h1:(2:Int)^48=281474976710656:=by decide
 have h2:((maxLen:Nat):Int)=9223372036854775807:=by decide
 simp only[asx,h1,h2,k1]
def als(k t s bytes:Nat)(z a b:AV)(O:List ae)(K:KT):Prop:=match a,b with
    | .v (.int .i64 n),.v (.int .i64 c)=>0<n/\n<=c/\bytes*c<=2^48/\c<=maxLen/\z.ag=true/\O[k]? =some (.nil t s)/\K (.row k n.toNat) (O.set k (.live t s (List.replicate n.toNat z)))
    |_,_=>False
theorem aso(P:Program)(k t s b:Nat)(z:AV)(x y:aI)(e:Env)(O:List ae)(K:KT):wpOp P (.xG k t s b z x y) e O K=als k t s b z (x.ev e) (y.ev e) O K:=nr rfl
theorem alr(k t s bytes:Nat)(z:AV)(n c:Int)(O:List ae)(K:KT):als k t s bytes z (.v (.int .i64 n)) (.v (.int .i64 c)) O K=(0<n/\n<=c/\bytes*c<=281474976710656/\c<=9223372036854775807/\z.ag=true/\O[k]? =some (.nil t s)/\k1 (.row k n.toNat) (O.set k (.live t s (List.replicate n.toNat z))) K):=by
 have h1:(2:Int)^48=281474976710656:=by decide
 have h2:((maxLen:Nat):Int)=9223372036854775807:=by decide
 simp only[als,h1,h2,k1]
def afW(t:Nat)(a:AV)(O:List ae)(K:KT):Prop:=match a with
    | .row n len=>o4 O[n]? λ t' s xs=>t'=t/\s=1/\xs.length=len/\K (.row n len) O
    |_=>False
theorem aoY(P:Program)(t:Nat)(x:aI)(e:Env)(O:List ae)(K:KT):wpOp P (.xI t x) e O K=afW t (x.ev e) O K:=by
 simp only[wpOp,afW];cases x.ev e<;>first|rfl|(rename_i k l;cases O[k]? with|none=>rfl|some o=>cases o<;>rfl)
theorem afV(t n len:Nat)(O:List ae)(K:KT):afW t (.row n len) O K=o4 O[n]? λ t' s xs=>t'=t/\s=1/\xs.length=len/\k1 (.row n len) O K:=nr rfl
def am9(P:Program)(n0:Nat)(rows:List (List Nat))(ops:List aP)(Q:AX->Env->List ae->Prop)(e:Env)(O:List ae):Prop:=jR P n0 (.region (some rows) ops) Q e O
theorem auc(P:Program)(n0:Nat)(rows:List (List Nat))(ops:List aP)(Q:AX->Env->List ae->Prop)(e:Env)(O:List ae):jR P n0 (.region (some rows) ops) Q e O=am9 P n0 rows ops Q e O:=nr rfl
theorem jl{P:Program}{n0:Nat}{rows:List (List Nat)}{ops:List aP}{Q:AX->Env->List ae->Prop}{e:Env}{O:List ae}(h:cI P ops [] e O λ ic e O=>ij rows (ops.zip ic)=true/\Q .normal e O):am9 P n0 rows ops Q e O:=⟨ops,rfl,h⟩
theorem aea{P:Program}{n0:Nat}{rows:List (List Nat)}{ops al:List aP}{Q:AX->Env->List ae->Prop}{e:Env}{O:List ae}(hs:al.map aP.strip=ops.map aP.strip)(h:cI P al [] e O λ ic e O=>ij rows (al.zip ic)=true/\Q .normal e O):am9 P n0 rows ops Q e O:=⟨al,hs,h⟩
def aaq(P:Program)(d:Option Nat)(e:Env)(r:List aP)(acc:List g9)(Q:List g9->Env->List ae->Prop):KT:=λ x O'=>cI P r acc (bT e d x) O' Q
theorem alU(P:Program)(d:Option Nat)(e:Env)(r:List aP)(acc:List g9)(Q:List g9->Env->List ae->Prop)(a:AV)(O:List ae):k1 a O (aaq P d e r acc Q)=cI P r acc (bT e d a) O Q:=nr rfl
theorem acP(P:Program)(d:Option Nat)(op:ew)(e:Env)(O:List ae)(r:List aP)(acc:List g9)(Q:List g9->Env->List ae->Prop):
 cI P (⟨none,d,op⟩::r) acc e O Q=wpOp P op e O (aaq P d e r (acc++ [cL op e O.length]) Q):=nr rfl
theorem afb(P:Program)(e:Env)(O:List ae)(acc:List g9)(Q:List g9->Env->List ae->Prop):cI P [] acc e O Q=Q acc e O:=nr rfl
def axQ(neg:Bool)(a b:AV)(O:List ae)(K:KT):Prop:=match a,b with
 | .v (.bool a),.v (.bool b)=>K (.v (.bool (neg !=(a==b)))) O
 |_,_=>False
theorem aqg(neg a b:Bool)(O:List ae)(K:KT):axQ neg (.v (.bool a)) (.v (.bool b)) O K=k1 (.v (.bool (neg !=(a==b)))) O K:=nr rfl
theorem av2(P:Program)(neg:Bool)(x y:aI)(e:Env)(O:List ae)(K:KT):wpOp P (.beq neg x y) e O K=axQ neg (x.ev e) (y.ev e) O K:=nr rfl
theorem a7.any{P:Program}{f:FuncId}{args:List AV}{res:AV}(h:a7 P f args res)(hn:AV.ad args=true)(hr:res.ag=true)(O:List ae):hD P f args O res O:=by
 have:=hD.fresh h hn O;rwa [dW res hr,List.map_nil,List.append_nil]at this
theorem ajw(n:Nat):(AV.own n).cells= [.own n]:=nr rfl
theorem af8(n:Nat):(AV.own n).cg=true:=nr rfl
theorem aa7(n:Nat):(AV.own n).storable=true:=nr rfl
theorem aoc{a b:AV}{cs:List AV}{i:Nat}(n:Nat)(h:i<(a::b::cs).length):qC (.agg (a::b::cs)) i (.own n)= .agg ((a::b::cs).set i (.own n)):=nW rfl h
theorem aox(s:Nat->Nat)(n:Nat):(AV.own n).bU s= .own (s n):=nr rfl
theorem avw(s:Nat->Nat)(x:Value):(AV.v x).bU s= .v x:=nr rfl
theorem aoy(s:Nat->Nat)(cs:List AV):(AV.agg cs).bU s= .agg (cs.map (AV.bU s)):=by simp only[AV.bU,fe]
theorem alb(s:Nat->Nat)(a:AV):(ae.own a).bU s= .own a:=nr rfl
theorem aiD(s:Nat->Nat):ae.dead.bU s= .dead:=nr rfl
theorem abw{nl:Bool}{e s:Nat}{xs:List AV}(hn:AV.ad xs=true):(cK nl e s xs).ad=true:=by
 unfold cK;split
 ·rfl
 ·exact hn
def akY(o:PU)(xs:List AV)(O:List ae)(K:KT):Prop:=AV.ad xs=true/\puK o xs λ v=>K v O
theorem ay8(P:Program)(o:PU)(as:List aI)(e:Env)(O:List ae)(K:KT):wpOp P (.pu o as) e O K=akY o (as.map λ x=>iF O (x.ev e)) O K:=nr rfl
theorem akX(k:IntKind)(a b:Int)(O:List ae)(K:KT):akY .max [.v (.int k a),.v (.int k b)] O K=k1 (.v (.int k (max a b))) O K:=by
 have:(if a<b then b else a)=max a b:=by rw[Int.max_def];split<;>split<;>omega
 simp[akY,puK,v8,AV.ad,AV.ag,k1,this]
theorem hD.back{P:Program}{f:FuncId}{args:List AV}{O1 mz:List ae}{res:AV}(h:hD P f args O1 res mz)(hl:mz.length=O1.length)(ha:AV.cX O1.length args=true)(hr:res.ag=true)
  (ho:O1.all ae.ad=true) (ho':mz.all ae.ad=true) (A:List ae):hD P f (args.map (AV.bU λ n=>A.length+n)) (A++O1) res (A++mz):=by
 have gO:∀{X:List ae},X.all ae.ad=true->∀i,(A++X)[A.length+i]? =(X[i]?).map (ae.bU λ n=>A.length+n):=by
  intro X hx i;rw[List.getElem?_append_right (by omega),Nat.add_sub_cancel_left];cases hq:X[i]? with
  |none=>rfl
  |some ob=>simp only[Option.map_some];rw[fD (List.all_eq_true.1 hx ob (List.mem_of_getElem? hq))]
 have:=h.frame (O:=A++O1) (oY:=A++mz) (λ n=>A.length+n) (λ i hi=>by simp;omega) (λ i _=>gO ho i) (λ i j _ _ he=>by omega)
  (λ i hi=>by simp;omega) (λ a h'=>bZ ha a h') (λ ob hb=>mI (List.all_eq_true.1 ho ob hb)) (by simp[hl]) (λ i _=>gO ho' i) (λ n hn cE=> ?_)
 ·rwa [dW res hr]at this
 ·have aF:n<A.length:=by
    rcases lt_or_ge n A.length with h'|h'
    ·exact h'
    ·have:n<A.length+O1.length:=by simpa using hn
     exact(cE (n- A.length) (by omega) (by omega)).elim
  rw[List.getElem?_append_left aF,List.getElem?_append_left aF]
theorem nD{n0 t:Nat}{res:AV}{x:AX}(hx:x= .ret∨x= .normal){e:Env}{O:List ae}(h:e t=res):n7 n0 [.tmp t] res O x e O:=by
 have:dQ e O [.tmp t] [] λ gZ=>∃e',WK n0 (λ t=>if t=0 then bz gZ else .top) O e' O/\e' 0=res:=by
  rw[ac8,ada];simp only[List.reverse_cons,List.reverse_nil,List.nil_append,bz,h];exact⟨λ t=>if t=0 then res else .top,.refl _ _ _,rfl⟩
 rcases hx with rfl|rfl<;>exact this
def atT(P:Program)(f:FuncId)(args:List AV)(O:List ae)(K:KT):Prop:=∃res ob,AV.ad args=true/\hD P f args [] res [ob]/\K (res.bU λ n=>O.length+n) (O++ [ob.bU λ n=>O.length+n])
theorem ao1(P:Program)(nl:Bool)(t s:Nat)(f:FuncId)(as:List aI)(e:Env)(O:List ae)(K:KT):wpOp P (.eV nl t s f as) e O K=atT P f (as.map (aI.ev e)) O K:=nr rfl
def asL(P:Program)(rd:List Nat)(f:FuncId)(args:List AV)(O:List ae)(K:KT):Prop:=∃res ob,(∀O':List ae,O'.length=O.length->(∀n∈rd,O'[n]? =O[n]?)->hD P f args O' res (O'++ [ob]))/\K res (O++ [ob])
def asT(P:Program)(rd:List Nat)(f:FuncId)(args:List AV)(O:List ae)(K:KT):Prop:=∃res,(∀O':List ae,(∀n∈rd,O'[n]? =O[n]?)->hD P f args O' res O')/\K res O
theorem aoZ(P:Program)(rd:List Nat)(f:FuncId)(as:List aI)(e:Env)(O:List ae)(K:KT):wpOp P (.qM rd f as) e O K=asL P rd f (as.map (aI.ev e)) O K:=nr rfl
theorem ao0(P:Program)(rd:List Nat)(f:FuncId)(as:List aI)(e:Env)(O:List ae)(K:KT):wpOp P (.qN rd f as) e O K=asT P rd f (as.map (aI.ev e)) O K:=nr rfl
def aks(P:Program)(kp:List Nat)(f:FuncId)(args:List AV)(O:List ae)(K:KT):Prop:=∃res O',hD P f args O res O'/\(∀n∈kp,O'[n]? =O[n]?)/\K res O'
theorem aoU(P:Program)(kp:List Nat)(f:FuncId)(as:List aI)(e:Env)(O:List ae)(K:KT):wpOp P (.nn kp f as) e O K=aks P kp f (as.map (aI.ev e)) O K:=nr rfl
theorem nX{P:Program}{kp:List Nat}{f:FuncId}{args:List AV}{O O':List ae}{K:KT}{res:AV}(h:hD P f args O res O')(hk:∀n∈kp,O'[n]? =O[n]?)(k:k1 res O' K):aks P kp f args O K:=⟨res,O',h,hk,k⟩
def oT(P:Program)(a:AV)(want:Bool)(t:Nat)(d:Option Nat)(op:ew)(r:List aP)(acc:List g9)(e:Env)(O:List ae)(Q:List g9->Env->List ae->Prop):Prop:=match a with
 | .v (.bool b)=>
   (b=want->wpOp P op (e.set t (.v (.bool want))) O (aaq P d (e.set t (.v (.bool want))) r (acc++ [cL op (e.set t (.v (.bool want))) O.length]) Q))/\
   (b= !want->cI P r (acc++ [⟨[],.fP⟩]) (bT (e.set t (.v (.bool (!want)))) d (.ba [])) O Q)
 | .ba []=>cI P r (acc++ [⟨[],.fP⟩]) (bT e d (.ba [])) O Q
 |_=>False
section
variable (P:Program) (t:Nat) (d:Option Nat) (op:ew) (r:List aP) (acc:List g9) (e:Env) (O:List ae) (Q:List g9->Env->List ae->Prop)
theorem apl(want:Bool):cI P (⟨some (t,want),d,op⟩::r) acc e O Q=oT P (e t) want t d op r acc e O Q:=by
 simp only[cI];unfold oT aaq;cases e t<;>try rfl
theorem amH:oT P (.v (.bool true)) true t d op r acc e O Q=wpOp P op (e.set t (.v (.bool true))) O (aaq P d (e.set t (.v (.bool true))) r (acc++ [cL op (e.set t (.v (.bool true))) O.length]) Q):=by simp[oT]
theorem amK:oT P (.v (.bool false)) false t d op r acc e O Q=wpOp P op (e.set t (.v (.bool false))) O (aaq P d (e.set t (.v (.bool false))) r (acc++ [cL op (e.set t (.v (.bool false))) O.length]) Q):=by simp[oT]
theorem amI:oT P (.v (.bool true)) false t d op r acc e O Q=cI P r (acc++ [⟨[],.fP⟩]) (bT (e.set t (.v (.bool true))) d (.ba [])) O Q:=by simp[oT]
theorem amJ:oT P (.v (.bool false)) true t d op r acc e O Q=cI P r (acc++ [⟨[],.fP⟩]) (bT (e.set t (.v (.bool false))) d (.ba [])) O Q:=by simp[oT]
theorem agr(want:Bool):oT P (.ba []) want t d op r acc e O Q=cI P r (acc++ [⟨[],.fP⟩]) (bT e d (.ba [])) O Q:=by simp[oT]
end
theorem Split.congr{O O':List ae}{ys xs:List AV}(h:Split O ys xs)(ho:∀(m:Nat) d,O[m]? =some (.own d)->O'[m]? =some (.own d)):Split O' ys xs:=
 ⟨h.len,h.cells,λ i y x j c d hy hx hc hd=>(h.half i y x j c d hy hx hc hd).imp id λ ⟨k,h1,h2⟩=>⟨k,h1,ho k d h2⟩,h.inj⟩
theorem Split.nil(O:List ae):Split O [] []:=⟨rfl,λ i y x h=>by simp at h,λ i y x j c d h=>by simp at h,λ i y j i' y' j' k h=>by simp at h⟩
def OD0:=And.intro @auc (And.intro @acP (And.intro @afb (And.intro @av2 (And.intro @ay8 (And.intro @apl (And.intro @ao1 (And.intro @aoZ (And.intro @ao0 (And.intro @aoU (And.intro @akj (And.intro @afd (And.intro @axM (And.intro @aud (And.intro @aqd (And.intro @akl (And.intro @an7 (And.intro @aub (And.intro @aua (@ahY)))))))))))))))))))
def OD1:=And.intro @afa (And.intro @aqc (And.intro @arX (And.intro @arY (And.intro @arW (And.intro @anv (And.intro @anw (And.intro @anu (And.intro @apq (And.intro @apr (And.intro @apo (And.intro @akG (And.intro @akF (And.intro @avY (And.intro @afJ (And.intro @ao4 (And.intro @av1 (And.intro @ao3 (And.intro @abG (@xz)))))))))))))))))))
def OD2:=And.intro @abE (And.intro @aqG (And.intro @avV (And.intro @ali (And.intro @qg (And.intro @aqE (And.intro @abF (And.intro @ao5 (And.intro @alh (And.intro @adn (And.intro @ado (And.intro @av0 (And.intro @alg (And.intro @afK (And.intro @alj (And.intro @aqF (And.intro @ale (And.intro @alf (And.intro @asq (@ao2)))))))))))))))))))
def OD3:=And.intro @ahm (And.intro @xy (And.intro @ahl (And.intro @xx (And.intro @aic (And.intro @aid (And.intro @aoX (And.intro @asp (And.intro @asn (And.intro @asm (And.intro @asj (And.intro @aoV (And.intro @aoW (And.intro @avW (And.intro @asl (And.intro @avX (And.intro @asr (And.intro @avZ (And.intro @aso (@aoY)))))))))))))))))))
def OA0:=And.intro @ajw (And.intro @af8 (And.intro @aa7 (And.intro @aoc (And.intro @aox (And.intro @avw (And.intro @aoy (And.intro @alb (And.intro @aiD (And.intro @alU (And.intro @aqg (And.intro @amH (And.intro @amK (And.intro @amI (And.intro @amJ (And.intro @agr (And.intro @akX (And.intro @apt (And.intro @xm (@uE)))))))))))))))))))
def OA1:=And.intro @xn (And.intro @aqf (And.intro @anx (And.intro @ajQ (And.intro @anq (And.intro @ajP (And.intro @fE (And.intro @j0 (And.intro @nG (And.intro @rL (And.intro @tL (And.intro @ra (And.intro @aeJ (And.intro @aew (And.intro @aeC (And.intro @aeI (And.intro @ahR (And.intro @aev (And.intro @aeA (@aez)))))))))))))))))))
def OA2:=And.intro @aeH (And.intro @aeB (And.intro @aeD (And.intro @aeE (And.intro @aeF (And.intro @aeG (And.intro @aey (And.intro @aex (And.intro @aaW (And.intro @aaV (And.intro @aaU (And.intro @agW (And.intro @agX (And.intro @aec (And.intro @pM (And.intro @oD (And.intro @ahH (And.intro @aay (And.intro @aeS (@agR)))))))))))))))))))
def OA3:=And.intro @rQ (And.intro @adN (And.intro @aet (And.intro @aes (And.intro @wV (And.intro @wW (And.intro @alq (And.intro @adz (And.intro @rM (And.intro @xN (And.intro @aao (And.intro @afk (And.intro @wL (And.intro @tm (And.intro @uI (And.intro @rG (And.intro @tG (And.intro @ahJ (And.intro @rJ (@xD)))))))))))))))))))
def OA4:=And.intro @aak (And.intro @ajA (And.intro @rC (And.intro @rF (And.intro @apP (And.intro @apQ (And.intro @apR (And.intro @apS (And.intro @aji (And.intro @agC (And.intro @aee (And.intro @pC (And.intro @ga (And.intro @ah1 (And.intro @avf (And.intro @arE (And.intro @ako (And.intro @aoa (And.intro @aob (@arF)))))))))))))))))))
def OA5:=And.intro @aod (And.intro @akp (And.intro @axy (And.intro @atG (And.intro @amP (And.intro @apU (And.intro @atH (And.intro @ada (And.intro @ac8 (And.intro @aim (And.intro @ajz (And.intro @aek (And.intro @aiB (And.intro @afG (And.intro @List.reverse_cons.{0} (And.intro @List.reverse_nil.{0} (And.intro @ne_eq.{1} (And.intro @Nat.add_eq_zero_iff (And.intro @not_false_eq_true (@Nat.one_ne_zero)))))))))))))))))))
def OA6:=And.intro @aAJ (And.intro @aAK (And.intro @arU (And.intro @am3 (And.intro @aaM (And.intro @alT (And.intro @List.map_cons.{0,0} (And.intro @List.map_nil.{0,0} (And.intro @Option.map_some.{0,0} (And.intro @Option.map_none.{0,0} (And.intro @List.getD_cons_zero.{0} (And.intro @List.getD_cons_succ.{0} (And.intro @List.length_nil.{0} (And.intro @List.length_cons.{0} (And.intro @List.length_append.{0} (And.intro @List.length_set.{0} (And.intro @List.nil_append.{0} (And.intro @List.cons_append.{0} (And.intro @List.append_nil.{0} (@List.getElem?_cons_zero.{0})))))))))))))))))))
def OA7:=And.intro @List.getElem?_cons_succ.{0} (And.intro @List.set_cons_zero.{0} (And.intro @List.set_cons_succ.{0} (And.intro @List.drop_succ_cons.{0} (And.intro @List.drop_zero.{0} (And.intro @List.take_succ_cons.{0} (And.intro @List.take_zero.{0} (And.intro @List.replicate_succ.{0} (And.intro @List.replicate_zero.{0} (And.intro @if_true.{1} (And.intro @if_false.{1} (And.intro @aaR (And.intro @aq (And.intro @yN (And.intro @aei (And.intro @aju (And.intro @ajv (And.intro @aej (And.intro @aax (@nI)))))))))))))))))))
def OA8:=And.intro @uS (And.intro @aav (And.intro @af6 (And.intro @af7 (And.intro @aaw (And.intro @si (And.intro @wK (And.intro @qF (And.intro @uy (And.intro @aa5 (And.intro @aa6 (And.intro @uz (And.intro @aaE (And.intro @td (And.intro @atO (And.intro @afN (And.intro @adp (And.intro @ao7 (And.intro @alm (@aiK)))))))))))))))))))
def OA9:=And.intro @aiI (And.intro @afP (And.intro @aln (And.intro @List.all_cons.{0} (And.intro @List.all_nil.{0} (And.intro @Bool.and_true (And.intro @Bool.true_and (And.intro @Bool.or_true (And.intro @Bool.true_or (And.intro @Bool.not_true (And.intro @Bool.not_false (And.intro @decide_true (And.intro @decide_false (And.intro @aAU (And.intro @Option.getD_none.{0} (And.intro @Option.getD_some.{0} (And.intro @true_and (And.intro @and_true (And.intro @Nat.zero_add (@Nat.add_zero)))))))))))))))))))
def aA1:=And.intro @Nat.lt_add_one (And.intro @Nat.zero_lt_succ (And.intro @Nat.le_refl (And.intro @ah7 (And.intro @aot (And.intro @afA (And.intro @afz (And.intro @afy (And.intro @afx (And.intro @ar6 (And.intro @ar5 (And.intro @anI (And.intro @apa (And.intro @alr (@afV))))))))))))))
def OD:=And.intro @OD0 (And.intro @OD1 (And.intro @OD2 (@OD3)))
def OA:=And.intro @OA0 (And.intro @OA1 (And.intro @OA2 (And.intro @OA3 (And.intro @OA4 (And.intro @OA5 (And.intro @OA6 (And.intro @OA7 (And.intro @OA8 (And.intro @OA9 (@aA1))))))))))
end Go.Ab
