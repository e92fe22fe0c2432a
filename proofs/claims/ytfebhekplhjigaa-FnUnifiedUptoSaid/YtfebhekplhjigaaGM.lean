/- Part of a proof: the functions that the law reaches, walked by the abstract logic of the texts Ab. -/
import Derived.Test.YtfebhekplhjigaaAbM5
import Derived.Test.YtfebhekplhjigaaAbM3
open Nat(zero_le lt_or_ge)
open List(map_cons getElem_mem)
set_option linter.unusedSimpArgs false
set_option linter.unusedVariables false
set_option linter.defProp false
namespace Go.Ab
set_option maxRecDepth 100000
theorem bh{n:Int}(h: -9223372036854775808<=n)(h':n<=9223372036854775807):IntKind.i64.wrap n=n:=apZ h h'
theorem bW{a b:Nat}(h:b<=a)(h':a<=4611686018427387904):IntKind.i64.wrap ((a:Int)- (b:Int))=((a- b:Nat):Int):=by
 rw[bh (by omega) (by omega)];omega
theorem bR{a b:Nat}(h:a+b<=4611686018427387904):IntKind.i64.wrap ((a:Int)+(b:Int))=((a+b:Nat):Int):=by
 rw[bh (by omega) (by omega)];omega
theorem aH{a:Nat}(h:a<=4611686018427387904):IntKind.i64.wrap ((a:Int)+1)=((a+1:Nat):Int):=by
 rw[bh (by omega) (by omega)];omega
theorem fZ(n:Nat):decide ((n:Int)<0)=false:=by simp
theorem getM{α:Type}(f:α->AV){l:List α}{i:Nat}(h:i<l.length):(l.map f)[i]? =some (f l[i]):=by simp[h]
theorem lR{α:Type}(f:α->AV){l:List α}{s n:Nat}{k:IntKind}{K:AV->Prop}(h:n<l.length)(hs:(f l[n]).cells.length=s)(hk:fq K (f l[n])):lQ s (.sl (l.map f)) (.v (.int k (n:Int))) K:=
 aio _ (getM f h) hs hk
theorem bA{α:Type}{f:α->AV}{l:List α}(h:∀x,(f x).ag=true):AV.ae (l.map f)=true:=fL λ a ha=>by
 obtain⟨x,_,rfl⟩:=List.mem_map.1 ha;exact h x
section
variable {P:Program} {L:AX->SS->List AV->Prop} {R:AV->Prop} {t:T} {r:List AV} {S:List (List AV->Prop)}
theorem adl{init:List AV}(n:Nat)(σ:Nat->List AV)(h0:init=σ 0)
  (hr:∀i,i<=n->bD P L R t (r++σ i) ((λ vs=>i<n/\vs=σ (i+1))::S)):rQ P L R init t r S:=by
 refine eh (ι:=Nat) (λ i=>i<=n) σ (λ i=>n- i) 0 (zero_le _) h0 λ i hi=> ?_
 refine dz (λ _ _ _ h=>h) (λ _ h=>h) t (.cons (λ vs hv=> ?_) (.refl _)) (hr i hi);exact⟨i+1,hv.1,by have:=hv.1;omega,hv.2⟩
end
abbrev au(n:Int):AV:= .v (.int .i64 n)
abbrev bZ(s:ByteArray):AV:= .v (.string s)
end Go.Ab
namespace Go.Ab
set_option maxRecDepth 100000
def l8(n:Int):Prop:= -9223372036854775808<=n/\n<=9223372036854775807
theorem cY{α:Type}(w:α->Nat){l:List α}{x:α}(h:x∈l):w x<=(l.map w).sum:=by
 induction l with
 |nil=>simp at h
 |cons a l ih=>
  simp only[map_cons,List.sum_cons];rcases List.mem_cons.1 h with rfl|h
  ·omega
  ·have:=ih h;omega
inductive iS where
 |mk (Kind:Int) (Text:ByteArray) (ru:Int) (Pos:Int)
def iS.Text:iS->ByteArray
 | .mk _ a _ _=>a
def iS.ru:iS->Int
 | .mk _ _ a _=>a
def iS.Pos:iS->Int
 | .mk _ _ _ a=>a
def iS.cs:iS->List AV
 | .mk Kind Text ru Pos=>(.v (.int .i64 Kind)::(.v (.string Text)::(.v (.int .i64 ru)::(.v (.int .i64 Pos):: []))))
def iS.av(x:iS):AV:= .agg x.cs
theorem iS.aM:∀x:iS,AV.ae x.cs=true
 | .mk Kind Text ru Pos=>by simp[iS.cs,AV.ae,AV.ag]
theorem iS.ag(x:iS):x.av.ag=true:=iS.aM x
inductive ka where
 |mk (Kind:Int) (Name:ByteArray) (ru:Int) (Pos:Int) (Kids:List ka)
def ka.ru:ka->Int
 | .mk _ _ a _ _=>a
def ka.Pos:ka->Int
 | .mk _ _ _ a _=>a
mutual
def ka.cs:ka->List AV
 | .mk Kind Name ru Pos Kids=>(.v (.int .i64 Kind)::(.v (.string Name)::(.v (.int .i64 ru)::(.v (.int .i64 Pos)::(.sl (ka.eS Kids):: [])))))
def ka.eS:List ka->List AV
 | []=>[]
 |x::l=> .agg x.cs::ka.eS l
end
def ka.av(x:ka):AV:= .agg x.cs
mutual
theorem ka.aM:∀x:ka,AV.ae x.cs=true
 | .mk Kind Name ru Pos Kids=>by simp[ka.cs,AV.ae,AV.ag,ka.cM Kids]
theorem ka.cM:∀l:List ka,AV.ae (ka.eS l)=true
 | []=>rfl
 |x::l=>by simp[ka.eS,AV.ae,AV.ag,ka.aM x,ka.cM l]
end
theorem ka.ag(x:ka):x.av.ag=true:=ka.aM x
mutual
inductive g9 where
 |mk (Kind:Int) (Name:ByteArray) (ru:Int) (Text:ByteArray) (Pos:Int) (Kids:List g9) (aay:List kO)
inductive kO where
 |mk (P:ka) (E:g9)
end
def g9.ru:g9->Int
 | .mk _ _ a _ _ _ _=>a
def g9.Text:g9->ByteArray
 | .mk _ _ _ a _ _ _=>a
def g9.Pos:g9->Int
 | .mk _ _ _ _ a _ _=>a
def g9.aay:g9->List kO
 | .mk _ _ _ _ _ _ a=>a
def kO.P:kO->ka
 | .mk a _=>a
def kO.E:kO->g9
 | .mk _ a=>a
mutual
def g9.cs:g9->List AV
 | .mk Kind Name ru Text Pos Kids aay=>(.v (.int .i64 Kind)::(.v (.string Name)::(.v (.int .i64 ru)::(.v (.string Text)::(.v (.int .i64 Pos)::(.sl (g9.eS Kids)::(.sl (kO.eS aay):: [])))))))
def kO.cs:kO->List AV
 | .mk P E=>(P.cs++(E.cs++ []))
def g9.eS:List g9->List AV
 | []=>[]
 |x::l=> .agg x.cs::g9.eS l
def kO.eS:List kO->List AV
 | []=>[]
 |x::l=> .agg x.cs::kO.eS l
end
def g9.av(x:g9):AV:= .agg x.cs
def kO.av(x:kO):AV:= .agg x.cs
mutual
theorem g9.aM:∀x:g9,AV.ae x.cs=true
 | .mk Kind Name ru Text Pos Kids aay=>by simp[g9.cs,AV.ae,AV.ag,g9.cM Kids,kO.cM aay]
theorem kO.aM:∀x:kO,AV.ae x.cs=true
 | .mk P E=>by simp[kO.cs,bF,ka.aM P,g9.aM E]
theorem g9.cM:∀l:List g9,AV.ae (g9.eS l)=true
 | []=>rfl
 |x::l=>by simp[g9.eS,AV.ae,AV.ag,g9.aM x,g9.cM l]
theorem kO.cM:∀l:List kO,AV.ae (kO.eS l)=true
 | []=>rfl
 |x::l=>by simp[kO.eS,AV.ae,AV.ag,kO.aM x,kO.cM l]
end
theorem g9.ag(x:g9):x.av.ag=true:=g9.aM x
theorem kO.ag(x:kO):x.av.ag=true:=kO.aM x
inductive b9 where
 |mk (Kind:Int) (Name:ByteArray) (Pos:Int) (Kids:List b9)
def b9.Pos:b9->Int
 | .mk _ _ a _=>a
mutual
def b9.cs:b9->List AV
 | .mk Kind Name Pos Kids=>(.v (.int .i64 Kind)::(.v (.string Name)::(.v (.int .i64 Pos)::(.sl (b9.eS Kids):: []))))
def b9.eS:List b9->List AV
 | []=>[]
 |x::l=> .agg x.cs::b9.eS l
end
def b9.av(x:b9):AV:= .agg x.cs
mutual
theorem b9.aM:∀x:b9,AV.ae x.cs=true
 | .mk Kind Name Pos Kids=>by simp[b9.cs,AV.ae,AV.ag,b9.cM Kids]
theorem b9.cM:∀l:List b9,AV.ae (b9.eS l)=true
 | []=>rfl
 |x::l=>by simp[b9.eS,AV.ae,AV.ag,b9.aM x,b9.cM l]
end
theorem b9.ag(x:b9):x.av.ag=true:=b9.aM x
inductive iY where
 |mk (Name:ByteArray) (Has:Bool) (Arg:b9) (Pos:Int)
def iY.Has:iY->Bool
 | .mk _ a _ _=>a
def iY.Arg:iY->b9
 | .mk _ _ a _=>a
def iY.Pos:iY->Int
 | .mk _ _ _ a=>a
def iY.cs:iY->List AV
 | .mk Name Has Arg Pos=>(.v (.string Name)::(.v (.bool Has)::(Arg.cs++(.v (.int .i64 Pos):: []))))
def iY.av(x:iY):AV:= .agg x.cs
theorem iY.aM:∀x:iY,AV.ae x.cs=true
 | .mk Name Has Arg Pos=>by simp[iY.cs,AV.ae,AV.ag,bF,b9.aM Arg]
theorem iY.ag(x:iY):x.av.ag=true:=iY.aM x
inductive iX where
 |mk (Name:ByteArray) (sY:List ByteArray) (qN:List iY) (Pos:Int)
def iX.sY:iX->List ByteArray
 | .mk _ a _ _=>a
def iX.qN:iX->List iY
 | .mk _ _ a _=>a
def iX.Pos:iX->Int
 | .mk _ _ _ a=>a
def iX.cs:iX->List AV
 | .mk Name sY qN Pos=>(.v (.string Name)::(.sl (sY.map λ x=> .v (.string x))::(.sl (qN.map iY.av)::(.v (.int .i64 Pos):: []))))
def iX.av(x:iX):AV:= .agg x.cs
theorem iX.aM:∀x:iX,AV.ae x.cs=true
 | .mk Name sY qN Pos=>by simp[iX.cs,AV.ae,AV.ag,bA (f:=λ x=> .v (.string x)) (l:=sY) (λ _=>rfl),bA (f:=iY.av) (l:=qN) iY.ag]
theorem iX.ag(x:iX):x.av.ag=true:=iX.aM x
inductive nK where
 |mk (Types:List iX) (Body:g9)
def nK.Types:nK->List iX
 | .mk a _=>a
def nK.Body:nK->g9
 | .mk _ a=>a
def nK.cs:nK->List AV
 | .mk Types Body=>(.sl (Types.map iX.av)::(Body.cs++ []))
def nK.av(x:nK):AV:= .agg x.cs
theorem nK.aM:∀x:nK,AV.ae x.cs=true
 | .mk Types Body=>by simp[nK.cs,AV.ae,AV.ag,bA (f:=iX.av) (l:=Types) iX.ag,g9.aM Body]
theorem nK.ag(x:nK):x.av.ag=true:=nK.aM x
inductive aa where
 |mk (Kind:Int) (N:Int) (Name:ByteArray) (Kids:List aa)
def aa.Kind:aa->Int
 | .mk a _ _ _=>a
def aa.N:aa->Int
 | .mk _ a _ _=>a
def aa.Name:aa->ByteArray
 | .mk _ _ a _=>a
def aa.Kids:aa->List aa
 | .mk _ _ _ a=>a
theorem aa.xK(Kind:Int)(N:Int)(Name:ByteArray)(Kids:List aa):(aa.mk Kind N Name Kids).Kind=Kind:=nr rfl
theorem aa.ass(Kind:Int)(N:Int)(Name:ByteArray)(Kids:List aa):(aa.mk Kind N Name Kids).N=N:=nr rfl
theorem aa.kg(Kind:Int)(N:Int)(Name:ByteArray)(Kids:List aa):(aa.mk Kind N Name Kids).Name=Name:=nr rfl
theorem aa.gI(Kind:Int)(N:Int)(Name:ByteArray)(Kids:List aa):(aa.mk Kind N Name Kids).Kids=Kids:=nr rfl
mutual
def aa.cs:aa->List AV
 | .mk Kind N Name Kids=>(.v (.int .i64 Kind)::(.v (.int .i64 N)::(.v (.string Name)::(.sl (aa.eS Kids):: []))))
def aa.eS:List aa->List AV
 | []=>[]
 |x::l=> .agg x.cs::aa.eS l
end
def aa.av(x:aa):AV:= .agg x.cs
theorem aa.awl(l:List aa):aa.eS l=l.map aa.av:=by
 induction l with
 |nil=>rfl
 |cons x l ih=>simp only[aa.eS,ih,map_cons,aa.av]
mutual
def aa.wt:aa->Nat
 | .mk Kind N Name Kids=>Name.size+(Kids.length+aa.wts Kids)
def aa.wts:List aa->Nat
 | []=>0
 |x::l=>x.wt+aa.wts l
end
theorem aa.atx(l:List aa):aa.wts l=(l.map aa.wt).sum:=by
 induction l with
 |nil=>rfl
 |cons x l ih=>simp only[aa.wts,ih,map_cons,List.sum_cons]
mutual
def aa.ok:aa->Prop
 | .mk Kind N Name Kids=>l8 Kind/\l8 N/\aa.oks Kids
def aa.oks:List aa->Prop
 | []=>True
 |x::l=>x.ok/\aa.oks l
end
theorem aa.aqN(l:List aa):aa.oks l↔∀y∈l,y.ok:=by
 induction l with
 |nil=>simp[aa.oks]
 |cons x l ih=>simp[aa.oks,ih]
mutual
theorem aa.aM:∀x:aa,AV.ae x.cs=true
 | .mk Kind N Name Kids=>by simp[aa.cs,AV.ae,AV.ag,aa.cM Kids]
theorem aa.cM:∀l:List aa,AV.ae (aa.eS l)=true
 | []=>rfl
 |x::l=>by simp[aa.eS,AV.ae,AV.ag,aa.aM x,aa.cM l]
end
theorem aa.ag(x:aa):x.av.ag=true:=aa.aM x
theorem aa.isAgg(x:aa):x.av.isAgg=true:=nr rfl
theorem aa.ati(x:aa):x.cs= [.v (.int .i64 x.Kind),.v (.int .i64 x.N),.v (.string x.Name),.sl (x.Kids.map aa.av)]:=by
 obtain⟨Kind,N,Name,Kids⟩:=x;simp only[aa.cs,aa.Kids,aa.Kind,aa.N,aa.Name,aa.awl]
theorem aa.cells(x:aa):x.av.cells= [.v (.int .i64 x.Kind),.v (.int .i64 x.N),.v (.string x.Name),.sl (x.Kids.map aa.av)]:=aa.ati x
theorem aa.width(x:aa):x.av.cells.length=4:=by rw[aa.cells];rfl
theorem aa.storable(x:aa):x.av.storable=true:=by unfold AV.storable;rw[aa.cells];rfl
theorem aa.eta(x:aa):AV.agg [.v (.int .i64 x.Kind),.v (.int .i64 x.N),.v (.string x.Name),.sl (x.Kids.map aa.av)]=x.av:=by
 show _=AV.agg x.cs;rw[aa.ati]
theorem aa.shape(x:aa):x.av.isAgg=true/\x.av.cells.length=4/\x.av.storable=true:=⟨rfl,aa.width x,aa.storable x⟩
theorem aa.dH(x:aa):x.wt=x.Name.size+(x.Kids.length+(x.Kids.map aa.wt).sum):=by
 cases x;simp only[aa.wt,aa.atx,aa.Name,aa.Kids]
theorem aa.oV(x:aa):x.ok↔l8 x.Kind/\l8 x.N/\(∀y∈x.Kids,y.ok):=by
 cases x;simp only[aa.ok,aa.aqN,aa.Kind,aa.N,aa.Kids]
theorem aa.cW{x:aa}{y:aa}(h:y∈x.Kids):SizeOf.sizeOf y<SizeOf.sizeOf x:=by
 cases x;have:=List.sizeOf_lt_of_mem h;simp only[aa.Kids]at this;simp;omega
inductive cK where
 |mk (Name:ByteArray) (Has:Bool) (Arg:aa)
def cK.Has:cK->Bool
 | .mk _ a _=>a
def cK.Arg:cK->aa
 | .mk _ _ a=>a
def cK.cs:cK->List AV
 | .mk Name Has Arg=>(.v (.string Name)::(.v (.bool Has)::(Arg.cs++ [])))
def cK.av(x:cK):AV:= .agg x.cs
theorem cK.aM:∀x:cK,AV.ae x.cs=true
 | .mk Name Has Arg=>by simp[cK.cs,AV.ae,AV.ag,aa.aM Arg]
theorem cK.ag(x:cK):x.av.ag=true:=cK.aM x
inductive eb where
 |mk (Name:ByteArray) (sY:Int) (qN:List cK)
def eb.sY:eb->Int
 | .mk _ a _=>a
def eb.qN:eb->List cK
 | .mk _ _ a=>a
def eb.cs:eb->List AV
 | .mk Name sY qN=>(.v (.string Name)::(.v (.int .i64 sY)::(.sl (qN.map cK.av):: [])))
def eb.av(x:eb):AV:= .agg x.cs
theorem eb.aM:∀x:eb,AV.ae x.cs=true
 | .mk Name sY qN=>by simp[eb.cs,AV.ae,AV.ag,bA (f:=cK.av) (l:=qN) cK.ag]
theorem eb.ag(x:eb):x.av.ag=true:=eb.aM x
inductive fR where
 |mk (Kind:Int) (ru:Int) (Name:ByteArray) (T:aa) (Kids:List fR)
def fR.ru:fR->Int
 | .mk _ a _ _ _=>a
mutual
def fR.cs:fR->List AV
 | .mk Kind ru Name T Kids=>(.v (.int .i64 Kind)::(.v (.int .i64 ru)::(.v (.string Name)::(T.cs++(.sl (fR.eS Kids):: [])))))
def fR.eS:List fR->List AV
 | []=>[]
 |x::l=> .agg x.cs::fR.eS l
end
def fR.av(x:fR):AV:= .agg x.cs
mutual
theorem fR.aM:∀x:fR,AV.ae x.cs=true
 | .mk Kind ru Name T Kids=>by simp[fR.cs,AV.ae,AV.ag,bF,aa.aM T,fR.cM Kids]
theorem fR.cM:∀l:List fR,AV.ae (fR.eS l)=true
 | []=>rfl
 |x::l=>by simp[fR.eS,AV.ae,AV.ag,fR.aM x,fR.cM l]
end
theorem fR.ag(x:fR):x.av.ag=true:=fR.aM x
mutual
inductive ey where
 |mk (Kind:Int) (N:Int) (ru:Int) (Text:ByteArray) (Name:ByteArray) (T:aa) (Ts:List aa) (Kids:List ey) (aay:List fS)
inductive fS where
 |mk (P:fR) (E:ey)
end
def ey.ru:ey->Int
 | .mk _ _ a _ _ _ _ _ _=>a
def ey.Text:ey->ByteArray
 | .mk _ _ _ a _ _ _ _ _=>a
def ey.Ts:ey->List aa
 | .mk _ _ _ _ _ _ a _ _=>a
def ey.aay:ey->List fS
 | .mk _ _ _ _ _ _ _ _ a=>a
def fS.P:fS->fR
 | .mk a _=>a
def fS.E:fS->ey
 | .mk _ a=>a
mutual
def ey.cs:ey->List AV
 | .mk Kind N ru Text Name T Ts Kids aay=>(.v (.int .i64 Kind)::(.v (.int .i64 N)::(.v (.int .i64 ru)::(.v (.string Text)::(.v (.string Name)::(T.cs++(.sl (Ts.map aa.av)::(.sl (ey.eS Kids)::(.sl (fS.eS aay):: [])))))))))
def fS.cs:fS->List AV
 | .mk P E=>(P.cs++(E.cs++ []))
def ey.eS:List ey->List AV
 | []=>[]
 |x::l=> .agg x.cs::ey.eS l
def fS.eS:List fS->List AV
 | []=>[]
 |x::l=> .agg x.cs::fS.eS l
end
def ey.av(x:ey):AV:= .agg x.cs
def fS.av(x:fS):AV:= .agg x.cs
mutual
theorem ey.aM:∀x:ey,AV.ae x.cs=true
 | .mk Kind N ru Text Name T Ts Kids aay=>by simp[ey.cs,AV.ae,AV.ag,bF,aa.aM T,bA (f:=aa.av) (l:=Ts) aa.ag,ey.cM Kids,fS.cM aay]
theorem fS.aM:∀x:fS,AV.ae x.cs=true
 | .mk P E=>by simp[fS.cs,bF,fR.aM P,ey.aM E]
theorem ey.cM:∀l:List ey,AV.ae (ey.eS l)=true
 | []=>rfl
 |x::l=>by simp[ey.eS,AV.ae,AV.ag,ey.aM x,ey.cM l]
theorem fS.cM:∀l:List fS,AV.ae (fS.eS l)=true
 | []=>rfl
 |x::l=>by simp[fS.eS,AV.ae,AV.ag,fS.aM x,fS.cM l]
end
theorem ey.ag(x:ey):x.av.ag=true:=ey.aM x
theorem fS.ag(x:fS):x.av.ag=true:=fS.aM x
inductive kb where
 |mk (Kind:Int) (N:Int) (ru:Int) (Text:ByteArray)
def kb.ru:kb->Int
 | .mk _ _ a _=>a
def kb.Text:kb->ByteArray
 | .mk _ _ _ a=>a
def kb.cs:kb->List AV
 | .mk Kind N ru Text=>(.v (.int .i64 Kind)::(.v (.int .i64 N)::(.v (.int .i64 ru)::(.v (.string Text):: []))))
def kb.av(x:kb):AV:= .agg x.cs
theorem kb.aM:∀x:kb,AV.ae x.cs=true
 | .mk Kind N ru Text=>by simp[kb.cs,AV.ae,AV.ag]
theorem kb.ag(x:kb):x.av.ag=true:=kb.aM x
inductive cJ where
 |mk (Kind:Int) (Name:ByteArray) (N:Int) (ru:Int) (T:aa) (Ts:List aa) (Vs:List kb) (Kids:List cJ)
def cJ.ru:cJ->Int
 | .mk _ _ _ a _ _ _ _=>a
def cJ.Ts:cJ->List aa
 | .mk _ _ _ _ _ a _ _=>a
def cJ.Vs:cJ->List kb
 | .mk _ _ _ _ _ _ a _=>a
mutual
def cJ.cs:cJ->List AV
 | .mk Kind Name N ru T Ts Vs Kids=>(.v (.int .i64 Kind)::(.v (.string Name)::(.v (.int .i64 N)::(.v (.int .i64 ru)::(T.cs++(.sl (Ts.map aa.av)::(.sl (Vs.map kb.av)::(.sl (cJ.eS Kids):: []))))))))
def cJ.eS:List cJ->List AV
 | []=>[]
 |x::l=> .agg x.cs::cJ.eS l
end
def cJ.av(x:cJ):AV:= .agg x.cs
mutual
theorem cJ.aM:∀x:cJ,AV.ae x.cs=true
 | .mk Kind Name N ru T Ts Vs Kids=>by simp[cJ.cs,AV.ae,AV.ag,bF,aa.aM T,bA (f:=aa.av) (l:=Ts) aa.ag,bA (f:=kb.av) (l:=Vs) kb.ag,cJ.cM Kids]
theorem cJ.cM:∀l:List cJ,AV.ae (cJ.eS l)=true
 | []=>rfl
 |x::l=>by simp[cJ.eS,AV.ae,AV.ag,cJ.aM x,cJ.cM l]
end
theorem cJ.ag(x:cJ):x.av.ag=true:=cJ.aM x
inductive j9 where
 |mk (T:aa) (ast:Int) (aee:Bool)
def j9.ast:j9->Int
 | .mk _ a _=>a
def j9.aee:j9->Bool
 | .mk _ _ a=>a
def j9.cs:j9->List AV
 | .mk T ast aee=>(T.cs++(.v (.int .i64 ast)::(.v (.bool aee):: [])))
def j9.av(x:j9):AV:= .agg x.cs
theorem j9.aM:∀x:j9,AV.ae x.cs=true
 | .mk T ast aee=>by simp[j9.cs,AV.ae,AV.ag,bF,aa.aM T]
theorem j9.ag(x:j9):x.av.ag=true:=j9.aM x
inductive eP where
 |mk (sY:Int) (apM:List j9) (aee:Bool) (T:aa) (Body:cJ)
def eP.sY:eP->Int
 | .mk a _ _ _ _=>a
def eP.apM:eP->List j9
 | .mk _ a _ _ _=>a
def eP.aee:eP->Bool
 | .mk _ _ a _ _=>a
def eP.Body:eP->cJ
 | .mk _ _ _ _ a=>a
def eP.cs:eP->List AV
 | .mk sY apM aee T Body=>(.v (.int .i64 sY)::(.sl (apM.map j9.av)::(.v (.bool aee)::(T.cs++(Body.cs++ [])))))
def eP.av(x:eP):AV:= .agg x.cs
theorem eP.aM:∀x:eP,AV.ae x.cs=true
 | .mk sY apM aee T Body=>by simp[eP.cs,AV.ae,AV.ag,bF,bA (f:=j9.av) (l:=apM) j9.ag,aa.aM T,cJ.aM Body]
theorem eP.ag(x:eP):x.av.ag=true:=eP.aM x
inductive kc where
 |mk (aax:List eP) (Main:cJ)
def kc.aax:kc->List eP
 | .mk a _=>a
def kc.Main:kc->cJ
 | .mk _ a=>a
def kc.cs:kc->List AV
 | .mk aax Main=>(.sl (aax.map eP.av)::(Main.cs++ []))
def kc.av(x:kc):AV:= .agg x.cs
theorem kc.aM:∀x:kc,AV.ae x.cs=true
 | .mk aax Main=>by simp[kc.cs,AV.ae,AV.ag,bA (f:=eP.av) (l:=aax) eP.ag,cJ.aM Main]
theorem kc.ag(x:kc):x.av.ag=true:=kc.aM x
inductive eo where
 |mk (Op:Int) (A:Int) (B:Int) (C:Int) (N:Int) (Text:ByteArray)
def eo.Op:eo->Int
 | .mk a _ _ _ _ _=>a
def eo.A:eo->Int
 | .mk _ a _ _ _ _=>a
def eo.B:eo->Int
 | .mk _ _ a _ _ _=>a
def eo.C:eo->Int
 | .mk _ _ _ a _ _=>a
def eo.Text:eo->ByteArray
 | .mk _ _ _ _ _ a=>a
def eo.cs:eo->List AV
 | .mk Op A B C N Text=>(.v (.int .i64 Op)::(.v (.int .i64 A)::(.v (.int .i64 B)::(.v (.int .i64 C)::(.v (.int .i64 N)::(.v (.string Text):: []))))))
def eo.av(x:eo):AV:= .agg x.cs
theorem eo.aM:∀x:eo,AV.ae x.cs=true
 | .mk Op A B C N Text=>by simp[eo.cs,AV.ae,AV.ag]
theorem eo.ag(x:eo):x.av.ag=true:=eo.aM x
inductive nL where
 |mk (aaw:List eo) (aau:List Int)
def nL.aaw:nL->List eo
 | .mk a _=>a
def nL.aau:nL->List Int
 | .mk _ a=>a
def nL.cs:nL->List AV
 | .mk aaw aau=>(.sl (aaw.map eo.av)::(.sl (aau.map λ x=> .v (.int .i64 x)):: []))
def nL.av(x:nL):AV:= .agg x.cs
theorem nL.aM:∀x:nL,AV.ae x.cs=true
 | .mk aaw aau=>by simp[nL.cs,AV.ae,AV.ag,bA (f:=eo.av) (l:=aaw) eo.ag,bA (f:=λ x=> .v (.int .i64 x)) (l:=aau) (λ _=>rfl)]
theorem nL.ag(x:nL):x.av.ag=true:=nL.aM x
inductive iT where
 |mk (At:Int) (Room:Int) (Put:Int)
def iT.At:iT->Int
 | .mk a _ _=>a
def iT.Room:iT->Int
 | .mk _ a _=>a
def iT.Put:iT->Int
 | .mk _ _ a=>a
def iT.cs:iT->List AV
 | .mk At Room Put=>(.v (.int .i64 At)::(.v (.int .i64 Room)::(.v (.int .i64 Put):: [])))
def iT.av(x:iT):AV:= .agg x.cs
theorem iT.aM:∀x:iT,AV.ae x.cs=true
 | .mk At Room Put=>by simp[iT.cs,AV.ae,AV.ag]
theorem iT.ag(x:iT):x.av.ag=true:=iT.aM x
end Go.Ab
namespace Go.Ab
set_option maxRecDepth 100000
section
variable {P:Program} {L:AX->SS->List AV->Prop} {R:AV->Prop} {t:T} {r:List AV} {S:List (List AV->Prop)}
theorem oo{init:List AV}(n:Nat)(I:Nat->Prop)(σ:Nat->List AV)(h0:init=σ 0)(hI:I 0)
  (hr:∀i,i<=n->I i->bD P L R t (r++σ i) ((λ vs=>i<n/\I (i+1)/\vs=σ (i+1))::S)):rQ P L R init t r S:=by
 refine eh (ι:=Nat) (λ i=>i<=n/\I i) σ (λ i=>n- i) 0 ⟨zero_le _,hI⟩ h0 λ i hi=> ?_
 refine dz (λ _ _ _ h=>h) (λ _ h=>h) t (.cons (λ vs hv=> ?_) (.refl _)) (hr i hi.1 hi.2);exact⟨i+1,⟨hv.1,hv.2.1⟩,by have:=hv.1;omega,hv.2.2⟩
end
theorem qD{α:Type}{l:List α}{i:Nat}(h:i<l.length):l.drop i=l[i]::l.drop (i+1):=List.drop_eq_getElem_cons h
theorem sa{α:Type}(l:List α):l.drop l.length= []:=List.drop_length
def mW{α:Type}(p:α->Bool):List α->Nat->Int
 | [],_=> -1
 |x::r,k=>if p x=true then(k:Int)else mW p r (k+1)
theorem zC{α:Type}(p:α->Bool):∀(l:List α) (k:Nat),decide (0<=mW p l k)=l.any p
 | [],_=>by simp[mW]
 |x::r,k=>by
  unfold mW;by_cases h:p x=true
  ·simp[h]
  ·simp only[h,List.any_cons];rw[if_neg (by simp),zC p r (k+1)];simp
def atn(s:Nat):T:=
.bind 0 (
 .op (.bm (.x 0)) (
 .loop [(.c (.v (.int .i64 0)))] (
  .op (.bin .lss (.x 3) (.x 2)) (
  .ite (.x 4)
   (.op (.elem s (.x 0) (.x 3)) (
   .aL (.cells (.x 5) s) (
   .op (.ew (.x 1) [(.x 5)] false) (
   .ite (.x 6)
    (.dq (.dq (.ret [(.x 3)])))
    (.op (.bin .add (.x 3) (.c (.v (.int .i64 1)))) (
    .jump [(.x 7)]))))))
   (.dq (.jump [])))))) (
.ret [(.c (.v (.int .i64 (-1))))])
theorem auW{P:Program}{L:AX->SS->List AV->Prop}{α:Type}{av:α->AV}{s:Nat}{g:FuncId}{aX:List AV}{l:List α}(p:α->Bool)(hs:∀x,(av x).isAgg=true/\(av x).cells.length=s/\(av x).storable=true)
  (hl:l.length<=1073741824) (hc:∀x∈l,a7 P g (av x::aX) (.v (.bool (p x)))):
  bD P L (λ a=>a= .v (.int .i64 (mW p l 0))) (atn s) [.sl (l.map av),.fn g aX] []:=by
 simp only[atn,WA];refine aB ?_;simp only[WA];refine oo l.length (λ i=>mW p l 0=mW p (l.drop i) i) (λ i=>[.v (.int .i64 i)]) rfl rfl λ i hi hI=> ?_
 simp only[WA];refine aG (λ h=> ?_) (λ h=> ?_)
 ·have aF:i<l.length:=by omega
  obtain⟨x1,x2,x3⟩:=hs l[i];rw[qD aF,mW]at hI;simp only[WA];refine lR av aF x2 ?_;simp only[x1,x2,x3,WA];refine bu (hc _ (getElem_mem aF)) ?_;simp only[WA];refine aE (λ h=> ?_) (λ h=> ?_)
  ·simp only[h,if_pos]at hI;simp only[hI,WA]
  ·simp only[h]at hI;simp(disch:=omega) only[aH,WA];exact⟨aF,by simpa using hI⟩
 ·have he:i=l.length:=by omega
  subst he;rw[sa,mW]at hI;simp only[hI,WA]
def atp(f:FuncId)(fl:Bool):T:=
.op (.call f [(.x 0),(.x 1)] fl) (
.op (.bin .geq (.x 2) (.c (.v (.int .i64 0)))) (
.ret [(.x 3)]))
theorem aiG{fl:Bool}{P:Program}{L:AX->SS->List AV->Prop}{α:Type}{a b:AV}{f:FuncId}{l:List α}{p:α->Bool}(hc:a7 P f [a,b] (.v (.int .i64 (mW p l 0)))):
  bD P L (λ r=>r= .v (.bool (l.any p))) (atp f fl) [a,b] []:=by
 simp only[atp,WA];refine bu hc ?_;simp only[zC,WA]
def ato:T:=
.bind 0 (
 .op (.bm (.x 0)) (
 .loop [(.c (.v (.int .i64 0)))] (
  .op (.bin .lss (.x 3) (.x 2)) (
  .ite (.x 4)
   (.op (.elem 1 (.x 0) (.x 3)) (
   .aL (.lt (.x 5) 0) (
   .op (.bin .eql (.x 1) (.cell 5 0)) (
   .ite (.x 6)
    (.dq (.dq (.ret [(.x 3)])))
    (.op (.bin .add (.x 3) (.c (.v (.int .i64 1)))) (
    .jump [(.x 7)]))))))
   (.dq (.jump [])))))) (
.ret [(.c (.v (.int .i64 (-1))))])
theorem anY{P:Program}{L:AX->SS->List AV->Prop}{α:Type}[DecidableEq α]{g:α->Value}{l:List α}{x:α}(hg:∀(x y:α) (K:AV->Prop),fq K (.v (.bool (decide (x=y))))->fC .eql (.v (g x)) (.v (g y)) K)
  (hl:l.length<=1073741824):bD P L (λ a=>a= .v (.int .i64 (mW (λ y=>decide (x=y)) l 0))) ato [.sl (l.map λ y=> .v (g y)),.v (g x)] []:=by
 simp only[ato,WA];refine aB ?_;simp only[WA];refine oo l.length (λ i=>mW (λ y=>decide (x=y)) l 0=mW (λ y=>decide (x=y)) (l.drop i) i) (λ i=>[.v (.int .i64 i)]) rfl rfl λ i hi hI=> ?_
 simp only[WA];refine aG (λ h=> ?_) (λ h=> ?_)
 ·have aF:i<l.length:=by omega
  rw[qD aF,mW]at hI;simp only[WA];refine lR (λ y=> .v (g y)) aF rfl ?_;simp only[WA];refine hg _ _ _ ?_;simp only[WA];refine aG (λ h=> ?_) (λ h=> ?_)
  ·rw[if_pos (decide_eq_true h)]at hI;simp only[hI,WA]
  ·rw[if_neg (by simpa using h)]at hI;simp(disch:=omega) only[aH,WA];exact⟨aF,hI⟩
 ·have he:i=l.length:=by omega
  subst he;rw[sa,mW]at hI;simp only[hI,WA]
theorem aCW(k:IntKind)(x y:Int)(K:AV->Prop)(h:fq K (.v (.bool (decide (x=y))))):fC .eql (.v (.int k x)) (.v (.int k y)) K:=by rw[atk];exact h
theorem aCV(x y:ByteArray)(K:AV->Prop)(h:fq K (.v (.bool (decide (x=y))))):fC .eql (.v (.string x)) (.v (.string y)) K:=by rw[aps];exact h
def oE{α:Type}(p:α->α->Bool):List α->List α->Bool
 | [],[]=>true
 |x::l,y::m=>p x y&&oE p l m
 |_,_=>false
theorem aar{α:Type}(p:α->α->Bool):∀(l m:List α),l.length≠m.length->oE p l m=false
 | [],[],h=>(h rfl).elim
 | [],_::_,_=>rfl
 |_::_,[],_=>rfl
 |x::l,y::m,h=>by simp only[oE,aar p l m (by simpa using h),Bool.and_false]
def az6(s:Nat):T:=
.op (.bm (.x 0)) (
.op (.bm (.x 1)) (
.op (.bin .neq (.x 3) (.x 4)) (
.ite (.x 5)
 (.ret [(.c (.v (.bool false)))])
 (.bind 0 (
  .op (.bm (.x 0)) (
  .loop [(.c (.v (.int .i64 0)))] (
   .op (.bin .lss (.x 7) (.x 6)) (
   .ite (.x 8)
    (.op (.elem s (.x 0) (.x 7)) (
    .aL (.cells (.x 9) s) (
    .aL (.cells (.x 9) s) (
    .op (.elem s (.x 1) (.x 7)) (
    .aL (.cells (.x 10) s) (
    .aL (.cells (.x 10) s) (
    .aL (.cells (.x 9) s) (
    .aL (.cells (.x 10) s) (
    .op (.ew (.x 2) [(.x 9),(.x 10)] false) (
    .op (.un .not (.x 11)) (
    .ite (.x 12)
     (.dq (.dq (.ret [(.c (.v (.bool false)))])))
     (.op (.bin .add (.x 7) (.c (.v (.int .i64 1)))) (
     .jump [(.x 13)])))))))))))))
    (.dq (.jump [])))))) (
 .ret [(.c (.v (.bool true)))])))))
theorem azy{P:Program}{L:AX->SS->List AV->Prop}{α:Type}{av:α->AV}{s:Nat}{g:FuncId}{aX:List AV}{l m:List α}(p:α->α->Bool)(hs:∀x,(av x).isAgg=true/\(av x).cells.length=s/\(av x).storable=true)
  (hl:l.length<=1073741824) (hc:∀x∈l,∀y∈m,a7 P g (av x::av y::aX) (.v (.bool (p x y)))):
  bD P L (λ a=>a= .v (.bool (oE p l m))) (az6 s) [.sl (l.map av),.sl (m.map av),.fn g aX] []:=by
 simp only[az6,WA];refine aZ (λ h=> ?_) (λ h=> ?_)
 ·simp only[aar p l m (by omega),WA]
 ·have hlm:l.length=m.length:=by omega
  simp only[WA];refine aB ?_;simp only[WA];refine oo l.length (λ i=>oE p l m=oE p (l.drop i) (m.drop i)) (λ i=>[.v (.int .i64 i)]) rfl rfl λ i hi hI=> ?_
  simp only[WA];refine aG (λ h=> ?_) (λ h=> ?_)
  ·have aF:i<l.length:=by omega
   have nh:i<m.length:=by omega
   obtain⟨x1,x2,x3⟩:=hs l[i];obtain⟨y1,y2,y3⟩:=hs m[i];rw[qD aF,qD nh,oE]at hI;simp only[WA];refine lR av aF x2 ?_;simp only[x1,x2,x3,WA];refine lR av nh y2 ?_;simp only[x1,x2,x3,y1,y2,y3,WA];refine bu (hc _ (getElem_mem aF) _ (getElem_mem nh)) ?_;simp only[WA];refine aE (λ h=> ?_) (λ h=> ?_)
   ·have h:p l[i] m[i]=false:=by simpa using h
    simp only[h,Bool.false_and]at hI;simp only[hI,WA]
   ·have h:p l[i] m[i]=true:=by simpa using h
    simp only[h,Bool.true_and]at hI;simp(disch:=omega) only[aH,WA];exact⟨aF,hI⟩
  ·have he:i=l.length:=by omega
   subst he;rw[sa,hlm,sa,oE]at hI;simp only[hI,WA]
end Go.Ab
namespace Go.Ab
set_option maxRecDepth 100000
theorem aq0{α:Type}(p:α->Bool)(l:List α):(!(l.any λ y=> !p y))=l.all p:=by
 induction l with
 |nil=>rfl
 |cons x l ih=>simp only[List.any_cons,List.all_cons,←ih];cases p x<;>simp
theorem avb{a b:Bool}(h:a=true↔b=true):AV.v (.bool a)=AV.v (.bool b):=by rw[Bool.eq_iff_iff.2 h]
section
variable {P:Program} {L:AX->SS->List AV->Prop} {R:AV->Prop} {t:T} {r:List AV} {S:List (List AV->Prop)}
theorem dD{α β:Type}{init:List AV}(l:List α)(σ:Nat->β->List AV)(G:Nat->List α->β->Prop)(b0:β)(h0:init=σ 0 b0)(hG:G 0 l b0)
  (hc:∀(i:Nat) (x:α) (rest:List α) (b:β),i<l.length->l[i]? =some x->x∈l->(∀(f:α->AV) (s:Nat) (k:IntKind) (K:AV->Prop),(f x).cells.length=s->lQ s (.sl (l.map f)) (.v (.int k (i:Int))) K=fq K (f x))->
   decide ((i:Int)<(l.length:Int))=true->G i (x::rest) b->bD P L R t (r++σ i b) ((λ vs=>i<l.length/\∃b',G (i+1) rest b'/\vs=σ (i+1) b')::S))
  (he:∀b,decide ((l.length:Int)<(l.length:Int))=false->G l.length [] b->bD P L R t (r++σ l.length b) ((λ _=>False)::S)):rQ P L R init t r S:=by
 refine eh (ι:=Nat×β) (λ q=>q.1<=l.length/\G q.1 (l.drop q.1) q.2) (λ q=>σ q.1 q.2) (λ q=>l.length- q.1) (0,b0) ⟨zero_le _,hG⟩ h0 λ q hq=> ?_
 obtain⟨i,b⟩:=q;obtain⟨hi,hg⟩:=hq;rcases lt_or_ge i l.length with h|h
 ·have hg:G i (l[i]::l.drop (i+1)) b:=by rw[←qD h];exact hg
  refine dz (λ _ _ _ h=>h) (λ _ h=>h) t (.cons (λ vs hv=> ?_) (.refl _)) (hc i l[i] (l.drop (i+1)) b h (List.getElem?_eq_getElem h) (getElem_mem h) (λ f s k K hs=> ?_) (by simp;exact h) hg)
  ·obtain⟨_,b',h1,h2⟩:=hv;exact⟨(i+1,b'),⟨h,h1⟩,by simp only;omega,h2⟩
  ·unfold lQ;have hx:(l.map f).getD (Int.toNat (i:Int)) .top=f l[i]:=by simp[List.getD,h]
   simp only[hx,hs,true_and,fq];exact propext ⟨λ q=>q.2.2,λ q=>⟨Int.natCast_nonneg i,by simp;exact h,q⟩⟩
 ·have he':i=l.length:=by simp only at hi;omega
  subst he';have hg:G l.length [] b:=by simpa using hg
  refine dz (λ _ _ _ h=>h) (λ _ h=>h) t (.cons (λ vs hv=>hv.elim) (.refl _)) (he b (by simp) hg)
theorem anr{α γ β:Type}{init:List AV}(l:List α)(m:List γ)(hlm:l.length=m.length)(σ:Nat->β->List AV)(G:Nat->List α->List γ->β->Prop)(b0:β)(h0:init=σ 0 b0)(hG:G 0 l m b0)
  (hc:∀(i:Nat) (x:α) (y:γ) (rest:List α) (aeP:List γ) (b:β),i<l.length->x∈l->y∈m->
   (∀(f:α->AV) (s:Nat) (k:IntKind) (K:AV->Prop),(f x).cells.length=s->lQ s (.sl (l.map f)) (.v (.int k (i:Int))) K=fq K (f x))->
   (∀(f:γ->AV) (s:Nat) (k:IntKind) (K:AV->Prop),(f y).cells.length=s->lQ s (.sl (m.map f)) (.v (.int k (i:Int))) K=fq K (f y))->
   decide ((i:Int)<(l.length:Int))=true->decide ((i:Int)<(m.length:Int))=true->G i (x::rest) (y::aeP) b->bD P L R t (r++σ i b) ((λ vs=>i<l.length/\∃b',G (i+1) rest aeP b'/\vs=σ (i+1) b')::S))
  (he:∀b,decide ((l.length:Int)<(l.length:Int))=false->decide ((l.length:Int)<(m.length:Int))=false->G l.length [] [] b->bD P L R t (r++σ l.length b) ((λ _=>False)::S)):rQ P L R init t r S:=by
 refine eh (ι:=Nat×β) (λ q=>q.1<=l.length/\G q.1 (l.drop q.1) (m.drop q.1) q.2) (λ q=>σ q.1 q.2) (λ q=>l.length- q.1) (0,b0) ⟨zero_le _,hG⟩ h0 λ q hq=> ?_
 obtain⟨i,b⟩:=q;obtain⟨hi,hg⟩:=hq;rcases lt_or_ge i l.length with h|h
 ·have h':i<m.length:=by omega
  have hg:G i (l[i]::l.drop (i+1)) (m[i]::m.drop (i+1)) b:=by rw[←qD h,←qD h'];exact hg
  refine dz (λ _ _ _ h=>h) (λ _ h=>h) t (.cons (λ vs hv=> ?_) (.refl _)) (hc i l[i] m[i] (l.drop (i+1)) (m.drop (i+1)) b h (getElem_mem h) (getElem_mem h') (λ f s k K hs=> ?_) (λ f s k K hs=> ?_) (by simp;exact h) (by simp;exact h') hg)
  ·obtain⟨_,b',h1,h2⟩:=hv;exact⟨(i+1,b'),⟨h,h1⟩,by simp only;omega,h2⟩
  ·unfold lQ;have hx:(l.map f).getD (Int.toNat (i:Int)) .top=f l[i]:=by simp[List.getD,h]
   simp only[hx,hs,true_and,fq];exact propext ⟨λ q=>q.2.2,λ q=>⟨Int.natCast_nonneg i,by simp;exact h,q⟩⟩
  ·unfold lQ;have hx:(m.map f).getD (Int.toNat (i:Int)) .top=f m[i]:=by simp[List.getD,h']
   simp only[hx,hs,true_and,fq];exact propext ⟨λ q=>q.2.2,λ q=>⟨Int.natCast_nonneg i,by simp;exact h',q⟩⟩
 ·have he':i=l.length:=by simp only at hi;omega
  subst he';have hg:G l.length [] [] b:=by rw[sa,hlm,sa]at hg;rw[hlm];exact hg
  exact dz (λ _ _ _ h=>h) (λ _ h=>h) t (.cons (λ vs hv=>hv.elim) (.refl _)) (he b (by simp) (by simp[hlm]) hg)
def bs(s:ByteArray):List Int:=s.data.toList.map λ b=>(b.toNat:Int)
theorem ad6(s:ByteArray):(bs s).length=s.size:=by simp[bs]
theorem qJ{s:ByteArray}{c:Int}(h:c∈bs s):0<=c/\c<256:=by
 simp only[bs,List.mem_map]at h;obtain⟨b,_,rfl⟩:=h;exact⟨by omega,by have:=b.toNat_lt;omega⟩
theorem ak0{s:ByteArray}{i:Nat}{k:IntKind}{K:AV->Prop}(h:i<(bs s).length)(hk:fq K (.v (.int .u8 (bs s)[i]))):anW (.v (.string s)) (.v (.int k (i:Int))) K:=by
 rw[ayk];have hl:=ad6 s;refine⟨by omega,by omega,?_⟩
 have:(((s.data.toList.getD (Int.toNat (i:Int)) 0).toNat:Nat):Int)=(bs s)[i]:=by
  simp only[bs,Int.toNat_natCast,List.getElem_map,List.getD];have h1:i<s.data.toList.length:=by simpa [bs]using h
  rw[List.getElem?_eq_getElem h1];rfl
 rw[this];exact hk
theorem aiN{c:Int}(h:0<=c)(h':c<256):IntKind.i64.wrap c=c:=bh (by omega) (by omega)
end
end Go.Ab
namespace Go.Ab
set_option maxRecDepth 100000
end Go.Ab
namespace Go.Ab
set_option maxRecDepth 100000
abbrev by1(n:Int):AV:= .v (.int .u8 n)
abbrev j8(l:List Int):List AV:=l.map by1
theorem bj(l:List Int):AV.ae (j8 l)=true:=by
 induction l with
 |nil=>rfl
 |cons a l ih=>simpa [AV.ae,AV.ag]using ih
def marks(b:Nat)(n:Nat):List Int:=(List.range n).map λ i=>IntKind.u8.wrap ((b+i:Nat):Int)
def val:List Int->Nat
 | []=>0
 |c::r=>(c%128).toNat+128*val r
def unz(x:Nat):Int:=if x%2=1 then-((x/2:Nat):Int)- 1 else((x/2:Nat):Int)
def gs(at':Int):Nat->Nat->List Int->Int×Int×Bool
 |_,_,[]=>(0,0,false)
 |k,acc,c::r=>if 10<=k then(0,0,false)else if 127<c then gs at' (k+1) (acc+(c%128).toNat*128^k) r
  else if(0<k/\c=0)∨(k=9/\1<c)then(0,0,false)else(unz (acc+(c%128).toNat*128^k),at'+k+1,true)
end Go.Ab
namespace Go.Ab
set_option maxRecDepth 100000
inductive AV.leD:AV->AV->Prop
 |refl (a:AV):AV.leD a a
 |nil:AV.leD .aw (.sl [])
 |agg (cs ds:List AV) (hl:cs.length=ds.length) (h:∀(i:Nat) (c d:AV),cs[i]? =some c->ds[i]? =some d->AV.leD c d):AV.leD (.agg cs) (.agg ds)
 |sl (xs ys:List AV) (hl:xs.length=ys.length) (h:∀(i:Nat) (x y:AV),xs[i]? =some x->ys[i]? =some y->x.cells.length=y.cells.length)
  (hc:∀(i:Nat) (x y:AV) (j:Nat) (c d:AV),xs[i]? =some x->ys[i]? =some y->x.cells[j]? =some c->y.cells[j]? =some d->AV.leD c d):AV.leD (.sl xs) (.sl ys)
theorem mv{α β:Type}{l:List α}{m:List β}(hl:l.length=m.length){i:Nat}{y:β}(h:m[i]? =some y):∃x,l[i]? =some x:=by
 have:=(List.getElem?_eq_some_iff.1 h).1;exact⟨l[i],List.getElem?_eq_getElem (by omega)⟩
theorem AV.leD.sound{I:du}{L:Nat->Loc}{O:List ad}{a b:AV}(h:AV.leD a b):∀{x:Value},R I L O a x->R I L O b x:=by
 induction h with
 |refl=>intro x hr;exact hr
 |nil=>intro x hr;cases hr;exact .mq _ _
 |agg cs ds hl h ih=>
  intro x hr;cases hr with
  |agg _ vs h1 h2=>
   refine .agg _ _ (by omega) λ i d y hd hy=> ?_
   obtain⟨c,hc⟩:=mv hl hd;exact ih i c d hc hd (h2 i c y hc hy)
 |sl xs ys hl h hc ih=>
  intro x hr;cases hr with
  |mq a c=>
   have:ys= []:=by cases ys with|nil=>rfl|cons _ _=>simp at hl
   subst this;exact .mq _ _
  |sl _ bf off cap s bz h1 h2 h3 h4 h5=>
   rw[hl]
   have hg:∀(i:Nat) (y:AV) (j:Nat) (d:AV),ys[i]? =some y->y.cells[j]? =some d->∃x c,xs[i]? =some x/\x.cells[j]? =some c:=λ i y j d hy hd=>by
    obtain⟨x,hx⟩:=mv hl hy;obtain⟨c,hcc⟩:=mv (h i x y hx hy) hd;exact⟨x,c,hx,hcc⟩
   refine .sl ys bf off cap s bz (by omega) (by rintro rfl;exact h2 (by cases xs with|nil=>rfl|cons _ _=>simp at hl)) (λ i y hy=> ?_) (λ i y j d hy hd=> ?_) (λ i y j d hy hd=> ?_)
   ·obtain⟨x,hx⟩:=mv hl hy;rw[←h i x y hx hy];exact h3 i x hx
   ·obtain⟨x,c,hx,hcc⟩:=hg i y j d hy hd;exact h4 i x j c hx hcc
   ·obtain⟨x,c,hx,hcc⟩:=hg i y j d hy hd;exact ih i x y j c d hx hy hcc hd (h5 i x j c hx hcc)
theorem a7.az4{P:Program}{f:FuncId}{as' bs:List AV}{res:AV}(h:a7 P f bs res)(hl:as'.length=bs.length)(hle:∀(i:Nat) (a b:AV),as'[i]? =some a->bs[i]? =some b->AV.leD a b):a7 P f as' res:=by
 refine⟨h.1,λ I L w vs hi hr=>h.2 I L w vs hi ⟨by rw[←hl];exact hr.1,λ i b x hb hx=> ?_⟩⟩;obtain⟨a,ha⟩:=mv hl hb;exact(hle i _ _ ha hb).sound (hr.2 i _ x ha hx)
end Go.Ab
namespace Go.Ab
set_option maxRecDepth 100000
theorem tB{α:Type}{B R:List α}{y d:α}{i:Nat}(h:B.length=i):(B++y::R).getD i d=y:=by
 subst h;simp[List.getD]
theorem aq7{α:Type}{B R:List α}{y z:α}{i:Nat}(h:B.length=i):(B++y::R).set i z=B++z::R:=by
 subst h;simp
def slc:List AV->List AV
 | []=>[]
 | .v _::r=>slc r
 |a::r=>a::slc r
theorem oh{e:Env}{O:List ad}:∀(rs:List dG) (acc:List AV) (M M':List AV->Prop),(∀xs,M xs->M' xs)->dK e O rs acc M->dK e O rs acc M':=by
 intro rs
 induction rs with
 |nil=>intro acc M M' hm h;exact hm _ h
 |cons r rs ih=>
  intro acc M M' hm h;cases r with
  |tmp t=>exact ih _ _ _ hm h
  |cell t n=>
   simp only[dK,dG.get]at h⊢
   split at h
   ·split at h
    ·exact⟨h.1,ih _ _ _ hm h.2⟩
    ·exact h.elim
   ·exact h.elim
theorem aqR(P:Program)(e:Env)(O:List ad)(K:KT):wpOp P .yZ e O K=k1 (.own O.length) (O++ [.cZ (.mp [])]) K:=nr rfl
def ax4(ok:Bool)(d:KD)(z m k:AV)(O:List ad)(K:KT):Prop:=match m,k with
    | .own n,.v kv=>match O[n]? with
      |some (.cZ (.mp es))=>d.ok kv=true/\d.all es=true/\K (match nB kv es 0 with
       |none=>if ok then .a9 [z,.v (.bool false)]else z
       |some (_,v)=>if ok then .a9 [v,.v (.bool true)]else v) O
      |_=>False
    |_,_=>False
theorem aup(P:Program)(ok:Bool)(d:KD)(z:AV)(m k:aI)(e:Env)(O:List ad)(K:KT):wpOp P (.akJ ok d z m k) e O K=ax4 ok d z (m.ev e) (k.ev e) O K:=nr rfl
def ax2(d:KD)(m k v:AV)(O:List ad)(K:KT):Prop:=match m,k with
    | .own n,.v kv=>match O[n]? with
      |some (.cZ (.mp es))=>d.ok kv=true/\d.all es=true/\K (.a9 []) (O.set n (.cZ (.mp (pK kv v es))))
      |_=>False
    |_,_=>False
theorem aun(P:Program)(d:KD)(m k v:aI)(e:Env)(O:List ad)(K:KT):wpOp P (.pK d m k v) e O K=ax2 d (m.ev e) (k.ev e) (v.ev e) O K:=nr rfl
def aeZ(ok:Bool)(z m k:AV)(O:List ad)(K:KT):Prop:=match m,k with
    | .own n,.ptr j 1 0 0=>match O[n]? with
      |some (.cZ (.mp es))=>ei O j=true/\jc O es=true/\K (match ic j es 0 with
       |none=>if ok then .a9 [z,.v (.bool false)]else z
       |some (_,v)=>if ok then .a9 [v,.v (.bool true)]else v) O
      |_=>False
    |_,_=>False
theorem aum(P:Program)(ok:Bool)(z:AV)(m k:aI)(e:Env)(O:List ad)(K:KT):wpOp P (.aa2 ok z m k) e O K=aeZ ok z (m.ev e) (k.ev e) O K:=nr rfl
theorem ai6{ok:Bool}{z:AV}{n j:Nat}{O:List ad}{K:KT}{es:List (AV×AV)}(hO:O[n]? =some (.cZ (.mp es)))(hk:ei O j=true)(ha:jc O es=true)(hf:ic j es 0=none)(h:k1 (if ok then .a9 [z,.v (.bool false)]else z) O K):aeZ ok z (.own n) (.ptr j 1 0 0) O K:=by
 simp only[aeZ,hO];exact⟨hk,ha,by rw[hf];exact h⟩
theorem yK{ok:Bool}{z v:AV}{n j i:Nat}{O:List ad}{K:KT}{es:List (AV×AV)}(hO:O[n]? =some (.cZ (.mp es)))(hk:ei O j=true)(ha:jc O es=true)(hf:ic j es 0=some (i,v))(h:k1 (if ok then .a9 [v,.v (.bool true)]else v) O K):aeZ ok z (.own n) (.ptr j 1 0 0) O K:=by
 simp only[aeZ,hO];exact⟨hk,ha,by rw[hf];exact h⟩
def amU(m k v:AV)(O:List ad)(K:KT):Prop:=match m,k with
    | .own n,.ptr j 1 0 0=>match O[n]? with
      |some (.cZ (.mp es))=>ei O j=true/\jc O es=true/\K (.a9 []) (O.set n (.cZ (.mp (kE j v es))))
      |_=>False
    |_,_=>False
theorem auk(P:Program)(m k v:aI)(e:Env)(O:List ad)(K:KT):wpOp P (.kE m k v) e O K=amU (m.ev e) (k.ev e) (v.ev e) O K:=nr rfl
theorem sB{v:AV}{n j:Nat}{O:List ad}{K:KT}{es:List (AV×AV)}(hO:O[n]? =some (.cZ (.mp es)))(hk:ei O j=true)(ha:jc O es=true)(h:k1 (.a9 []) (O.set n (.cZ (.mp (kE j v es)))) K):amU (.own n) (.ptr j 1 0 0) v O K:=by
 simp only[amU,hO];exact⟨hk,ha,h⟩
def amq(a:AV)(O:List ad)(K:KT):Prop:=match a with
    | .v (.string s)=>K (.own O.length) (O++ [.cZ (.it s 0)])
    |_=>False
theorem aqP(P:Program)(x:aI)(e:Env)(O:List ad)(K:KT):wpOp P (.abx x) e O K=amq (x.ev e) O K:=nr rfl
theorem ajZ(s:ByteArray)(O:List ad)(K:KT):amq (.v (.string s)) O K=k1 (.own O.length) (O++ [.cZ (.it s 0)]) K:=nr rfl
def atT(a:AV)(O:List ad)(K:KT):Prop:=match a with
    | .own n=>match O[n]? with
      |some (.cZ (.it s pos))=>(pos<s.size->K (.a9 [.v (.bool true),.v (.int .i64 pos),.v (.int .i32 (Utf8.decode s pos).1)]) (O.set n (.cZ (.it s (pos+(Utf8.decode s pos).2)))))/\(¬pos<s.size->K (.a9 [.v (.bool false)]) O)
      |_=>False
    |_=>False
theorem aqQ(P:Program)(x:aI)(e:Env)(O:List ad)(K:KT):wpOp P (.abA x) e O K=atT (x.ev e) O K:=nr rfl
def axj(t:Nat)(a:AV)(O:List ad)(K:KT):Prop:=match a with
    | .v (.string s)=>s.size<=maxLen/\K (.row O.length s.size) (O++ [.live t 1 (s.data.toList.map λ c=> .v (.int .u8 c.toNat))])
    |_=>False
theorem axJ(P:Program)(t:Nat)(x:aI)(e:Env)(O:List ad)(K:KT):wpOp P (.s2b t x) e O K=axj t (x.ev e) O K:=nr rfl
theorem aqn(t:Nat)(s:ByteArray)(O:List ad)(K:KT):axj t (.v (.string s)) O K=(s.size<=maxLen/\k1 (.row O.length s.size) (O++ [.live t 1 (s.data.toList.map λ c=> .v (.int .u8 c.toNat))]) K):=nr rfl
def abL(neg:Bool)(a:AV)(O:List ad)(K:KT):Prop:=match a with
    | .v (.pointer none)=>K (.v (.bool (neg !=true))) O
    | .ptr n len _ _=>pJ O[n]? λ _ _ xs=>xs.length=len/\K (.v (.bool (neg !=false))) O
    |_=>False
theorem aul(P:Program)(neg:Bool)(x:aI)(e:Env)(O:List ad)(K:KT):wpOp P (.wJ neg x) e O K=abL neg (x.ev e) O K:=by
 simp only[wpOp,abL];cases x.ev e<;>first|rfl|(rename_i k l i f;cases O[k]? with|none=>rfl|some o=>cases o<;>rfl)
theorem ahm(O:List ad)(K:KT):abL false (.v (.pointer none)) O K=k1 (.v (.bool true)) O K:=nr rfl
theorem ahl(O:List ad)(K:KT):abL true (.v (.pointer none)) O K=k1 (.v (.bool false)) O K:=nr rfl
theorem ahk(n len i f:Nat)(O:List ad)(K:KT):abL false (.ptr n len i f) O K=pJ O[n]? λ _ _ xs=>xs.length=len/\k1 (.v (.bool false)) O K:=nr rfl
theorem ahj(n len i f:Nat)(O:List ad)(K:KT):abL true (.ptr n len i f) O K=pJ O[n]? λ _ _ xs=>xs.length=len/\k1 (.v (.bool true)) O K:=nr rfl
def amW(neg:Bool)(a b:AV)(O:List ad)(K:KT):Prop:=match a,b with
    | .ptr n 1 0 0,.ptr m 1 0 0=>ei O n=true/\ei O m=true/\K (.v (.bool (neg !=decide (n=m)))) O
    |_,_=>False
theorem axK(P:Program)(neg:Bool)(x y:aI)(e:Env)(O:List ad)(K:KT):wpOp P (.peq neg x y) e O K=amW neg (x.ev e) (y.ev e) O K:=nr rfl
theorem at8(n m:Nat)(O:List ad)(K:KT):amW false (.ptr n 1 0 0) (.ptr m 1 0 0) O K=(ei O n=true/\ei O m=true/\k1 (.v (.bool (decide (n=m)))) O K):=by
 simp only[amW,Bool.false_bne,asS]
theorem at7(n m:Nat)(O:List ad)(K:KT):amW true (.ptr n 1 0 0) (.ptr m 1 0 0) O K=(ei O n=true/\ei O m=true/\k1 (.v (.bool (!decide (n=m)))) O K):=by
 simp only[amW,Bool.true_bne,asS]
def atl(y x:AV)(t s b:Nat)(O:List ad)(K:KT):Prop:=match y with
    | .v (.string c)=>s=1/\ny O x t s b (c.data.toList.map λ c=> .v (.int .u8 c.toNat)) K
    |_=>False
theorem aur(P:Program)(t s b:Nat)(x y:aI)(e:Env)(O:List ad)(K:KT):wpOp P (.kN t s b x y) e O K=atl (y.ev e) (x.ev e) t s b O K:=by
 have h:∀ys,iu O (x.ev e) t s b ys K=ny O (x.ev e) t s b ys K:=by
  intro ys;unfold iu ny;cases x.ev e<;>first|rfl|(rename_i k l;cases O[k]? with|none=>rfl|some o=>cases o<;>rfl)
 simp only[wpOp,h]
 rfl
theorem apB(c:ByteArray)(x:AV)(t s b:Nat)(O:List ad)(K:KT):atl (.v (.string c)) x t s b O K=(s=1/\ny O x t s b (c.data.toList.map λ c=> .v (.int .u8 c.toNat)) K):=nr rfl
def auy(bytes:Nat)(z a b:AV)(O:List ad)(K:KT):Prop:=match a,b with
    | .v (.int .i64 n),.v (.int .i64 c)=>0<=n/\n<=c/\bytes*c<=2^48/\c<=maxLen/\z.ag=true/\K (.sl (List.replicate n.toNat z)) O
    |_,_=>False
theorem axM(P:Program)(t s b:Nat)(z:AV)(x y:aI)(e:Env)(O:List ad)(K:KT):wpOp P (.mkF t s b z x y) e O K=auy b z (x.ev e) (y.ev e) O K:=nr rfl
theorem aq4(bytes:Nat)(z:AV)(n c:Int)(O:List ad)(K:KT):auy bytes z (.v (.int .i64 n)) (.v (.int .i64 c)) O K=(0<=n/\n<=c/\bytes*c<=281474976710656/\c<=9223372036854775807/\z.ag=true/\k1 (.sl (List.replicate n.toNat z)) O K):=by
 have h1:(2:Int)^48=281474976710656:=by decide
 have h2:((maxLen:Nat):Int)=9223372036854775807:=by decide
 simp only[auy,h1,h2,k1]
def anl(k t s bytes:Nat)(z a b:AV)(O:List ad)(K:KT):Prop:=match a,b with
    | .v (.int .i64 n),.v (.int .i64 c)=>0<n/\n<=c/\bytes*c<=2^48/\c<=maxLen/\z.ag=true/\O[k]? =some (.nil t s)/\K (.row k n.toNat) (O.set k (.live t s (List.replicate n.toNat z)))
    |_,_=>False
theorem auo(P:Program)(k t s b:Nat)(z:AV)(x y:aI)(e:Env)(O:List ad)(K:KT):wpOp P (.y4 k t s b z x y) e O K=anl k t s b z (x.ev e) (y.ev e) O K:=nr rfl
theorem ank(k t s bytes:Nat)(z:AV)(n c:Int)(O:List ad)(K:KT):anl k t s bytes z (.v (.int .i64 n)) (.v (.int .i64 c)) O K=(0<n/\n<=c/\bytes*c<=281474976710656/\c<=9223372036854775807/\z.ag=true/\O[k]? =some (.nil t s)/\k1 (.row k n.toNat) (O.set k (.live t s (List.replicate n.toNat z))) K):=by
 have h1:(2:Int)^48=281474976710656:=by decide
 have h2:((maxLen:Nat):Int)=9223372036854775807:=by decide
 simp only[anl,h1,h2,k1]
def ahI(t:Nat)(a:AV)(O:List ad)(K:KT):Prop:=match a with
    | .row n len=>pJ O[n]? λ t' s xs=>t'=t/\s=1/\xs.length=len/\K (.row n len) O
    |_=>False
theorem aqS(P:Program)(t:Nat)(x:aI)(e:Env)(O:List ad)(K:KT):wpOp P (.y6 t x) e O K=ahI t (x.ev e) O K:=by
 simp only[wpOp,ahI];cases x.ev e<;>first|rfl|(rename_i k l;cases O[k]? with|none=>rfl|some o=>cases o<;>rfl)
theorem ahH(t n len:Nat)(O:List ad)(K:KT):ahI t (.row n len) O K=pJ O[n]? λ t' s xs=>t'=t/\s=1/\xs.length=len/\k1 (.row n len) O K:=nr rfl
def ao3(P:Program)(n0:Nat)(rows:List (List Nat))(ops:List aO)(Q:AX->Env->List ad->Prop)(e:Env)(O:List ad):Prop:=ky P n0 (.region (some rows) ops) Q e O
theorem awd(P:Program)(n0:Nat)(rows:List (List Nat))(ops:List aO)(Q:AX->Env->List ad->Prop)(e:Env)(O:List ad):ky P n0 (.region (some rows) ops) Q e O=ao3 P n0 rows ops Q e O:=nr rfl
theorem dv{P:Program}{n0:Nat}{rows:List (List Nat)}{ops:List aO}{Q:AX->Env->List ad->Prop}{e:Env}{O:List ad}(h:cC P ops [] e O λ iD e O=>iF rows (ops.zip iD)=true/\Q .normal e O):ao3 P n0 rows ops Q e O:=⟨ops,rfl,h⟩
theorem aaf{P:Program}{n0:Nat}{rows:List (List Nat)}{ops al:List aO}{Q:AX->Env->List ad->Prop}{e:Env}{O:List ad}(hs:al.map aO.strip=ops.map aO.strip)(h:cC P al [] e O λ iD e O=>iF rows (al.zip iD)=true/\Q .normal e O):ao3 P n0 rows ops Q e O:=⟨al,hs,h⟩
def abW(P:Program)(d:Option Nat)(e:Env)(r:List aO)(acc:List iw)(Q:List iw->Env->List ad->Prop):KT:=λ x O'=>cC P r acc (bO e d x) O' Q
theorem anO(P:Program)(d:Option Nat)(e:Env)(r:List aO)(acc:List iw)(Q:List iw->Env->List ad->Prop)(a:AV)(O:List ad):k1 a O (abW P d e r acc Q)=cC P r acc (bO e d a) O Q:=nr rfl
theorem aes(P:Program)(d:Option Nat)(op:ez)(e:Env)(O:List ad)(r:List aO)(acc:List iw)(Q:List iw->Env->List ad->Prop):
 cC P (⟨none,d,op⟩::r) acc e O Q=wpOp P op e O (abW P d e r (acc++ [cF op e O.length]) Q):=nr rfl
theorem agY(P:Program)(e:Env)(O:List ad)(acc:List iw)(Q:List iw->Env->List ad->Prop):cC P [] acc e O Q=Q acc e O:=nr rfl
def azJ(neg:Bool)(a b:AV)(O:List ad)(K:KT):Prop:=match a,b with
 | .v (.bool a),.v (.bool b)=>K (.v (.bool (neg !=(a==b)))) O
 |_,_=>False
theorem asg(neg a b:Bool)(O:List ad)(K:KT):azJ neg (.v (.bool a)) (.v (.bool b)) O K=k1 (.v (.bool (neg !=(a==b)))) O K:=nr rfl
theorem axP(P:Program)(neg:Bool)(x y:aI)(e:Env)(O:List ad)(K:KT):wpOp P (.beq neg x y) e O K=azJ neg (x.ev e) (y.ev e) O K:=nr rfl
theorem a7.any{P:Program}{f:FuncId}{args:List AV}{res:AV}(h:a7 P f args res)(hn:AV.ae args=true)(hr:res.ag=true)(O:List ad):fE P f args O res O:=by
 have:=fE.fresh h hn O;rwa [dX res hr,List.map_nil,List.append_nil]at this
theorem alr(n:Nat):(AV.own n).cells= [.own n]:=nr rfl
theorem ahV(n:Nat):(AV.own n).cg=true:=nr rfl
theorem acG(n:Nat):(AV.own n).storable=true:=nr rfl
theorem ap7{a b:AV}{cs:List AV}{i:Nat}(n:Nat)(h:i<(a::b::cs).length):rH (.agg (a::b::cs)) i (.own n)= .agg ((a::b::cs).set i (.own n)):=oL rfl h
theorem aqr(s:Nat->Nat)(n:Nat):(AV.own n).bP s= .own (s n):=nr rfl
theorem axm(s:Nat->Nat)(x:Value):(AV.v x).bP s= .v x:=nr rfl
theorem aqs(s:Nat->Nat)(cs:List AV):(AV.agg cs).bP s= .agg (cs.map (AV.bP s)):=by simp only[AV.bP,fh]
theorem am3(s:Nat->Nat)(a:AV):(ad.own a).bP s= .own a:=nr rfl
theorem aku(s:Nat->Nat):ad.dead.bP s= .dead:=nr rfl
theorem ac5{nl:Bool}{e s:Nat}{xs:List AV}(hn:AV.ae xs=true):(cq nl e s xs).ae=true:=by
 unfold cq;split
 ·rfl
 ·exact hn
def amR(o:PU)(xs:List AV)(O:List ad)(K:KT):Prop:=AV.ae xs=true/\puK o xs λ v=>K v O
theorem aBb(P:Program)(o:PU)(as:List aI)(e:Env)(O:List ad)(K:KT):wpOp P (.pu o as) e O K=amR o (as.map λ x=>iW O (x.ev e)) O K:=nr rfl
theorem amQ(k:IntKind)(a b:Int)(O:List ad)(K:KT):amR .max [.v (.int k a),.v (.int k b)] O K=k1 (.v (.int k (max a b))) O K:=by
 have:(if a<b then b else a)=max a b:=by rw[Int.max_def];split<;>split<;>omega
 simp[amR,puK,xv,AV.ae,AV.ag,k1,this]
theorem fE.back{P:Program}{f:FuncId}{args:List AV}{O1 nj:List ad}{res:AV}(h:fE P f args O1 res nj)(hl:nj.length=O1.length)(ha:AV.cS O1.length args=true)(hr:res.ag=true)
  (ho:O1.all ad.ae=true) (ho':nj.all ad.ae=true) (A:List ad):fE P f (args.map (AV.bP λ n=>A.length+n)) (A++O1) res (A++nj):=by
 have gO:∀{X:List ad},X.all ad.ae=true->∀i,(A++X)[A.length+i]? =(X[i]?).map (ad.bP λ n=>A.length+n):=by
  intro X hx i;rw[List.getElem?_append_right (by omega),Nat.add_sub_cancel_left];cases hq:X[i]? with
  |none=>rfl
  |some ob=>simp only[Option.map_some];rw[fJ (List.all_eq_true.1 hx ob (List.mem_of_getElem? hq))]
 have:=h.frame (O:=A++O1) (nc:=A++nj) (λ n=>A.length+n) (λ i hi=>by simp;omega) (λ i _=>gO ho i) (λ i j _ _ he=>by omega)
  (λ i hi=>by simp;omega) (λ a h'=>bU ha a h') (λ ob hb=>nz (List.all_eq_true.1 ho ob hb)) (by simp[hl]) (λ i _=>gO ho' i) (λ n hn cA=> ?_)
 ·rwa [dX res hr]at this
 ·have aF:n<A.length:=by
    rcases lt_or_ge n A.length with h'|h'
    ·exact h'
    ·have:n<A.length+O1.length:=by simpa using hn
     exact(cA (n- A.length) (by omega) (by omega)).elim
  rw[List.getElem?_append_left aF,List.getElem?_append_left aF]
theorem mI{n0 t:Nat}{res:AV}{x:AX}(hx:x= .ret∨x= .normal){e:Env}{O:List ad}(h:e t=res):oQ n0 [.tmp t] res O x e O:=by
 have:dK e O [.tmp t] [] λ iv=>∃e',WK n0 (λ t=>if t=0 then br iv else .top) O e' O/\e' 0=res:=by
  rw[aeQ,aeS];simp only[List.reverse_cons,List.reverse_nil,List.nil_append,br,h];exact⟨λ t=>if t=0 then res else .top,.refl _ _ _,rfl⟩
 rcases hx with rfl|rfl<;>exact this
def avU(P:Program)(f:FuncId)(args:List AV)(O:List ad)(K:KT):Prop:=∃res ob,AV.ae args=true/\fE P f args [] res [ob]/\K (res.bP λ n=>O.length+n) (O++ [ob.bP λ n=>O.length+n])
theorem aqV(P:Program)(nl:Bool)(t s:Nat)(f:FuncId)(as:List aI)(e:Env)(O:List ad)(K:KT):wpOp P (.eW nl t s f as) e O K=avU P f (as.map (aI.ev e)) O K:=nr rfl
def auJ(P:Program)(rd:List Nat)(f:FuncId)(args:List AV)(O:List ad)(K:KT):Prop:=∃res ob,(∀O':List ad,O'.length=O.length->(∀n∈rd,O'[n]? =O[n]?)->fE P f args O' res (O'++ [ob]))/\K res (O++ [ob])
def auR(P:Program)(rd:List Nat)(f:FuncId)(args:List AV)(O:List ad)(K:KT):Prop:=∃res,(∀O':List ad,(∀n∈rd,O'[n]? =O[n]?)->fE P f args O' res O')/\K res O
theorem aqT(P:Program)(rd:List Nat)(f:FuncId)(as:List aI)(e:Env)(O:List ad)(K:KT):wpOp P (.rR rd f as) e O K=auJ P rd f (as.map (aI.ev e)) O K:=nr rfl
theorem aqU(P:Program)(rd:List Nat)(f:FuncId)(as:List aI)(e:Env)(O:List ad)(K:KT):wpOp P (.rS rd f as) e O K=auR P rd f (as.map (aI.ev e)) O K:=nr rfl
def amj(P:Program)(kp:List Nat)(f:FuncId)(args:List AV)(O:List ad)(K:KT):Prop:=∃res O',fE P f args O res O'/\(∀n∈kp,O'[n]? =O[n]?)/\K res O'
theorem aqO(P:Program)(kp:List Nat)(f:FuncId)(as:List aI)(e:Env)(O:List ad)(K:KT):wpOp P (.nq kp f as) e O K=amj P kp f (as.map (aI.ev e)) O K:=nr rfl
theorem lU{P:Program}{kp:List Nat}{f:FuncId}{args:List AV}{O O':List ad}{K:KT}{res:AV}(h:fE P f args O res O')(hk:∀n∈kp,O'[n]? =O[n]?)(k:k1 res O' K):amj P kp f args O K:=⟨res,O',h,hk,k⟩
def pA(P:Program)(a:AV)(want:Bool)(t:Nat)(d:Option Nat)(op:ez)(r:List aO)(acc:List iw)(e:Env)(O:List ad)(Q:List iw->Env->List ad->Prop):Prop:=match a with
 | .v (.bool b)=>
   (b=want->wpOp P op (e.set t (.v (.bool want))) O (abW P d (e.set t (.v (.bool want))) r (acc++ [cF op (e.set t (.v (.bool want))) O.length]) Q))/\
   (b= !want->cC P r (acc++ [⟨[],.cL⟩]) (bO (e.set t (.v (.bool (!want)))) d (.a9 [])) O Q)
 | .a9 []=>cC P r (acc++ [⟨[],.cL⟩]) (bO e d (.a9 [])) O Q
 |_=>False
section
variable (P:Program) (t:Nat) (d:Option Nat) (op:ez) (r:List aO) (acc:List iw) (e:Env) (O:List ad) (Q:List iw->Env->List ad->Prop)
theorem arf(want:Bool):cC P (⟨some (t,want),d,op⟩::r) acc e O Q=pA P (e t) want t d op r acc e O Q:=by
 simp only[cC];unfold pA abW;cases e t<;>try rfl
theorem aoB:pA P (.v (.bool true)) true t d op r acc e O Q=wpOp P op (e.set t (.v (.bool true))) O (abW P d (e.set t (.v (.bool true))) r (acc++ [cF op (e.set t (.v (.bool true))) O.length]) Q):=by simp[pA]
theorem aoE:pA P (.v (.bool false)) false t d op r acc e O Q=wpOp P op (e.set t (.v (.bool false))) O (abW P d (e.set t (.v (.bool false))) r (acc++ [cF op (e.set t (.v (.bool false))) O.length]) Q):=by simp[pA]
theorem aoC:pA P (.v (.bool true)) false t d op r acc e O Q=cC P r (acc++ [⟨[],.cL⟩]) (bO (e.set t (.v (.bool true))) d (.a9 [])) O Q:=by simp[pA]
theorem aoD:pA P (.v (.bool false)) true t d op r acc e O Q=cC P r (acc++ [⟨[],.cL⟩]) (bO (e.set t (.v (.bool false))) d (.a9 [])) O Q:=by simp[pA]
theorem aii(want:Bool):pA P (.a9 []) want t d op r acc e O Q=cC P r (acc++ [⟨[],.cL⟩]) (bO e d (.a9 [])) O Q:=by simp[pA]
end
theorem Split.congr{O O':List ad}{ys xs:List AV}(h:Split O ys xs)(ho:∀(m:Nat) d,O[m]? =some (.own d)->O'[m]? =some (.own d)):Split O' ys xs:=
 ⟨h.len,h.cells,λ i y x j c d hy hx hc hd=>(h.half i y x j c d hy hx hc hd).imp id λ ⟨k,h1,h2⟩=>⟨k,h1,ho k d h2⟩,h.inj⟩
theorem Split.nil(O:List ad):Split O [] []:=⟨rfl,λ i y x h=>by simp at h,λ i y x j c d h=>by simp at h,λ i y j i' y' j' k h=>by simp at h⟩
def OD0:=And.intro @awd (And.intro @aes (And.intro @agY (And.intro @axP (And.intro @aBb (And.intro @arf (And.intro @aqV (And.intro @aqT (And.intro @aqU (And.intro @aqO (And.intro @amb (And.intro @ag3 (And.intro @azG (And.intro @awe (And.intro @asd (And.intro @amd (And.intro @ap0 (And.intro @awc (And.intro @awb (@ajQ)))))))))))))))))))
def OD1:=And.intro @agX (And.intro @asc (And.intro @atX (And.intro @atY (And.intro @atW (And.intro @apo (And.intro @apq (And.intro @apn (And.intro @ark (And.intro @arl (And.intro @arj (And.intro @amz (And.intro @amy (And.intro @axL (And.intro @ahv (And.intro @aqY (And.intro @axO (And.intro @aqX (And.intro @adi (@yU)))))))))))))))))))
def OD2:=And.intro @adg (And.intro @asJ (And.intro @axI (And.intro @anb (And.intro @qT (And.intro @asH (And.intro @adh (And.intro @aqZ (And.intro @ana (And.intro @ae5 (And.intro @ae6 (And.intro @axN (And.intro @am9 (And.intro @ahw (And.intro @anc (And.intro @asI (And.intro @am7 (And.intro @am8 (And.intro @auq (@aqW)))))))))))))))))))
def OD3:=And.intro @aje (And.intro @yT (And.intro @ajd (And.intro @yS (And.intro @aj4 (And.intro @aj5 (And.intro @aqR (And.intro @aup (And.intro @aun (And.intro @aum (And.intro @auk (And.intro @aqP (And.intro @aqQ (And.intro @axJ (And.intro @aul (And.intro @axK (And.intro @aur (And.intro @axM (And.intro @auo (@aqS)))))))))))))))))))
def OA0:=And.intro @alr (And.intro @ahV (And.intro @acG (And.intro @ap7 (And.intro @aqr (And.intro @axm (And.intro @aqs (And.intro @am3 (And.intro @aku (And.intro @anO (And.intro @asg (And.intro @aoB (And.intro @aoE (And.intro @aoC (And.intro @aoD (And.intro @aii (And.intro @amQ (And.intro @aro (And.intro @yI (@vN)))))))))))))))))))
def OA1:=And.intro @yJ (And.intro @asf (And.intro @apr (And.intro @alM (And.intro @apj (And.intro @alL (And.intro @fK (And.intro @kG (And.intro @om (And.intro @sJ (And.intro @uV (And.intro @sm (And.intro @agx (And.intro @agk (And.intro @agq (And.intro @agw (And.intro @ajK (And.intro @agj (And.intro @ago (@agn)))))))))))))))))))
def OA2:=And.intro @agv (And.intro @agp (And.intro @agr (And.intro @ags (And.intro @agt (And.intro @agu (And.intro @agm (And.intro @agl (And.intro @acu (And.intro @acs (And.intro @acr (And.intro @aiP (And.intro @aiQ (And.intro @af0 (And.intro @qA (And.intro @pc (And.intro @ajA (And.intro @ab5 (And.intro @agG (@aiK)))))))))))))))))))
def OA3:=And.intro @sP (And.intro @afv (And.intro @agh (And.intro @agf (And.intro @yo (And.intro @yp (And.intro @anj (And.intro @afh (And.intro @sK (And.intro @zb (And.intro @abU (And.intro @aha (And.intro @x5 (And.intro @uz (And.intro @ae2 (And.intro @sE (And.intro @uQ (And.intro @ajC (And.intro @sH (@yX)))))))))))))))))))
def OA4:=And.intro @abP (And.intro @alw (And.intro @sA (And.intro @sD (And.intro @arO (And.intro @arP (And.intro @arQ (And.intro @arR (And.intro @ald (And.intro @aiu (And.intro @af2 (And.intro @ql (And.intro @gw (And.intro @ajS (And.intro @aw7 (And.intro @atE (And.intro @amf (And.intro @ap5 (And.intro @ap6 (@atF)))))))))))))))))))
def OA5:=And.intro @ap8 (And.intro @amg (And.intro @azu (And.intro @avL (And.intro @aoJ (And.intro @arU (And.intro @avM (And.intro @aeS (And.intro @aeQ (And.intro @akd (And.intro @alv (And.intro @af8 (And.intro @aks (And.intro @ahs (And.intro @List.reverse_cons.{0} (And.intro @List.reverse_nil.{0} (And.intro @ne_eq.{1} (And.intro @Nat.add_eq_zero_iff (And.intro @not_false_eq_true (@Nat.one_ne_zero)))))))))))))))))))
def OA6:=And.intro @aCT (And.intro @aCU (And.intro @atU (And.intro @aoX (And.intro @aci (And.intro @anN (And.intro @List.map_cons.{0,0} (And.intro @List.map_nil.{0,0} (And.intro @Option.map_some.{0,0} (And.intro @Option.map_none.{0,0} (And.intro @List.getD_cons_zero.{0} (And.intro @List.getD_cons_succ.{0} (And.intro @List.length_nil.{0} (And.intro @List.length_cons.{0} (And.intro @List.length_append.{0} (And.intro @List.length_set.{0} (And.intro @List.nil_append.{0} (And.intro @List.cons_append.{0} (And.intro @List.append_nil.{0} (@List.getElem?_cons_zero.{0})))))))))))))))))))
def OA7:=And.intro @List.getElem?_cons_succ.{0} (And.intro @List.set_cons_zero.{0} (And.intro @List.set_cons_succ.{0} (And.intro @List.drop_succ_cons.{0} (And.intro @List.drop_zero.{0} (And.intro @List.take_succ_cons.{0} (And.intro @List.take_zero.{0} (And.intro @List.replicate_succ.{0} (And.intro @List.replicate_zero.{0} (And.intro @if_true.{1} (And.intro @if_false.{1} (And.intro @aco (And.intro @an (And.intro @aak (And.intro @af6 (And.intro @alp (And.intro @alq (And.intro @af7 (And.intro @ab4 (@oq)))))))))))))))))))
def OA8:=And.intro @vZ (And.intro @ab2 (And.intro @ahT (And.intro @ahU (And.intro @ab3 (And.intro @te (And.intro @x4 (And.intro @rJ (And.intro @vH (And.intro @acE (And.intro @acF (And.intro @vI (And.intro @ab9 (And.intro @um (And.intro @avR (And.intro @ahz (And.intro @ae7 (And.intro @aq1 (And.intro @anf (@akB)))))))))))))))))))
def OA9:=And.intro @akz (And.intro @ahB (And.intro @ang (And.intro @List.all_cons.{0} (And.intro @List.all_nil.{0} (And.intro @Bool.and_true (And.intro @Bool.true_and (And.intro @Bool.or_true (And.intro @Bool.true_or (And.intro @Bool.not_true (And.intro @Bool.not_false (And.intro @decide_true (And.intro @decide_false (And.intro @aC4 (And.intro @Option.getD_none.{0} (And.intro @Option.getD_some.{0} (And.intro @true_and (And.intro @and_true (And.intro @Nat.zero_add (@Nat.add_zero)))))))))))))))))))
def aDb:=And.intro @Nat.lt_add_one (And.intro @Nat.zero_lt_succ (And.intro @Nat.le_refl (And.intro @ajZ (And.intro @aqn (And.intro @ahm (And.intro @ahl (And.intro @ahk (And.intro @ahj (And.intro @at8 (And.intro @at7 (And.intro @apB (And.intro @aq4 (And.intro @ank (@ahH))))))))))))))
def OD:=And.intro @OD0 (And.intro @OD1 (And.intro @OD2 (@OD3)))
def OA:=And.intro @OA0 (And.intro @OA1 (And.intro @OA2 (And.intro @OA3 (And.intro @OA4 (And.intro @OA5 (And.intro @OA6 (And.intro @OA7 (And.intro @OA8 (And.intro @OA9 (@aDb))))))))))
end Go.Ab
