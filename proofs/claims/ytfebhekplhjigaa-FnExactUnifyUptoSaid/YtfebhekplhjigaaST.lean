/-
  WHAT IS LEFT of this seat's functions, printed by a program of ours (wip/tool/Gen2.lean) from the translation; each with the theorem that it is what is left of that function.
-/
import Derived.Test.YtfebhekplhjigaaChecked
import Derived.KernelRfl
import Derived.Test.YtfebhekplhjigaaAbM5
set_option linter.unusedVariables false
set_option linter.unusedSimpArgs false
namespace Go.Proofs.Ab
open Go.Ab
set_option maxRecDepth 100000
namespace F
abbrev afX:FuncId:=3
abbrev alJ:FuncId:=4
abbrev e9:FuncId:=5
abbrev aoj:FuncId:=6
abbrev ly:FuncId:=7
abbrev anl:FuncId:=8
abbrev ey:FuncId:=9
abbrev aoz:FuncId:=10
abbrev lz:FuncId:=11
abbrev axQ:FuncId:=12
abbrev anm:FuncId:=13
abbrev iG:FuncId:=14
abbrev fL:FuncId:=15
abbrev jT:FuncId:=17
abbrev fo:FuncId:=18
abbrev ax1:FuncId:=19
abbrev asZ:FuncId:=20
abbrev gd:FuncId:=21
abbrev gX:FuncId:=22
abbrev bK:FuncId:=23
abbrev dQ:FuncId:=24
abbrev cp:FuncId:=25
abbrev eb:FuncId:=26
abbrev iO:FuncId:=29
abbrev lG:FuncId:=30
abbrev awq:FuncId:=31
abbrev ve:FuncId:=32
abbrev qN:FuncId:=35
abbrev vf:FuncId:=36
abbrev nM:FuncId:=37
abbrev gV:FuncId:=38
abbrev eN:FuncId:=39
abbrev bZ:FuncId:=40
abbrev gg:FuncId:=41
abbrev dw:FuncId:=42
abbrev j4:FuncId:=43
abbrev dC:FuncId:=44
abbrev fb:FuncId:=45
abbrev ep:FuncId:=46
abbrev iN:FuncId:=47
abbrev eh:FuncId:=48
abbrev dD:FuncId:=49
abbrev asY:FuncId:=50
abbrev ax0:FuncId:=51
abbrev nN:FuncId:=52
abbrev eU:FuncId:=53
abbrev fV:FuncId:=54
abbrev fi:FuncId:=55
abbrev fJ:FuncId:=56
abbrev eT:FuncId:=57
abbrev dz:FuncId:=58
abbrev eV:FuncId:=59
abbrev eo:FuncId:=60
abbrev fm:FuncId:=62
abbrev a8:FuncId:=63
abbrev iv:FuncId:=64
abbrev iu:FuncId:=65
abbrev sE:FuncId:=66
abbrev sG:FuncId:=67
abbrev sI:FuncId:=69
abbrev vd:FuncId:=70
abbrev jv:FuncId:=71
abbrev jt:FuncId:=72
abbrev fa:FuncId:=73
abbrev aM:FuncId:=74
abbrev fO:FuncId:=75
abbrev bE:FuncId:=76
abbrev fB:FuncId:=77
abbrev fC:FuncId:=78
abbrev gW:FuncId:=79
abbrev jH:FuncId:=80
abbrev bf:FuncId:=81
abbrev bY:FuncId:=82
abbrev fK:FuncId:=84
abbrev jw:FuncId:=85
abbrev au:FuncId:=86
abbrev bD:FuncId:=87
abbrev ir:FuncId:=88
abbrev iq:FuncId:=89
abbrev jI:FuncId:=90
abbrev cB:FuncId:=91
abbrev eW:FuncId:=92
abbrev eX:FuncId:=93
abbrev dO:FuncId:=94
abbrev oc:FuncId:=95
abbrev er:FuncId:=96
abbrev bq:FuncId:=97
abbrev ju:FuncId:=98
abbrev jJ:FuncId:=99
abbrev jK:FuncId:=100
abbrev bM:FuncId:=101
end F
def FL:List Nat:=[3,4,5,6,7,8,10,11,12,14,15,16,20,21,24,25,26,28,29,31,34,35,36,38,39,41,43,45,46,49,52,53,55,56,57,58,60,61,62,63,64,67,69,70,71,72,73,75,76,77,79,80,81,82,84,85,87,88,89,90,91,92,93,94,95,96,97,98,99,100,101]
def FR:List (Nat×Bool×Nat×Nat):=[(30,true,3,1),(17,false,3,1),(65,true,3,1)]
abbrev G.ve:iW:=⟨1,[(.d (.x 0))],[],3,(.ptr 0 0),[(.box 93 [(.d (.x 0)),(.d (.x 1)),(.d (.x 2))])],[]⟩
abbrev G.qN:iW:=⟨4,[(.ptr 0 0),(.d (.x 3))],[(.box 93 [(.d (.x 0)),(.d (.x 1)),(.d (.x 2))])],4,(.d (.x 0)),[(.box 93 [(.d (.x 1)),(.d (.x 2)),(.d (.x 3))])],[]⟩
abbrev G.vf:iW:=⟨4,[(.ptr 0 0),(.d (.x 3))],[(.box 93 [(.d (.x 0)),(.d (.x 1)),(.d (.x 2))])],4,(.d (.x 0)),[(.box 93 [(.d (.x 1)),(.d (.x 2)),(.d (.x 3))])],[]⟩
abbrev G.nM:iW:=⟨3,[(.ptr 0 0)],[(.box 93 [(.d (.x 0)),(.d (.x 1)),(.d (.x 2))])],4,(.d (.x 0)),[(.box 93 [(.d (.x 1)),(.d (.x 2)),(.d (.x 3))])],[]⟩
abbrev G.bZ:iW:=⟨3,[(.d (.x 0)),(.d (.x 1)),(.row 0 (.x 2))],[(.row false 3 1 (.x 2))],1,(.row 0 (.x 0)),[(.row false 3 1 (.x 0))],[]⟩
abbrev G.sE:iW:=⟨5,[(.ptr 0 0),(.d (.x 3)),(.d (.x 4))],[(.box 93 [(.d (.x 0)),(.d (.x 1)),(.d (.x 2))])],7,(.agg [(.d (.x 0)),(.d (.x 4)),(.d (.x 5)),(.row 1 (.x 6))]),[(.box 93 [(.d (.x 1)),(.d (.x 2)),(.d (.x 3))]),(.row true 24 4 (.x 6))],[]⟩
abbrev G.sD:iW:=⟨5,[(.ptr 0 0),(.d (.x 3)),(.d (.x 4))],[(.box 93 [(.d (.x 0)),(.d (.x 1)),(.d (.x 2))])],4,(.d (.x 0)),[(.box 93 [(.d (.x 1)),(.d (.x 2)),(.d (.x 3))])],[]⟩
abbrev G.sG:iW:=⟨4,[(.ptr 0 0),(.d (.x 3))],[(.box 93 [(.d (.x 0)),(.d (.x 1)),(.d (.x 2))])],4,(.d (.x 0)),[(.box 93 [(.d (.x 1)),(.d (.x 2)),(.d (.x 3))])],[]⟩
abbrev G.sI:iW:=⟨3,[(.ptr 0 0)],[(.box 93 [(.d (.x 0)),(.d (.x 1)),(.d (.x 2))])],4,(.d (.x 0)),[(.box 93 [(.d (.x 1)),(.d (.x 2)),(.d (.x 3))])],[]⟩
abbrev G.vd:iW:=⟨4,[(.ptr 0 0),(.d (.x 3))],[(.box 93 [(.d (.x 0)),(.d (.x 1)),(.d (.x 2))])],4,(.d (.x 0)),[(.box 93 [(.d (.x 1)),(.d (.x 2)),(.d (.x 3))])],[]⟩
abbrev G.au:iW:=⟨1,[(.d (.c .aA)),(.d (.x 0))],[],1,(.row 0 (.x 0)),[(.row false 29 4 (.x 0))],[]⟩
abbrev G.aI:iW:=⟨1,[(.d (.c .aA)),(.d (.x 0))],[],0,(.d (.c .aA)),[],[]⟩
def SG:List (Nat×List iW):=[(32,[G.ve]),(35,[G.qN]),(36,[G.vf]),(37,[G.nM]),(40,[G.bZ]),(66,[G.sE,G.sD]),(67,[G.sG]),(69,[G.sI]),(70,[G.vd]),(86,[G.au,G.aI])]
abbrev CF:Cfg:=⟨FL,FR,SG,false⟩
abbrev CFC:Cfg:=⟨FL,FR,SG,true⟩
def SGB:List (Nat×List iW):=[(32,[G.ve]),(35,[G.qN]),(36,[G.vf]),(37,[G.nM]),(40,[G.bZ]),(66,[G.sE,G.sD]),(67,[G.sG]),(69,[G.sI]),(70,[G.vd]),(86,[G.aI])]
abbrev CFB:Cfg:=⟨FL,FR,SGB,false⟩
def T.ly:T:=
.bI (.cells (.x 0) 4) (
.op (.mn (.cell 0 2)) (
.op (.bin .sub (.x 1) (.x 2)) (
.op (.bin .lss (.x 3) (.c (.v (.int .i64 0)))) (
.ite (.x 4)
 (.ret [(.c (.v (.int .i64 (-1))))])
 (.op (.call F.gd [(.cell 0 3),(.x 3)] false) (
 .op (.bin .lss (.x 5) (.c (.v (.int .i64 0)))) (
 .ite (.x 6)
  (.ret [(.c (.v (.int .i64 (-1))))])
  (.ret [(.x 5)]))))))))
theorem T.agV:ct Try.prog CF Try.f7=some (2,T.ly):=by kernel_rfl
theorem T.acS{args:List AV}{res:AV}(hl:args.length=2)(hn:AV.ae args=true)(hw:bW Try.prog (λ _ _ _=>False) (λ a=>a=res) T.ly args []):a7 Try.prog F.ly args res:=
 aY Try.func7 T.agV hl hn hw
def T.ey:T:=
.bI (.cells (.x 0) 4) (
.bI (.one (.cell 0 0)) (
.bI (.one (.cell 0 1)) (
.bI (.one (.cell 0 2)) (
.op (.call F.bK [(.cell 0 3)] false) (
.bI (.one (.x 1)) (
.bI (.cells (.agg [(.cell 0 0),(.cell 0 1),(.cell 0 2),(.x 1)]) 4) (
.ret [(.agg [(.cell 0 0),(.cell 0 1),(.cell 0 2),(.x 1)])])))))))
theorem T.agU:ct Try.prog CF Try.f9=some (1,T.ey):=by kernel_rfl
theorem T.acR{args:List AV}{res:AV}(hl:args.length=1)(hn:AV.ae args=true)(hw:bW Try.prog (λ _ _ _=>False) (λ a=>a=res) T.ey args []):a7 Try.prog F.ey args res:=
 aY Try.func9 T.agU hl hn hw
def T.lz:T:=
.bI (.cells (.x 0) 4) (
.bI (.cells (.x 1) 4) (
.op (.bin .neq (.cell 0 0) (.cell 1 0)) (
.ite (.x 2)
 (.ret [(.c (.v (.bool false)))])
 (.op (.bin .neq (.cell 0 1) (.cell 1 1)) (
 .ite (.x 3)
  (.ret [(.c (.v (.bool false)))])
  (.op (.bin .neq (.cell 0 2) (.cell 1 2)) (
  .ite (.x 4)
   (.ret [(.c (.v (.bool false)))])
   (.op (.call F.dQ [(.cell 0 3),(.cell 1 3)] false) (
   .op (.un .not (.x 5)) (
   .ite (.x 6)
    (.ret [(.c (.v (.bool false)))])
    (.ret [(.c (.v (.bool true)))])))))))))))
theorem T.agW:ct Try.prog CF Try.f11=some (2,T.lz):=by kernel_rfl
theorem T.acT{args:List AV}{res:AV}(hl:args.length=2)(hn:AV.ae args=true)(hw:bW Try.prog (λ _ _ _=>False) (λ a=>a=res) T.lz args []):a7 Try.prog F.lz args res:=
 aY Try.func11 T.agW hl hn hw
def T.iG:T:=
.bI (.cells (.x 0) 4) (
.bI (.cells (.x 0) 4) (
.op (.call F.gV [(.x 0)] false) (
.op (.un .not (.x 1)) (
.ite (.x 2)
 (.ret [(.c (.v (.bool false)))])
 (.bind 0 (
  .loop [(.c (.v (.int .i64 0)))] (
   .op (.bl (.cell 0 3)) (
   .op (.bin .lss (.x 3) (.x 4)) (
   .ite (.x 5)
    (.op (.elem 4 (.cell 0 3) (.x 3)) (
    .bI (.cells (.x 6) 4) (
    .op (.call F.iG [(.x 6)] false) (
    .op (.un .not (.x 7)) (
    .ite (.x 8)
     (.eB (.eB (.ret [(.c (.v (.bool false)))])))
     (.op (.bin .add (.x 3) (.c (.v (.int .i64 1)))) (
     .jump [(.x 9)])))))))
    (.eB (.jump [])))))) (
 .ret [(.c (.v (.bool true)))]))))))
theorem T.agm:ct Try.prog CF Try.f14=some (1,T.iG):=by kernel_rfl
theorem T.acL{args:List AV}{res:AV}(hl:args.length=1)(hn:AV.ae args=true)(hw:bW Try.prog (λ _ _ _=>False) (λ a=>a=res) T.iG args []):a7 Try.prog F.iG args res:=
 aY Try.func14 T.agm hl hn hw
def T.fL:T:=
.bI (.cells (.x 0) 4) (
.bind 1 (
 .loop [(.c (.v (.int .i64 1))),(.c (.v (.int .i64 0)))] (
  .op (.bl (.cell 0 3)) (
  .op (.bin .lss (.x 2) (.x 3)) (
  .ite (.x 4)
   (.op (.elem 4 (.cell 0 3) (.x 2)) (
   .bI (.cells (.x 5) 4) (
   .op (.call F.fL [(.x 5)] false) (
   .op (.bin .add (.x 1) (.x 6)) (
   .op (.bin .add (.x 2) (.c (.v (.int .i64 1)))) (
   .jump [(.x 7),(.x 8)]))))))
   (.eB (.jump [(.x 1)])))))) (
.ret [(.x 1)]))
theorem T.acK:ct Try.prog CF Try.f15=some (1,T.fL):=by kernel_rfl
theorem T.y7{args:List AV}{res:AV}(hl:args.length=1)(hn:AV.ae args=true)(hw:bW Try.prog (λ _ _ _=>False) (λ a=>a=res) T.fL args []):a7 Try.prog F.fL args res:=
 aY Try.func15 T.acK hl hn hw
def T.jT:T:=
.bI (.cells (.x 0) 4) (
.bind 0 (
 .bind 1 (
  .bI (.cells (.x 0) 4) (
  .op (.call F.iG [(.x 0)] false) (
  .op (.un .not (.x 2)) (
  .ite (.x 3)
   (.jump [(.c (.v (.bool true)))])
   (.op (.call F.eN [(.x 1),(.c (.v (.int .i64 9))),(.c (.v (.int .i64 11)))] false) (
   .op (.un .not (.x 4)) (
   .jump [(.x 5)]))))))) (
 .ite (.x 2)
  (.op (.mkl (.v (.int .i64 0)) 0 []) (
  .eB (.ret [(.sl (.x 3))])))
  (.jump []))) (
.bI (.cells (.x 0) 4) (
.op (.mkl (.v (.int .i64 0)) 0 []) (
.op (.gy F.bZ G.bZ [(.x 0),(.x 1),(.x 2)]) (
.ret [(.sl (.ext 3 0))])))))
theorem T.agn:wC Try.prog CF false 3 1 Try.f17=some (2,T.jT):=by kernel_rfl
theorem T.aas{args xs:List AV}(hl:args.length=2)(hn:AV.ae args=true)(hw:bW Try.prog (λ _ _ _=>False) (λ a=>a= .sl xs) T.jT args []):xh Try.prog F.jT args false 3 1 xs:=
 yc Try.func17 T.agn hl hn hw
def T.gd:T:=
.op (.bl (.x 0)) (
.op (.bin .sub (.x 1) (.x 2)) (
.op (.bin .lss (.x 3) (.c (.v (.int .i64 0)))) (
.ite (.x 4)
 (.ret [(.c (.v (.int .i64 (-1))))])
 (.bind 1 (
  .loop [(.x 3),(.c (.v (.int .i64 0)))] (
   .op (.bl (.x 0)) (
   .op (.bin .lss (.x 6) (.x 7)) (
   .ite (.x 8)
    (.op (.elem 4 (.x 0) (.x 6)) (
    .bI (.cells (.x 9) 4) (
    .op (.call F.ly [(.x 9),(.x 5)] false) (
    .op (.bin .lss (.x 10) (.c (.v (.int .i64 0)))) (
    .ite (.x 11)
     (.eB (.eB (.ret [(.c (.v (.int .i64 (-1))))])))
     (.op (.bin .add (.x 6) (.c (.v (.int .i64 1)))) (
     .jump [(.x 10),(.x 12)])))))))
    (.eB (.jump [(.x 5)])))))) (
 .ret [(.x 5)])))))
theorem T.ae3:ct Try.prog CF Try.f21=some (2,T.gd):=by kernel_rfl
theorem T.sV{args:List AV}{res:AV}(hl:args.length=2)(hn:AV.ae args=true)(hw:bW Try.prog (λ _ _ _=>False) (λ a=>a=res) T.gd args []):a7 Try.prog F.gd args res:=
 aY Try.func21 T.ae3 hl hn hw
def T.bK:T:=
.op (.bl (.x 0)) (
.op (.rep 56 (.agg [(.v (.int .i64 0)),(.v (.int .i64 0)),(.v (.string ⟨#[]⟩)),.aA]) (.x 1) (.x 1)) (
.bind 1 (
 .loop [(.x 2),(.c (.v (.int .i64 0)))] (
  .op (.bl (.x 0)) (
  .op (.bin .lss (.x 4) (.x 5)) (
  .ite (.x 6)
   (.op (.elem 4 (.x 0) (.x 4)) (
   .bI (.cells (.x 7) 4) (
   .op (.call F.ey [(.x 7)] false) (
   .bI (.idx (.x 3) (.x 4)) (
   .bI (.cells (.x 8) 4) (
   .op (.set (.x 3) (.x 4) 0 4 (.x 8)) (
   .op (.bin .add (.x 4) (.c (.v (.int .i64 1)))) (
   .jump [(.x 9),(.x 10)]))))))))
   (.eB (.jump [(.x 3)])))))) (
.ret [(.sl (.x 3))])))
theorem T.ae2:ct Try.prog CF Try.f23=some (1,T.bK):=by kernel_rfl
theorem T.sU{args:List AV}{res:AV}(hl:args.length=1)(hn:AV.ae args=true)(hw:bW Try.prog (λ _ _ _=>False) (λ a=>a=res) T.bK args []):a7 Try.prog F.bK args res:=
 aY Try.func23 T.ae2 hl hn hw
def T.dQ:T:=
.op (.bl (.x 0)) (
.op (.bl (.x 1)) (
.op (.bin .neq (.x 2) (.x 3)) (
.ite (.x 4)
 (.ret [(.c (.v (.bool false)))])
 (.bind 0 (
  .loop [(.c (.v (.int .i64 0)))] (
   .op (.bl (.x 0)) (
   .op (.bin .lss (.x 5) (.x 6)) (
   .ite (.x 7)
    (.op (.elem 4 (.x 0) (.x 5)) (
    .bI (.cells (.x 8) 4) (
    .op (.elem 4 (.x 1) (.x 5)) (
    .bI (.cells (.x 9) 4) (
    .op (.call F.lz [(.x 8),(.x 9)] true) (
    .op (.un .not (.x 10)) (
    .ite (.x 11)
     (.eB (.eB (.ret [(.c (.v (.bool false)))])))
     (.op (.bin .add (.x 5) (.c (.v (.int .i64 1)))) (
     .jump [(.x 12)])))))))))
    (.eB (.jump [])))))) (
 .ret [(.c (.v (.bool true)))])))))
theorem T.ae4:ct Try.prog CF Try.f24=some (2,T.dQ):=by kernel_rfl
theorem T.sW{args:List AV}{res:AV}(hl:args.length=2)(hn:AV.ae args=true)(hw:bW Try.prog (λ _ _ _=>False) (λ a=>a=res) T.dQ args []):a7 Try.prog F.dQ args res:=
 aY Try.func24 T.ae4 hl hn hw
def T.eb:T:=
.bind 1 (
 .loop [(.x 1),(.c (.v (.int .i64 0)))] (
  .op (.bl (.x 0)) (
  .op (.bin .lss (.x 3) (.x 4)) (
  .ite (.x 5)
   (.op (.elem 4 (.x 0) (.x 3)) (
   .bI (.lt (.x 6) 0) (
   .op (.bin .neq (.cell 6 0) (.x 2)) (
   .ite (.x 7)
    (.eB (.eB (.ret [(.c (.v (.int .i64 (-1))))])))
    (.op (.bin .add (.x 2) (.c (.v (.int .i64 1)))) (
    .op (.elem 4 (.x 0) (.x 3)) (
    .bI (.lt (.x 9) 1) (
    .op (.bin .neq (.cell 9 1) (.x 8)) (
    .ite (.x 10)
     (.eB (.eB (.ret [(.c (.v (.int .i64 (-1))))])))
     (.op (.bin .add (.x 8) (.c (.v (.int .i64 1)))) (
     .op (.elem 4 (.x 0) (.x 3)) (
     .bI (.lt (.x 12) 2) (
     .op (.call F.eo [(.x 11)] true) (
     .op (.bin .neq (.cell 12 2) (.x 13)) (
     .ite (.x 14)
      (.eB (.eB (.ret [(.c (.v (.int .i64 (-1))))])))
      (.op (.bin .add (.x 11) (.c (.v (.int .i64 1)))) (
      .op (.elem 4 (.x 0) (.x 3)) (
      .bI (.lt (.x 16) 3) (
      .op (.call F.eb [(.cell 16 3),(.x 15)] false) (
      .op (.bin .lss (.x 17) (.c (.v (.int .i64 0)))) (
      .ite (.x 18)
       (.eB (.eB (.ret [(.c (.v (.int .i64 (-1))))])))
       (.op (.bin .add (.x 3) (.c (.v (.int .i64 1)))) (
       .jump [(.x 17),(.x 19)])))))))))))))))))))))))
   (.eB (.jump [(.x 2)])))))) (
.ret [(.x 2)])
theorem T.abf:ct Try.prog CF Try.f26=some (2,T.eb):=by kernel_rfl
theorem T.xN{args:List AV}{res:AV}(hl:args.length=2)(hn:AV.ae args=true)(hw:bW Try.prog (λ _ _ _=>False) (λ a=>a=res) T.eb args []):a7 Try.prog F.eb args res:=
 aY Try.func26 T.abf hl hn hw
def T.iO:T:=
.bI (.cells (.x 0) 4) (
.bind 1 (
 .bI (.cells (.x 0) 4) (
 .op (.call F.fm [(.x 0)] false) (
 .ite (.x 1)
  (.op (.call F.a8 [(.cell 0 3),(.c (.fn F.iv []))] false) (
  .op (.un .not (.x 2)) (
  .jump [(.x 3)])))
  (.jump [(.c (.v (.bool false)))])))) (
.ret [(.x 1)]))
theorem T.ag9:ct Try.prog CF Try.f29=some (1,T.iO):=by kernel_rfl
theorem T.ac1{args:List AV}{res:AV}(hl:args.length=1)(hn:AV.ae args=true)(hw:bW Try.prog (λ _ _ _=>False) (λ a=>a=res) T.iO args []):a7 Try.prog F.iO args res:=
 aY Try.func29 T.ag9 hl hn hw
def T.lG:T:=
.bI (.cells (.x 0) 4) (
.bind 0 (
 .bind 1 (
  .op (.call F.dD [(.x 1)] false) (
  .op (.un .not (.x 2)) (
  .ite (.x 3)
   (.jump [(.c (.v (.bool true)))])
   (.bI (.cells (.x 0) 4) (
   .op (.call F.iO [(.x 0)] false) (
   .op (.un .not (.x 4)) (
   .jump [(.x 5)]))))))) (
 .ite (.x 2)
  (.eB (.ret [(.sl (.c (.sl [])))]))
  (.jump []))) (
.bI (.cells (.x 0) 4) (
.op (.fc true 3 1 F.iu [(.x 0),(.x 1)]) (
.ret [(.sl (.x 2))]))))
theorem T.aha:wC Try.prog CF true 3 1 Try.f30=some (2,T.lG):=by kernel_rfl
theorem T.abB{args xs:List AV}(hl:args.length=2)(hn:AV.ae args=true)(hw:bW Try.prog (λ _ _ _=>False) (λ a=>a= .sl xs) T.lG args []):xh Try.prog F.lG args true 3 1 xs:=
 yc Try.func30 T.aha hl hn hw
def T.gV:T:=
.bI (.cells (.x 0) 4) (
.op (.bl (.cell 0 3)) (
.bind 0 (
 .bind 1 (
  .op (.bin .neq (.cell 0 0) (.c (.v (.int .i64 7)))) (
  .ite (.x 2)
   (.op (.bin .neq (.cell 0 2) (.c (.v (.string ⟨#[]⟩)))) (
   .ite (.x 3)
    (.jump [(.c (.v (.bool true)))])
    (.op (.bin .lss (.cell 0 0) (.c (.v (.int .i64 9)))) (
    .ite (.x 4)
     (.op (.bin .neq (.cell 0 1) (.c (.v (.int .i64 0)))) (
     .jump [(.x 5)]))
     (.jump [(.c (.v (.bool false)))])))))
   (.op (.bin .lss (.cell 0 0) (.c (.v (.int .i64 9)))) (
   .ite (.x 3)
    (.op (.bin .neq (.cell 0 1) (.c (.v (.int .i64 0)))) (
    .jump [(.x 4)]))
    (.jump [(.c (.v (.bool false)))]))))) (
 .ite (.x 2)
  (.eB (.ret [(.c (.v (.bool false)))]))
  (.jump []))) (
.bind 0 (
 .bind 1 (
  .op (.bin .eql (.cell 0 0) (.c (.v (.int .i64 1)))) (
  .ite (.x 2)
   (.jump [(.x 2)])
   (.op (.bin .eql (.cell 0 0) (.c (.v (.int .i64 2)))) (
   .ite (.x 3)
    (.jump [(.x 3)])
    (.op (.bin .eql (.cell 0 0) (.c (.v (.int .i64 3)))) (
    .ite (.x 4)
     (.jump [(.x 4)])
     (.op (.bin .eql (.cell 0 0) (.c (.v (.int .i64 4)))) (
     .jump [(.x 5)])))))))) (
 .ite (.x 2)
  (.op (.bin .eql (.x 1) (.c (.v (.int .i64 0)))) (
  .eB (.ret [(.x 3)])))
  (.op (.bin .eql (.cell 0 0) (.c (.v (.int .i64 5)))) (
  .ite (.x 3)
   (.op (.bin .eql (.x 1) (.c (.v (.int .i64 2)))) (
   .eB (.ret [(.x 4)])))
   (.op (.bin .eql (.cell 0 0) (.c (.v (.int .i64 6)))) (
   .ite (.x 4)
    (.op (.bin .geq (.x 1) (.c (.v (.int .i64 2)))) (
    .eB (.ret [(.x 5)])))
    (.op (.bin .eql (.cell 0 0) (.c (.v (.int .i64 7)))) (
    .ite (.x 5)
     (.op (.call F.jv [(.cell 0 2)] false) (
     .eB (.ret [(.x 6)])))
     (.op (.bin .eql (.cell 0 0) (.c (.v (.int .i64 8)))) (
     .ite (.x 6)
      (.op (.bin .eql (.x 1) (.c (.v (.int .i64 1)))) (
      .eB (.ret [(.x 7)])))
      (.bind 1 (
       .op (.bin .eql (.cell 0 0) (.c (.v (.int .i64 9)))) (
       .ite (.x 7)
        (.jump [(.x 7)])
        (.op (.bin .eql (.cell 0 0) (.c (.v (.int .i64 10)))) (
        .ite (.x 8)
         (.jump [(.x 8)])
         (.op (.bin .eql (.cell 0 0) (.c (.v (.int .i64 11)))) (
         .jump [(.x 9)])))))) (
      .ite (.x 7)
       (.bind 1 (
        .op (.bin .eql (.x 1) (.c (.v (.int .i64 0)))) (
        .ite (.x 8)
         (.op (.bin .geq (.cell 0 1) (.c (.v (.int .i64 0)))) (
         .jump [(.x 9)]))
         (.jump [(.c (.v (.bool false)))]))) (
       .eB (.ret [(.x 8)])))
       (.jump []))))))))))))) (
.ret [(.c (.v (.bool false)))]))))
theorem T.acA:ct Try.prog CF Try.f38=some (1,T.gV):=by kernel_rfl
theorem T.y4{args:List AV}{res:AV}(hl:args.length=1)(hn:AV.ae args=true)(hw:bW Try.prog (λ _ _ _=>False) (λ a=>a=res) T.gV args []):a7 Try.prog F.gV args res:=
 aY Try.func38 T.acA hl hn hw
def T.eN:T:=
.bind 1 (
 .op (.bin .geq (.x 0) (.x 1)) (
 .ite (.x 3)
  (.op (.bin .leq (.x 0) (.x 2)) (
  .jump [(.x 4)]))
  (.jump [(.c (.v (.bool false)))]))) (
.ret [(.x 3)])
theorem T.agl:ct Try.prog CF Try.f39=some (3,T.eN):=by kernel_rfl
theorem T.acI{args:List AV}{res:AV}(hl:args.length=3)(hn:AV.ae args=true)(hw:bW Try.prog (λ _ _ _=>False) (λ a=>a=res) T.eN args []):a7 Try.prog F.eN args res:=
 aY Try.func39 T.agl hl hn hw
def T.bZ:T:=
.bI (.cells (.x 0) 4) (
.bind 1 (
 .bind 1 (
  .op (.bin .eql (.cell 0 0) (.x 1)) (
  .ite (.x 3)
   (.op (.call F.jt [(.sl (.x 2)),(.cell 0 1)] true) (
   .op (.un .not (.x 4)) (
   .jump [(.x 5)])))
   (.jump [(.c (.v (.bool false)))]))) (
 .ite (.x 3)
  (.bI (.one (.cell 0 1)) (
  .op (.mkl (.v (.int .i64 0)) 1 [(0,(.cell 0 1))]) (
  .op (.app 1 8 (.x 2) (.sl (.x 4))) (
  .jump [(.x 5)]))))
  (.jump [(.x 2)]))) (
.bind 1 (
 .loop [(.x 3),(.c (.v (.int .i64 0)))] (
  .op (.bl (.cell 0 3)) (
  .op (.bin .lss (.x 5) (.x 6)) (
  .ite (.x 7)
   (.op (.elem 4 (.cell 0 3) (.x 5)) (
   .bI (.cells (.x 8) 4) (
   .op (.gy F.bZ G.bZ [(.x 8),(.x 1),(.x 4)]) (
   .op (.bin .add (.x 5) (.c (.v (.int .i64 1)))) (
   .jump [(.ext 9 0),(.x 10)])))))
   (.eB (.jump [(.x 4)])))))) (
.ret [(.x 4)])))
theorem T.acE:wB Try.prog CF G.bZ Try.f40=some T.bZ:=by kernel_rfl
theorem T.xq{ins outs:List AV}(hl:ins.length=3)(ho:outs.length=1)(hn:AV.ae ins=true)(hw:bW Try.prog (λ _ _ _=>False) (λ a=>a=bn outs) T.bZ ins []):zE Try.prog F.bZ G.bZ ins outs:=
 xA Try.func40 T.acE hl hn ho hw
def T.dD:T:=
.op (.call F.fa [(.x 0),(.c (.v (.int .i64 9))),(.c (.v (.int .i64 11)))] false) (
.ret [(.x 1)])
theorem T.xV:ct Try.prog CF Try.f49=some (1,T.dD):=by kernel_rfl
theorem T.vD{args:List AV}{res:AV}(hl:args.length=1)(hn:AV.ae args=true)(hw:bW Try.prog (λ _ _ _=>False) (λ a=>a=res) T.dD args []):a7 Try.prog F.dD args res:=
 aY Try.func49 T.xV hl hn hw
def T.eU:T:=
.bind 0 (
 .loop [(.c (.v (.int .i64 0)))] (
  .op (.bl (.x 0)) (
  .op (.bin .lss (.x 2) (.x 3)) (
  .ite (.x 4)
   (.bind 1 (
    .bind 0 (
     .bind 1 (
      .op (.elem 4 (.x 0) (.x 2)) (
      .bI (.cells (.x 5) 4) (
      .op (.call F.fL [(.x 5)] false) (
      .op (.bin .gtr (.x 6) (.c (.v (.int .i64 200)))) (
      .ite (.x 7)
       (.jump [(.c (.v (.bool true)))])
       (.op (.elem 4 (.x 0) (.x 2)) (
       .bI (.cells (.x 8) 4) (
       .op (.call F.iG [(.x 8)] false) (
       .op (.un .not (.x 9)) (
       .jump [(.x 10)])))))))))) (
     .ite (.x 5)
      (.eB (.eB (.eB (.eB (.ret [(.c (.v (.bool false)))])))))
      (.jump []))) (
    .op (.elem 4 (.x 0) (.x 2)) (
    .bI (.cells (.x 5) 4) (
    .op (.fc false 3 1 F.jT [(.x 5),(.c (.v (.int .i64 11)))]) (
    .loop [(.c (.v (.int .i64 0)))] (
     .op (.bl (.sl (.x 6))) (
     .op (.bin .lss (.x 7) (.x 8)) (
     .ite (.x 9)
      (.bI (.idx (.x 6) (.x 7)) (
      .op (.get (.x 6) (.x 7) 0 none) (
      .op (.bin .geq (.x 10) (.x 1)) (
      .ite (.x 11)
       (.eB (.eB (.eB (.eB (.ret [(.c (.v (.bool false)))])))))
       (.op (.bin .add (.x 7) (.c (.v (.int .i64 1)))) (
       .jump [(.x 12)]))))))
      (.eB (.jump [(.x 6)])))))))))) (
   .op (.bin .add (.x 2) (.c (.v (.int .i64 1)))) (
   .jump [(.x 6)])))
   (.eB (.jump [])))))) (
.ret [(.c (.v (.bool true)))])
theorem T.aag:ct Try.prog CF Try.f53=some (2,T.eU):=by kernel_rfl
theorem T.xp{args:List AV}{res:AV}(hl:args.length=2)(hn:AV.ae args=true)(hw:bW Try.prog (λ _ _ _=>False) (λ a=>a=res) T.eU args []):a7 Try.prog F.eU args res:=
 aY Try.func53 T.aag hl hn hw
def T.eo:T:=
.op (.bin .leq (.x 0) (.c (.v (.int .i64 0)))) (
.ite (.x 1)
 (.ret [(.c (.v (.string ⟨#[109,48]⟩)))])
 (.bind 1 (
  .loop [(.x 0),(.c (.v (.string ⟨#[]⟩)))] (
   .op (.bin .gtr (.x 2) (.c (.v (.int .i64 0)))) (
   .ite (.x 4)
    (.op (.bin .rem (.x 2) (.c (.v (.int .i64 10)))) (
    .op (.bin .add (.c (.v (.int .i64 48))) (.x 5)) (
    .op (.conv .u8 (.x 6)) (
    .bI (.one (.x 7)) (
    .op (.mkl (.v (.int .u8 0)) 1 [(0,(.x 7))]) (
    .op (.pu .b2s [(.sl (.x 8))]) (
    .op (.bin .add (.x 9) (.x 3)) (
    .op (.bin .quo (.x 2) (.c (.v (.int .i64 10)))) (
    .jump [(.x 11),(.x 10)])))))))))
    (.eB (.jump [(.x 3)]))))) (
 .op (.bin .add (.c (.v (.string ⟨#[109]⟩))) (.x 2)) (
 .ret [(.x 3)]))))
theorem T.y9:ct Try.prog CF Try.f60=some (1,T.eo):=by kernel_rfl
theorem T.wD{args:List AV}{res:AV}(hl:args.length=1)(hn:AV.ae args=true)(hw:bW Try.prog (λ _ _ _=>False) (λ a=>a=res) T.eo args []):a7 Try.prog F.eo args res:=
 aY Try.func60 T.y9 hl hn hw
def T.fm:T:=
.bI (.cells (.x 0) 4) (
.op (.bl (.cell 0 3)) (
.op (.bin .eql (.x 1) (.c (.v (.int .i64 0)))) (
.op (.bin .eql (.cell 0 2) (.c (.v (.string ⟨#[]⟩)))) (
.op (.bin .eql (.cell 0 1) (.c (.v (.int .i64 0)))) (
.bind 3 (
 .bind 1 (
  .op (.bin .eql (.cell 0 0) (.c (.v (.int .i64 1)))) (
  .ite (.x 5)
   (.jump [(.x 5)])
   (.op (.bin .eql (.cell 0 0) (.c (.v (.int .i64 2)))) (
   .ite (.x 6)
    (.jump [(.x 6)])
    (.op (.bin .eql (.cell 0 0) (.c (.v (.int .i64 3)))) (
    .ite (.x 7)
     (.jump [(.x 7)])
     (.op (.bin .eql (.cell 0 0) (.c (.v (.int .i64 4)))) (
     .jump [(.x 8)])))))))) (
 .ite (.x 5)
  (.jump [(.x 2),(.x 3),(.x 4)])
  (.op (.bin .eql (.cell 0 0) (.c (.v (.int .i64 5)))) (
  .ite (.x 6)
   (.op (.bl (.cell 0 3)) (
   .op (.bin .eql (.x 7) (.c (.v (.int .i64 2)))) (
   .jump [(.x 8),(.x 3),(.x 4)])))
   (.op (.bin .eql (.cell 0 0) (.c (.v (.int .i64 6)))) (
   .ite (.x 7)
    (.op (.bl (.cell 0 3)) (
    .op (.bin .geq (.x 8) (.c (.v (.int .i64 2)))) (
    .jump [(.x 9),(.x 3),(.x 4)])))
    (.op (.bin .eql (.cell 0 0) (.c (.v (.int .i64 7)))) (
    .ite (.x 8)
     (.op (.call F.jH [(.cell 0 2)] false) (
     .jump [(.c (.v (.bool true))),(.x 9),(.x 4)]))
     (.op (.bin .eql (.cell 0 0) (.c (.v (.int .i64 8)))) (
     .ite (.x 9)
      (.op (.bl (.cell 0 3)) (
      .op (.bin .eql (.x 10) (.c (.v (.int .i64 1)))) (
      .jump [(.x 11),(.x 3),(.x 4)])))
      (.bind 1 (
       .op (.bin .eql (.cell 0 0) (.c (.v (.int .i64 9)))) (
       .ite (.x 10)
        (.jump [(.x 10)])
        (.op (.bin .eql (.cell 0 0) (.c (.v (.int .i64 10)))) (
        .ite (.x 11)
         (.jump [(.x 11)])
         (.op (.bin .eql (.cell 0 0) (.c (.v (.int .i64 11)))) (
         .jump [(.x 12)])))))) (
      .ite (.x 10)
       (.op (.bin .geq (.cell 0 1) (.c (.v (.int .i64 0)))) (
       .jump [(.x 2),(.x 3),(.x 11)]))
       (.eB (.ret [(.c (.v (.bool false)))])))))))))))))) (
.bind 1 (
 .ite (.x 5)
  (.ite (.x 6)
   (.jump [(.x 7)])
   (.jump [(.c (.v (.bool false)))]))
  (.jump [(.c (.v (.bool false)))])) (
.ret [(.x 8)])))))))
theorem T.zd:ct Try.prog CF Try.f62=some (1,T.fm):=by kernel_rfl
theorem T.wK{args:List AV}{res:AV}(hl:args.length=1)(hn:AV.ae args=true)(hw:bW Try.prog (λ _ _ _=>False) (λ a=>a=res) T.fm args []):a7 Try.prog F.fm args res:=
 aY Try.func62 T.zd hl hn hw
def T.a8:T:=
.op (.call F.bf [(.x 0),(.x 1)] false) (
.op (.bin .geq (.x 2) (.c (.v (.int .i64 0)))) (
.ret [(.x 3)]))
theorem T.gY:ct Try.prog CF Try.f63=some (2,T.a8):=by kernel_rfl
theorem T.gG{args:List AV}{res:AV}(hl:args.length=2)(hn:AV.ae args=true)(hw:bW Try.prog (λ _ _ _=>False) (λ a=>a=res) T.a8 args []):a7 Try.prog F.a8 args res:=
 aY Try.func63 T.gY hl hn hw
def T.iv:T:=
.bI (.cells (.x 0) 4) (
.bI (.cells (.x 0) 4) (
.op (.call F.iO [(.x 0)] false) (
.op (.un .not (.x 1)) (
.ret [(.x 2)]))))
theorem T.ac2:ct Try.prog CF Try.f64=some (1,T.iv):=by kernel_rfl
theorem T.zo{args:List AV}{res:AV}(hl:args.length=1)(hn:AV.ae args=true)(hw:bW Try.prog (λ _ _ _=>False) (λ a=>a=res) T.iv args []):a7 Try.prog F.iv args res:=
 aY Try.func64 T.ac2 hl hn hw
def T.iu:T:=
.bI (.cells (.x 0) 4) (
.bind 1 (
 .op (.bin .eql (.cell 0 0) (.x 1)) (
 .ite (.x 2)
  (.bI (.one (.cell 0 1)) (
  .op (.mkl (.v (.int .i64 0)) 1 [(0,(.cell 0 1))]) (
  .op (.app 1 8 (.c (.sl [])) (.sl (.x 3))) (
  .jump [(.x 4)]))))
  (.jump [(.c (.sl []))]))) (
.bind 1 (
 .op (.bl (.cell 0 3)) (
 .loop [(.x 2),(.c (.v (.int .i64 0)))] (
  .op (.bin .lss (.x 5) (.x 3)) (
  .ite (.x 6)
   (.bind 6 (
    .op (.elem 4 (.cell 0 3) (.x 5)) (
    .bI (.cells (.x 7) 4) (
    .bI (.cells (.x 7) 4) (
    .bI (.cells (.x 7) 4) (
    .op (.fc true 3 1 F.iu [(.x 7),(.x 1)]) (
    .op (.bl (.sl (.x 8))) (
    .loop [(.x 4),(.c (.v (.int .i64 0)))] (
     .op (.bin .lss (.x 11) (.x 9)) (
     .ite (.x 12)
      (.bind 1 (
       .bI (.idx (.x 8) (.x 11)) (
       .op (.get (.x 8) (.x 11) 0 none) (
       .op (.call F.bY [(.sl (.x 10)),(.x 13)] true) (
       .op (.un .not (.x 14)) (
       .ite (.x 15)
        (.bI (.one (.x 13)) (
        .op (.mkl (.v (.int .i64 0)) 1 [(0,(.x 13))]) (
        .op (.app 1 8 (.x 10) (.sl (.x 16))) (
        .jump [(.x 17)]))))
        (.jump [(.x 10)])))))) (
      .op (.bin .add (.x 11) (.c (.v (.int .i64 1)))) (
      .jump [(.x 13),(.x 14)])))
      (.eB (.jump [(.x 10),(.cell 7 0),(.cell 7 1),(.cell 7 2),(.cell 7 3),(.x 8)]))))))))))) (
   .op (.bin .add (.x 5) (.c (.v (.int .i64 1)))) (
   .jump [(.x 7),(.x 13)])))
   (.eB (.jump [(.x 4)])))))) (
.ret [(.sl (.x 3))])))
theorem T.afk:wC Try.prog CF true 3 1 Try.f65=some (2,T.iu):=by kernel_rfl
theorem T.zj{args xs:List AV}(hl:args.length=2)(hn:AV.ae args=true)(hw:bW Try.prog (λ _ _ _=>False) (λ a=>a= .sl xs) T.iu args []):xh Try.prog F.iu args true 3 1 xs:=
 yc Try.func65 T.afk hl hn hw
def T.jv:T:=
.bind 1 (
 .op (.call F.fK [(.x 0),(.c (.v (.bool false)))] false) (
 .ite (.x 1)
  (.op (.call F.jw [(.x 0)] false) (
  .op (.un .not (.x 2)) (
  .jump [(.x 3)])))
  (.jump [(.c (.v (.bool false)))]))) (
.ret [(.x 1)])
theorem T.aeA:ct Try.prog CF Try.f71=some (1,T.jv):=by kernel_rfl
theorem T.aap{args:List AV}{res:AV}(hl:args.length=1)(hn:AV.ae args=true)(hw:bW Try.prog (λ _ _ _=>False) (λ a=>a=res) T.jv args []):a7 Try.prog F.jv args res:=
 aY Try.func71 T.aeA hl hn hw
def T.jt:T:=
.bind 0 (
 .loop [(.c (.v (.int .i64 0)))] (
  .op (.bl (.x 0)) (
  .op (.bin .lss (.x 2) (.x 3)) (
  .ite (.x 4)
   (.op (.elem 1 (.x 0) (.x 2)) (
   .bI (.lt (.x 5) 0) (
   .op (.bin .eql (.cell 5 0) (.x 1)) (
   .ite (.x 6)
    (.eB (.eB (.ret [(.c (.v (.bool true)))])))
    (.op (.bin .add (.x 2) (.c (.v (.int .i64 1)))) (
    .jump [(.x 7)]))))))
   (.eB (.jump [])))))) (
.ret [(.c (.v (.bool false)))])
theorem T.aew:ct Try.prog CF Try.f72=some (2,T.jt):=by kernel_rfl
theorem T.aak{args:List AV}{res:AV}(hl:args.length=2)(hn:AV.ae args=true)(hw:bW Try.prog (λ _ _ _=>False) (λ a=>a=res) T.jt args []):a7 Try.prog F.jt args res:=
 aY Try.func72 T.aew hl hn hw
def T.fa:T:=
.bind 1 (
 .op (.bin .geq (.x 0) (.x 1)) (
 .ite (.x 3)
  (.op (.bin .leq (.x 0) (.x 2)) (
  .jump [(.x 4)]))
  (.jump [(.c (.v (.bool false)))]))) (
.ret [(.x 3)])
theorem T.acW:ct Try.prog CF Try.f73=some (3,T.fa):=by kernel_rfl
theorem T.zb{args:List AV}{res:AV}(hl:args.length=3)(hn:AV.ae args=true)(hw:bW Try.prog (λ _ _ _=>False) (λ a=>a=res) T.fa args []):a7 Try.prog F.fa args res:=
 aY Try.func73 T.acW hl hn hw
def T.cN:T:=
.bind 1 (
 .op (.bl (.x 0)) (
 .loop [(.c (.v (.int .i64 0))),(.c (.v (.int .i64 0)))] (
  .op (.bin .lss (.x 3) (.x 1)) (
  .ite (.x 4)
   (.bind 1 (
    .op (.elem 1 (.x 0) (.x 3)) (
    .bI (.lt (.x 5) 0) (
    .op (.bl (.cell 5 0)) (
    .op (.bin .add (.x 2) (.x 6)) (
    .op (.bin .lss (.x 7) (.c (.v (.int .i64 0)))) (
    .ite (.x 8)
     (.bI (.no) (
     .bI (.no) (
     .jump [(.x 7)])))
     (.jump [(.x 7)]))))))) (
   .op (.bin .add (.x 3) (.c (.v (.int .i64 1)))) (
   .jump [(.x 5),(.x 6)])))
   (.eB (.jump [(.x 2)])))))) (
.op (.gy F.au G.aI [(.x 1)]) (
.bind 1 (
 .op (.bl (.x 0)) (
 .loop [(.c (.sl [])),(.c (.v (.int .i64 0)))] (
  .op (.bin .lss (.x 5) (.x 3)) (
  .ite (.x 6)
   (.op (.elem 1 (.x 0) (.x 5)) (
   .bI (.lt (.x 7) 0) (
   .op (.app 4 56 (.x 4) (.cell 7 0)) (
   .op (.bin .add (.x 5) (.c (.v (.int .i64 1)))) (
   .jump [(.x 8),(.x 9)])))))
   (.eB (.jump [(.x 4)])))))) (
.ret [(.sl (.x 3))])))
theorem T.jz:ct Try.prog CFB Try.f74=some (1,T.cN):=by kernel_rfl
theorem T.ja{args:List AV}{res:AV}(hl:args.length=1)(hn:AV.ae args=true)(hw:bW Try.prog (λ _ _ _=>False) (λ a=>a=res) T.cN args []):a7 Try.prog F.aM args res:=
 aY Try.func74 T.jz hl hn hw
def T.aM:T:=
.bind 1 (
 .op (.bl (.x 0)) (
 .loop [(.c (.v (.int .i64 0))),(.c (.v (.int .i64 0)))] (
  .op (.bin .lss (.x 3) (.x 1)) (
  .ite (.x 4)
   (.bind 1 (
    .op (.elem 1 (.x 0) (.x 3)) (
    .bI (.lt (.x 5) 0) (
    .op (.bl (.cell 5 0)) (
    .op (.bin .add (.x 2) (.x 6)) (
    .op (.bin .lss (.x 7) (.c (.v (.int .i64 0)))) (
    .ite (.x 8)
     (.bI (.no) (
     .bI (.no) (
     .jump [(.x 7)])))
     (.jump [(.x 7)]))))))) (
   .op (.bin .add (.x 3) (.c (.v (.int .i64 1)))) (
   .jump [(.x 5),(.x 6)])))
   (.eB (.jump [(.x 2)])))))) (
.op (.gy F.au G.au [(.x 1)]) (
.bind 1 (
 .op (.bl (.x 0)) (
 .loop [(.ext 2 0),(.c (.v (.int .i64 0)))] (
  .op (.bin .lss (.x 5) (.x 3)) (
  .ite (.x 6)
   (.op (.elem 1 (.x 0) (.x 5)) (
   .bI (.lt (.x 7) 0) (
   .op (.app 4 56 (.x 4) (.cell 7 0)) (
   .op (.bin .add (.x 5) (.c (.v (.int .i64 1)))) (
   .jump [(.x 8),(.x 9)])))))
   (.eB (.jump [(.x 4)])))))) (
.ret [(.sl (.x 3))])))
theorem T.km:ct Try.prog CF Try.f74=some (1,T.aM):=by kernel_rfl
theorem T.jy{args:List AV}{res:AV}(hl:args.length=1)(hn:AV.ae args=true)(hw:bW Try.prog (λ _ _ _=>False) (λ a=>a=res) T.aM args []):a7 Try.prog F.aM args res:=
 aY Try.func74 T.km hl hn hw
def T.fO:T:=
.bI (.cells (.x 0) 4) (
.bind 1 (
 .op (.bl (.cell 0 3)) (
 .loop [(.c (.v (.int .i64 1))),(.c (.v (.int .i64 0)))] (
  .op (.bin .lss (.x 3) (.x 1)) (
  .ite (.x 4)
   (.op (.elem 4 (.cell 0 3) (.x 3)) (
   .bI (.cells (.x 5) 4) (
   .bI (.cells (.x 5) 4) (
   .bI (.cells (.x 5) 4) (
   .op (.call F.fO [(.x 5)] false) (
   .op (.bin .add (.x 2) (.x 6)) (
   .op (.bin .add (.x 3) (.c (.v (.int .i64 1)))) (
   .jump [(.x 7),(.x 8)]))))))))
   (.eB (.jump [(.x 2)])))))) (
.ret [(.x 1)]))
theorem T.ac0:ct Try.prog CF Try.f75=some (1,T.fO):=by kernel_rfl
theorem T.zn{args:List AV}{res:AV}(hl:args.length=1)(hn:AV.ae args=true)(hw:bW Try.prog (λ _ _ _=>False) (λ a=>a=res) T.fO args []):a7 Try.prog F.fO args res:=
 aY Try.func75 T.ac0 hl hn hw
def T.jH:T:=
.bind 1 (
 .op (.call F.ir [(.x 0),(.c (.fn F.iq []))] false) (
 .ite (.x 1)
  (.op (.call F.jI [(.x 0)] false) (
  .op (.un .not (.x 2)) (
  .jump [(.x 3)])))
  (.jump [(.c (.v (.bool false)))]))) (
.ret [(.x 1)])
theorem T.afd:ct Try.prog CF Try.f80=some (1,T.jH):=by kernel_rfl
theorem T.abt{args:List AV}{res:AV}(hl:args.length=1)(hn:AV.ae args=true)(hw:bW Try.prog (λ _ _ _=>False) (λ a=>a=res) T.jH args []):a7 Try.prog F.jH args res:=
 aY Try.func80 T.afd hl hn hw
def T.bf:T:=
.bind 0 (
 .op (.bl (.x 0)) (
 .loop [(.c (.v (.int .i64 0)))] (
  .op (.bin .lss (.x 3) (.x 2)) (
  .ite (.x 4)
   (.op (.elem 4 (.x 0) (.x 3)) (
   .bI (.cells (.x 5) 4) (
   .op (.eI (.x 1) [(.x 5)] false) (
   .ite (.x 6)
    (.eB (.eB (.ret [(.x 3)])))
    (.op (.bin .add (.x 3) (.c (.v (.int .i64 1)))) (
    .jump [(.x 7)]))))))
   (.eB (.jump [])))))) (
.ret [(.c (.v (.int .i64 (-1))))])
theorem T.jj:ct Try.prog CF Try.f81=some (2,T.bf):=by kernel_rfl
theorem T.iH{args:List AV}{res:AV}(hl:args.length=2)(hn:AV.ae args=true)(hw:bW Try.prog (λ _ _ _=>False) (λ a=>a=res) T.bf args []):a7 Try.prog F.bf args res:=
 aY Try.func81 T.jj hl hn hw
def T.bY:T:=
.op (.call F.cB [(.x 0),(.x 1)] false) (
.op (.bin .geq (.x 2) (.c (.v (.int .i64 0)))) (
.ret [(.x 3)]))
theorem T.nO:ct Try.prog CF Try.f82=some (2,T.bY):=by kernel_rfl
theorem T.mC{args:List AV}{res:AV}(hl:args.length=2)(hn:AV.ae args=true)(hw:bW Try.prog (λ _ _ _=>False) (λ a=>a=res) T.bY args []):a7 Try.prog F.bY args res:=
 aY Try.func82 T.nO hl hn hw
def T.fK:T:=
.bind 0 (
 .bind 1 (
  .op (.mn (.x 0)) (
  .op (.call F.eN [(.x 2),(.c (.v (.int .i64 1))),(.c (.v (.int .i64 12)))] false) (
  .op (.un .not (.x 3)) (
  .ite (.x 4)
   (.jump [(.c (.v (.bool true)))])
   (.op (.m6 (.x 0) (.c (.v (.int .i64 0)))) (
   .op (.conv .i64 (.x 5)) (
   .op (.call F.eW [(.x 6)] false) (
   .op (.beq true (.x 1) (.x 7)) (
   .ite (.x 8)
    (.jump [(.c (.v (.bool true)))])
    (.op (.un .not (.x 1)) (
    .ite (.x 9)
     (.op (.m6 (.x 0) (.c (.v (.int .i64 0)))) (
     .op (.conv .i64 (.x 10)) (
     .op (.call F.eX [(.x 11)] false) (
     .op (.un .not (.x 12)) (
     .jump [(.x 13)])))))
     (.jump [(.c (.v (.bool false)))])))))))))))) (
 .ite (.x 2)
  (.eB (.ret [(.c (.v (.bool false)))]))
  (.jump []))) (
.bind 0 (
 .loop [(.c (.v (.int .i64 0)))] (
  .op (.mn (.x 0)) (
  .op (.bin .lss (.x 2) (.x 3)) (
  .ite (.x 4)
   (.op (.m6 (.x 0) (.x 2)) (
   .op (.conv .i64 (.x 5)) (
   .op (.call F.dO [(.x 6)] false) (
   .op (.un .not (.x 7)) (
   .ite (.x 8)
    (.eB (.eB (.ret [(.c (.v (.bool false)))])))
    (.op (.bin .add (.x 2) (.c (.v (.int .i64 1)))) (
    .jump [(.x 9)])))))))
   (.eB (.jump [])))))) (
.ret [(.c (.v (.bool true)))]))
theorem T.acG:ct Try.prog CF Try.f84=some (2,T.fK):=by kernel_rfl
theorem T.y6{args:List AV}{res:AV}(hl:args.length=2)(hn:AV.ae args=true)(hw:bW Try.prog (λ _ _ _=>False) (λ a=>a=res) T.fK args []):a7 Try.prog F.fK args res:=
 aY Try.func84 T.acG hl hn hw
def T.jw:T:=
.bI (.one (.c (.v (.string ⟨#[116,121,112,101]⟩)))) (
.bI (.one (.c (.v (.string ⟨#[111,102]⟩)))) (
.bI (.one (.c (.v (.string ⟨#[108,101,116]⟩)))) (
.bI (.one (.c (.v (.string ⟨#[114,101,99]⟩)))) (
.bI (.one (.c (.v (.string ⟨#[105,110]⟩)))) (
.bI (.one (.c (.v (.string ⟨#[102,117,110]⟩)))) (
.bI (.one (.c (.v (.string ⟨#[105,102]⟩)))) (
.bI (.one (.c (.v (.string ⟨#[116,104,101,110]⟩)))) (
.bI (.one (.c (.v (.string ⟨#[101,108,115,101]⟩)))) (
.bI (.one (.c (.v (.string ⟨#[109,97,116,99,104]⟩)))) (
.bI (.one (.c (.v (.string ⟨#[119,105,116,104]⟩)))) (
.bI (.one (.c (.v (.string ⟨#[101,110,100]⟩)))) (
.bI (.one (.c (.v (.string ⟨#[116,114,117,101]⟩)))) (
.bI (.one (.c (.v (.string ⟨#[102,97,108,115,101]⟩)))) (
.bI (.one (.c (.v (.string ⟨#[114,101,102]⟩)))) (
.bI (.one (.c (.v (.string ⟨#[114,101,97,100]⟩)))) (
.bI (.one (.c (.v (.string ⟨#[112,114,105,110,116]⟩)))) (
.bI (.one (.c (.v (.string ⟨#[101,120,105,116]⟩)))) (
.bI (.one (.c (.v (.string ⟨#[115,105,122,101]⟩)))) (
.op (.mkl (.v (.string ⟨#[]⟩)) 19 [(0,(.c (.v (.string ⟨#[116,121,112,101]⟩)))),(1,(.c (.v (.string ⟨#[111,102]⟩)))),(2,(.c (.v (.string ⟨#[108,101,116]⟩)))),(3,(.c (.v (.string ⟨#[114,101,99]⟩)))),(4,(.c (.v (.string ⟨#[105,110]⟩)))),(5,(.c (.v (.string ⟨#[102,117,110]⟩)))),(6,(.c (.v (.string ⟨#[105,102]⟩)))),(7,(.c (.v (.string ⟨#[116,104,101,110]⟩)))),(8,(.c (.v (.string ⟨#[101,108,115,101]⟩)))),(9,(.c (.v (.string ⟨#[109,97,116,99,104]⟩)))),(10,(.c (.v (.string ⟨#[119,105,116,104]⟩)))),(11,(.c (.v (.string ⟨#[101,110,100]⟩)))),(12,(.c (.v (.string ⟨#[116,114,117,101]⟩)))),(13,(.c (.v (.string ⟨#[102,97,108,115,101]⟩)))),(14,(.c (.v (.string ⟨#[114,101,102]⟩)))),(15,(.c (.v (.string ⟨#[114,101,97,100]⟩)))),(16,(.c (.v (.string ⟨#[112,114,105,110,116]⟩)))),(17,(.c (.v (.string ⟨#[101,120,105,116]⟩)))),(18,(.c (.v (.string ⟨#[115,105,122,101]⟩))))]) (
.bind 0 (
 .loop [(.c (.v (.int .i64 0)))] (
  .op (.bl (.sl (.x 1))) (
  .op (.bin .lss (.x 2) (.x 3)) (
  .ite (.x 4)
   (.bI (.idx (.x 1) (.x 2)) (
   .op (.get (.x 1) (.x 2) 0 none) (
   .op (.bin .eql (.x 5) (.x 0)) (
   .ite (.x 6)
    (.eB (.eB (.ret [(.c (.v (.bool true)))])))
    (.op (.bin .add (.x 2) (.c (.v (.int .i64 1)))) (
    .jump [(.x 7)]))))))
   (.eB (.jump [])))))) (
.ret [(.c (.v (.bool false)))])))))))))))))))))))))
theorem T.aeC:ct Try.prog CF Try.f85=some (1,T.jw):=by kernel_rfl
theorem T.aaq{args:List AV}{res:AV}(hl:args.length=1)(hn:AV.ae args=true)(hw:bW Try.prog (λ _ _ _=>False) (λ a=>a=res) T.jw args []):a7 Try.prog F.jw args res:=
 aY Try.func85 T.aeC hl hn hw
def T.au:T:=
.op (.bin .lss (.x 0) (.c (.v (.int .i64 0)))) (
.ite (.x 1)
 (.bI (.no) (
 .bI (.no) (
 .op (.bin .sub (.c (.v (.int .i64 0))) (.c (.v (.int .i64 0)))) (
 .op (.bin .sub (.x 0) (.x 2)) (
 .op (.bin .gtr (.x 3) (.c (.v (.int .i64 0)))) (
 .ite (.x 4)
  (.op (.rep 56 (.agg [(.v (.int .i64 0)),(.v (.int .i64 0)),(.v (.string ⟨#[]⟩)),.aA]) (.x 3) (.x 3)) (
  .bI (.ne (.x 5)) (
  .ret [(.c (.sl []))])))
  (.bI (.no) (
  .ret []))))))))
 (.op (.bin .sub (.c (.v (.int .i64 0))) (.c (.v (.int .i64 0)))) (
 .op (.bin .sub (.x 0) (.x 2)) (
 .op (.bin .gtr (.x 3) (.c (.v (.int .i64 0)))) (
 .ite (.x 4)
  (.op (.rep 56 (.agg [(.v (.int .i64 0)),(.v (.int .i64 0)),(.v (.string ⟨#[]⟩)),.aA]) (.x 3) (.x 3)) (
  .bI (.ne (.x 5)) (
  .ret [(.c (.sl []))])))
  (.bI (.no) (
  .ret [])))))))
theorem T.ld:wB Try.prog CFC G.au Try.f86=some T.au:=by kernel_rfl
theorem T.ke{ins outs:List AV}(hl:ins.length=1)(ho:outs.length=1)(hn:AV.ae ins=true)(hw:bW Try.prog (λ _ _ _=>False) (λ a=>a=bn outs) T.au ins []):zE Try.prog F.au G.au ins outs:=
 xA Try.func86 T.ld hl hn ho hw
def T.aI:T:=
.op (.bin .lss (.x 0) (.c (.v (.int .i64 0)))) (
.ite (.x 1)
 (.bI (.no) (
 .bI (.no) (
 .op (.bin .sub (.c (.v (.int .i64 0))) (.c (.v (.int .i64 0)))) (
 .op (.bin .sub (.x 0) (.x 2)) (
 .op (.bin .gtr (.x 3) (.c (.v (.int .i64 0)))) (
 .ite (.x 4)
  (.op (.rep 56 (.agg [(.v (.int .i64 0)),(.v (.int .i64 0)),(.v (.string ⟨#[]⟩)),.aA]) (.x 3) (.x 3)) (
  .bI (.ne (.x 5)) (
  .bI (.no) (
  .ret []))))
  (.ret [])))))))
 (.op (.bin .sub (.c (.v (.int .i64 0))) (.c (.v (.int .i64 0)))) (
 .op (.bin .sub (.x 0) (.x 2)) (
 .op (.bin .gtr (.x 3) (.c (.v (.int .i64 0)))) (
 .ite (.x 4)
  (.op (.rep 56 (.agg [(.v (.int .i64 0)),(.v (.int .i64 0)),(.v (.string ⟨#[]⟩)),.aA]) (.x 3) (.x 3)) (
  .bI (.ne (.x 5)) (
  .bI (.no) (
  .ret []))))
  (.ret []))))))
theorem T.kf:wB Try.prog CFC G.aI Try.f86=some T.aI:=by kernel_rfl
theorem T.iZ{ins outs:List AV}(hl:ins.length=1)(ho:outs.length=0)(hn:AV.ae ins=true)(hw:bW Try.prog (λ _ _ _=>False) (λ a=>a=bn outs) T.aI ins []):zE Try.prog F.au G.aI ins outs:=
 xA Try.func86 T.kf hl hn ho hw
def T.ir:T:=
.bind 1 (
 .op (.mn (.x 0)) (
 .op (.call F.fa [(.x 2),(.c (.v (.int .i64 1))),(.c (.v (.int .i64 12)))] false) (
 .ite (.x 3)
  (.op (.m6 (.x 0) (.c (.v (.int .i64 0)))) (
  .op (.eI (.x 1) [(.x 4)] false) (
  .ite (.x 5)
   (.op (.call F.oc [(.x 0),(.c (.v (.int .i64 0))),(.c (.fn F.er []))] false) (
   .op (.mn (.x 0)) (
   .op (.bin .eql (.x 6) (.x 7)) (
   .jump [(.x 8)]))))
   (.jump [(.c (.v (.bool false)))]))))
  (.jump [(.c (.v (.bool false)))])))) (
.ret [(.x 2)])
theorem T.acX:ct Try.prog CF Try.f88=some (2,T.ir):=by kernel_rfl
theorem T.zi{args:List AV}{res:AV}(hl:args.length=2)(hn:AV.ae args=true)(hw:bW Try.prog (λ _ _ _=>False) (λ a=>a=res) T.ir args []):a7 Try.prog F.ir args res:=
 aY Try.func88 T.acX hl hn hw
def T.iq:T:=
.bind 1 (
 .op (.bin .geq (.x 0) (.c (.v (.int .u8 97)))) (
 .ite (.x 1)
  (.op (.bin .leq (.x 0) (.c (.v (.int .u8 122)))) (
  .jump [(.x 2)]))
  (.jump [(.c (.v (.bool false)))]))) (
.ret [(.x 1)])
theorem T.afb:ct Try.prog CF Try.f89=some (1,T.iq):=by kernel_rfl
theorem T.abq{args:List AV}{res:AV}(hl:args.length=1)(hn:AV.ae args=true)(hw:bW Try.prog (λ _ _ _=>False) (λ a=>a=res) T.iq args []):a7 Try.prog F.iq args res:=
 aY Try.func89 T.afb hl hn hw
def T.jI:T:=
.bI (.one (.c (.v (.string ⟨#[116,121,112,101]⟩)))) (
.bI (.one (.c (.v (.string ⟨#[111,102]⟩)))) (
.bI (.one (.c (.v (.string ⟨#[108,101,116]⟩)))) (
.bI (.one (.c (.v (.string ⟨#[114,101,99]⟩)))) (
.bI (.one (.c (.v (.string ⟨#[105,110]⟩)))) (
.bI (.one (.c (.v (.string ⟨#[102,117,110]⟩)))) (
.bI (.one (.c (.v (.string ⟨#[105,102]⟩)))) (
.bI (.one (.c (.v (.string ⟨#[116,104,101,110]⟩)))) (
.bI (.one (.c (.v (.string ⟨#[101,108,115,101]⟩)))) (
.bI (.one (.c (.v (.string ⟨#[109,97,116,99,104]⟩)))) (
.bI (.one (.c (.v (.string ⟨#[119,105,116,104]⟩)))) (
.bI (.one (.c (.v (.string ⟨#[101,110,100]⟩)))) (
.bI (.one (.c (.v (.string ⟨#[116,114,117,101]⟩)))) (
.bI (.one (.c (.v (.string ⟨#[102,97,108,115,101]⟩)))) (
.bI (.one (.c (.v (.string ⟨#[114,101,102]⟩)))) (
.bI (.one (.c (.v (.string ⟨#[114,101,97,100]⟩)))) (
.bI (.one (.c (.v (.string ⟨#[112,114,105,110,116]⟩)))) (
.bI (.one (.c (.v (.string ⟨#[101,120,105,116]⟩)))) (
.bI (.one (.c (.v (.string ⟨#[115,105,122,101]⟩)))) (
.op (.mkl (.v (.string ⟨#[]⟩)) 19 [(0,(.c (.v (.string ⟨#[116,121,112,101]⟩)))),(1,(.c (.v (.string ⟨#[111,102]⟩)))),(2,(.c (.v (.string ⟨#[108,101,116]⟩)))),(3,(.c (.v (.string ⟨#[114,101,99]⟩)))),(4,(.c (.v (.string ⟨#[105,110]⟩)))),(5,(.c (.v (.string ⟨#[102,117,110]⟩)))),(6,(.c (.v (.string ⟨#[105,102]⟩)))),(7,(.c (.v (.string ⟨#[116,104,101,110]⟩)))),(8,(.c (.v (.string ⟨#[101,108,115,101]⟩)))),(9,(.c (.v (.string ⟨#[109,97,116,99,104]⟩)))),(10,(.c (.v (.string ⟨#[119,105,116,104]⟩)))),(11,(.c (.v (.string ⟨#[101,110,100]⟩)))),(12,(.c (.v (.string ⟨#[116,114,117,101]⟩)))),(13,(.c (.v (.string ⟨#[102,97,108,115,101]⟩)))),(14,(.c (.v (.string ⟨#[114,101,102]⟩)))),(15,(.c (.v (.string ⟨#[114,101,97,100]⟩)))),(16,(.c (.v (.string ⟨#[112,114,105,110,116]⟩)))),(17,(.c (.v (.string ⟨#[101,120,105,116]⟩)))),(18,(.c (.v (.string ⟨#[115,105,122,101]⟩))))]) (
.op (.call F.bq [(.sl (.x 1)),(.x 0)] true) (
.ret [(.x 2)])))))))))))))))))))))
theorem T.afg:ct Try.prog CF Try.f90=some (1,T.jI):=by kernel_rfl
theorem T.abu{args:List AV}{res:AV}(hl:args.length=1)(hn:AV.ae args=true)(hw:bW Try.prog (λ _ _ _=>False) (λ a=>a=res) T.jI args []):a7 Try.prog F.jI args res:=
 aY Try.func90 T.afg hl hn hw
def T.cB:T:=
.bind 0 (
 .op (.bl (.x 0)) (
 .loop [(.c (.v (.int .i64 0)))] (
  .op (.bin .lss (.x 3) (.x 2)) (
  .ite (.x 4)
   (.op (.elem 1 (.x 0) (.x 3)) (
   .bI (.lt (.x 5) 0) (
   .op (.bin .eql (.x 1) (.cell 5 0)) (
   .ite (.x 6)
    (.eB (.eB (.ret [(.x 3)])))
    (.op (.bin .add (.x 3) (.c (.v (.int .i64 1)))) (
    .jump [(.x 7)]))))))
   (.eB (.jump [])))))) (
.ret [(.c (.v (.int .i64 (-1))))])
theorem T.pX:ct Try.prog CF Try.f91=some (2,T.cB):=by kernel_rfl
theorem T.oU{args:List AV}{res:AV}(hl:args.length=2)(hn:AV.ae args=true)(hw:bW Try.prog (λ _ _ _=>False) (λ a=>a=res) T.cB args []):a7 Try.prog F.cB args res:=
 aY Try.func91 T.pX hl hn hw
def T.eW:T:=
.op (.call F.eN [(.x 0),(.c (.v (.int .i64 65))),(.c (.v (.int .i64 90)))] false) (
.ret [(.x 1)])
theorem T.aam:ct Try.prog CF Try.f92=some (1,T.eW):=by kernel_rfl
theorem T.xt{args:List AV}{res:AV}(hl:args.length=1)(hn:AV.ae args=true)(hw:bW Try.prog (λ _ _ _=>False) (λ a=>a=res) T.eW args []):a7 Try.prog F.eW args res:=
 aY Try.func92 T.aam hl hn hw
def T.eX:T:=
.op (.call F.eN [(.x 0),(.c (.v (.int .i64 97))),(.c (.v (.int .i64 122)))] false) (
.ret [(.x 1)])
theorem T.aao:ct Try.prog CF Try.f93=some (1,T.eX):=by kernel_rfl
theorem T.xu{args:List AV}{res:AV}(hl:args.length=1)(hn:AV.ae args=true)(hw:bW Try.prog (λ _ _ _=>False) (λ a=>a=res) T.eX args []):a7 Try.prog F.eX args res:=
 aY Try.func93 T.aao hl hn hw
def T.dO:T:=
.bind 1 (
 .op (.call F.eX [(.x 0)] false) (
 .ite (.x 1)
  (.jump [(.c (.v (.bool true)))])
  (.op (.call F.eW [(.x 0)] false) (
  .ite (.x 2)
   (.jump [(.c (.v (.bool true)))])
   (.op (.call F.ju [(.x 0)] false) (
   .ite (.x 3)
    (.jump [(.c (.v (.bool true)))])
    (.op (.bin .eql (.x 0) (.c (.v (.int .i64 95)))) (
    .jump [(.x 4)])))))))) (
.ret [(.x 1)])
theorem T.vX:ct Try.prog CF Try.f94=some (1,T.dO):=by kernel_rfl
theorem T.uw{args:List AV}{res:AV}(hl:args.length=1)(hn:AV.ae args=true)(hw:bW Try.prog (λ _ _ _=>False) (λ a=>a=res) T.dO args []):a7 Try.prog F.dO args res:=
 aY Try.func94 T.vX hl hn hw
def T.oc:T:=
.bind 1 (
 .loop [(.x 1)] (
  .bind 0 (
   .bind 1 (
    .op (.mn (.x 0)) (
    .op (.bin .lss (.x 3) (.x 4)) (
    .ite (.x 5)
     (.op (.m6 (.x 0) (.x 3)) (
     .op (.eI (.x 2) [(.x 6)] false) (
     .jump [(.x 7)])))
     (.jump [(.c (.v (.bool false)))])))) (
   .ite (.x 4)
    (.jump [])
    (.eB (.eB (.jump [(.x 3)]))))) (
  .op (.bin .add (.x 3) (.c (.v (.int .i64 1)))) (
  .jump [(.x 4)])))) (
.ret [(.x 3)])
theorem T.ai5:ct Try.prog CF Try.f95=some (3,T.oc):=by kernel_rfl
theorem T.afc{args:List AV}{res:AV}(hl:args.length=3)(hn:AV.ae args=true)(hw:bW Try.prog (λ _ _ _=>False) (λ a=>a=res) T.oc args []):a7 Try.prog F.oc args res:=
 aY Try.func95 T.ai5 hl hn hw
def T.er:T:=
.bind 1 (
 .op (.call F.iq [(.x 0)] false) (
 .ite (.x 1)
  (.jump [(.c (.v (.bool true)))])
  (.op (.call F.jJ [(.x 0)] false) (
  .ite (.x 2)
   (.jump [(.c (.v (.bool true)))])
   (.op (.call F.jK [(.x 0)] false) (
   .ite (.x 3)
    (.jump [(.c (.v (.bool true)))])
    (.op (.bin .eql (.x 0) (.c (.v (.int .u8 95)))) (
    .jump [(.x 4)])))))))) (
.ret [(.x 1)])
theorem T.zg:ct Try.prog CF Try.f96=some (1,T.er):=by kernel_rfl
theorem T.wM{args:List AV}{res:AV}(hl:args.length=1)(hn:AV.ae args=true)(hw:bW Try.prog (λ _ _ _=>False) (λ a=>a=res) T.er args []):a7 Try.prog F.er args res:=
 aY Try.func96 T.zg hl hn hw
def T.bq:T:=
.op (.call F.bM [(.x 0),(.x 1)] false) (
.op (.bin .geq (.x 2) (.c (.v (.int .i64 0)))) (
.ret [(.x 3)]))
theorem T.kl:ct Try.prog CF Try.f97=some (2,T.bq):=by kernel_rfl
theorem T.jx{args:List AV}{res:AV}(hl:args.length=2)(hn:AV.ae args=true)(hw:bW Try.prog (λ _ _ _=>False) (λ a=>a=res) T.bq args []):a7 Try.prog F.bq args res:=
 aY Try.func97 T.kl hl hn hw
def T.ju:T:=
.op (.call F.eN [(.x 0),(.c (.v (.int .i64 48))),(.c (.v (.int .i64 57)))] false) (
.ret [(.x 1)])
theorem T.aey:ct Try.prog CF Try.f98=some (1,T.ju):=by kernel_rfl
theorem T.aan{args:List AV}{res:AV}(hl:args.length=1)(hn:AV.ae args=true)(hw:bW Try.prog (λ _ _ _=>False) (λ a=>a=res) T.ju args []):a7 Try.prog F.ju args res:=
 aY Try.func98 T.aey hl hn hw
def T.jJ:T:=
.bind 1 (
 .op (.bin .geq (.x 0) (.c (.v (.int .u8 65)))) (
 .ite (.x 1)
  (.op (.bin .leq (.x 0) (.c (.v (.int .u8 90)))) (
  .jump [(.x 2)]))
  (.jump [(.c (.v (.bool false)))]))) (
.ret [(.x 1)])
theorem T.afi:ct Try.prog CF Try.f99=some (1,T.jJ):=by kernel_rfl
theorem T.abv{args:List AV}{res:AV}(hl:args.length=1)(hn:AV.ae args=true)(hw:bW Try.prog (λ _ _ _=>False) (λ a=>a=res) T.jJ args []):a7 Try.prog F.jJ args res:=
 aY Try.func99 T.afi hl hn hw
def T.jK:T:=
.bind 1 (
 .op (.bin .geq (.x 0) (.c (.v (.int .u8 48)))) (
 .ite (.x 1)
  (.op (.bin .leq (.x 0) (.c (.v (.int .u8 57)))) (
  .jump [(.x 2)]))
  (.jump [(.c (.v (.bool false)))]))) (
.ret [(.x 1)])
theorem T.afm:ct Try.prog CF Try.f100=some (1,T.jK):=by kernel_rfl
theorem T.abx{args:List AV}{res:AV}(hl:args.length=1)(hn:AV.ae args=true)(hw:bW Try.prog (λ _ _ _=>False) (λ a=>a=res) T.jK args []):a7 Try.prog F.jK args res:=
 aY Try.func100 T.afm hl hn hw
def T.bM:T:=
.bind 0 (
 .op (.bl (.x 0)) (
 .loop [(.c (.v (.int .i64 0)))] (
  .op (.bin .lss (.x 3) (.x 2)) (
  .ite (.x 4)
   (.op (.elem 1 (.x 0) (.x 3)) (
   .bI (.lt (.x 5) 0) (
   .op (.bin .eql (.x 1) (.cell 5 0)) (
   .ite (.x 6)
    (.eB (.eB (.ret [(.x 3)])))
    (.op (.bin .add (.x 3) (.c (.v (.int .i64 1)))) (
    .jump [(.x 7)]))))))
   (.eB (.jump [])))))) (
.ret [(.c (.v (.int .i64 (-1))))])
theorem T.me:ct Try.prog CF Try.f101=some (2,T.bM):=by kernel_rfl
theorem T.kP{args:List AV}{res:AV}(hl:args.length=2)(hn:AV.ae args=true)(hw:bW Try.prog (λ _ _ _=>False) (λ a=>a=res) T.bM args []):a7 Try.prog F.bM args res:=
 aY Try.func101 T.me hl hn hw
end Go.Proofs.Ab
