/-
  WHAT IS LEFT of this seat's functions, printed by a program of ours (wip/tool/Gen2.lean) from the translation; each with the theorem that it is what is left of that function.
-/
import Derived.Test.YtfebhekplhjigaaChecked
import Derived.KernelRfl
import Derived.Test.YtfebhekplhjigaaAbM5
set_option linter.unusedVariables false
set_option linter.unusedSimpArgs false
namespace Go.Proofs.Ab
open Go.Ab
set_option maxRecDepth 100000
namespace F
abbrev acD:FuncId:=3
abbrev eL:FuncId:=4
abbrev ahr:FuncId:=5
abbrev alK:FuncId:=6
abbrev auD:FuncId:=7
abbrev akB:FuncId:=8
abbrev auC:FuncId:=9
abbrev alZ:FuncId:=10
abbrev auE:FuncId:=11
abbrev lW:FuncId:=12
abbrev dP:FuncId:=13
abbrev hF:FuncId:=14
abbrev fO:FuncId:=15
abbrev mO:FuncId:=16
abbrev jf:FuncId:=17
abbrev ja:FuncId:=18
abbrev kG:FuncId:=19
abbrev fk:FuncId:=20
abbrev asN:FuncId:=21
abbrev arS:FuncId:=22
abbrev asM:FuncId:=23
abbrev asO:FuncId:=24
abbrev apj:FuncId:=25
abbrev apk:FuncId:=26
abbrev gC:FuncId:=29
abbrev j3:FuncId:=30
abbrev auH:FuncId:=31
abbrev de:FuncId:=32
abbrev bq:FuncId:=33
abbrev fM:FuncId:=34
abbrev aj:FuncId:=35
abbrev cf:FuncId:=36
abbrev bD:FuncId:=37
abbrev gL:FuncId:=38
abbrev fB:FuncId:=39
abbrev cw:FuncId:=40
abbrev gf:FuncId:=41
abbrev dK:FuncId:=42
abbrev jk:FuncId:=43
abbrev dR:FuncId:=44
abbrev fi:FuncId:=45
abbrev eF:FuncId:=46
abbrev ig:FuncId:=47
abbrev eD:FuncId:=48
abbrev cM:FuncId:=49
abbrev fj:FuncId:=50
abbrev kE:FuncId:=51
abbrev aM:FuncId:=52
abbrev aol:FuncId:=53
abbrev aom:FuncId:=54
abbrev arQ:FuncId:=55
abbrev aqw:FuncId:=56
abbrev aok:FuncId:=57
abbrev aqx:FuncId:=58
abbrev aqv:FuncId:=59
abbrev anX:FuncId:=60
abbrev gM:FuncId:=61
abbrev fq:FuncId:=62
abbrev bk:FuncId:=63
abbrev gW:FuncId:=64
abbrev gV:FuncId:=65
abbrev aO:FuncId:=66
abbrev bO:FuncId:=67
abbrev fW:FuncId:=68
abbrev bP:FuncId:=69
abbrev cd:FuncId:=70
abbrev iO:FuncId:=71
abbrev iM:FuncId:=72
abbrev fh:FuncId:=73
abbrev aV:FuncId:=74
abbrev fR:FuncId:=75
abbrev bY:FuncId:=76
abbrev fG:FuncId:=77
abbrev fH:FuncId:=78
abbrev arR:FuncId:=79
abbrev iW:FuncId:=80
abbrev br:FuncId:=81
abbrev cv:FuncId:=82
abbrev fL:FuncId:=83
abbrev fN:FuncId:=84
abbrev iP:FuncId:=85
abbrev aC:FuncId:=86
abbrev bV:FuncId:=87
abbrev gU:FuncId:=88
abbrev gT:FuncId:=89
abbrev iX:FuncId:=90
abbrev cV:FuncId:=91
abbrev fa:FuncId:=92
abbrev fb:FuncId:=93
abbrev eb:FuncId:=94
abbrev ma:FuncId:=95
abbrev eG:FuncId:=96
abbrev bJ:FuncId:=97
abbrev iN:FuncId:=98
abbrev iY:FuncId:=99
abbrev iZ:FuncId:=100
abbrev b9:FuncId:=101
end F
def FL:List Nat:=[3,4,5,6,7,8,10,11,12,14,15,16,20,21,24,25,26,28,29,31,34,35,36,38,39,41,43,45,46,49,52,53,55,56,57,58,60,61,62,63,64,67,69,70,71,72,73,75,76,77,79,80,81,82,84,85,87,88,89,90,91,92,93,94,95,96,97,98,99,100,101]
def FR:List (Nat×Bool×Nat×Nat):=[(30,true,3,1),(17,false,3,1),(65,true,3,1)]
abbrev G.de:gK:=⟨1,[(.d (.x 0))],[],3,(.ptr 0 0),[(.box 93 [(.d (.x 0)),(.d (.x 1)),(.d (.x 2))])],[]⟩
abbrev G.bq:gK:=⟨4,[(.ptr 0 0),(.d (.x 3))],[(.box 93 [(.d (.x 0)),(.d (.x 1)),(.d (.x 2))])],6,(.ba [(.d (.x 0)),(.row 1 (.x 4)),(.row 2 (.x 5))]),[(.box 93 [(.d (.x 1)),(.d (.x 2)),(.d (.x 3))]),(.row false 29 4 (.x 4)),(.row false 29 4 (.x 5))],[]⟩
abbrev G.aj:gK:=⟨4,[(.ptr 0 0),(.d (.x 3))],[(.box 93 [(.d (.x 0)),(.d (.x 1)),(.d (.x 2))])],4,(.d (.x 0)),[(.box 93 [(.d (.x 1)),(.d (.x 2)),(.d (.x 3))])],[]⟩
abbrev G.cf:gK:=⟨4,[(.ptr 0 0),(.d (.x 3))],[(.box 93 [(.d (.x 0)),(.d (.x 1)),(.d (.x 2))])],4,(.d (.x 0)),[(.box 93 [(.d (.x 1)),(.d (.x 2)),(.d (.x 3))])],[]⟩
abbrev G.bD:gK:=⟨3,[(.ptr 0 0)],[(.box 93 [(.d (.x 0)),(.d (.x 1)),(.d (.x 2))])],4,(.d (.x 0)),[(.box 93 [(.d (.x 1)),(.d (.x 2)),(.d (.x 3))])],[]⟩
abbrev G.cw:gK:=⟨3,[(.d (.x 0)),(.d (.x 1)),(.row 0 (.x 2))],[(.row false 3 1 (.x 2))],1,(.row 0 (.x 0)),[(.row false 3 1 (.x 0))],[]⟩
abbrev G.aO:gK:=⟨5,[(.ptr 0 0),(.d (.x 3)),(.d (.x 4))],[(.box 93 [(.d (.x 0)),(.d (.x 1)),(.d (.x 2))])],7,(.agg [(.d (.x 0)),(.d (.x 4)),(.d (.x 5)),(.row 1 (.x 6))]),[(.box 93 [(.d (.x 1)),(.d (.x 2)),(.d (.x 3))]),(.row true 29 4 (.x 6))],[]⟩
abbrev G.bu:gK:=⟨5,[(.ptr 0 0),(.d (.x 3)),(.d (.x 4))],[(.box 93 [(.d (.x 0)),(.d (.x 1)),(.d (.x 2))])],4,(.d (.x 0)),[(.box 93 [(.d (.x 1)),(.d (.x 2)),(.d (.x 3))])],[]⟩
abbrev G.bO:gK:=⟨4,[(.ptr 0 0),(.d (.x 3))],[(.box 93 [(.d (.x 0)),(.d (.x 1)),(.d (.x 2))])],4,(.d (.x 0)),[(.box 93 [(.d (.x 1)),(.d (.x 2)),(.d (.x 3))])],[]⟩
abbrev G.bP:gK:=⟨3,[(.ptr 0 0)],[(.box 93 [(.d (.x 0)),(.d (.x 1)),(.d (.x 2))])],4,(.d (.x 0)),[(.box 93 [(.d (.x 1)),(.d (.x 2)),(.d (.x 3))])],[]⟩
abbrev G.cd:gK:=⟨4,[(.ptr 0 0),(.d (.x 3))],[(.box 93 [(.d (.x 0)),(.d (.x 1)),(.d (.x 2))])],4,(.d (.x 0)),[(.box 93 [(.d (.x 1)),(.d (.x 2)),(.d (.x 3))])],[]⟩
abbrev G.aC:gK:=⟨1,[(.d (.c .aw)),(.d (.x 0))],[],1,(.row 0 (.x 0)),[(.row false 29 4 (.x 0))],[]⟩
abbrev G.aR:gK:=⟨1,[(.d (.c .aw)),(.d (.x 0))],[],0,(.d (.c .aw)),[],[]⟩
def SG:List (Nat×List gK):=[(32,[G.de]),(33,[G.bq]),(35,[G.aj]),(36,[G.cf]),(37,[G.bD]),(40,[G.cw]),(66,[G.aO,G.bu]),(67,[G.bO]),(69,[G.bP]),(70,[G.cd]),(86,[G.aC,G.aR])]
abbrev CF:Cfg:=⟨FL,FR,SG,false⟩
abbrev CFC:Cfg:=⟨FL,FR,SG,true⟩
def SGB:List (Nat×List gK):=[(32,[G.de]),(33,[G.bq]),(35,[G.aj]),(36,[G.cf]),(37,[G.bD]),(40,[G.cw]),(66,[G.aO,G.bu]),(67,[G.bO]),(69,[G.bP]),(70,[G.cd]),(86,[G.aR])]
abbrev CFB:Cfg:=⟨FL,FR,SGB,false⟩
def T.eL:T:=
.op (.call F.lW [(.x 0)] false) (
.ite (.x 1)
 (.ret [(.c (.v (.bool true)))])
 (.op (.call F.dP [(.x 0)] false) (
 .aJ (.ba (.x 2) 0) (
 .aJ (.ba (.x 2) 1) (
 .aJ (.ba (.x 2) 2) (
 .bind 0 (
  .bind 1 (
   .op (.bM (.ext 2 1)) (
   .op (.bin .eql (.x 3) (.c (.v (.int .i64 0)))) (
   .ite (.x 4)
    (.jump [(.c (.v (.bool true)))])
    (.op (.bin .lss (.ext 2 0) (.c (.v (.int .i64 1)))) (
    .ite (.x 5)
     (.jump [(.c (.v (.bool true)))])
     (.op (.bin .gtr (.ext 2 0) (.c (.v (.int .i64 300)))) (
     .ite (.x 6)
      (.jump [(.c (.v (.bool true)))])
      (.op (.elem 4 (.ext 2 1) (.c (.v (.int .i64 0)))) (
      .aJ (.cells (.x 7) 4) (
      .op (.call F.hF [(.x 7)] false) (
      .op (.un .not (.x 8)) (
      .ite (.x 9)
       (.jump [(.c (.v (.bool true)))])
       (.op (.elem 4 (.ext 2 1) (.c (.v (.int .i64 0)))) (
       .aJ (.cells (.x 10) 4) (
       .op (.call F.fO [(.x 10)] false) (
       .op (.bin .gtr (.x 11) (.c (.v (.int .i64 12)))) (
       .jump [(.x 12)]))))))))))))))))) (
  .ite (.x 3)
   (.dM (.ret [(.c (.v (.bool true)))]))
   (.jump []))) (
 .op (.kB (.agg [(.v (.int .i64 0)),(.v (.int .i64 0)),(.v (.string ⟨#[]⟩)),.aw]) 0 []) (
 .bind 1 (
  .loop [(.x 3),(.c (.v (.int .i64 0)))] (
   .op (.bin .lss (.x 5) (.ext 2 0)) (
   .ite (.x 6)
    (.bind 3 (
     .op (.call F.mO [(.x 0),(.x 5)] false) (
     .op (.bin .add (.x 7) (.x 5)) (
     .op (.bin .rem (.x 8) (.c (.v (.int .i64 4)))) (
     .op (.bin .add (.c (.v (.int .i64 1))) (.x 9)) (
     .aJ (.one (.x 10)) (
     .aJ (.cells (.agg [(.x 10),(.c (.v (.int .i64 0))),(.c (.v (.string ⟨#[]⟩))),(.c .aw)]) 4) (
     .op (.bin .add (.x 5) (.c (.v (.int .i64 1)))) (
     .op (.call F.mO [(.x 0),(.x 11)] false) (
     .op (.bin .rem (.x 12) (.c (.v (.int .i64 3)))) (
     .op (.bin .eql (.x 13) (.c (.v (.int .i64 0)))) (
     .ite (.x 14)
      (.aJ (.one (.c (.v (.int .i64 9)))) (
      .aJ (.one (.x 5)) (
      .aJ (.cells (.agg [(.x 10),(.c (.v (.int .i64 0))),(.c (.v (.string ⟨#[]⟩))),(.sl (.c (.sl [])))]) 4) (
      .aJ (.cells (.agg [(.c (.v (.int .i64 9))),(.x 5),(.c (.v (.string ⟨#[]⟩))),(.c .aw)]) 4) (
      .op (.kB (.agg [(.v (.int .i64 0)),(.v (.int .i64 0)),(.v (.string ⟨#[]⟩)),.aw]) 2 [(0,(.agg [(.x 10),(.c (.v (.int .i64 0))),(.c (.v (.string ⟨#[]⟩))),(.sl (.c (.sl [])))])),(1,(.agg [(.c (.v (.int .i64 9))),(.x 5),(.c (.v (.string ⟨#[]⟩))),(.c .aw)]))]) (
      .aJ (.one (.c (.v (.int .i64 5)))) (
      .aJ (.one (.c (.v (.int .i64 5)))) (
      .aJ (.one (.c (.v (.int .i64 0)))) (
      .aJ (.one (.c (.v (.string ⟨#[]⟩)))) (
      .aJ (.cells (.agg [(.c (.v (.int .i64 5))),(.c (.v (.int .i64 0))),(.c (.v (.string ⟨#[]⟩))),(.sl (.x 15))]) 4) (
      .op (.kB (.agg [(.v (.int .i64 0)),(.v (.int .i64 0)),(.v (.string ⟨#[]⟩)),.aw]) 1 [(0,(.agg [(.c (.v (.int .i64 5))),(.c (.v (.int .i64 0))),(.c (.v (.string ⟨#[]⟩))),(.sl (.x 15))]))]) (
      .op (.app 4 56 (.x 4) (.sl (.x 16))) (
      .jump [(.x 17),(.c (.v (.int .i64 5))),(.sl (.x 15))])))))))))))))
      (.aJ (.cells (.agg [(.x 10),(.c (.v (.int .i64 0))),(.c (.v (.string ⟨#[]⟩))),(.sl (.c (.sl [])))]) 4) (
      .op (.kB (.agg [(.v (.int .i64 0)),(.v (.int .i64 0)),(.v (.string ⟨#[]⟩)),.aw]) 1 [(0,(.agg [(.x 10),(.c (.v (.int .i64 0))),(.c (.v (.string ⟨#[]⟩))),(.sl (.c (.sl [])))]))]) (
      .op (.app 4 56 (.x 4) (.sl (.x 15))) (
      .jump [(.x 16),(.x 10),(.sl (.c (.sl [])))]))))))))))))))) (
    .op (.bin .add (.x 5) (.c (.v (.int .i64 1)))) (
    .jump [(.x 7),(.x 10)])))
    (.dM (.jump [(.x 4)]))))) (
 .op (.elem 4 (.ext 2 1) (.c (.v (.int .i64 0)))) (
 .aJ (.cells (.x 5) 4) (
 .op (.eV false 3 1 F.jf [(.x 5),(.c (.v (.int .i64 11)))]) (
 .bind 0 (
  .loop [(.c (.v (.int .i64 0)))] (
   .op (.bM (.sl (.x 6))) (
   .op (.bin .lss (.x 7) (.x 8)) (
   .ite (.x 9)
    (.aJ (.idx (.x 6) (.x 7)) (
    .op (.get (.x 6) (.x 7) 0 none) (
    .op (.bin .geq (.x 10) (.ext 2 0)) (
    .ite (.x 11)
     (.dM (.dM (.ret [(.c (.v (.bool true)))])))
     (.op (.bin .add (.x 7) (.c (.v (.int .i64 1)))) (
     .jump [(.x 12)]))))))
    (.dM (.jump [])))))) (
 .op (.elem 4 (.ext 2 1) (.c (.v (.int .i64 0)))) (
 .aJ (.cells (.x 7) 4) (
 .aJ (.cells (.x 7) 4) (
 .op (.kB (.agg [(.v (.int .i64 0)),(.v (.int .i64 0)),(.v (.string ⟨#[]⟩)),.aw]) 1 [(0,(.x 7))]) (
 .op (.elem 4 (.ext 2 1) (.c (.v (.int .i64 0)))) (
 .aJ (.cells (.x 9) 4) (
 .op (.call F.kG [(.x 9),(.c (.v (.int .i64 11))),(.sl (.x 4))] false) (
 .aJ (.cells (.x 10) 4) (
 .op (.kB (.agg [(.v (.int .i64 0)),(.v (.int .i64 0)),(.v (.string ⟨#[]⟩)),.aw]) 1 [(0,(.x 10))]) (
 .op (.call F.ja [(.ext 2 0),(.x 8),(.x 11)] false) (
 .aJ (.ba (.x 12) 0) (
 .aJ (.ba (.x 12) 1) (
 .op (.bin .neq (.ext 12 1) (.c (.v (.int .i64 0)))) (
 .ite (.x 13)
  (.ret [(.c (.v (.bool false)))])
  (.bind 0 (
   .loop [(.c (.v (.int .i64 0)))] (
    .op (.bM (.sl (.x 6))) (
    .op (.bin .lss (.x 14) (.x 15)) (
    .ite (.x 16)
     (.aJ (.idx (.x 6) (.x 14)) (
     .op (.get (.x 6) (.x 14) 0 none) (
     .op (.elem 4 (.ext 12 0) (.x 17)) (
     .aJ (.cells (.x 18) 4) (
     .aJ (.idx (.x 6) (.x 14)) (
     .op (.get (.x 6) (.x 14) 0 none) (
     .op (.elem 4 (.sl (.x 4)) (.x 19)) (
     .aJ (.cells (.x 20) 4) (
     .op (.call F.fk [(.x 18),(.x 20)] true) (
     .op (.un .not (.x 21)) (
     .ite (.x 22)
      (.dM (.dM (.ret [(.c (.v (.bool false)))])))
      (.op (.bin .add (.x 14) (.c (.v (.int .i64 1)))) (
      .jump [(.x 23)])))))))))))))
     (.dM (.jump [])))))) (
  .ret [(.c (.v (.bool true)))]))))))))))))))))))))))))))))
theorem T.rN:cB Try.prog CF Try.f4=some (1,T.eL):=by kernel_rfl
theorem T.pD{args:List AV}{res:AV}(hl:args.length=1)(hn:AV.ad args=true)(hw:bF Try.prog (λ _ _ _=>False) (λ a=>a=res) T.eL args []):a7 Try.prog F.eL args res:=
 aZ Try.func4 T.rN hl hn hw
def T.lW:T:=
.op (.bM (.x 0)) (
.op (.bin .gtr (.x 1) (.c (.v (.int .i64 1048576)))) (
.ret [(.x 2)]))
theorem T.afY:cB Try.prog CF Try.f12=some (1,T.lW):=by kernel_rfl
theorem T.abM{args:List AV}{res:AV}(hl:args.length=1)(hn:AV.ad args=true)(hw:bF Try.prog (λ _ _ _=>False) (λ a=>a=res) T.lW args []):a7 Try.prog F.lW args res:=
 aZ Try.func12 T.afY hl hn hw
def T.dP:T:=
.op (.bp F.de G.de [(.x 0)]) (
.op (.call F.fM [(.x 0),(.c (.v (.int .i64 8)))] false) (
.op (.bp F.bq G.bq [(.ext 1 0),(.ext 1 1),(.ext 1 2),(.x 2)]) (
.bind 6 (
 .op (.bp F.aj G.aj [(.ext 3 1),(.ext 3 2),(.ext 3 3),(.c (.v (.int .i64 16)))]) (
 .op (.bin .eql (.ext 4 0) (.c (.v (.int .i64 0)))) (
 .ite (.x 5)
  (.aJ (.one (.c (.v (.int .i64 (-1))))) (
  .aJ (.one (.c (.v (.int .i64 0)))) (
  .aJ (.one (.c (.v (.int .i64 300)))) (
  .aJ (.one (.c (.v (.int .i64 301)))) (
  .op (.kB (.v (.int .i64 0)) 4 [(0,(.c (.v (.int .i64 (-1))))),(1,(.c (.v (.int .i64 0)))),(2,(.c (.v (.int .i64 300)))),(3,(.c (.v (.int .i64 301))))]) (
  .op (.bp F.cf G.cf [(.ext 4 1),(.ext 4 2),(.ext 4 3),(.sl (.x 6))]) (
  .jump [(.ext 7 1),(.ext 7 2),(.ext 7 3),(.ext 3 4),(.ext 3 5),(.ext 7 0)])))))))
  (.op (.bin .eql (.ext 4 0) (.c (.v (.int .i64 1)))) (
  .ite (.x 6)
   (.aJ (.one (.c (.v (.int .i64 1)))) (
   .aJ (.cells (.agg [(.c (.v (.int .i64 1))),(.c (.v (.int .i64 0))),(.c (.v (.string ⟨#[]⟩))),(.c .aw)]) 4) (
   .op (.kB (.agg [(.v (.int .i64 0)),(.v (.int .i64 0)),(.v (.string ⟨#[]⟩)),.aw]) 1 [(0,(.agg [(.c (.v (.int .i64 1))),(.c (.v (.int .i64 0))),(.c (.v (.string ⟨#[]⟩))),(.c .aw)]))]) (
   .op (.app 4 56 (.ext 3 4) (.sl (.x 7))) (
   .jump [(.ext 4 1),(.ext 4 2),(.ext 4 3),(.x 8),(.ext 3 5),(.ext 3 0)])))))
   (.op (.bin .eql (.ext 4 0) (.c (.v (.int .i64 2)))) (
   .ite (.x 7)
    (.op (.bp F.bD G.bD [(.ext 4 1),(.ext 4 2),(.ext 4 3)]) (
    .aJ (.cells (.ext 8 0) 4) (
    .op (.kB (.agg [(.v (.int .i64 0)),(.v (.int .i64 0)),(.v (.string ⟨#[]⟩)),.aw]) 1 [(0,(.ext 8 0))]) (
    .op (.app 4 56 (.ext 3 4) (.sl (.x 9))) (
    .op (.bp F.bD G.bD [(.ext 8 1),(.ext 8 2),(.ext 8 3)]) (
    .aJ (.cells (.ext 11 0) 4) (
    .op (.kB (.agg [(.v (.int .i64 0)),(.v (.int .i64 0)),(.v (.string ⟨#[]⟩)),.aw]) 1 [(0,(.ext 11 0))]) (
    .op (.app 4 56 (.ext 3 5) (.sl (.x 12))) (
    .jump [(.ext 11 1),(.ext 11 2),(.ext 11 3),(.x 10),(.x 13),(.ext 3 0)])))))))))
    (.op (.bin .eql (.ext 4 0) (.c (.v (.int .i64 3)))) (
    .ite (.x 8)
     (.loop [(.ext 3 4),(.ext 3 5),(.c (.v (.int .i64 0)))] (
      .op (.bin .lss (.x 11) (.c (.v (.int .i64 9)))) (
      .ite (.x 12)
       (.op (.bin .add (.x 11) (.c (.v (.int .i64 1)))) (
       .aJ (.one (.c (.v (.int .i64 11)))) (
       .aJ (.one (.x 13)) (
       .aJ (.cells (.agg [(.c (.v (.int .i64 11))),(.x 13),(.c (.v (.string ⟨#[]⟩))),(.c .aw)]) 4) (
       .aJ (.one (.c (.v (.int .i64 11)))) (
       .aJ (.one (.x 11)) (
       .aJ (.cells (.agg [(.c (.v (.int .i64 11))),(.x 11),(.c (.v (.string ⟨#[]⟩))),(.c .aw)]) 4) (
       .op (.kB (.agg [(.v (.int .i64 0)),(.v (.int .i64 0)),(.v (.string ⟨#[]⟩)),.aw]) 1 [(0,(.agg [(.c (.v (.int .i64 11))),(.x 11),(.c (.v (.string ⟨#[]⟩))),(.c .aw)]))]) (
       .op (.app 4 56 (.x 9) (.sl (.x 14))) (
       .aJ (.cells (.agg [(.c (.v (.int .i64 11))),(.x 13),(.c (.v (.string ⟨#[]⟩))),(.c .aw)]) 4) (
       .aJ (.cells (.agg [(.c (.v (.int .i64 11))),(.x 13),(.c (.v (.string ⟨#[]⟩))),(.c .aw)]) 4) (
       .op (.kB (.agg [(.v (.int .i64 0)),(.v (.int .i64 0)),(.v (.string ⟨#[]⟩)),.aw]) 2 [(0,(.agg [(.c (.v (.int .i64 11))),(.x 13),(.c (.v (.string ⟨#[]⟩))),(.c .aw)])),(1,(.agg [(.c (.v (.int .i64 11))),(.x 13),(.c (.v (.string ⟨#[]⟩))),(.c .aw)]))]) (
       .aJ (.one (.c (.v (.int .i64 6)))) (
       .aJ (.cells (.agg [(.c (.v (.int .i64 6))),(.c (.v (.int .i64 0))),(.c (.v (.string ⟨#[]⟩))),(.sl (.x 16))]) 4) (
       .op (.kB (.agg [(.v (.int .i64 0)),(.v (.int .i64 0)),(.v (.string ⟨#[]⟩)),.aw]) 1 [(0,(.agg [(.c (.v (.int .i64 6))),(.c (.v (.int .i64 0))),(.c (.v (.string ⟨#[]⟩))),(.sl (.x 16))]))]) (
       .op (.app 4 56 (.x 10) (.sl (.x 17))) (
       .op (.bin .add (.x 11) (.c (.v (.int .i64 1)))) (
       .jump [(.x 15),(.x 18),(.x 19)]))))))))))))))))))
       (.dM (.jump [(.ext 4 1),(.ext 4 2),(.ext 4 3),(.x 9),(.x 10),(.c (.v (.int .i64 10)))])))))
     (.op (.bin .eql (.ext 4 0) (.c (.v (.int .i64 4)))) (
     .ite (.x 9)
      (.loop [(.ext 4 1),(.ext 4 2),(.ext 4 3),(.ext 3 4),(.ext 3 5)] (
       .op (.bM (.sl (.x 13))) (
       .op (.bp F.aj G.aj [(.x 10),(.x 11),(.x 12),(.c (.v (.int .i64 2)))]) (
       .op (.bin .add (.c (.v (.int .i64 200))) (.ext 16 0)) (
       .op (.bin .lss (.x 15) (.x 17)) (
       .ite (.x 18)
        (.aJ (.one (.c (.v (.int .i64 1)))) (
        .aJ (.cells (.agg [(.c (.v (.int .i64 1))),(.c (.v (.int .i64 0))),(.c (.v (.string ⟨#[]⟩))),(.c .aw)]) 4) (
        .op (.kB (.agg [(.v (.int .i64 0)),(.v (.int .i64 0)),(.v (.string ⟨#[]⟩)),.aw]) 1 [(0,(.agg [(.c (.v (.int .i64 1))),(.c (.v (.int .i64 0))),(.c (.v (.string ⟨#[]⟩))),(.c .aw)]))]) (
        .op (.app 4 56 (.x 13) (.sl (.x 19))) (
        .aJ (.one (.c (.v (.int .i64 1)))) (
        .aJ (.cells (.agg [(.c (.v (.int .i64 1))),(.c (.v (.int .i64 0))),(.c (.v (.string ⟨#[]⟩))),(.c .aw)]) 4) (
        .op (.kB (.agg [(.v (.int .i64 0)),(.v (.int .i64 0)),(.v (.string ⟨#[]⟩)),.aw]) 1 [(0,(.agg [(.c (.v (.int .i64 1))),(.c (.v (.int .i64 0))),(.c (.v (.string ⟨#[]⟩))),(.c .aw)]))]) (
        .op (.app 4 56 (.x 14) (.sl (.x 21))) (
        .jump [(.ext 16 1),(.ext 16 2),(.ext 16 3),(.x 20),(.x 22)])))))))))
        (.dM (.jump [(.ext 16 1),(.ext 16 2),(.ext 16 3),(.x 13),(.x 14),(.ext 3 0)]))))))))
      (.jump [(.ext 4 1),(.ext 4 2),(.ext 4 3),(.ext 3 4),(.ext 3 5),(.ext 3 0)])))))))))))) (
.ret [(.x 9),(.sl (.x 7)),(.sl (.x 8))]))))
theorem T.tz:cB Try.prog CF Try.f13=some (1,T.dP):=by kernel_rfl
theorem T.rn{args:List AV}{res:AV}(hl:args.length=1)(hn:AV.ad args=true)(hw:bF Try.prog (λ _ _ _=>False) (λ a=>a=res) T.dP args []):a7 Try.prog F.dP args res:=
 aZ Try.func13 T.tz hl hn hw
def T.hF:T:=
.aJ (.cells (.x 0) 4) (
.aJ (.cells (.x 0) 4) (
.op (.call F.gL [(.x 0)] false) (
.op (.un .not (.x 1)) (
.ite (.x 2)
 (.ret [(.c (.v (.bool false)))])
 (.bind 0 (
  .loop [(.c (.v (.int .i64 0)))] (
   .op (.bM (.cell 0 3)) (
   .op (.bin .lss (.x 3) (.x 4)) (
   .ite (.x 5)
    (.op (.elem 4 (.cell 0 3) (.x 3)) (
    .aJ (.cells (.x 6) 4) (
    .op (.call F.hF [(.x 6)] false) (
    .op (.un .not (.x 7)) (
    .ite (.x 8)
     (.dM (.dM (.ret [(.c (.v (.bool false)))])))
     (.op (.bin .add (.x 3) (.c (.v (.int .i64 1)))) (
     .jump [(.x 9)])))))))
    (.dM (.jump [])))))) (
 .ret [(.c (.v (.bool true)))]))))))
theorem T.acY:cB Try.prog CF Try.f14=some (1,T.hF):=by kernel_rfl
theorem T.zo{args:List AV}{res:AV}(hl:args.length=1)(hn:AV.ad args=true)(hw:bF Try.prog (λ _ _ _=>False) (λ a=>a=res) T.hF args []):a7 Try.prog F.hF args res:=
 aZ Try.func14 T.acY hl hn hw
def T.fO:T:=
.aJ (.cells (.x 0) 4) (
.bind 1 (
 .loop [(.c (.v (.int .i64 1))),(.c (.v (.int .i64 0)))] (
  .op (.bM (.cell 0 3)) (
  .op (.bin .lss (.x 2) (.x 3)) (
  .ite (.x 4)
   (.op (.elem 4 (.cell 0 3) (.x 2)) (
   .aJ (.cells (.x 5) 4) (
   .op (.call F.fO [(.x 5)] false) (
   .op (.bin .add (.x 1) (.x 6)) (
   .op (.bin .add (.x 2) (.c (.v (.int .i64 1)))) (
   .jump [(.x 7),(.x 8)]))))))
   (.dM (.jump [(.x 1)])))))) (
.ret [(.x 1)]))
theorem T.zn:cB Try.prog CF Try.f15=some (1,T.fO):=by kernel_rfl
theorem T.vq{args:List AV}{res:AV}(hl:args.length=1)(hn:AV.ad args=true)(hw:bF Try.prog (λ _ _ _=>False) (λ a=>a=res) T.fO args []):a7 Try.prog F.fO args res:=
 aZ Try.func15 T.zn hl hn hw
def T.mO:T:=
.op (.bM (.x 0)) (
.op (.bin .lss (.x 1) (.x 2)) (
.ite (.x 3)
 (.op (.elem 1 (.x 0) (.x 1)) (
 .aJ (.lt (.x 4) 0) (
 .op (.conv .i64 (.cell 4 0)) (
 .ret [(.x 5)]))))
 (.op (.bin .mul (.x 1) (.c (.v (.int .i64 31)))) (
 .op (.bM (.x 0)) (
 .op (.bin .mul (.x 5) (.c (.v (.int .i64 7)))) (
 .op (.bin .add (.x 4) (.x 6)) (
 .op (.bin .rem (.x 7) (.c (.v (.int .i64 256)))) (
 .ret [(.x 8)]))))))))
theorem T.aiY:cB Try.prog CF Try.f16=some (2,T.mO):=by kernel_rfl
theorem T.adB{args:List AV}{res:AV}(hl:args.length=2)(hn:AV.ad args=true)(hw:bF Try.prog (λ _ _ _=>False) (λ a=>a=res) T.mO args []):a7 Try.prog F.mO args res:=
 aZ Try.func16 T.aiY hl hn hw
def T.jf:T:=
.aJ (.cells (.x 0) 4) (
.bind 0 (
 .bind 1 (
  .aJ (.cells (.x 0) 4) (
  .op (.call F.hF [(.x 0)] false) (
  .op (.un .not (.x 2)) (
  .ite (.x 3)
   (.jump [(.c (.v (.bool true)))])
   (.op (.call F.fB [(.x 1),(.c (.v (.int .i64 9))),(.c (.v (.int .i64 11)))] false) (
   .op (.un .not (.x 4)) (
   .jump [(.x 5)]))))))) (
 .ite (.x 2)
  (.op (.kB (.v (.int .i64 0)) 0 []) (
  .dM (.ret [(.sl (.x 3))])))
  (.jump []))) (
.aJ (.cells (.x 0) 4) (
.op (.kB (.v (.int .i64 0)) 0 []) (
.op (.bp F.cw G.cw [(.x 0),(.x 1),(.x 2)]) (
.ret [(.sl (.ext 3 0))])))))
theorem T.acZ:sG Try.prog CF false 3 1 Try.f17=some (2,T.jf):=by kernel_rfl
theorem T.wU{args xs:List AV}(hl:args.length=2)(hn:AV.ad args=true)(hw:bF Try.prog (λ _ _ _=>False) (λ a=>a= .sl xs) T.jf args []):tf Try.prog F.jf args false 3 1 xs:=
 ue Try.func17 T.acZ hl hn hw
def T.kG:T:=
.aJ (.cells (.x 0) 4) (
.bind 0 (
 .bind 1 (
  .op (.call F.cM [(.x 1)] false) (
  .op (.un .not (.x 3)) (
  .ite (.x 4)
   (.jump [(.c (.v (.bool true)))])
   (.aJ (.cells (.x 0) 4) (
   .op (.call F.gC [(.x 0)] false) (
   .op (.un .not (.x 5)) (
   .jump [(.x 6)]))))))) (
 .ite (.x 3)
  (.aJ (.cells (.x 0) 4) (
  .op (.call F.fj [(.x 0)] false) (
  .aJ (.cells (.x 4) 4) (
  .dM (.ret [(.agg [(.cell 4 0),(.cell 4 1),(.cell 4 2),(.cell 4 3)])])))))
  (.jump []))) (
.aJ (.cells (.x 0) 4) (
.op (.call F.kE [(.x 0),(.x 1),(.x 2)] false) (
.aJ (.cells (.x 3) 4) (
.ret [(.agg [(.cell 3 0),(.cell 3 1),(.cell 3 2),(.cell 3 3)])])))))
theorem T.agf:cB Try.prog CF Try.f19=some (3,T.kG):=by kernel_rfl
theorem T.ab8{args:List AV}{res:AV}(hl:args.length=3)(hn:AV.ad args=true)(hw:bF Try.prog (λ _ _ _=>False) (λ a=>a=res) T.kG args []):a7 Try.prog F.kG args res:=
 aZ Try.func19 T.agf hl hn hw
def T.fk:T:=
.aJ (.cells (.x 0) 4) (
.aJ (.cells (.x 1) 4) (
.bind 1 (
 .op (.bin .eql (.cell 0 0) (.cell 1 0)) (
 .ite (.x 2)
  (.op (.bin .eql (.cell 0 1) (.cell 1 1)) (
  .ite (.x 3)
   (.op (.bin .eql (.cell 0 2) (.cell 1 2)) (
   .ite (.x 4)
    (.op (.call F.aM [(.cell 0 3),(.cell 1 3),(.c (.fn F.fk []))] false) (
    .jump [(.x 5)]))
    (.jump [(.c (.v (.bool false)))])))
   (.jump [(.c (.v (.bool false)))])))
  (.jump [(.c (.v (.bool false)))]))) (
.ret [(.x 2)])))
theorem T.zG:cB Try.prog CF Try.f20=some (2,T.fk):=by kernel_rfl
theorem T.vM{args:List AV}{res:AV}(hl:args.length=2)(hn:AV.ad args=true)(hw:bF Try.prog (λ _ _ _=>False) (λ a=>a=res) T.fk args []):a7 Try.prog F.fk args res:=
 aZ Try.func20 T.zG hl hn hw
def T.gC:T:=
.aJ (.cells (.x 0) 4) (
.bind 1 (
 .aJ (.cells (.x 0) 4) (
 .op (.call F.fq [(.x 0)] false) (
 .ite (.x 1)
  (.op (.call F.bk [(.cell 0 3),(.c (.fn F.gW []))] false) (
  .op (.un .not (.x 2)) (
  .jump [(.x 3)])))
  (.jump [(.c (.v (.bool false)))])))) (
.ret [(.x 1)]))
theorem T.adK:cB Try.prog CF Try.f29=some (1,T.gC):=by kernel_rfl
theorem T.zE{args:List AV}{res:AV}(hl:args.length=1)(hn:AV.ad args=true)(hw:bF Try.prog (λ _ _ _=>False) (λ a=>a=res) T.gC args []):a7 Try.prog F.gC args res:=
 aZ Try.func29 T.adK hl hn hw
def T.j3:T:=
.aJ (.cells (.x 0) 4) (
.bind 0 (
 .bind 1 (
  .op (.call F.cM [(.x 1)] false) (
  .op (.un .not (.x 2)) (
  .ite (.x 3)
   (.jump [(.c (.v (.bool true)))])
   (.aJ (.cells (.x 0) 4) (
   .op (.call F.gC [(.x 0)] false) (
   .op (.un .not (.x 4)) (
   .jump [(.x 5)]))))))) (
 .ite (.x 2)
  (.dM (.ret [(.sl (.c (.sl [])))]))
  (.jump []))) (
.aJ (.cells (.x 0) 4) (
.op (.eV true 3 1 F.gV [(.x 0),(.x 1)]) (
.ret [(.sl (.x 2))]))))
theorem T.adL:sG Try.prog CF true 3 1 Try.f30=some (2,T.j3):=by kernel_rfl
theorem T.yf{args xs:List AV}(hl:args.length=2)(hn:AV.ad args=true)(hw:bF Try.prog (λ _ _ _=>False) (λ a=>a= .sl xs) T.j3 args []):tf Try.prog F.j3 args true 3 1 xs:=
 ue Try.func30 T.adL hl hn hw
def T.de:T:=
.op (.bM (.x 0)) (
.op (.bin .add (.c (.v (.int .i64 80080))) (.x 1)) (
.bind 1 (
 .loop [(.x 2),(.c (.v (.int .i64 0)))] (
  .bind 0 (
   .bind 1 (
    .op (.bM (.x 0)) (
    .op (.bin .lss (.x 4) (.x 5)) (
    .ite (.x 6)
     (.op (.bin .lss (.x 4) (.c (.v (.int .i64 4000)))) (
     .jump [(.x 7)]))
     (.jump [(.c (.v (.bool false)))])))) (
   .ite (.x 5)
    (.jump [])
    (.dM (.dM (.jump [(.x 3)]))))) (
  .op (.bin .mul (.x 3) (.c (.v (.int .i64 137)))) (
  .op (.elem 1 (.x 0) (.x 4)) (
  .aJ (.lt (.x 6) 0) (
  .op (.conv .i64 (.cell 6 0)) (
  .op (.bin .add (.x 5) (.x 7)) (
  .op (.bin .add (.x 8) (.c (.v (.int .i64 11)))) (
  .op (.bin .and (.x 9) (.c (.v (.int .i64 1073741823)))) (
  .op (.bin .add (.x 4) (.c (.v (.int .i64 1)))) (
  .jump [(.x 10),(.x 11)]))))))))))) (
.aJ (.one (.x 0)) (
.aJ (.one (.x 3)) (
.aJ (.cells (.agg [(.x 0),(.c (.v (.int .i64 0))),(.x 3)]) 3) (
.ret [(.x 0),(.c (.v (.int .i64 0))),(.x 3)]))))))
theorem T.abg:jF Try.prog CF G.de Try.f32=some T.de:=by kernel_rfl
theorem T.vn{ins outs:List AV}(hl:ins.length=1)(ho:outs.length=3)(hn:AV.ad ins=true)(hw:bF Try.prog (λ _ _ _=>False) (λ a=>a=bz outs) T.de ins []):gA Try.prog F.de G.de ins outs:=
 eI Try.func32 T.abg hl hn ho hw
def T.bq:T:=
.op (.bp F.aj G.aj [(.x 0),(.x 1),(.x 2),(.c (.v (.int .i64 6)))]) (
.op (.bin .add (.c (.v (.int .i64 1))) (.ext 4 0)) (
.op (.kB (.agg [(.v (.int .i64 0)),(.v (.int .i64 0)),(.v (.string ⟨#[]⟩)),.aw]) 0 []) (
.op (.kB (.agg [(.v (.int .i64 0)),(.v (.int .i64 0)),(.v (.string ⟨#[]⟩)),.aw]) 0 []) (
.bind 5 (
 .op (.bp F.aj G.aj [(.ext 4 1),(.ext 4 2),(.ext 4 3),(.x 3)]) (
 .loop [(.ext 8 1),(.ext 8 2),(.ext 8 3),(.x 6),(.x 7),(.ext 8 0)] (
  .op (.bin .gtr (.x 14) (.c (.v (.int .i64 0)))) (
  .ite (.x 15)
   (.bind 14 (
    .op (.bp F.aO G.aO [(.x 9),(.x 10),(.x 11),(.c (.v (.int .i64 2))),(.c (.v (.int .i64 0)))]) (
    .aJ (.one (.ext 16 0)) (
    .aJ (.one (.ext 16 4)) (
    .aJ (.one (.ext 16 5)) (
    .op (.kB (.agg [(.v (.int .i64 0)),(.v (.int .i64 0)),(.v (.string ⟨#[]⟩)),.aw]) 0 []) (
    .bind 1 (
     .loop [(.x 17),(.c (.v (.int .i64 0)))] (
      .op (.bin .lss (.x 19) (.x 5)) (
      .ite (.x 20)
       (.aJ (.one (.c (.v (.int .i64 11)))) (
       .aJ (.one (.x 19)) (
       .aJ (.cells (.agg [(.c (.v (.int .i64 11))),(.x 19),(.c (.v (.string ⟨#[]⟩))),(.c .aw)]) 4) (
       .op (.kB (.agg [(.v (.int .i64 0)),(.v (.int .i64 0)),(.v (.string ⟨#[]⟩)),.aw]) 1 [(0,(.agg [(.c (.v (.int .i64 11))),(.x 19),(.c (.v (.string ⟨#[]⟩))),(.c .aw)]))]) (
       .op (.app 4 56 (.x 18) (.sl (.x 21))) (
       .op (.bin .add (.x 19) (.c (.v (.int .i64 1)))) (
       .jump [(.x 22),(.x 23)])))))))
       (.dM (.jump [(.x 18)]))))) (
    .op (.bp F.aj G.aj [(.ext 16 1),(.ext 16 2),(.ext 16 3),(.x 5)]) (
    .aJ (.idx (.x 18) (.ext 19 0)) (
    .aJ (.cells (.agg [(.ext 16 0),(.ext 16 4),(.ext 16 5),(.sl (.ext 16 6))]) 4) (
    .op (.set (.x 18) (.ext 19 0) 0 4 (.agg [(.ext 16 0),(.ext 16 4),(.ext 16 5),(.sl (.ext 16 6))])) (
    .op (.bp F.aO G.aO [(.ext 19 1),(.ext 19 2),(.ext 19 3),(.c (.v (.int .i64 2))),(.x 5)]) (
    .aJ (.one (.ext 21 0)) (
    .aJ (.one (.ext 21 4)) (
    .aJ (.one (.ext 21 5)) (
    .aJ (.cells (.agg [(.ext 21 0),(.ext 21 4),(.ext 21 5),(.sl (.ext 21 6))]) 4) (
    .op (.kB (.agg [(.v (.int .i64 0)),(.v (.int .i64 0)),(.v (.string ⟨#[]⟩)),.aw]) 1 [(0,(.agg [(.ext 21 0),(.ext 21 4),(.ext 21 5),(.sl (.ext 21 6))]))]) (
    .op (.app 4 56 (.x 12) (.sl (.x 22))) (
    .op (.bp F.bO G.bO [(.ext 21 1),(.ext 21 2),(.ext 21 3),(.c (.v (.int .i64 4)))]) (
    .ite (.ext 24 0)
     (.op (.bp F.aO G.aO [(.ext 24 1),(.ext 24 2),(.ext 24 3),(.c (.v (.int .i64 2))),(.x 5)]) (
     .aJ (.cells (.agg [(.ext 25 0),(.ext 25 4),(.ext 25 5),(.sl (.ext 25 6))]) 4) (
     .op (.kB (.agg [(.v (.int .i64 0)),(.v (.int .i64 0)),(.v (.string ⟨#[]⟩)),.aw]) 1 [(0,(.agg [(.ext 25 0),(.ext 25 4),(.ext 25 5),(.sl (.ext 25 6))]))]) (
     .op (.app 4 56 (.x 13) (.sl (.x 26))) (
     .jump [(.ext 25 1),(.ext 25 2),(.ext 25 3),(.x 23),(.x 27),(.ext 16 0),(.ext 16 4),(.ext 16 5),(.sl (.ext 16 6)),(.ext 21 0),(.ext 21 4),(.ext 21 5),(.sl (.ext 21 6)),(.x 22)])))))
     (.op (.call F.fW [(.agg [(.ext 21 0),(.ext 21 4),(.ext 21 5),(.sl (.ext 21 6))]),(.c (.v (.int .i64 11))),(.sl (.x 20))] false) (
     .aJ (.cells (.x 25) 4) (
     .op (.kB (.agg [(.v (.int .i64 0)),(.v (.int .i64 0)),(.v (.string ⟨#[]⟩)),.aw]) 1 [(0,(.x 25))]) (
     .op (.app 4 56 (.x 13) (.sl (.x 26))) (
     .jump [(.ext 24 1),(.ext 24 2),(.ext 24 3),(.x 23),(.x 27),(.ext 16 0),(.ext 16 4),(.ext 16 5),(.sl (.ext 16 6)),(.ext 21 0),(.ext 21 4),(.ext 21 5),(.sl (.ext 21 6)),(.x 22)])))))))))))))))))))))))) (
   .op (.bin .sub (.x 14) (.c (.v (.int .i64 1)))) (
   .jump [(.x 16),(.x 17),(.x 18),(.x 19),(.x 20),(.x 30)])))
   (.dM (.jump [(.x 9),(.x 10),(.x 11),(.x 12),(.x 13)])))))) (
.ret [(.x 5),(.x 8),(.x 9),(.x 10),(.x 11),(.x 12)])))))
theorem T.rj:jF Try.prog CF G.bq Try.f33=some T.bq:=by kernel_rfl
theorem T.o3{ins outs:List AV}(hl:ins.length=4)(ho:outs.length=6)(hn:AV.ad ins=true)(hw:bF Try.prog (λ _ _ _=>False) (λ a=>a=bz outs) T.bq ins []):gA Try.prog F.bq G.bq ins outs:=
 eI Try.func33 T.rj hl hn ho hw
def T.fM:T:=
.op (.bM (.x 0)) (
.op (.bin .quo (.x 2) (.c (.v (.int .i64 12)))) (
.op (.bin .add (.c (.v (.int .i64 3))) (.x 3)) (
.op (.bin .gtr (.x 4) (.x 1)) (
.ite (.x 5)
 (.ret [(.x 1)])
 (.ret [(.x 4)])))))
theorem T.zg:cB Try.prog CF Try.f34=some (2,T.fM):=by kernel_rfl
theorem T.oO{args:List AV}{res:AV}(hl:args.length=2)(hn:AV.ad args=true)(hw:bF Try.prog (λ _ _ _=>False) (λ a=>a=res) T.fM args []):a7 Try.prog F.fM args res:=
 aZ Try.func34 T.zg hl hn hw
def T.aj:T:=
.op (.bin .leq (.x 3) (.c (.v (.int .i64 0)))) (
.ite (.x 4)
 (.ret [(.c (.v (.int .i64 0))),(.x 0),(.x 1),(.x 2)])
 (.op (.bin .leq (.x 3) (.c (.v (.int .i64 256)))) (
 .ite (.x 5)
  (.op (.bp F.bP G.bP [(.x 0),(.x 1),(.x 2)]) (
  .op (.bin .rem (.ext 6 0) (.x 3)) (
  .ret [(.x 7),(.ext 6 1),(.ext 6 2),(.ext 6 3)])))
  (.op (.bp F.bP G.bP [(.x 0),(.x 1),(.x 2)]) (
  .op (.bp F.bP G.bP [(.ext 6 1),(.ext 6 2),(.ext 6 3)]) (
  .op (.bp F.bP G.bP [(.ext 7 1),(.ext 7 2),(.ext 7 3)]) (
  .op (.bin .mul (.ext 6 0) (.c (.v (.int .i64 65536)))) (
  .op (.bin .mul (.ext 7 0) (.c (.v (.int .i64 256)))) (
  .op (.bin .add (.x 9) (.x 10)) (
  .op (.bin .add (.x 11) (.ext 8 0)) (
  .op (.bin .rem (.x 12) (.x 3)) (
  .ret [(.x 13),(.ext 8 1),(.ext 8 2),(.ext 8 3)]))))))))))))
theorem T.wT:jF Try.prog CF G.aj Try.f35=some T.aj:=by kernel_rfl
theorem T.sm{ins outs:List AV}(hl:ins.length=4)(ho:outs.length=4)(hn:AV.ad ins=true)(hw:bF Try.prog (λ _ _ _=>False) (λ a=>a=bz outs) T.aj ins []):gA Try.prog F.aj G.aj ins outs:=
 eI Try.func35 T.wT hl hn ho hw
def T.cf:T:=
.op (.bM (.x 3)) (
.op (.bp F.aj G.aj [(.x 0),(.x 1),(.x 2),(.x 4)]) (
.op (.elem 1 (.x 3) (.ext 5 0)) (
.aJ (.lt (.x 6) 0) (
.ret [(.cell 6 0),(.ext 5 1),(.ext 5 2),(.ext 5 3)]))))
theorem T.abm:jF Try.prog CF G.cf Try.f36=some T.cf:=by kernel_rfl
theorem T.vp{ins outs:List AV}(hl:ins.length=4)(ho:outs.length=4)(hn:AV.ad ins=true)(hw:bF Try.prog (λ _ _ _=>False) (λ a=>a=bz outs) T.cf ins []):gA Try.prog F.cf G.cf ins outs:=
 eI Try.func36 T.abm hl hn ho hw
def T.bD:T:=
.op (.bp F.aO G.aO [(.x 0),(.x 1),(.x 2),(.c (.v (.int .i64 4))),(.c (.v (.int .i64 3)))]) (
.aJ (.one (.ext 3 0)) (
.aJ (.one (.ext 3 4)) (
.aJ (.one (.ext 3 5)) (
.bind 7 (
 .op (.bp F.aj G.aj [(.ext 3 1),(.ext 3 2),(.ext 3 3),(.c (.v (.int .i64 12)))]) (
 .op (.bin .eql (.ext 4 0) (.c (.v (.int .i64 0)))) (
 .ite (.x 5)
  (.aJ (.one (.c (.v (.int .i64 (-1))))) (
  .aJ (.one (.c (.v (.int .i64 1)))) (
  .op (.kB (.v (.int .i64 0)) 2 [(0,(.c (.v (.int .i64 (-1))))),(1,(.c (.v (.int .i64 1))))]) (
  .op (.bp F.cf G.cf [(.ext 4 1),(.ext 4 2),(.ext 4 3),(.sl (.x 6))]) (
  .aJ (.one (.ext 7 0)) (
  .jump [(.ext 7 1),(.ext 7 2),(.ext 7 3),(.ext 3 6),(.ext 3 0),(.ext 7 0),(.ext 3 5)]))))))
  (.op (.bin .eql (.ext 4 0) (.c (.v (.int .i64 1)))) (
  .ite (.x 6)
   (.aJ (.one (.c (.v (.int .i64 1)))) (
   .aJ (.cells (.agg [(.c (.v (.int .i64 1))),(.c (.v (.int .i64 0))),(.c (.v (.string ⟨#[]⟩))),(.c .aw)]) 4) (
   .op (.kB (.agg [(.v (.int .i64 0)),(.v (.int .i64 0)),(.v (.string ⟨#[]⟩)),.aw]) 1 [(0,(.agg [(.c (.v (.int .i64 1))),(.c (.v (.int .i64 0))),(.c (.v (.string ⟨#[]⟩))),(.c .aw)]))]) (
   .op (.app 4 56 (.ext 3 6) (.sl (.x 7))) (
   .jump [(.ext 4 1),(.ext 4 2),(.ext 4 3),(.x 8),(.ext 3 0),(.ext 3 4),(.ext 3 5)])))))
   (.op (.bin .eql (.ext 4 0) (.c (.v (.int .i64 2)))) (
   .ite (.x 7)
    (.aJ (.one (.c (.v (.int .i64 0)))) (
    .aJ (.one (.c (.v (.int .i64 5)))) (
    .aJ (.one (.c (.v (.int .i64 7)))) (
    .aJ (.one (.c (.v (.int .i64 9)))) (
    .aJ (.one (.c (.v (.int .i64 12)))) (
    .op (.kB (.v (.int .i64 0)) 5 [(0,(.c (.v (.int .i64 0)))),(1,(.c (.v (.int .i64 5)))),(2,(.c (.v (.int .i64 7)))),(3,(.c (.v (.int .i64 9)))),(4,(.c (.v (.int .i64 12))))]) (
    .op (.bp F.cf G.cf [(.ext 4 1),(.ext 4 2),(.ext 4 3),(.sl (.x 8))]) (
    .aJ (.one (.ext 9 0)) (
    .jump [(.ext 9 1),(.ext 9 2),(.ext 9 3),(.ext 3 6),(.ext 9 0),(.ext 3 4),(.ext 3 5)])))))))))
    (.op (.bin .eql (.ext 4 0) (.c (.v (.int .i64 3)))) (
    .ite (.x 8)
     (.aJ (.one (.c (.v (.string ⟨#[]⟩)))) (
     .aJ (.one (.c (.v (.string ⟨#[120]⟩)))) (
     .aJ (.one (.c (.v (.string ⟨#[76,101,116]⟩)))) (
     .op (.kB (.v (.string ⟨#[]⟩)) 3 [(0,(.c (.v (.string ⟨#[]⟩)))),(1,(.c (.v (.string ⟨#[120]⟩)))),(2,(.c (.v (.string ⟨#[76,101,116]⟩))))]) (
     .op (.bp F.cd G.cd [(.ext 4 1),(.ext 4 2),(.ext 4 3),(.sl (.x 9))]) (
     .aJ (.one (.ext 10 0)) (
     .jump [(.ext 10 1),(.ext 10 2),(.ext 10 3),(.ext 3 6),(.ext 3 0),(.ext 3 4),(.ext 10 0)])))))))
     (.jump [(.ext 4 1),(.ext 4 2),(.ext 4 3),(.ext 3 6),(.ext 3 0),(.ext 3 4),(.ext 3 5)])))))))))) (
.aJ (.one (.x 8)) (
.aJ (.one (.x 9)) (
.aJ (.one (.x 10)) (
.ret [(.agg [(.x 8),(.x 9),(.x 10),(.sl (.x 7))]),(.x 4),(.x 5),(.x 6)]))))))))
theorem T.tr:jF Try.prog CF G.bD Try.f37=some T.bD:=by kernel_rfl
theorem T.qw{ins outs:List AV}(hl:ins.length=3)(ho:outs.length=4)(hn:AV.ad ins=true)(hw:bF Try.prog (λ _ _ _=>False) (λ a=>a=bz outs) T.bD ins []):gA Try.prog F.bD G.bD ins outs:=
 eI Try.func37 T.tr hl hn ho hw
def T.gL:T:=
.aJ (.cells (.x 0) 4) (
.op (.bM (.cell 0 3)) (
.bind 0 (
 .bind 1 (
  .op (.bin .neq (.cell 0 0) (.c (.v (.int .i64 7)))) (
  .ite (.x 2)
   (.op (.bin .neq (.cell 0 2) (.c (.v (.string ⟨#[]⟩)))) (
   .ite (.x 3)
    (.jump [(.c (.v (.bool true)))])
    (.op (.bin .lss (.cell 0 0) (.c (.v (.int .i64 9)))) (
    .ite (.x 4)
     (.op (.bin .neq (.cell 0 1) (.c (.v (.int .i64 0)))) (
     .jump [(.x 5)]))
     (.jump [(.c (.v (.bool false)))])))))
   (.op (.bin .lss (.cell 0 0) (.c (.v (.int .i64 9)))) (
   .ite (.x 3)
    (.op (.bin .neq (.cell 0 1) (.c (.v (.int .i64 0)))) (
    .jump [(.x 4)]))
    (.jump [(.c (.v (.bool false)))]))))) (
 .ite (.x 2)
  (.dM (.ret [(.c (.v (.bool false)))]))
  (.jump []))) (
.bind 0 (
 .bind 1 (
  .op (.bin .eql (.cell 0 0) (.c (.v (.int .i64 1)))) (
  .ite (.x 2)
   (.jump [(.x 2)])
   (.op (.bin .eql (.cell 0 0) (.c (.v (.int .i64 2)))) (
   .ite (.x 3)
    (.jump [(.x 3)])
    (.op (.bin .eql (.cell 0 0) (.c (.v (.int .i64 3)))) (
    .ite (.x 4)
     (.jump [(.x 4)])
     (.op (.bin .eql (.cell 0 0) (.c (.v (.int .i64 4)))) (
     .jump [(.x 5)])))))))) (
 .ite (.x 2)
  (.op (.bin .eql (.x 1) (.c (.v (.int .i64 0)))) (
  .dM (.ret [(.x 3)])))
  (.op (.bin .eql (.cell 0 0) (.c (.v (.int .i64 5)))) (
  .ite (.x 3)
   (.op (.bin .eql (.x 1) (.c (.v (.int .i64 2)))) (
   .dM (.ret [(.x 4)])))
   (.op (.bin .eql (.cell 0 0) (.c (.v (.int .i64 6)))) (
   .ite (.x 4)
    (.op (.bin .geq (.x 1) (.c (.v (.int .i64 2)))) (
    .dM (.ret [(.x 5)])))
    (.op (.bin .eql (.cell 0 0) (.c (.v (.int .i64 7)))) (
    .ite (.x 5)
     (.op (.call F.iO [(.cell 0 2)] false) (
     .dM (.ret [(.x 6)])))
     (.op (.bin .eql (.cell 0 0) (.c (.v (.int .i64 8)))) (
     .ite (.x 6)
      (.op (.bin .eql (.x 1) (.c (.v (.int .i64 1)))) (
      .dM (.ret [(.x 7)])))
      (.bind 1 (
       .op (.bin .eql (.cell 0 0) (.c (.v (.int .i64 9)))) (
       .ite (.x 7)
        (.jump [(.x 7)])
        (.op (.bin .eql (.cell 0 0) (.c (.v (.int .i64 10)))) (
        .ite (.x 8)
         (.jump [(.x 8)])
         (.op (.bin .eql (.cell 0 0) (.c (.v (.int .i64 11)))) (
         .jump [(.x 9)])))))) (
      .ite (.x 7)
       (.bind 1 (
        .op (.bin .eql (.x 1) (.c (.v (.int .i64 0)))) (
        .ite (.x 8)
         (.op (.bin .geq (.cell 0 1) (.c (.v (.int .i64 0)))) (
         .jump [(.x 9)]))
         (.jump [(.c (.v (.bool false)))]))) (
       .dM (.ret [(.x 8)])))
       (.jump []))))))))))))) (
.ret [(.c (.v (.bool false)))]))))
theorem T.zb:cB Try.prog CF Try.f38=some (1,T.gL):=by kernel_rfl
theorem T.vj{args:List AV}{res:AV}(hl:args.length=1)(hn:AV.ad args=true)(hw:bF Try.prog (λ _ _ _=>False) (λ a=>a=res) T.gL args []):a7 Try.prog F.gL args res:=
 aZ Try.func38 T.zb hl hn hw
def T.fB:T:=
.bind 1 (
 .op (.bin .geq (.x 0) (.x 1)) (
 .ite (.x 3)
  (.op (.bin .leq (.x 0) (.x 2)) (
  .jump [(.x 4)]))
  (.jump [(.c (.v (.bool false)))]))) (
.ret [(.x 3)])
theorem T.acX:cB Try.prog CF Try.f39=some (3,T.fB):=by kernel_rfl
theorem T.zl{args:List AV}{res:AV}(hl:args.length=3)(hn:AV.ad args=true)(hw:bF Try.prog (λ _ _ _=>False) (λ a=>a=res) T.fB args []):a7 Try.prog F.fB args res:=
 aZ Try.func39 T.acX hl hn hw
def T.cw:T:=
.aJ (.cells (.x 0) 4) (
.bind 1 (
 .bind 1 (
  .op (.bin .eql (.cell 0 0) (.x 1)) (
  .ite (.x 3)
   (.op (.call F.iM [(.sl (.x 2)),(.cell 0 1)] true) (
   .op (.un .not (.x 4)) (
   .jump [(.x 5)])))
   (.jump [(.c (.v (.bool false)))]))) (
 .ite (.x 3)
  (.aJ (.one (.cell 0 1)) (
  .op (.kB (.v (.int .i64 0)) 1 [(0,(.cell 0 1))]) (
  .op (.app 1 8 (.x 2) (.sl (.x 4))) (
  .jump [(.x 5)]))))
  (.jump [(.x 2)]))) (
.bind 1 (
 .loop [(.x 3),(.c (.v (.int .i64 0)))] (
  .op (.bM (.cell 0 3)) (
  .op (.bin .lss (.x 5) (.x 6)) (
  .ite (.x 7)
   (.op (.elem 4 (.cell 0 3) (.x 5)) (
   .aJ (.cells (.x 8) 4) (
   .op (.bp F.cw G.cw [(.x 8),(.x 1),(.x 4)]) (
   .op (.bin .add (.x 5) (.c (.v (.int .i64 1)))) (
   .jump [(.ext 9 0),(.x 10)])))))
   (.dM (.jump [(.x 4)])))))) (
.ret [(.x 4)])))
theorem T.zd:jF Try.prog CF G.cw Try.f40=some T.cw:=by kernel_rfl
theorem T.tn{ins outs:List AV}(hl:ins.length=3)(ho:outs.length=1)(hn:AV.ad ins=true)(hw:bF Try.prog (λ _ _ _=>False) (λ a=>a=bz outs) T.cw ins []):gA Try.prog F.cw G.cw ins outs:=
 eI Try.func40 T.zd hl hn ho hw
def T.cM:T:=
.op (.call F.fh [(.x 0),(.c (.v (.int .i64 9))),(.c (.v (.int .i64 11)))] false) (
.ret [(.x 1)])
theorem T.tV:cB Try.prog CF Try.f49=some (1,T.cM):=by kernel_rfl
theorem T.mb{args:List AV}{res:AV}(hl:args.length=1)(hn:AV.ad args=true)(hw:bF Try.prog (λ _ _ _=>False) (λ a=>a=res) T.cM args []):a7 Try.prog F.cM args res:=
 aZ Try.func49 T.tV hl hn hw
def T.fj:T:=
.aJ (.cells (.x 0) 4) (
.aJ (.one (.c .aw)) (
.bind 1 (
 .op (.bM (.cell 0 3)) (
 .loop [(.c (.sl [])),(.c (.v (.int .i64 0)))] (
  .op (.bin .lss (.x 3) (.x 1)) (
  .ite (.x 4)
   (.op (.elem 4 (.cell 0 3) (.x 3)) (
   .aJ (.cells (.x 5) 4) (
   .aJ (.cells (.x 5) 4) (
   .aJ (.cells (.x 5) 4) (
   .op (.call F.fj [(.x 5)] false) (
   .aJ (.cells (.x 6) 4) (
   .op (.kB (.agg [(.v (.int .i64 0)),(.v (.int .i64 0)),(.v (.string ⟨#[]⟩)),.aw]) 1 [(0,(.x 6))]) (
   .op (.app 4 56 (.x 2) (.x 7)) (
   .op (.bin .add (.x 3) (.c (.v (.int .i64 1)))) (
   .jump [(.x 8),(.x 9)]))))))))))
   (.dM (.jump [(.x 2)])))))) (
.aJ (.one (.cell 0 0)) (
.aJ (.one (.cell 0 1)) (
.aJ (.one (.cell 0 2)) (
.ret [(.agg [(.cell 0 0),(.cell 0 1),(.cell 0 2),(.sl (.x 1))])]))))))
theorem T.zB:cB Try.prog CF Try.f50=some (1,T.fj):=by kernel_rfl
theorem T.vH{args:List AV}{res:AV}(hl:args.length=1)(hn:AV.ad args=true)(hw:bF Try.prog (λ _ _ _=>False) (λ a=>a=res) T.fj args []):a7 Try.prog F.fj args res:=
 aZ Try.func50 T.zB hl hn hw
def T.kE:T:=
.aJ (.cells (.x 0) 4) (
.bind 0 (
 .bind 1 (
  .op (.bin .eql (.cell 0 0) (.x 1)) (
  .ite (.x 3)
   (.op (.bM (.x 2)) (
   .op (.bin .lss (.cell 0 1) (.x 4)) (
   .jump [(.x 5)])))
   (.jump [(.c (.v (.bool false)))]))) (
 .ite (.x 3)
  (.op (.elem 4 (.x 2) (.cell 0 1)) (
  .aJ (.cells (.x 4) 4) (
  .op (.call F.fj [(.x 4)] false) (
  .aJ (.cells (.x 5) 4) (
  .dM (.ret [(.agg [(.cell 5 0),(.cell 5 1),(.cell 5 2),(.cell 5 3)])]))))))
  (.jump []))) (
.aJ (.cells (.x 0) 4) (
.aJ (.cells (.x 0) 4) (
.aJ (.one (.c .aw)) (
.bind 1 (
 .op (.bM (.cell 0 3)) (
 .loop [(.c (.sl [])),(.c (.v (.int .i64 0)))] (
  .op (.bin .lss (.x 5) (.x 3)) (
  .ite (.x 6)
   (.op (.elem 4 (.cell 0 3) (.x 5)) (
   .aJ (.cells (.x 7) 4) (
   .aJ (.cells (.x 7) 4) (
   .aJ (.cells (.x 7) 4) (
   .op (.call F.kE [(.x 7),(.x 1),(.x 2)] false) (
   .aJ (.cells (.x 8) 4) (
   .op (.kB (.agg [(.v (.int .i64 0)),(.v (.int .i64 0)),(.v (.string ⟨#[]⟩)),.aw]) 1 [(0,(.x 8))]) (
   .op (.app 4 56 (.x 4) (.x 9)) (
   .op (.bin .add (.x 5) (.c (.v (.int .i64 1)))) (
   .jump [(.x 10),(.x 11)]))))))))))
   (.dM (.jump [(.x 4)])))))) (
.aJ (.one (.cell 0 0)) (
.aJ (.one (.cell 0 1)) (
.aJ (.one (.cell 0 2)) (
.ret [(.agg [(.cell 0 0),(.cell 0 1),(.cell 0 2),(.sl (.x 3))])])))))))))
theorem T.agd:cB Try.prog CF Try.f51=some (3,T.kE):=by kernel_rfl
theorem T.abV{args:List AV}{res:AV}(hl:args.length=3)(hn:AV.ad args=true)(hw:bF Try.prog (λ _ _ _=>False) (λ a=>a=res) T.kE args []):a7 Try.prog F.kE args res:=
 aZ Try.func51 T.agd hl hn hw
def T.aM:T:=
.op (.bM (.x 0)) (
.op (.bM (.x 1)) (
.op (.bin .neq (.x 3) (.x 4)) (
.ite (.x 5)
 (.ret [(.c (.v (.bool false)))])
 (.bind 0 (
  .op (.bM (.x 0)) (
  .loop [(.c (.v (.int .i64 0)))] (
   .op (.bin .lss (.x 7) (.x 6)) (
   .ite (.x 8)
    (.op (.elem 4 (.x 0) (.x 7)) (
    .aJ (.cells (.x 9) 4) (
    .aJ (.cells (.x 9) 4) (
    .op (.elem 4 (.x 1) (.x 7)) (
    .aJ (.cells (.x 10) 4) (
    .aJ (.cells (.x 10) 4) (
    .aJ (.cells (.x 9) 4) (
    .aJ (.cells (.x 10) 4) (
    .op (.eu (.x 2) [(.x 9),(.x 10)] false) (
    .op (.un .not (.x 11)) (
    .ite (.x 12)
     (.dM (.dM (.ret [(.c (.v (.bool false)))])))
     (.op (.bin .add (.x 7) (.c (.v (.int .i64 1)))) (
     .jump [(.x 13)])))))))))))))
    (.dM (.jump [])))))) (
 .ret [(.c (.v (.bool true)))])))))
theorem T.ez:cB Try.prog CF Try.f52=some (3,T.aM):=by kernel_rfl
theorem T.ec{args:List AV}{res:AV}(hl:args.length=3)(hn:AV.ad args=true)(hw:bF Try.prog (λ _ _ _=>False) (λ a=>a=res) T.aM args []):a7 Try.prog F.aM args res:=
 aZ Try.func52 T.ez hl hn hw
def T.gM:T:=
.aJ (.cells (.x 0) 4) (
.aJ (.cells (.x 1) 4) (
.bind 0 (
 .bind 1 (
  .op (.bin .neq (.cell 0 0) (.cell 1 0)) (
  .ite (.x 2)
   (.jump [(.c (.v (.bool true)))])
   (.op (.bin .neq (.cell 0 1) (.cell 1 1)) (
   .ite (.x 3)
    (.jump [(.c (.v (.bool true)))])
    (.op (.bin .neq (.cell 0 2) (.cell 1 2)) (
    .ite (.x 4)
     (.jump [(.c (.v (.bool true)))])
     (.op (.bM (.cell 0 3)) (
     .op (.bM (.cell 1 3)) (
     .op (.bin .neq (.x 5) (.x 6)) (
     .jump [(.x 7)])))))))))) (
 .ite (.x 2)
  (.dM (.ret [(.c (.v (.bool false)))]))
  (.jump []))) (
.bind 0 (
 .loop [(.c (.v (.int .i64 0)))] (
  .op (.bM (.cell 0 3)) (
  .op (.bin .lss (.x 2) (.x 3)) (
  .ite (.x 4)
   (.op (.elem 4 (.cell 0 3) (.x 2)) (
   .aJ (.cells (.x 5) 4) (
   .op (.elem 4 (.cell 1 3) (.x 2)) (
   .aJ (.cells (.x 6) 4) (
   .op (.call F.gM [(.x 5),(.x 6)] true) (
   .op (.un .not (.x 7)) (
   .ite (.x 8)
    (.dM (.dM (.ret [(.c (.v (.bool false)))])))
    (.op (.bin .add (.x 2) (.c (.v (.int .i64 1)))) (
    .jump [(.x 9)])))))))))
   (.dM (.jump [])))))) (
.ret [(.c (.v (.bool true)))]))))
theorem T.zp:cB Try.prog CF Try.f61=some (2,T.gM):=by kernel_rfl
theorem T.vr{args:List AV}{res:AV}(hl:args.length=2)(hn:AV.ad args=true)(hw:bF Try.prog (λ _ _ _=>False) (λ a=>a=res) T.gM args []):a7 Try.prog F.gM args res:=
 aZ Try.func61 T.zp hl hn hw
def T.fq:T:=
.aJ (.cells (.x 0) 4) (
.op (.bM (.cell 0 3)) (
.op (.bin .eql (.x 1) (.c (.v (.int .i64 0)))) (
.op (.bin .eql (.cell 0 2) (.c (.v (.string ⟨#[]⟩)))) (
.op (.bin .eql (.cell 0 1) (.c (.v (.int .i64 0)))) (
.bind 3 (
 .bind 1 (
  .op (.bin .eql (.cell 0 0) (.c (.v (.int .i64 1)))) (
  .ite (.x 5)
   (.jump [(.x 5)])
   (.op (.bin .eql (.cell 0 0) (.c (.v (.int .i64 2)))) (
   .ite (.x 6)
    (.jump [(.x 6)])
    (.op (.bin .eql (.cell 0 0) (.c (.v (.int .i64 3)))) (
    .ite (.x 7)
     (.jump [(.x 7)])
     (.op (.bin .eql (.cell 0 0) (.c (.v (.int .i64 4)))) (
     .jump [(.x 8)])))))))) (
 .ite (.x 5)
  (.jump [(.x 2),(.x 3),(.x 4)])
  (.op (.bin .eql (.cell 0 0) (.c (.v (.int .i64 5)))) (
  .ite (.x 6)
   (.op (.bM (.cell 0 3)) (
   .op (.bin .eql (.x 7) (.c (.v (.int .i64 2)))) (
   .jump [(.x 8),(.x 3),(.x 4)])))
   (.op (.bin .eql (.cell 0 0) (.c (.v (.int .i64 6)))) (
   .ite (.x 7)
    (.op (.bM (.cell 0 3)) (
    .op (.bin .geq (.x 8) (.c (.v (.int .i64 2)))) (
    .jump [(.x 9),(.x 3),(.x 4)])))
    (.op (.bin .eql (.cell 0 0) (.c (.v (.int .i64 7)))) (
    .ite (.x 8)
     (.op (.call F.iW [(.cell 0 2)] false) (
     .jump [(.c (.v (.bool true))),(.x 9),(.x 4)]))
     (.op (.bin .eql (.cell 0 0) (.c (.v (.int .i64 8)))) (
     .ite (.x 9)
      (.op (.bM (.cell 0 3)) (
      .op (.bin .eql (.x 10) (.c (.v (.int .i64 1)))) (
      .jump [(.x 11),(.x 3),(.x 4)])))
      (.bind 1 (
       .op (.bin .eql (.cell 0 0) (.c (.v (.int .i64 9)))) (
       .ite (.x 10)
        (.jump [(.x 10)])
        (.op (.bin .eql (.cell 0 0) (.c (.v (.int .i64 10)))) (
        .ite (.x 11)
         (.jump [(.x 11)])
         (.op (.bin .eql (.cell 0 0) (.c (.v (.int .i64 11)))) (
         .jump [(.x 12)])))))) (
      .ite (.x 10)
       (.op (.bin .geq (.cell 0 1) (.c (.v (.int .i64 0)))) (
       .jump [(.x 2),(.x 3),(.x 11)]))
       (.dM (.ret [(.c (.v (.bool false)))])))))))))))))) (
.bind 1 (
 .ite (.x 5)
  (.ite (.x 6)
   (.jump [(.x 7)])
   (.jump [(.c (.v (.bool false)))]))
  (.jump [(.c (.v (.bool false)))])) (
.ret [(.x 8)])))))))
theorem T.vz:cB Try.prog CF Try.f62=some (1,T.fq):=by kernel_rfl
theorem T.sO{args:List AV}{res:AV}(hl:args.length=1)(hn:AV.ad args=true)(hw:bF Try.prog (λ _ _ _=>False) (λ a=>a=res) T.fq args []):a7 Try.prog F.fq args res:=
 aZ Try.func62 T.vz hl hn hw
def T.bk:T:=
.op (.call F.br [(.x 0),(.x 1)] false) (
.op (.bin .geq (.x 2) (.c (.v (.int .i64 0)))) (
.ret [(.x 3)]))
theorem T.gN:cB Try.prog CF Try.f63=some (2,T.bk):=by kernel_rfl
theorem T.gE{args:List AV}{res:AV}(hl:args.length=2)(hn:AV.ad args=true)(hw:bF Try.prog (λ _ _ _=>False) (λ a=>a=res) T.bk args []):a7 Try.prog F.bk args res:=
 aZ Try.func63 T.gN hl hn hw
def T.gW:T:=
.aJ (.cells (.x 0) 4) (
.aJ (.cells (.x 0) 4) (
.op (.call F.gC [(.x 0)] false) (
.op (.un .not (.x 1)) (
.ret [(.x 2)]))))
theorem T.zF:cB Try.prog CF Try.f64=some (1,T.gW):=by kernel_rfl
theorem T.vL{args:List AV}{res:AV}(hl:args.length=1)(hn:AV.ad args=true)(hw:bF Try.prog (λ _ _ _=>False) (λ a=>a=res) T.gW args []):a7 Try.prog F.gW args res:=
 aZ Try.func64 T.zF hl hn hw
def T.gV:T:=
.aJ (.cells (.x 0) 4) (
.bind 1 (
 .op (.bin .eql (.cell 0 0) (.x 1)) (
 .ite (.x 2)
  (.aJ (.one (.cell 0 1)) (
  .op (.kB (.v (.int .i64 0)) 1 [(0,(.cell 0 1))]) (
  .op (.app 1 8 (.c (.sl [])) (.sl (.x 3))) (
  .jump [(.x 4)]))))
  (.jump [(.c (.sl []))]))) (
.bind 1 (
 .op (.bM (.cell 0 3)) (
 .loop [(.x 2),(.c (.v (.int .i64 0)))] (
  .op (.bin .lss (.x 5) (.x 3)) (
  .ite (.x 6)
   (.bind 6 (
    .op (.elem 4 (.cell 0 3) (.x 5)) (
    .aJ (.cells (.x 7) 4) (
    .aJ (.cells (.x 7) 4) (
    .aJ (.cells (.x 7) 4) (
    .op (.eV true 3 1 F.gV [(.x 7),(.x 1)]) (
    .op (.bM (.sl (.x 8))) (
    .loop [(.x 4),(.c (.v (.int .i64 0)))] (
     .op (.bin .lss (.x 11) (.x 9)) (
     .ite (.x 12)
      (.bind 1 (
       .aJ (.idx (.x 8) (.x 11)) (
       .op (.get (.x 8) (.x 11) 0 none) (
       .op (.call F.cv [(.sl (.x 10)),(.x 13)] true) (
       .op (.un .not (.x 14)) (
       .ite (.x 15)
        (.aJ (.one (.x 13)) (
        .op (.kB (.v (.int .i64 0)) 1 [(0,(.x 13))]) (
        .op (.app 1 8 (.x 10) (.sl (.x 16))) (
        .jump [(.x 17)]))))
        (.jump [(.x 10)])))))) (
      .op (.bin .add (.x 11) (.c (.v (.int .i64 1)))) (
      .jump [(.x 13),(.x 14)])))
      (.dM (.jump [(.x 10),(.cell 7 0),(.cell 7 1),(.cell 7 2),(.cell 7 3),(.x 8)]))))))))))) (
   .op (.bin .add (.x 5) (.c (.v (.int .i64 1)))) (
   .jump [(.x 7),(.x 13)])))
   (.dM (.jump [(.x 4)])))))) (
.ret [(.sl (.x 3))])))
theorem T.ab3:sG Try.prog CF true 3 1 Try.f65=some (2,T.gV):=by kernel_rfl
theorem T.vF{args xs:List AV}(hl:args.length=2)(hn:AV.ad args=true)(hw:bF Try.prog (λ _ _ _=>False) (λ a=>a= .sl xs) T.gV args []):tf Try.prog F.gV args true 3 1 xs:=
 ue Try.func65 T.ab3 hl hn hw
def T.aO:T:=
.bind 3 (
 .bind 4 (
  .op (.bin .leq (.x 3) (.c (.v (.int .i64 0)))) (
  .ite (.x 5)
   (.jump [(.x 0),(.x 1),(.x 2),(.c (.v (.bool true)))])
   (.op (.bp F.bO G.bO [(.x 0),(.x 1),(.x 2),(.c (.v (.int .i64 4)))]) (
   .jump [(.ext 6 1),(.ext 6 2),(.ext 6 3),(.ext 6 0)])))) (
 .ite (.x 8)
  (.bind 3 (
   .op (.bp F.aj G.aj [(.x 5),(.x 6),(.x 7),(.c (.v (.int .i64 8)))]) (
   .bind 1 (
    .op (.bin .eql (.ext 9 0) (.c (.v (.int .i64 0)))) (
    .ite (.x 10)
     (.jump [(.x 10)])
     (.op (.bin .eql (.ext 9 0) (.c (.v (.int .i64 1)))) (
     .ite (.x 11)
      (.jump [(.x 11)])
      (.op (.bin .eql (.ext 9 0) (.c (.v (.int .i64 2)))) (
      .ite (.x 12)
       (.jump [(.x 12)])
       (.op (.bin .eql (.ext 9 0) (.c (.v (.int .i64 3)))) (
       .jump [(.x 13)])))))))) (
   .ite (.x 10)
    (.op (.bin .gtr (.x 4) (.c (.v (.int .i64 0)))) (
    .ite (.x 11)
     (.op (.bp F.aj G.aj [(.ext 9 1),(.ext 9 2),(.ext 9 3),(.x 4)]) (
     .aJ (.one (.c (.v (.int .i64 11)))) (
     .aJ (.one (.ext 12 0)) (
     .aJ (.cells (.agg [(.c (.v (.int .i64 11))),(.ext 12 0),(.c (.v (.string ⟨#[]⟩))),(.c .aw)]) 4) (
     .dM (.dM (.ret [(.c (.v (.int .i64 11))),(.ext 12 1),(.ext 12 2),(.ext 12 3),(.ext 12 0),(.c (.v (.string ⟨#[]⟩))),(.c (.sl []))])))))))
     (.jump [(.ext 9 1),(.ext 9 2),(.ext 9 3)])))
    (.op (.bin .eql (.ext 9 0) (.c (.v (.int .i64 4)))) (
    .ite (.x 11)
     (.op (.bp F.aj G.aj [(.ext 9 1),(.ext 9 2),(.ext 9 3),(.c (.v (.int .i64 2)))]) (
     .aJ (.one (.c (.v (.int .i64 9)))) (
     .aJ (.one (.ext 12 0)) (
     .aJ (.cells (.agg [(.c (.v (.int .i64 9))),(.ext 12 0),(.c (.v (.string ⟨#[]⟩))),(.c .aw)]) 4) (
     .dM (.dM (.ret [(.c (.v (.int .i64 9))),(.ext 12 1),(.ext 12 2),(.ext 12 3),(.ext 12 0),(.c (.v (.string ⟨#[]⟩))),(.c (.sl []))])))))))
     (.op (.bin .eql (.ext 9 0) (.c (.v (.int .i64 5)))) (
     .ite (.x 12)
      (.op (.bp F.aj G.aj [(.ext 9 1),(.ext 9 2),(.ext 9 3),(.c (.v (.int .i64 2)))]) (
      .aJ (.one (.c (.v (.int .i64 10)))) (
      .aJ (.one (.ext 13 0)) (
      .aJ (.cells (.agg [(.c (.v (.int .i64 10))),(.ext 13 0),(.c (.v (.string ⟨#[]⟩))),(.c .aw)]) 4) (
      .dM (.dM (.ret [(.c (.v (.int .i64 10))),(.ext 13 1),(.ext 13 2),(.ext 13 3),(.ext 13 0),(.c (.v (.string ⟨#[]⟩))),(.c (.sl []))])))))))
      (.jump [(.ext 9 1),(.ext 9 2),(.ext 9 3)])))))))) (
  .op (.bp F.aj G.aj [(.x 9),(.x 10),(.x 11),(.c (.v (.int .i64 4)))]) (
  .op (.bin .add (.c (.v (.int .i64 1))) (.ext 12 0)) (
  .aJ (.one (.x 13)) (
  .aJ (.cells (.agg [(.x 13),(.c (.v (.int .i64 0))),(.c (.v (.string ⟨#[]⟩))),(.c .aw)]) 4) (
  .dM (.ret [(.x 13),(.ext 12 1),(.ext 12 2),(.ext 12 3),(.c (.v (.int .i64 0))),(.c (.v (.string ⟨#[]⟩))),(.c (.sl []))])))))))
  (.jump [(.x 5),(.x 6),(.x 7)]))) (
.op (.bp F.aj G.aj [(.x 5),(.x 6),(.x 7),(.c (.v (.int .i64 4)))]) (
.op (.bin .add (.c (.v (.int .i64 5))) (.ext 8 0)) (
.aJ (.one (.x 9)) (
.aJ (.cells (.agg [(.x 9),(.c (.v (.int .i64 0))),(.c (.v (.string ⟨#[]⟩))),(.c .aw)]) 4) (
.bind 5 (
 .op (.bin .eql (.x 9) (.c (.v (.int .i64 6)))) (
 .ite (.x 10)
  (.op (.bp F.aj G.aj [(.ext 8 1),(.ext 8 2),(.ext 8 3),(.c (.v (.int .i64 2)))]) (
  .op (.bin .add (.c (.v (.int .i64 2))) (.ext 11 0)) (
  .jump [(.ext 11 1),(.ext 11 2),(.ext 11 3),(.c (.v (.string ⟨#[]⟩))),(.x 12)])))
  (.op (.bin .eql (.x 9) (.c (.v (.int .i64 7)))) (
  .ite (.x 11)
   (.aJ (.one (.c (.v (.string ⟨#[116]⟩)))) (
   .aJ (.one (.c (.v (.string ⟨#[108,105,115,116]⟩)))) (
   .aJ (.one (.c (.v (.string ⟨#[117]⟩)))) (
   .op (.kB (.v (.string ⟨#[]⟩)) 3 [(0,(.c (.v (.string ⟨#[116]⟩)))),(1,(.c (.v (.string ⟨#[108,105,115,116]⟩)))),(2,(.c (.v (.string ⟨#[117]⟩))))]) (
   .op (.bp F.cd G.cd [(.ext 8 1),(.ext 8 2),(.ext 8 3),(.sl (.x 12))]) (
   .aJ (.one (.ext 13 0)) (
   .op (.bp F.aj G.aj [(.ext 13 1),(.ext 13 2),(.ext 13 3),(.c (.v (.int .i64 3)))]) (
   .jump [(.ext 14 1),(.ext 14 2),(.ext 14 3),(.ext 13 0),(.ext 14 0)]))))))))
   (.op (.bin .eql (.x 9) (.c (.v (.int .i64 8)))) (
   .ite (.x 12)
    (.jump [(.ext 8 1),(.ext 8 2),(.ext 8 3),(.c (.v (.string ⟨#[]⟩))),(.c (.v (.int .i64 1)))])
    (.jump [(.ext 8 1),(.ext 8 2),(.ext 8 3),(.c (.v (.string ⟨#[]⟩))),(.c (.v (.int .i64 2)))]))))))) (
.bind 4 (
 .loop [(.x 10),(.x 11),(.x 12),(.c (.sl [])),(.c (.v (.int .i64 0)))] (
  .op (.bin .lss (.x 19) (.x 14)) (
  .ite (.x 20)
   (.op (.bin .sub (.x 3) (.c (.v (.int .i64 1)))) (
   .op (.bp F.aO G.bu [(.x 15),(.x 16),(.x 17),(.x 21),(.x 4)]) (
   .aJ (.cells (.ext 22 0) 4) (
   .op (.kB (.agg [(.v (.int .i64 0)),(.v (.int .i64 0)),(.v (.string ⟨#[]⟩)),.aw]) 1 [(0,(.ext 22 0))]) (
   .op (.app 4 56 (.x 18) (.x 23)) (
   .op (.bin .add (.x 19) (.c (.v (.int .i64 1)))) (
   .jump [(.ext 22 1),(.ext 22 2),(.ext 22 3),(.x 24),(.x 25)])))))))
   (.dM (.jump [(.x 15),(.x 16),(.x 17),(.x 18)]))))) (
.aJ (.one (.x 9)) (
.aJ (.one (.c (.v (.int .i64 0)))) (
.aJ (.one (.x 13)) (
.ret [(.x 9),(.x 15),(.x 16),(.x 17),(.c (.v (.int .i64 0))),(.x 13),(.x 18)]))))))))))
theorem T.ze:jF Try.prog CF G.aO Try.f66=some T.aO:=by kernel_rfl
theorem T.ny{ins outs:List AV}(hl:ins.length=5)(ho:outs.length=7)(hn:AV.ad ins=true)(hw:bF Try.prog (λ _ _ _=>False) (λ a=>a=bz outs) T.aO ins []):gA Try.prog F.aO G.aO ins outs:=
 eI Try.func66 T.ze hl hn ho hw
def T.bu:T:=
.bind 3 (
 .bind 4 (
  .op (.bin .leq (.x 3) (.c (.v (.int .i64 0)))) (
  .ite (.x 5)
   (.jump [(.x 0),(.x 1),(.x 2),(.c (.v (.bool true)))])
   (.op (.bp F.bO G.bO [(.x 0),(.x 1),(.x 2),(.c (.v (.int .i64 4)))]) (
   .jump [(.ext 6 1),(.ext 6 2),(.ext 6 3),(.ext 6 0)])))) (
 .ite (.x 8)
  (.bind 3 (
   .op (.bp F.aj G.aj [(.x 5),(.x 6),(.x 7),(.c (.v (.int .i64 8)))]) (
   .bind 1 (
    .op (.bin .eql (.ext 9 0) (.c (.v (.int .i64 0)))) (
    .ite (.x 10)
     (.jump [(.x 10)])
     (.op (.bin .eql (.ext 9 0) (.c (.v (.int .i64 1)))) (
     .ite (.x 11)
      (.jump [(.x 11)])
      (.op (.bin .eql (.ext 9 0) (.c (.v (.int .i64 2)))) (
      .ite (.x 12)
       (.jump [(.x 12)])
       (.op (.bin .eql (.ext 9 0) (.c (.v (.int .i64 3)))) (
       .jump [(.x 13)])))))))) (
   .ite (.x 10)
    (.op (.bin .gtr (.x 4) (.c (.v (.int .i64 0)))) (
    .ite (.x 11)
     (.op (.bp F.aj G.aj [(.ext 9 1),(.ext 9 2),(.ext 9 3),(.x 4)]) (
     .aJ (.one (.c (.v (.int .i64 11)))) (
     .aJ (.one (.ext 12 0)) (
     .aJ (.cells (.agg [(.c (.v (.int .i64 11))),(.ext 12 0),(.c (.v (.string ⟨#[]⟩))),(.c .aw)]) 4) (
     .dM (.dM (.ret [(.agg [(.c (.v (.int .i64 11))),(.ext 12 0),(.c (.v (.string ⟨#[]⟩))),(.c .aw)]),(.ext 12 1),(.ext 12 2),(.ext 12 3)])))))))
     (.jump [(.ext 9 1),(.ext 9 2),(.ext 9 3)])))
    (.op (.bin .eql (.ext 9 0) (.c (.v (.int .i64 4)))) (
    .ite (.x 11)
     (.op (.bp F.aj G.aj [(.ext 9 1),(.ext 9 2),(.ext 9 3),(.c (.v (.int .i64 2)))]) (
     .aJ (.one (.c (.v (.int .i64 9)))) (
     .aJ (.one (.ext 12 0)) (
     .aJ (.cells (.agg [(.c (.v (.int .i64 9))),(.ext 12 0),(.c (.v (.string ⟨#[]⟩))),(.c .aw)]) 4) (
     .dM (.dM (.ret [(.agg [(.c (.v (.int .i64 9))),(.ext 12 0),(.c (.v (.string ⟨#[]⟩))),(.c .aw)]),(.ext 12 1),(.ext 12 2),(.ext 12 3)])))))))
     (.op (.bin .eql (.ext 9 0) (.c (.v (.int .i64 5)))) (
     .ite (.x 12)
      (.op (.bp F.aj G.aj [(.ext 9 1),(.ext 9 2),(.ext 9 3),(.c (.v (.int .i64 2)))]) (
      .aJ (.one (.c (.v (.int .i64 10)))) (
      .aJ (.one (.ext 13 0)) (
      .aJ (.cells (.agg [(.c (.v (.int .i64 10))),(.ext 13 0),(.c (.v (.string ⟨#[]⟩))),(.c .aw)]) 4) (
      .dM (.dM (.ret [(.agg [(.c (.v (.int .i64 10))),(.ext 13 0),(.c (.v (.string ⟨#[]⟩))),(.c .aw)]),(.ext 13 1),(.ext 13 2),(.ext 13 3)])))))))
      (.jump [(.ext 9 1),(.ext 9 2),(.ext 9 3)])))))))) (
  .op (.bp F.aj G.aj [(.x 9),(.x 10),(.x 11),(.c (.v (.int .i64 4)))]) (
  .op (.bin .add (.c (.v (.int .i64 1))) (.ext 12 0)) (
  .aJ (.one (.x 13)) (
  .aJ (.cells (.agg [(.x 13),(.c (.v (.int .i64 0))),(.c (.v (.string ⟨#[]⟩))),(.c .aw)]) 4) (
  .dM (.ret [(.agg [(.x 13),(.c (.v (.int .i64 0))),(.c (.v (.string ⟨#[]⟩))),(.c .aw)]),(.ext 12 1),(.ext 12 2),(.ext 12 3)])))))))
  (.jump [(.x 5),(.x 6),(.x 7)]))) (
.op (.bp F.aj G.aj [(.x 5),(.x 6),(.x 7),(.c (.v (.int .i64 4)))]) (
.op (.bin .add (.c (.v (.int .i64 5))) (.ext 8 0)) (
.aJ (.one (.x 9)) (
.aJ (.cells (.agg [(.x 9),(.c (.v (.int .i64 0))),(.c (.v (.string ⟨#[]⟩))),(.c .aw)]) 4) (
.bind 5 (
 .op (.bin .eql (.x 9) (.c (.v (.int .i64 6)))) (
 .ite (.x 10)
  (.op (.bp F.aj G.aj [(.ext 8 1),(.ext 8 2),(.ext 8 3),(.c (.v (.int .i64 2)))]) (
  .op (.bin .add (.c (.v (.int .i64 2))) (.ext 11 0)) (
  .jump [(.ext 11 1),(.ext 11 2),(.ext 11 3),(.c (.v (.string ⟨#[]⟩))),(.x 12)])))
  (.op (.bin .eql (.x 9) (.c (.v (.int .i64 7)))) (
  .ite (.x 11)
   (.aJ (.one (.c (.v (.string ⟨#[116]⟩)))) (
   .aJ (.one (.c (.v (.string ⟨#[108,105,115,116]⟩)))) (
   .aJ (.one (.c (.v (.string ⟨#[117]⟩)))) (
   .op (.kB (.v (.string ⟨#[]⟩)) 3 [(0,(.c (.v (.string ⟨#[116]⟩)))),(1,(.c (.v (.string ⟨#[108,105,115,116]⟩)))),(2,(.c (.v (.string ⟨#[117]⟩))))]) (
   .op (.bp F.cd G.cd [(.ext 8 1),(.ext 8 2),(.ext 8 3),(.sl (.x 12))]) (
   .aJ (.one (.ext 13 0)) (
   .op (.bp F.aj G.aj [(.ext 13 1),(.ext 13 2),(.ext 13 3),(.c (.v (.int .i64 3)))]) (
   .jump [(.ext 14 1),(.ext 14 2),(.ext 14 3),(.ext 13 0),(.ext 14 0)]))))))))
   (.op (.bin .eql (.x 9) (.c (.v (.int .i64 8)))) (
   .ite (.x 12)
    (.jump [(.ext 8 1),(.ext 8 2),(.ext 8 3),(.c (.v (.string ⟨#[]⟩))),(.c (.v (.int .i64 1)))])
    (.jump [(.ext 8 1),(.ext 8 2),(.ext 8 3),(.c (.v (.string ⟨#[]⟩))),(.c (.v (.int .i64 2)))]))))))) (
.bind 4 (
 .loop [(.x 10),(.x 11),(.x 12),(.c (.sl [])),(.c (.v (.int .i64 0)))] (
  .op (.bin .lss (.x 19) (.x 14)) (
  .ite (.x 20)
   (.op (.bin .sub (.x 3) (.c (.v (.int .i64 1)))) (
   .op (.bp F.aO G.bu [(.x 15),(.x 16),(.x 17),(.x 21),(.x 4)]) (
   .aJ (.cells (.ext 22 0) 4) (
   .op (.kB (.agg [(.v (.int .i64 0)),(.v (.int .i64 0)),(.v (.string ⟨#[]⟩)),.aw]) 1 [(0,(.ext 22 0))]) (
   .op (.app 4 56 (.x 18) (.x 23)) (
   .op (.bin .add (.x 19) (.c (.v (.int .i64 1)))) (
   .jump [(.ext 22 1),(.ext 22 2),(.ext 22 3),(.x 24),(.x 25)])))))))
   (.dM (.jump [(.x 15),(.x 16),(.x 17),(.x 18)]))))) (
.aJ (.one (.x 9)) (
.aJ (.one (.c (.v (.int .i64 0)))) (
.aJ (.one (.x 13)) (
.ret [(.agg [(.x 9),(.c (.v (.int .i64 0))),(.x 13),(.sl (.x 18))]),(.x 15),(.x 16),(.x 17)]))))))))))
theorem T.tq:jF Try.prog CF G.bu Try.f66=some T.bu:=by kernel_rfl
theorem T.fy{ins outs:List AV}(hl:ins.length=5)(ho:outs.length=4)(hn:AV.ad ins=true)(hw:bF Try.prog (λ _ _ _=>False) (λ a=>a=bz outs) T.bu ins []):gA Try.prog F.aO G.bu ins outs:=
 eI Try.func66 T.tq hl hn ho hw
def T.bO:T:=
.op (.bp F.aj G.aj [(.x 0),(.x 1),(.x 2),(.x 3)]) (
.op (.bin .eql (.ext 4 0) (.c (.v (.int .i64 0)))) (
.ret [(.x 5),(.ext 4 1),(.ext 4 2),(.ext 4 3)]))
theorem T.zh:jF Try.prog CF G.bO Try.f67=some T.bO:=by kernel_rfl
theorem T.tu{ins outs:List AV}(hl:ins.length=4)(ho:outs.length=4)(hn:AV.ad ins=true)(hw:bF Try.prog (λ _ _ _=>False) (λ a=>a=bz outs) T.bO ins []):gA Try.prog F.bO G.bO ins outs:=
 eI Try.func67 T.zh hl hn ho hw
def T.fW:T:=
.aJ (.cells (.x 0) 4) (
.bind 0 (
 .bind 1 (
  .op (.bin .eql (.cell 0 0) (.x 1)) (
  .ite (.x 3)
   (.op (.bM (.x 2)) (
   .op (.bin .lss (.cell 0 1) (.x 4)) (
   .jump [(.x 5)])))
   (.jump [(.c (.v (.bool false)))]))) (
 .ite (.x 3)
  (.op (.elem 4 (.x 2) (.cell 0 1)) (
  .aJ (.cells (.x 4) 4) (
  .op (.call F.fL [(.x 4)] false) (
  .aJ (.cells (.x 5) 4) (
  .dM (.ret [(.agg [(.cell 5 0),(.cell 5 1),(.cell 5 2),(.cell 5 3)])]))))))
  (.jump []))) (
.aJ (.cells (.x 0) 4) (
.aJ (.cells (.x 0) 4) (
.op (.kB (.agg [(.v (.int .i64 0)),(.v (.int .i64 0)),(.v (.string ⟨#[]⟩)),.aw]) 0 []) (
.bind 1 (
 .loop [(.x 3),(.c (.v (.int .i64 0)))] (
  .op (.bM (.cell 0 3)) (
  .op (.bin .lss (.x 5) (.x 6)) (
  .ite (.x 7)
   (.op (.elem 4 (.cell 0 3) (.x 5)) (
   .aJ (.cells (.x 8) 4) (
   .op (.call F.fW [(.x 8),(.x 1),(.x 2)] false) (
   .aJ (.cells (.x 9) 4) (
   .op (.kB (.agg [(.v (.int .i64 0)),(.v (.int .i64 0)),(.v (.string ⟨#[]⟩)),.aw]) 1 [(0,(.x 9))]) (
   .op (.app 4 56 (.x 4) (.x 10)) (
   .op (.bin .add (.x 5) (.c (.v (.int .i64 1)))) (
   .jump [(.x 11),(.x 12)]))))))))
   (.dM (.jump [(.x 4)])))))) (
.aJ (.one (.cell 0 0)) (
.aJ (.one (.cell 0 1)) (
.aJ (.one (.cell 0 2)) (
.ret [(.agg [(.cell 0 0),(.cell 0 1),(.cell 0 2),(.sl (.x 4))])])))))))))
theorem T.aa8:cB Try.prog CF Try.f68=some (3,T.fW):=by kernel_rfl
theorem T.wM{args:List AV}{res:AV}(hl:args.length=3)(hn:AV.ad args=true)(hw:bF Try.prog (λ _ _ _=>False) (λ a=>a=res) T.fW args []):a7 Try.prog F.fW args res:=
 aZ Try.func68 T.aa8 hl hn hw
def T.bP:T:=
.op (.bin .mul (.x 2) (.c (.v (.int .i64 6364136223846793005)))) (
.op (.bin .add (.x 3) (.c (.v (.int .i64 1442695040888963407)))) (
.aJ (.one (.x 4)) (
.op (.bin .shr (.x 4) (.c (.v (.int .u64 33)))) (
.op (.bin .shr (.x 4) (.c (.v (.int .u64 47)))) (
.op (.bin .xor (.x 5) (.x 6)) (
.op (.bin .and (.x 7) (.c (.v (.int .i64 255)))) (
.bind 2 (
 .op (.bM (.x 0)) (
 .op (.bin .lss (.x 1) (.x 9)) (
 .ite (.x 10)
  (.op (.elem 1 (.x 0) (.x 1)) (
  .aJ (.lt (.x 11) 0) (
  .op (.conv .i64 (.cell 11 0)) (
  .op (.bin .add (.x 8) (.x 12)) (
  .op (.bin .and (.x 13) (.c (.v (.int .i64 255)))) (
  .op (.bin .add (.x 1) (.c (.v (.int .i64 1)))) (
  .aJ (.one (.x 15)) (
  .jump [(.x 15),(.x 14)]))))))))
  (.jump [(.x 1),(.x 8)])))) (
.ret [(.x 10),(.x 0),(.x 9),(.x 4)]))))))))
theorem T.zm:jF Try.prog CF G.bP Try.f69=some T.bP:=by kernel_rfl
theorem T.tx{ins outs:List AV}(hl:ins.length=3)(ho:outs.length=4)(hn:AV.ad ins=true)(hw:bF Try.prog (λ _ _ _=>False) (λ a=>a=bz outs) T.bP ins []):gA Try.prog F.bP G.bP ins outs:=
 eI Try.func69 T.zm hl hn ho hw
def T.cd:T:=
.op (.bM (.x 3)) (
.op (.bp F.aj G.aj [(.x 0),(.x 1),(.x 2),(.x 4)]) (
.op (.elem 1 (.x 3) (.ext 5 0)) (
.aJ (.lt (.x 6) 0) (
.ret [(.cell 6 0),(.ext 5 1),(.ext 5 2),(.ext 5 3)]))))
theorem T.abc:jF Try.prog CF G.cd Try.f70=some T.cd:=by kernel_rfl
theorem T.vm{ins outs:List AV}(hl:ins.length=4)(ho:outs.length=4)(hn:AV.ad ins=true)(hw:bF Try.prog (λ _ _ _=>False) (λ a=>a=bz outs) T.cd ins []):gA Try.prog F.cd G.cd ins outs:=
 eI Try.func70 T.abc hl hn ho hw
def T.iO:T:=
.bind 1 (
 .op (.call F.fN [(.x 0),(.c (.v (.bool false)))] false) (
 .ite (.x 1)
  (.op (.call F.iP [(.x 0)] false) (
  .op (.un .not (.x 2)) (
  .jump [(.x 3)])))
  (.jump [(.c (.v (.bool false)))]))) (
.ret [(.x 1)])
theorem T.abi:cB Try.prog CF Try.f71=some (1,T.iO):=by kernel_rfl
theorem T.wR{args:List AV}{res:AV}(hl:args.length=1)(hn:AV.ad args=true)(hw:bF Try.prog (λ _ _ _=>False) (λ a=>a=res) T.iO args []):a7 Try.prog F.iO args res:=
 aZ Try.func71 T.abi hl hn hw
def T.iM:T:=
.bind 0 (
 .loop [(.c (.v (.int .i64 0)))] (
  .op (.bM (.x 0)) (
  .op (.bin .lss (.x 2) (.x 3)) (
  .ite (.x 4)
   (.op (.elem 1 (.x 0) (.x 2)) (
   .aJ (.lt (.x 5) 0) (
   .op (.bin .eql (.cell 5 0) (.x 1)) (
   .ite (.x 6)
    (.dM (.dM (.ret [(.c (.v (.bool true)))])))
    (.op (.bin .add (.x 2) (.c (.v (.int .i64 1)))) (
    .jump [(.x 7)]))))))
   (.dM (.jump [])))))) (
.ret [(.c (.v (.bool false)))])
theorem T.aba:cB Try.prog CF Try.f72=some (2,T.iM):=by kernel_rfl
theorem T.wN{args:List AV}{res:AV}(hl:args.length=2)(hn:AV.ad args=true)(hw:bF Try.prog (λ _ _ _=>False) (λ a=>a=res) T.iM args []):a7 Try.prog F.iM args res:=
 aZ Try.func72 T.aba hl hn hw
def T.fh:T:=
.bind 1 (
 .op (.bin .geq (.x 0) (.x 1)) (
 .ite (.x 3)
  (.op (.bin .leq (.x 0) (.x 2)) (
  .jump [(.x 4)]))
  (.jump [(.c (.v (.bool false)))]))) (
.ret [(.x 3)])
theorem T.zy:cB Try.prog CF Try.f73=some (3,T.fh):=by kernel_rfl
theorem T.vv{args:List AV}{res:AV}(hl:args.length=3)(hn:AV.ad args=true)(hw:bF Try.prog (λ _ _ _=>False) (λ a=>a=res) T.fh args []):a7 Try.prog F.fh args res:=
 aZ Try.func73 T.zy hl hn hw
def T.df:T:=
.bind 1 (
 .op (.bM (.x 0)) (
 .loop [(.c (.v (.int .i64 0))),(.c (.v (.int .i64 0)))] (
  .op (.bin .lss (.x 3) (.x 1)) (
  .ite (.x 4)
   (.bind 1 (
    .op (.elem 1 (.x 0) (.x 3)) (
    .aJ (.lt (.x 5) 0) (
    .op (.bM (.cell 5 0)) (
    .op (.bin .add (.x 2) (.x 6)) (
    .op (.bin .lss (.x 7) (.c (.v (.int .i64 0)))) (
    .ite (.x 8)
     (.aJ (.no) (
     .aJ (.no) (
     .jump [(.x 7)])))
     (.jump [(.x 7)]))))))) (
   .op (.bin .add (.x 3) (.c (.v (.int .i64 1)))) (
   .jump [(.x 5),(.x 6)])))
   (.dM (.jump [(.x 2)])))))) (
.op (.bp F.aC G.aR [(.x 1)]) (
.bind 1 (
 .op (.bM (.x 0)) (
 .loop [(.c (.sl [])),(.c (.v (.int .i64 0)))] (
  .op (.bin .lss (.x 5) (.x 3)) (
  .ite (.x 6)
   (.op (.elem 1 (.x 0) (.x 5)) (
   .aJ (.lt (.x 7) 0) (
   .op (.app 4 56 (.x 4) (.cell 7 0)) (
   .op (.bin .add (.x 5) (.c (.v (.int .i64 1)))) (
   .jump [(.x 8),(.x 9)])))))
   (.dM (.jump [(.x 4)])))))) (
.ret [(.sl (.x 3))])))
theorem T.iS:cB Try.prog CFB Try.f74=some (1,T.df):=by kernel_rfl
theorem T.iu{args:List AV}{res:AV}(hl:args.length=1)(hn:AV.ad args=true)(hw:bF Try.prog (λ _ _ _=>False) (λ a=>a=res) T.df args []):a7 Try.prog F.aV args res:=
 aZ Try.func74 T.iS hl hn hw
def T.aV:T:=
.bind 1 (
 .op (.bM (.x 0)) (
 .loop [(.c (.v (.int .i64 0))),(.c (.v (.int .i64 0)))] (
  .op (.bin .lss (.x 3) (.x 1)) (
  .ite (.x 4)
   (.bind 1 (
    .op (.elem 1 (.x 0) (.x 3)) (
    .aJ (.lt (.x 5) 0) (
    .op (.bM (.cell 5 0)) (
    .op (.bin .add (.x 2) (.x 6)) (
    .op (.bin .lss (.x 7) (.c (.v (.int .i64 0)))) (
    .ite (.x 8)
     (.aJ (.no) (
     .aJ (.no) (
     .jump [(.x 7)])))
     (.jump [(.x 7)]))))))) (
   .op (.bin .add (.x 3) (.c (.v (.int .i64 1)))) (
   .jump [(.x 5),(.x 6)])))
   (.dM (.jump [(.x 2)])))))) (
.op (.bp F.aC G.aC [(.x 1)]) (
.bind 1 (
 .op (.bM (.x 0)) (
 .loop [(.ext 2 0),(.c (.v (.int .i64 0)))] (
  .op (.bin .lss (.x 5) (.x 3)) (
  .ite (.x 6)
   (.op (.elem 1 (.x 0) (.x 5)) (
   .aJ (.lt (.x 7) 0) (
   .op (.app 4 56 (.x 4) (.cell 7 0)) (
   .op (.bin .add (.x 5) (.c (.v (.int .i64 1)))) (
   .jump [(.x 8),(.x 9)])))))
   (.dM (.jump [(.x 4)])))))) (
.ret [(.sl (.x 3))])))
theorem T.jB:cB Try.prog CF Try.f74=some (1,T.aV):=by kernel_rfl
theorem T.iR{args:List AV}{res:AV}(hl:args.length=1)(hn:AV.ad args=true)(hw:bF Try.prog (λ _ _ _=>False) (λ a=>a=res) T.aV args []):a7 Try.prog F.aV args res:=
 aZ Try.func74 T.jB hl hn hw
def T.fR:T:=
.aJ (.cells (.x 0) 4) (
.bind 1 (
 .op (.bM (.cell 0 3)) (
 .loop [(.c (.v (.int .i64 1))),(.c (.v (.int .i64 0)))] (
  .op (.bin .lss (.x 3) (.x 1)) (
  .ite (.x 4)
   (.op (.elem 4 (.cell 0 3) (.x 3)) (
   .aJ (.cells (.x 5) 4) (
   .aJ (.cells (.x 5) 4) (
   .aJ (.cells (.x 5) 4) (
   .op (.call F.fR [(.x 5)] false) (
   .op (.bin .add (.x 2) (.x 6)) (
   .op (.bin .add (.x 3) (.c (.v (.int .i64 1)))) (
   .jump [(.x 7),(.x 8)]))))))))
   (.dM (.jump [(.x 2)])))))) (
.ret [(.x 1)]))
theorem T.zD:cB Try.prog CF Try.f75=some (1,T.fR):=by kernel_rfl
theorem T.vK{args:List AV}{res:AV}(hl:args.length=1)(hn:AV.ad args=true)(hw:bF Try.prog (λ _ _ _=>False) (λ a=>a=res) T.fR args []):a7 Try.prog F.fR args res:=
 aZ Try.func75 T.zD hl hn hw
def T.iW:T:=
.bind 1 (
 .op (.call F.gU [(.x 0),(.c (.fn F.gT []))] false) (
 .ite (.x 1)
  (.op (.call F.iX [(.x 0)] false) (
  .op (.un .not (.x 2)) (
  .jump [(.x 3)])))
  (.jump [(.c (.v (.bool false)))]))) (
.ret [(.x 1)])
theorem T.abW:cB Try.prog CF Try.f80=some (1,T.iW):=by kernel_rfl
theorem T.x6{args:List AV}{res:AV}(hl:args.length=1)(hn:AV.ad args=true)(hw:bF Try.prog (λ _ _ _=>False) (λ a=>a=res) T.iW args []):a7 Try.prog F.iW args res:=
 aZ Try.func80 T.abW hl hn hw
def T.br:T:=
.bind 0 (
 .op (.bM (.x 0)) (
 .loop [(.c (.v (.int .i64 0)))] (
  .op (.bin .lss (.x 3) (.x 2)) (
  .ite (.x 4)
   (.op (.elem 4 (.x 0) (.x 3)) (
   .aJ (.cells (.x 5) 4) (
   .op (.eu (.x 1) [(.x 5)] false) (
   .ite (.x 6)
    (.dM (.dM (.ret [(.x 3)])))
    (.op (.bin .add (.x 3) (.c (.v (.int .i64 1)))) (
    .jump [(.x 7)]))))))
   (.dM (.jump [])))))) (
.ret [(.c (.v (.int .i64 (-1))))])
theorem T.iD:cB Try.prog CF Try.f81=some (2,T.br):=by kernel_rfl
theorem T.hT{args:List AV}{res:AV}(hl:args.length=2)(hn:AV.ad args=true)(hw:bF Try.prog (λ _ _ _=>False) (λ a=>a=res) T.br args []):a7 Try.prog F.br args res:=
 aZ Try.func81 T.iD hl hn hw
def T.cv:T:=
.op (.call F.cV [(.x 0),(.x 1)] false) (
.op (.bin .geq (.x 2) (.c (.v (.int .i64 0)))) (
.ret [(.x 3)]))
theorem T.lR:cB Try.prog CF Try.f82=some (2,T.cv):=by kernel_rfl
theorem T.kO{args:List AV}{res:AV}(hl:args.length=2)(hn:AV.ad args=true)(hw:bF Try.prog (λ _ _ _=>False) (λ a=>a=res) T.cv args []):a7 Try.prog F.cv args res:=
 aZ Try.func82 T.lR hl hn hw
def T.fL:T:=
.aJ (.cells (.x 0) 4) (
.aJ (.cells (.x 0) 4) (
.aJ (.cells (.x 0) 4) (
.op (.kB (.agg [(.v (.int .i64 0)),(.v (.int .i64 0)),(.v (.string ⟨#[]⟩)),.aw]) 0 []) (
.bind 1 (
 .loop [(.x 1),(.c (.v (.int .i64 0)))] (
  .op (.bM (.cell 0 3)) (
  .op (.bin .lss (.x 3) (.x 4)) (
  .ite (.x 5)
   (.op (.elem 4 (.cell 0 3) (.x 3)) (
   .aJ (.cells (.x 6) 4) (
   .op (.call F.fL [(.x 6)] false) (
   .aJ (.cells (.x 7) 4) (
   .op (.kB (.agg [(.v (.int .i64 0)),(.v (.int .i64 0)),(.v (.string ⟨#[]⟩)),.aw]) 1 [(0,(.x 7))]) (
   .op (.app 4 56 (.x 2) (.x 8)) (
   .op (.bin .add (.x 3) (.c (.v (.int .i64 1)))) (
   .jump [(.x 9),(.x 10)]))))))))
   (.dM (.jump [(.x 2)])))))) (
.aJ (.one (.cell 0 0)) (
.aJ (.one (.cell 0 1)) (
.aJ (.one (.cell 0 2)) (
.ret [(.agg [(.cell 0 0),(.cell 0 1),(.cell 0 2),(.sl (.x 2))])]))))))))
theorem T.zf:cB Try.prog CF Try.f83=some (1,T.fL):=by kernel_rfl
theorem T.vk{args:List AV}{res:AV}(hl:args.length=1)(hn:AV.ad args=true)(hw:bF Try.prog (λ _ _ _=>False) (λ a=>a=res) T.fL args []):a7 Try.prog F.fL args res:=
 aZ Try.func83 T.zf hl hn hw
def T.fN:T:=
.bind 0 (
 .bind 1 (
  .op (.kC (.x 0)) (
  .op (.call F.fB [(.x 2),(.c (.v (.int .i64 1))),(.c (.v (.int .i64 12)))] false) (
  .op (.un .not (.x 3)) (
  .ite (.x 4)
   (.jump [(.c (.v (.bool true)))])
   (.op (.kU (.x 0) (.c (.v (.int .i64 0)))) (
   .op (.conv .i64 (.x 5)) (
   .op (.call F.fa [(.x 6)] false) (
   .op (.beq true (.x 1) (.x 7)) (
   .ite (.x 8)
    (.jump [(.c (.v (.bool true)))])
    (.op (.un .not (.x 1)) (
    .ite (.x 9)
     (.op (.kU (.x 0) (.c (.v (.int .i64 0)))) (
     .op (.conv .i64 (.x 10)) (
     .op (.call F.fb [(.x 11)] false) (
     .op (.un .not (.x 12)) (
     .jump [(.x 13)])))))
     (.jump [(.c (.v (.bool false)))])))))))))))) (
 .ite (.x 2)
  (.dM (.ret [(.c (.v (.bool false)))]))
  (.jump []))) (
.bind 0 (
 .loop [(.c (.v (.int .i64 0)))] (
  .op (.kC (.x 0)) (
  .op (.bin .lss (.x 2) (.x 3)) (
  .ite (.x 4)
   (.op (.kU (.x 0) (.x 2)) (
   .op (.conv .i64 (.x 5)) (
   .op (.call F.eb [(.x 6)] false) (
   .op (.un .not (.x 7)) (
   .ite (.x 8)
    (.dM (.dM (.ret [(.c (.v (.bool false)))])))
    (.op (.bin .add (.x 2) (.c (.v (.int .i64 1)))) (
    .jump [(.x 9)])))))))
   (.dM (.jump [])))))) (
.ret [(.c (.v (.bool true)))]))
theorem T.zj:cB Try.prog CF Try.f84=some (2,T.fN):=by kernel_rfl
theorem T.vo{args:List AV}{res:AV}(hl:args.length=2)(hn:AV.ad args=true)(hw:bF Try.prog (λ _ _ _=>False) (λ a=>a=res) T.fN args []):a7 Try.prog F.fN args res:=
 aZ Try.func84 T.zj hl hn hw
def T.iP:T:=
.aJ (.one (.c (.v (.string ⟨#[116,121,112,101]⟩)))) (
.aJ (.one (.c (.v (.string ⟨#[111,102]⟩)))) (
.aJ (.one (.c (.v (.string ⟨#[108,101,116]⟩)))) (
.aJ (.one (.c (.v (.string ⟨#[114,101,99]⟩)))) (
.aJ (.one (.c (.v (.string ⟨#[105,110]⟩)))) (
.aJ (.one (.c (.v (.string ⟨#[102,117,110]⟩)))) (
.aJ (.one (.c (.v (.string ⟨#[105,102]⟩)))) (
.aJ (.one (.c (.v (.string ⟨#[116,104,101,110]⟩)))) (
.aJ (.one (.c (.v (.string ⟨#[101,108,115,101]⟩)))) (
.aJ (.one (.c (.v (.string ⟨#[109,97,116,99,104]⟩)))) (
.aJ (.one (.c (.v (.string ⟨#[119,105,116,104]⟩)))) (
.aJ (.one (.c (.v (.string ⟨#[101,110,100]⟩)))) (
.aJ (.one (.c (.v (.string ⟨#[116,114,117,101]⟩)))) (
.aJ (.one (.c (.v (.string ⟨#[102,97,108,115,101]⟩)))) (
.aJ (.one (.c (.v (.string ⟨#[114,101,102]⟩)))) (
.aJ (.one (.c (.v (.string ⟨#[114,101,97,100]⟩)))) (
.aJ (.one (.c (.v (.string ⟨#[112,114,105,110,116]⟩)))) (
.aJ (.one (.c (.v (.string ⟨#[101,120,105,116]⟩)))) (
.aJ (.one (.c (.v (.string ⟨#[115,105,122,101]⟩)))) (
.op (.kB (.v (.string ⟨#[]⟩)) 19 [(0,(.c (.v (.string ⟨#[116,121,112,101]⟩)))),(1,(.c (.v (.string ⟨#[111,102]⟩)))),(2,(.c (.v (.string ⟨#[108,101,116]⟩)))),(3,(.c (.v (.string ⟨#[114,101,99]⟩)))),(4,(.c (.v (.string ⟨#[105,110]⟩)))),(5,(.c (.v (.string ⟨#[102,117,110]⟩)))),(6,(.c (.v (.string ⟨#[105,102]⟩)))),(7,(.c (.v (.string ⟨#[116,104,101,110]⟩)))),(8,(.c (.v (.string ⟨#[101,108,115,101]⟩)))),(9,(.c (.v (.string ⟨#[109,97,116,99,104]⟩)))),(10,(.c (.v (.string ⟨#[119,105,116,104]⟩)))),(11,(.c (.v (.string ⟨#[101,110,100]⟩)))),(12,(.c (.v (.string ⟨#[116,114,117,101]⟩)))),(13,(.c (.v (.string ⟨#[102,97,108,115,101]⟩)))),(14,(.c (.v (.string ⟨#[114,101,102]⟩)))),(15,(.c (.v (.string ⟨#[114,101,97,100]⟩)))),(16,(.c (.v (.string ⟨#[112,114,105,110,116]⟩)))),(17,(.c (.v (.string ⟨#[101,120,105,116]⟩)))),(18,(.c (.v (.string ⟨#[115,105,122,101]⟩))))]) (
.bind 0 (
 .loop [(.c (.v (.int .i64 0)))] (
  .op (.bM (.sl (.x 1))) (
  .op (.bin .lss (.x 2) (.x 3)) (
  .ite (.x 4)
   (.aJ (.idx (.x 1) (.x 2)) (
   .op (.get (.x 1) (.x 2) 0 none) (
   .op (.bin .eql (.x 5) (.x 0)) (
   .ite (.x 6)
    (.dM (.dM (.ret [(.c (.v (.bool true)))])))
    (.op (.bin .add (.x 2) (.c (.v (.int .i64 1)))) (
    .jump [(.x 7)]))))))
   (.dM (.jump [])))))) (
.ret [(.c (.v (.bool false)))])))))))))))))))))))))
theorem T.abk:cB Try.prog CF Try.f85=some (1,T.iP):=by kernel_rfl
theorem T.wS{args:List AV}{res:AV}(hl:args.length=1)(hn:AV.ad args=true)(hw:bF Try.prog (λ _ _ _=>False) (λ a=>a=res) T.iP args []):a7 Try.prog F.iP args res:=
 aZ Try.func85 T.abk hl hn hw
def T.aC:T:=
.op (.bin .lss (.x 0) (.c (.v (.int .i64 0)))) (
.ite (.x 1)
 (.aJ (.no) (
 .aJ (.no) (
 .op (.bin .sub (.c (.v (.int .i64 0))) (.c (.v (.int .i64 0)))) (
 .op (.bin .sub (.x 0) (.x 2)) (
 .op (.bin .gtr (.x 3) (.c (.v (.int .i64 0)))) (
 .ite (.x 4)
  (.op (.rep 56 (.agg [(.v (.int .i64 0)),(.v (.int .i64 0)),(.v (.string ⟨#[]⟩)),.aw]) (.x 3) (.x 3)) (
  .aJ (.ne (.x 5)) (
  .ret [(.c (.sl []))])))
  (.aJ (.no) (
  .ret []))))))))
 (.op (.bin .sub (.c (.v (.int .i64 0))) (.c (.v (.int .i64 0)))) (
 .op (.bin .sub (.x 0) (.x 2)) (
 .op (.bin .gtr (.x 3) (.c (.v (.int .i64 0)))) (
 .ite (.x 4)
  (.op (.rep 56 (.agg [(.v (.int .i64 0)),(.v (.int .i64 0)),(.v (.string ⟨#[]⟩)),.aw]) (.x 3) (.x 3)) (
  .aJ (.ne (.x 5)) (
  .ret [(.c (.sl []))])))
  (.aJ (.no) (
  .ret [])))))))
theorem T.jU:jF Try.prog CFC G.aC Try.f86=some T.aC:=by kernel_rfl
theorem T.jt{ins outs:List AV}(hl:ins.length=1)(ho:outs.length=1)(hn:AV.ad ins=true)(hw:bF Try.prog (λ _ _ _=>False) (λ a=>a=bz outs) T.aC ins []):gA Try.prog F.aC G.aC ins outs:=
 eI Try.func86 T.jU hl hn ho hw
def T.aR:T:=
.op (.bin .lss (.x 0) (.c (.v (.int .i64 0)))) (
.ite (.x 1)
 (.aJ (.no) (
 .aJ (.no) (
 .op (.bin .sub (.c (.v (.int .i64 0))) (.c (.v (.int .i64 0)))) (
 .op (.bin .sub (.x 0) (.x 2)) (
 .op (.bin .gtr (.x 3) (.c (.v (.int .i64 0)))) (
 .ite (.x 4)
  (.op (.rep 56 (.agg [(.v (.int .i64 0)),(.v (.int .i64 0)),(.v (.string ⟨#[]⟩)),.aw]) (.x 3) (.x 3)) (
  .aJ (.ne (.x 5)) (
  .aJ (.no) (
  .ret []))))
  (.ret [])))))))
 (.op (.bin .sub (.c (.v (.int .i64 0))) (.c (.v (.int .i64 0)))) (
 .op (.bin .sub (.x 0) (.x 2)) (
 .op (.bin .gtr (.x 3) (.c (.v (.int .i64 0)))) (
 .ite (.x 4)
  (.op (.rep 56 (.agg [(.v (.int .i64 0)),(.v (.int .i64 0)),(.v (.string ⟨#[]⟩)),.aw]) (.x 3) (.x 3)) (
  .aJ (.ne (.x 5)) (
  .aJ (.no) (
  .ret []))))
  (.ret []))))))
theorem T.ju:jF Try.prog CFC G.aR Try.f86=some T.aR:=by kernel_rfl
theorem T.ir{ins outs:List AV}(hl:ins.length=1)(ho:outs.length=0)(hn:AV.ad ins=true)(hw:bF Try.prog (λ _ _ _=>False) (λ a=>a=bz outs) T.aR ins []):gA Try.prog F.aC G.aR ins outs:=
 eI Try.func86 T.ju hl hn ho hw
def T.gU:T:=
.bind 1 (
 .op (.kC (.x 0)) (
 .op (.call F.fh [(.x 2),(.c (.v (.int .i64 1))),(.c (.v (.int .i64 12)))] false) (
 .ite (.x 3)
  (.op (.kU (.x 0) (.c (.v (.int .i64 0)))) (
  .op (.eu (.x 1) [(.x 4)] false) (
  .ite (.x 5)
   (.op (.call F.ma [(.x 0),(.c (.v (.int .i64 0))),(.c (.fn F.eG []))] false) (
   .op (.kC (.x 0)) (
   .op (.bin .eql (.x 6) (.x 7)) (
   .jump [(.x 8)]))))
   (.jump [(.c (.v (.bool false)))]))))
  (.jump [(.c (.v (.bool false)))])))) (
.ret [(.x 2)])
theorem T.zz:cB Try.prog CF Try.f88=some (2,T.gU):=by kernel_rfl
theorem T.vE{args:List AV}{res:AV}(hl:args.length=2)(hn:AV.ad args=true)(hw:bF Try.prog (λ _ _ _=>False) (λ a=>a=res) T.gU args []):a7 Try.prog F.gU args res:=
 aZ Try.func88 T.zz hl hn hw
def T.gT:T:=
.bind 1 (
 .op (.bin .geq (.x 0) (.c (.v (.int .u8 97)))) (
 .ite (.x 1)
  (.op (.bin .leq (.x 0) (.c (.v (.int .u8 122)))) (
  .jump [(.x 2)]))
  (.jump [(.c (.v (.bool false)))]))) (
.ret [(.x 1)])
theorem T.abT:cB Try.prog CF Try.f89=some (1,T.gT):=by kernel_rfl
theorem T.xZ{args:List AV}{res:AV}(hl:args.length=1)(hn:AV.ad args=true)(hw:bF Try.prog (λ _ _ _=>False) (λ a=>a=res) T.gT args []):a7 Try.prog F.gT args res:=
 aZ Try.func89 T.abT hl hn hw
def T.iX:T:=
.aJ (.one (.c (.v (.string ⟨#[116,121,112,101]⟩)))) (
.aJ (.one (.c (.v (.string ⟨#[111,102]⟩)))) (
.aJ (.one (.c (.v (.string ⟨#[108,101,116]⟩)))) (
.aJ (.one (.c (.v (.string ⟨#[114,101,99]⟩)))) (
.aJ (.one (.c (.v (.string ⟨#[105,110]⟩)))) (
.aJ (.one (.c (.v (.string ⟨#[102,117,110]⟩)))) (
.aJ (.one (.c (.v (.string ⟨#[105,102]⟩)))) (
.aJ (.one (.c (.v (.string ⟨#[116,104,101,110]⟩)))) (
.aJ (.one (.c (.v (.string ⟨#[101,108,115,101]⟩)))) (
.aJ (.one (.c (.v (.string ⟨#[109,97,116,99,104]⟩)))) (
.aJ (.one (.c (.v (.string ⟨#[119,105,116,104]⟩)))) (
.aJ (.one (.c (.v (.string ⟨#[101,110,100]⟩)))) (
.aJ (.one (.c (.v (.string ⟨#[116,114,117,101]⟩)))) (
.aJ (.one (.c (.v (.string ⟨#[102,97,108,115,101]⟩)))) (
.aJ (.one (.c (.v (.string ⟨#[114,101,102]⟩)))) (
.aJ (.one (.c (.v (.string ⟨#[114,101,97,100]⟩)))) (
.aJ (.one (.c (.v (.string ⟨#[112,114,105,110,116]⟩)))) (
.aJ (.one (.c (.v (.string ⟨#[101,120,105,116]⟩)))) (
.aJ (.one (.c (.v (.string ⟨#[115,105,122,101]⟩)))) (
.op (.kB (.v (.string ⟨#[]⟩)) 19 [(0,(.c (.v (.string ⟨#[116,121,112,101]⟩)))),(1,(.c (.v (.string ⟨#[111,102]⟩)))),(2,(.c (.v (.string ⟨#[108,101,116]⟩)))),(3,(.c (.v (.string ⟨#[114,101,99]⟩)))),(4,(.c (.v (.string ⟨#[105,110]⟩)))),(5,(.c (.v (.string ⟨#[102,117,110]⟩)))),(6,(.c (.v (.string ⟨#[105,102]⟩)))),(7,(.c (.v (.string ⟨#[116,104,101,110]⟩)))),(8,(.c (.v (.string ⟨#[101,108,115,101]⟩)))),(9,(.c (.v (.string ⟨#[109,97,116,99,104]⟩)))),(10,(.c (.v (.string ⟨#[119,105,116,104]⟩)))),(11,(.c (.v (.string ⟨#[101,110,100]⟩)))),(12,(.c (.v (.string ⟨#[116,114,117,101]⟩)))),(13,(.c (.v (.string ⟨#[102,97,108,115,101]⟩)))),(14,(.c (.v (.string ⟨#[114,101,102]⟩)))),(15,(.c (.v (.string ⟨#[114,101,97,100]⟩)))),(16,(.c (.v (.string ⟨#[112,114,105,110,116]⟩)))),(17,(.c (.v (.string ⟨#[101,120,105,116]⟩)))),(18,(.c (.v (.string ⟨#[115,105,122,101]⟩))))]) (
.op (.call F.bJ [(.sl (.x 1)),(.x 0)] true) (
.ret [(.x 2)])))))))))))))))))))))
theorem T.abZ:cB Try.prog CF Try.f90=some (1,T.iX):=by kernel_rfl
theorem T.x7{args:List AV}{res:AV}(hl:args.length=1)(hn:AV.ad args=true)(hw:bF Try.prog (λ _ _ _=>False) (λ a=>a=res) T.iX args []):a7 Try.prog F.iX args res:=
 aZ Try.func90 T.abZ hl hn hw
def T.cV:T:=
.bind 0 (
 .op (.bM (.x 0)) (
 .loop [(.c (.v (.int .i64 0)))] (
  .op (.bin .lss (.x 3) (.x 2)) (
  .ite (.x 4)
   (.op (.elem 1 (.x 0) (.x 3)) (
   .aJ (.lt (.x 5) 0) (
   .op (.bin .eql (.x 1) (.cell 5 0)) (
   .ite (.x 6)
    (.dM (.dM (.ret [(.x 3)])))
    (.op (.bin .add (.x 3) (.c (.v (.int .i64 1)))) (
    .jump [(.x 7)]))))))
   (.dM (.jump [])))))) (
.ret [(.c (.v (.int .i64 (-1))))])
theorem T.nz:cB Try.prog CF Try.f91=some (2,T.cV):=by kernel_rfl
theorem T.mu{args:List AV}{res:AV}(hl:args.length=2)(hn:AV.ad args=true)(hw:bF Try.prog (λ _ _ _=>False) (λ a=>a=res) T.cV args []):a7 Try.prog F.cV args res:=
 aZ Try.func91 T.nz hl hn hw
def T.fa:T:=
.op (.call F.fB [(.x 0),(.c (.v (.int .i64 65))),(.c (.v (.int .i64 90)))] false) (
.ret [(.x 1)])
theorem T.wO:cB Try.prog CF Try.f92=some (1,T.fa):=by kernel_rfl
theorem T.tt{args:List AV}{res:AV}(hl:args.length=1)(hn:AV.ad args=true)(hw:bF Try.prog (λ _ _ _=>False) (λ a=>a=res) T.fa args []):a7 Try.prog F.fa args res:=
 aZ Try.func92 T.wO hl hn hw
def T.fb:T:=
.op (.call F.fB [(.x 0),(.c (.v (.int .i64 97))),(.c (.v (.int .i64 122)))] false) (
.ret [(.x 1)])
theorem T.wQ:cB Try.prog CF Try.f93=some (1,T.fb):=by kernel_rfl
theorem T.tv{args:List AV}{res:AV}(hl:args.length=1)(hn:AV.ad args=true)(hw:bF Try.prog (λ _ _ _=>False) (λ a=>a=res) T.fb args []):a7 Try.prog F.fb args res:=
 aZ Try.func93 T.wQ hl hn hw
def T.eb:T:=
.bind 1 (
 .op (.call F.fb [(.x 0)] false) (
 .ite (.x 1)
  (.jump [(.c (.v (.bool true)))])
  (.op (.call F.fa [(.x 0)] false) (
  .ite (.x 2)
   (.jump [(.c (.v (.bool true)))])
   (.op (.call F.iN [(.x 0)] false) (
   .ite (.x 3)
    (.jump [(.c (.v (.bool true)))])
    (.op (.bin .eql (.x 0) (.c (.v (.int .i64 95)))) (
    .jump [(.x 4)])))))))) (
.ret [(.x 1)])
theorem T.sk:cB Try.prog CF Try.f94=some (1,T.eb):=by kernel_rfl
theorem T.qx{args:List AV}{res:AV}(hl:args.length=1)(hn:AV.ad args=true)(hw:bF Try.prog (λ _ _ _=>False) (λ a=>a=res) T.eb args []):a7 Try.prog F.eb args res:=
 aZ Try.func94 T.sk hl hn hw
def T.ma:T:=
.bind 1 (
 .loop [(.x 1)] (
  .bind 0 (
   .bind 1 (
    .op (.kC (.x 0)) (
    .op (.bin .lss (.x 3) (.x 4)) (
    .ite (.x 5)
     (.op (.kU (.x 0) (.x 3)) (
     .op (.eu (.x 2) [(.x 6)] false) (
     .jump [(.x 7)])))
     (.jump [(.c (.v (.bool false)))])))) (
   .ite (.x 4)
    (.jump [])
    (.dM (.dM (.jump [(.x 3)]))))) (
  .op (.bin .add (.x 3) (.c (.v (.int .i64 1)))) (
  .jump [(.x 4)])))) (
.ret [(.x 3)])
theorem T.agb:cB Try.prog CF Try.f95=some (3,T.ma):=by kernel_rfl
theorem T.abU{args:List AV}{res:AV}(hl:args.length=3)(hn:AV.ad args=true)(hw:bF Try.prog (λ _ _ _=>False) (λ a=>a=res) T.ma args []):a7 Try.prog F.ma args res:=
 aZ Try.func95 T.agb hl hn hw
def T.eG:T:=
.bind 1 (
 .op (.call F.gT [(.x 0)] false) (
 .ite (.x 1)
  (.jump [(.c (.v (.bool true)))])
  (.op (.call F.iY [(.x 0)] false) (
  .ite (.x 2)
   (.jump [(.c (.v (.bool true)))])
   (.op (.call F.iZ [(.x 0)] false) (
   .ite (.x 3)
    (.jump [(.c (.v (.bool true)))])
    (.op (.bin .eql (.x 0) (.c (.v (.int .u8 95)))) (
    .jump [(.x 4)])))))))) (
.ret [(.x 1)])
theorem T.vC:cB Try.prog CF Try.f96=some (1,T.eG):=by kernel_rfl
theorem T.sQ{args:List AV}{res:AV}(hl:args.length=1)(hn:AV.ad args=true)(hw:bF Try.prog (λ _ _ _=>False) (λ a=>a=res) T.eG args []):a7 Try.prog F.eG args res:=
 aZ Try.func96 T.vC hl hn hw
def T.bJ:T:=
.op (.call F.b9 [(.x 0),(.x 1)] false) (
.op (.bin .geq (.x 2) (.c (.v (.int .i64 0)))) (
.ret [(.x 3)]))
theorem T.jA:cB Try.prog CF Try.f97=some (2,T.bJ):=by kernel_rfl
theorem T.iQ{args:List AV}{res:AV}(hl:args.length=2)(hn:AV.ad args=true)(hw:bF Try.prog (λ _ _ _=>False) (λ a=>a=res) T.bJ args []):a7 Try.prog F.bJ args res:=
 aZ Try.func97 T.jA hl hn hw
def T.iN:T:=
.op (.call F.fB [(.x 0),(.c (.v (.int .i64 48))),(.c (.v (.int .i64 57)))] false) (
.ret [(.x 1)])
theorem T.abe:cB Try.prog CF Try.f98=some (1,T.iN):=by kernel_rfl
theorem T.wP{args:List AV}{res:AV}(hl:args.length=1)(hn:AV.ad args=true)(hw:bF Try.prog (λ _ _ _=>False) (λ a=>a=res) T.iN args []):a7 Try.prog F.iN args res:=
 aZ Try.func98 T.abe hl hn hw
def T.iY:T:=
.bind 1 (
 .op (.bin .geq (.x 0) (.c (.v (.int .u8 65)))) (
 .ite (.x 1)
  (.op (.bin .leq (.x 0) (.c (.v (.int .u8 90)))) (
  .jump [(.x 2)]))
  (.jump [(.c (.v (.bool false)))]))) (
.ret [(.x 1)])
theorem T.ab1:cB Try.prog CF Try.f99=some (1,T.iY):=by kernel_rfl
theorem T.x8{args:List AV}{res:AV}(hl:args.length=1)(hn:AV.ad args=true)(hw:bF Try.prog (λ _ _ _=>False) (λ a=>a=res) T.iY args []):a7 Try.prog F.iY args res:=
 aZ Try.func99 T.ab1 hl hn hw
def T.iZ:T:=
.bind 1 (
 .op (.bin .geq (.x 0) (.c (.v (.int .u8 48)))) (
 .ite (.x 1)
  (.op (.bin .leq (.x 0) (.c (.v (.int .u8 57)))) (
  .jump [(.x 2)]))
  (.jump [(.c (.v (.bool false)))]))) (
.ret [(.x 1)])
theorem T.ab5:cB Try.prog CF Try.f100=some (1,T.iZ):=by kernel_rfl
theorem T.yb{args:List AV}{res:AV}(hl:args.length=1)(hn:AV.ad args=true)(hw:bF Try.prog (λ _ _ _=>False) (λ a=>a=res) T.iZ args []):a7 Try.prog F.iZ args res:=
 aZ Try.func100 T.ab5 hl hn hw
def T.b9:T:=
.bind 0 (
 .op (.bM (.x 0)) (
 .loop [(.c (.v (.int .i64 0)))] (
  .op (.bin .lss (.x 3) (.x 2)) (
  .ite (.x 4)
   (.op (.elem 1 (.x 0) (.x 3)) (
   .aJ (.lt (.x 5) 0) (
   .op (.bin .eql (.x 1) (.cell 5 0)) (
   .ite (.x 6)
    (.dM (.dM (.ret [(.x 3)])))
    (.op (.bin .add (.x 3) (.c (.v (.int .i64 1)))) (
    .jump [(.x 7)]))))))
   (.dM (.jump [])))))) (
.ret [(.c (.v (.int .i64 (-1))))])
theorem T.kz:cB Try.prog CF Try.f101=some (2,T.b9):=by kernel_rfl
theorem T.jM{args:List AV}{res:AV}(hl:args.length=2)(hn:AV.ad args=true)(hw:bF Try.prog (λ _ _ _=>False) (λ a=>a=res) T.b9 args []):a7 Try.prog F.b9 args res:=
 aZ Try.func101 T.kz hl hn hw
end Go.Proofs.Ab
