/-
  WHAT IS LEFT of this seat's functions, printed by a program of ours (wip/tool/Gen2.lean) from the translation; each with the theorem that it is what is left of that function.
-/
import Derived.Test.YtfebhekplhjigaaChecked
import Derived.KernelRfl
import Derived.Test.YtfebhekplhjigaaAbM5
set_option linter.unusedSimpArgs false
set_option linter.unusedVariables false
namespace Go.Proofs.Ab
open Go.Ab
set_option maxRecDepth 100000
namespace F
abbrev aef:FuncId:=3
abbrev akO:FuncId:=4
abbrev ajj:FuncId:=5
abbrev fM:FuncId:=6
abbrev awz:FuncId:=7
abbrev amu:FuncId:=8
abbrev awy:FuncId:=9
abbrev anT:FuncId:=10
abbrev awA:FuncId:=11
abbrev mO:FuncId:=12
abbrev dP:FuncId:=13
abbrev iy:FuncId:=14
abbrev fX:FuncId:=15
abbrev jB:FuncId:=17
abbrev jv:FuncId:=18
abbrev jZ:FuncId:=19
abbrev fp:FuncId:=20
abbrev auL:FuncId:=21
abbrev ji:FuncId:=22
abbrev auK:FuncId:=23
abbrev auM:FuncId:=24
abbrev ard:FuncId:=25
abbrev are:FuncId:=26
abbrev gS:FuncId:=29
abbrev kI:FuncId:=30
abbrev awC:FuncId:=31
abbrev da:FuncId:=32
abbrev bl:FuncId:=33
abbrev fV:FuncId:=34
abbrev aj:FuncId:=35
abbrev b8:FuncId:=36
abbrev bB:FuncId:=37
abbrev hF:FuncId:=38
abbrev eZ:FuncId:=39
abbrev cp:FuncId:=40
abbrev gz:FuncId:=41
abbrev dL:FuncId:=42
abbrev jG:FuncId:=43
abbrev dR:FuncId:=44
abbrev fm:FuncId:=45
abbrev eI:FuncId:=46
abbrev iE:FuncId:=47
abbrev eG:FuncId:=48
abbrev cG:FuncId:=49
abbrev fo:FuncId:=50
abbrev ll:FuncId:=51
abbrev aJ:FuncId:=52
abbrev fb:FuncId:=53
abbrev gl:FuncId:=54
abbrev fw:FuncId:=55
abbrev fT:FuncId:=56
abbrev fa:FuncId:=57
abbrev dO:FuncId:=58
abbrev fc:FuncId:=59
abbrev apP:FuncId:=60
abbrev hZ:FuncId:=61
abbrev fy:FuncId:=62
abbrev bg:FuncId:=63
abbrev iq:FuncId:=64
abbrev im:FuncId:=65
abbrev aN:FuncId:=66
abbrev bL:FuncId:=67
abbrev gj:FuncId:=68
abbrev bM:FuncId:=69
abbrev b7:FuncId:=70
abbrev jg:FuncId:=71
abbrev je:FuncId:=72
abbrev fk:FuncId:=73
abbrev aS:FuncId:=74
abbrev gd:FuncId:=75
abbrev bT:FuncId:=76
abbrev fN:FuncId:=77
abbrev fO:FuncId:=78
abbrev hT:FuncId:=79
abbrev jr:FuncId:=80
abbrev bp:FuncId:=81
abbrev cn:FuncId:=82
abbrev fU:FuncId:=83
abbrev fW:FuncId:=84
abbrev jh:FuncId:=85
abbrev aC:FuncId:=86
abbrev bQ:FuncId:=87
abbrev il:FuncId:=88
abbrev ik:FuncId:=89
abbrev js:FuncId:=90
abbrev cQ:FuncId:=91
abbrev fe:FuncId:=92
abbrev ff:FuncId:=93
abbrev ef:FuncId:=94
abbrev mU:FuncId:=95
abbrev eJ:FuncId:=96
abbrev bG:FuncId:=97
abbrev jf:FuncId:=98
abbrev jt:FuncId:=99
abbrev ju:FuncId:=100
abbrev b6:FuncId:=101
end F
def FL:List Nat:=[3,4,5,6,7,8,10,11,12,14,15,16,20,21,24,25,26,28,29,31,34,35,36,38,39,41,43,45,46,49,52,53,55,56,57,58,60,61,62,63,64,67,69,70,71,72,73,75,76,77,79,80,81,82,84,85,87,88,89,90,91,92,93,94,95,96,97,98,99,100,101]
def FR:List (Nat×Bool×Nat×Nat):=[(30,true,3,1),(17,false,3,1),(65,true,3,1)]
abbrev G.da:hD:=⟨1,[(.d (.x 0))],[],3,(.ptr 0 0),[(.box 93 [(.d (.x 0)),(.d (.x 1)),(.d (.x 2))])],[]⟩
abbrev G.bl:hD:=⟨4,[(.ptr 0 0),(.d (.x 3))],[(.box 93 [(.d (.x 0)),(.d (.x 1)),(.d (.x 2))])],6,(.a9 [(.d (.x 0)),(.row 1 (.x 4)),(.row 2 (.x 5))]),[(.box 93 [(.d (.x 1)),(.d (.x 2)),(.d (.x 3))]),(.row false 29 4 (.x 4)),(.row false 29 4 (.x 5))],[]⟩
abbrev G.aj:hD:=⟨4,[(.ptr 0 0),(.d (.x 3))],[(.box 93 [(.d (.x 0)),(.d (.x 1)),(.d (.x 2))])],4,(.d (.x 0)),[(.box 93 [(.d (.x 1)),(.d (.x 2)),(.d (.x 3))])],[]⟩
abbrev G.b8:hD:=⟨4,[(.ptr 0 0),(.d (.x 3))],[(.box 93 [(.d (.x 0)),(.d (.x 1)),(.d (.x 2))])],4,(.d (.x 0)),[(.box 93 [(.d (.x 1)),(.d (.x 2)),(.d (.x 3))])],[]⟩
abbrev G.bB:hD:=⟨3,[(.ptr 0 0)],[(.box 93 [(.d (.x 0)),(.d (.x 1)),(.d (.x 2))])],4,(.d (.x 0)),[(.box 93 [(.d (.x 1)),(.d (.x 2)),(.d (.x 3))])],[]⟩
abbrev G.cp:hD:=⟨3,[(.d (.x 0)),(.d (.x 1)),(.row 0 (.x 2))],[(.row false 3 1 (.x 2))],1,(.row 0 (.x 0)),[(.row false 3 1 (.x 0))],[]⟩
abbrev G.aN:hD:=⟨5,[(.ptr 0 0),(.d (.x 3)),(.d (.x 4))],[(.box 93 [(.d (.x 0)),(.d (.x 1)),(.d (.x 2))])],7,(.agg [(.d (.x 0)),(.d (.x 4)),(.d (.x 5)),(.row 1 (.x 6))]),[(.box 93 [(.d (.x 1)),(.d (.x 2)),(.d (.x 3))]),(.row true 29 4 (.x 6))],[]⟩
abbrev G.bq:hD:=⟨5,[(.ptr 0 0),(.d (.x 3)),(.d (.x 4))],[(.box 93 [(.d (.x 0)),(.d (.x 1)),(.d (.x 2))])],4,(.d (.x 0)),[(.box 93 [(.d (.x 1)),(.d (.x 2)),(.d (.x 3))])],[]⟩
abbrev G.bL:hD:=⟨4,[(.ptr 0 0),(.d (.x 3))],[(.box 93 [(.d (.x 0)),(.d (.x 1)),(.d (.x 2))])],4,(.d (.x 0)),[(.box 93 [(.d (.x 1)),(.d (.x 2)),(.d (.x 3))])],[]⟩
abbrev G.bM:hD:=⟨3,[(.ptr 0 0)],[(.box 93 [(.d (.x 0)),(.d (.x 1)),(.d (.x 2))])],4,(.d (.x 0)),[(.box 93 [(.d (.x 1)),(.d (.x 2)),(.d (.x 3))])],[]⟩
abbrev G.b7:hD:=⟨4,[(.ptr 0 0),(.d (.x 3))],[(.box 93 [(.d (.x 0)),(.d (.x 1)),(.d (.x 2))])],4,(.d (.x 0)),[(.box 93 [(.d (.x 1)),(.d (.x 2)),(.d (.x 3))])],[]⟩
abbrev G.aC:hD:=⟨1,[(.d (.c .aw)),(.d (.x 0))],[],1,(.row 0 (.x 0)),[(.row false 29 4 (.x 0))],[]⟩
abbrev G.aP:hD:=⟨1,[(.d (.c .aw)),(.d (.x 0))],[],0,(.d (.c .aw)),[],[]⟩
def SG:List (Nat×List hD):=[(32,[G.da]),(33,[G.bl]),(35,[G.aj]),(36,[G.b8]),(37,[G.bB]),(40,[G.cp]),(66,[G.aN,G.bq]),(67,[G.bL]),(69,[G.bM]),(70,[G.b7]),(86,[G.aC,G.aP])]
abbrev CF:Cfg:=⟨FL,FR,SG,false⟩
abbrev CFC:Cfg:=⟨FL,FR,SG,true⟩
def SGB:List (Nat×List hD):=[(32,[G.da]),(33,[G.bl]),(35,[G.aj]),(36,[G.b8]),(37,[G.bB]),(40,[G.cp]),(66,[G.aN,G.bq]),(67,[G.bL]),(69,[G.bM]),(70,[G.b7]),(86,[G.aP])]
abbrev CFB:Cfg:=⟨FL,FR,SGB,false⟩
def T.fM:T:=
.op (.call F.mO [(.x 0)] false) (
.ite (.x 1)
 (.ret [(.c (.v (.bool true)))])
 (.op (.call F.dP [(.x 0)] false) (
 .aL (.a9 (.x 2) 0) (
 .aL (.a9 (.x 2) 1) (
 .aL (.a9 (.x 2) 2) (
 .op (.call F.jv [(.ext 2 0),(.ext 2 1),(.ext 2 2)] false) (
 .aL (.a9 (.x 3) 0) (
 .aL (.a9 (.x 3) 1) (
 .op (.call F.ji [(.ext 2 0),(.ext 2 1),(.ext 2 2)] false) (
 .aL (.a9 (.x 4) 0) (
 .aL (.a9 (.x 4) 1) (
 .bind 0 (
  .bind 1 (
   .op (.bin .neq (.ext 3 1) (.ext 4 1)) (
   .ite (.x 5)
    (.jump [(.c (.v (.bool true)))])
    (.op (.bin .neq (.ext 3 1) (.c (.v (.int .i64 0)))) (
    .jump [(.x 6)])))) (
  .ite (.x 5)
   (.bind 1 (
    .op (.bin .eql (.ext 3 1) (.ext 4 1)) (
    .ite (.x 6)
     (.op (.bm (.ext 3 0)) (
     .op (.bin .eql (.x 7) (.c (.v (.int .i64 0)))) (
     .jump [(.x 8)])))
     (.jump [(.c (.v (.bool false)))]))) (
   .dq (.ret [(.x 6)])))
   (.jump []))) (
 .bind 0 (
  .loop [(.c (.v (.int .i64 0)))] (
   .op (.bm (.ext 2 1)) (
   .op (.bin .lss (.x 5) (.x 6)) (
   .ite (.x 7)
    (.op (.elem 4 (.ext 2 1) (.x 5)) (
    .aL (.cells (.x 8) 4) (
    .op (.call F.jZ [(.x 8),(.c (.v (.int .i64 11))),(.ext 3 0)] false) (
    .op (.elem 4 (.ext 2 2) (.x 5)) (
    .aL (.cells (.x 10) 4) (
    .op (.call F.jZ [(.x 10),(.c (.v (.int .i64 11))),(.ext 3 0)] false) (
    .op (.call F.fp [(.x 9),(.x 11)] true) (
    .op (.un .not (.x 12)) (
    .ite (.x 13)
     (.dq (.dq (.ret [(.c (.v (.bool false)))])))
     (.op (.bin .add (.x 5) (.c (.v (.int .i64 1)))) (
     .jump [(.x 14)])))))))))))
    (.dq (.jump [])))))) (
 .bind 0 (
  .loop [(.c (.v (.int .i64 0)))] (
   .op (.bin .lss (.x 5) (.ext 2 0)) (
   .ite (.x 6)
    (.op (.elem 4 (.ext 3 0) (.x 5)) (
    .aL (.cells (.x 7) 4) (
    .op (.call F.jZ [(.x 7),(.c (.v (.int .i64 11))),(.ext 3 0)] false) (
    .op (.elem 4 (.ext 3 0) (.x 5)) (
    .aL (.cells (.x 9) 4) (
    .op (.call F.fp [(.x 8),(.x 9)] true) (
    .op (.un .not (.x 10)) (
    .ite (.x 11)
     (.dq (.dq (.ret [(.c (.v (.bool false)))])))
     (.op (.bin .add (.x 5) (.c (.v (.int .i64 1)))) (
     .jump [(.x 12)]))))))))))
    (.dq (.jump []))))) (
 .op (.bm (.ext 3 0)) (
 .op (.bin .eql (.x 5) (.ext 2 0)) (
 .ret [(.x 6)])))))))))))))))))
theorem T.uZ:ct Try.prog CF Try.f6=some (1,T.fM):=by kernel_rfl
theorem T.sL{args:List AV}{res:AV}(hl:args.length=1)(hn:AV.ae args=true)(hw:bD Try.prog (λ _ _ _=>False) (λ a=>a=res) T.fM args []):a7 Try.prog F.fM args res:=
 aV Try.func6 T.uZ hl hn hw
def T.mO:T:=
.op (.bm (.x 0)) (
.op (.bin .gtr (.x 1) (.c (.v (.int .i64 1048576)))) (
.ret [(.x 2)]))
theorem T.ahK:ct Try.prog CF Try.f12=some (1,T.mO):=by kernel_rfl
theorem T.ado{args:List AV}{res:AV}(hl:args.length=1)(hn:AV.ae args=true)(hw:bD Try.prog (λ _ _ _=>False) (λ a=>a=res) T.mO args []):a7 Try.prog F.mO args res:=
 aV Try.func12 T.ahK hl hn hw
def T.dP:T:=
.op (.bk F.da G.da [(.x 0)]) (
.op (.call F.fV [(.x 0),(.c (.v (.int .i64 8)))] false) (
.op (.bk F.bl G.bl [(.ext 1 0),(.ext 1 1),(.ext 1 2),(.x 2)]) (
.bind 6 (
 .op (.bk F.aj G.aj [(.ext 3 1),(.ext 3 2),(.ext 3 3),(.c (.v (.int .i64 16)))]) (
 .op (.bin .eql (.ext 4 0) (.c (.v (.int .i64 0)))) (
 .ite (.x 5)
  (.aL (.one (.c (.v (.int .i64 (-1))))) (
  .aL (.one (.c (.v (.int .i64 0)))) (
  .aL (.one (.c (.v (.int .i64 300)))) (
  .aL (.one (.c (.v (.int .i64 301)))) (
  .op (.mL (.v (.int .i64 0)) 4 [(0,(.c (.v (.int .i64 (-1))))),(1,(.c (.v (.int .i64 0)))),(2,(.c (.v (.int .i64 300)))),(3,(.c (.v (.int .i64 301))))]) (
  .op (.bk F.b8 G.b8 [(.ext 4 1),(.ext 4 2),(.ext 4 3),(.sl (.x 6))]) (
  .jump [(.ext 7 1),(.ext 7 2),(.ext 7 3),(.ext 3 4),(.ext 3 5),(.ext 7 0)])))))))
  (.op (.bin .eql (.ext 4 0) (.c (.v (.int .i64 1)))) (
  .ite (.x 6)
   (.aL (.one (.c (.v (.int .i64 1)))) (
   .aL (.cells (.agg [(.c (.v (.int .i64 1))),(.c (.v (.int .i64 0))),(.c (.v (.string ⟨#[]⟩))),(.c .aw)]) 4) (
   .op (.mL (.agg [(.v (.int .i64 0)),(.v (.int .i64 0)),(.v (.string ⟨#[]⟩)),.aw]) 1 [(0,(.agg [(.c (.v (.int .i64 1))),(.c (.v (.int .i64 0))),(.c (.v (.string ⟨#[]⟩))),(.c .aw)]))]) (
   .op (.app 4 56 (.ext 3 4) (.sl (.x 7))) (
   .jump [(.ext 4 1),(.ext 4 2),(.ext 4 3),(.x 8),(.ext 3 5),(.ext 3 0)])))))
   (.op (.bin .eql (.ext 4 0) (.c (.v (.int .i64 2)))) (
   .ite (.x 7)
    (.op (.bk F.bB G.bB [(.ext 4 1),(.ext 4 2),(.ext 4 3)]) (
    .aL (.cells (.ext 8 0) 4) (
    .op (.mL (.agg [(.v (.int .i64 0)),(.v (.int .i64 0)),(.v (.string ⟨#[]⟩)),.aw]) 1 [(0,(.ext 8 0))]) (
    .op (.app 4 56 (.ext 3 4) (.sl (.x 9))) (
    .op (.bk F.bB G.bB [(.ext 8 1),(.ext 8 2),(.ext 8 3)]) (
    .aL (.cells (.ext 11 0) 4) (
    .op (.mL (.agg [(.v (.int .i64 0)),(.v (.int .i64 0)),(.v (.string ⟨#[]⟩)),.aw]) 1 [(0,(.ext 11 0))]) (
    .op (.app 4 56 (.ext 3 5) (.sl (.x 12))) (
    .jump [(.ext 11 1),(.ext 11 2),(.ext 11 3),(.x 10),(.x 13),(.ext 3 0)])))))))))
    (.op (.bin .eql (.ext 4 0) (.c (.v (.int .i64 3)))) (
    .ite (.x 8)
     (.loop [(.ext 3 4),(.ext 3 5),(.c (.v (.int .i64 0)))] (
      .op (.bin .lss (.x 11) (.c (.v (.int .i64 9)))) (
      .ite (.x 12)
       (.op (.bin .add (.x 11) (.c (.v (.int .i64 1)))) (
       .aL (.one (.c (.v (.int .i64 11)))) (
       .aL (.one (.x 13)) (
       .aL (.cells (.agg [(.c (.v (.int .i64 11))),(.x 13),(.c (.v (.string ⟨#[]⟩))),(.c .aw)]) 4) (
       .aL (.one (.c (.v (.int .i64 11)))) (
       .aL (.one (.x 11)) (
       .aL (.cells (.agg [(.c (.v (.int .i64 11))),(.x 11),(.c (.v (.string ⟨#[]⟩))),(.c .aw)]) 4) (
       .op (.mL (.agg [(.v (.int .i64 0)),(.v (.int .i64 0)),(.v (.string ⟨#[]⟩)),.aw]) 1 [(0,(.agg [(.c (.v (.int .i64 11))),(.x 11),(.c (.v (.string ⟨#[]⟩))),(.c .aw)]))]) (
       .op (.app 4 56 (.x 9) (.sl (.x 14))) (
       .aL (.cells (.agg [(.c (.v (.int .i64 11))),(.x 13),(.c (.v (.string ⟨#[]⟩))),(.c .aw)]) 4) (
       .aL (.cells (.agg [(.c (.v (.int .i64 11))),(.x 13),(.c (.v (.string ⟨#[]⟩))),(.c .aw)]) 4) (
       .op (.mL (.agg [(.v (.int .i64 0)),(.v (.int .i64 0)),(.v (.string ⟨#[]⟩)),.aw]) 2 [(0,(.agg [(.c (.v (.int .i64 11))),(.x 13),(.c (.v (.string ⟨#[]⟩))),(.c .aw)])),(1,(.agg [(.c (.v (.int .i64 11))),(.x 13),(.c (.v (.string ⟨#[]⟩))),(.c .aw)]))]) (
       .aL (.one (.c (.v (.int .i64 6)))) (
       .aL (.cells (.agg [(.c (.v (.int .i64 6))),(.c (.v (.int .i64 0))),(.c (.v (.string ⟨#[]⟩))),(.sl (.x 16))]) 4) (
       .op (.mL (.agg [(.v (.int .i64 0)),(.v (.int .i64 0)),(.v (.string ⟨#[]⟩)),.aw]) 1 [(0,(.agg [(.c (.v (.int .i64 6))),(.c (.v (.int .i64 0))),(.c (.v (.string ⟨#[]⟩))),(.sl (.x 16))]))]) (
       .op (.app 4 56 (.x 10) (.sl (.x 17))) (
       .op (.bin .add (.x 11) (.c (.v (.int .i64 1)))) (
       .jump [(.x 15),(.x 18),(.x 19)]))))))))))))))))))
       (.dq (.jump [(.ext 4 1),(.ext 4 2),(.ext 4 3),(.x 9),(.x 10),(.c (.v (.int .i64 10)))])))))
     (.op (.bin .eql (.ext 4 0) (.c (.v (.int .i64 4)))) (
     .ite (.x 9)
      (.loop [(.ext 4 1),(.ext 4 2),(.ext 4 3),(.ext 3 4),(.ext 3 5)] (
       .op (.bm (.sl (.x 13))) (
       .op (.bk F.aj G.aj [(.x 10),(.x 11),(.x 12),(.c (.v (.int .i64 2)))]) (
       .op (.bin .add (.c (.v (.int .i64 200))) (.ext 16 0)) (
       .op (.bin .lss (.x 15) (.x 17)) (
       .ite (.x 18)
        (.aL (.one (.c (.v (.int .i64 1)))) (
        .aL (.cells (.agg [(.c (.v (.int .i64 1))),(.c (.v (.int .i64 0))),(.c (.v (.string ⟨#[]⟩))),(.c .aw)]) 4) (
        .op (.mL (.agg [(.v (.int .i64 0)),(.v (.int .i64 0)),(.v (.string ⟨#[]⟩)),.aw]) 1 [(0,(.agg [(.c (.v (.int .i64 1))),(.c (.v (.int .i64 0))),(.c (.v (.string ⟨#[]⟩))),(.c .aw)]))]) (
        .op (.app 4 56 (.x 13) (.sl (.x 19))) (
        .aL (.one (.c (.v (.int .i64 1)))) (
        .aL (.cells (.agg [(.c (.v (.int .i64 1))),(.c (.v (.int .i64 0))),(.c (.v (.string ⟨#[]⟩))),(.c .aw)]) 4) (
        .op (.mL (.agg [(.v (.int .i64 0)),(.v (.int .i64 0)),(.v (.string ⟨#[]⟩)),.aw]) 1 [(0,(.agg [(.c (.v (.int .i64 1))),(.c (.v (.int .i64 0))),(.c (.v (.string ⟨#[]⟩))),(.c .aw)]))]) (
        .op (.app 4 56 (.x 14) (.sl (.x 21))) (
        .jump [(.ext 16 1),(.ext 16 2),(.ext 16 3),(.x 20),(.x 22)])))))))))
        (.dq (.jump [(.ext 16 1),(.ext 16 2),(.ext 16 3),(.x 13),(.x 14),(.ext 3 0)]))))))))
      (.jump [(.ext 4 1),(.ext 4 2),(.ext 4 3),(.ext 3 4),(.ext 3 5),(.ext 3 0)])))))))))))) (
.ret [(.x 9),(.sl (.x 7)),(.sl (.x 8))]))))
theorem T.uI:ct Try.prog CF Try.f13=some (1,T.dP):=by kernel_rfl
theorem T.su{args:List AV}{res:AV}(hl:args.length=1)(hn:AV.ae args=true)(hw:bD Try.prog (λ _ _ _=>False) (λ a=>a=res) T.dP args []):a7 Try.prog F.dP args res:=
 aV Try.func13 T.uI hl hn hw
def T.iy:T:=
.aL (.cells (.x 0) 4) (
.aL (.cells (.x 0) 4) (
.op (.call F.hF [(.x 0)] false) (
.op (.un .not (.x 1)) (
.ite (.x 2)
 (.ret [(.c (.v (.bool false)))])
 (.bind 0 (
  .loop [(.c (.v (.int .i64 0)))] (
   .op (.bm (.cell 0 3)) (
   .op (.bin .lss (.x 3) (.x 4)) (
   .ite (.x 5)
    (.op (.elem 4 (.cell 0 3) (.x 3)) (
    .aL (.cells (.x 6) 4) (
    .op (.call F.iy [(.x 6)] false) (
    .op (.un .not (.x 7)) (
    .ite (.x 8)
     (.dq (.dq (.ret [(.c (.v (.bool false)))])))
     (.op (.bin .add (.x 3) (.c (.v (.int .i64 1)))) (
     .jump [(.x 9)])))))))
    (.dq (.jump [])))))) (
 .ret [(.c (.v (.bool true)))]))))))
theorem T.aeF:ct Try.prog CF Try.f14=some (1,T.iy):=by kernel_rfl
theorem T.aaY{args:List AV}{res:AV}(hl:args.length=1)(hn:AV.ae args=true)(hw:bD Try.prog (λ _ _ _=>False) (λ a=>a=res) T.iy args []):a7 Try.prog F.iy args res:=
 aV Try.func14 T.aeF hl hn hw
def T.fX:T:=
.aL (.cells (.x 0) 4) (
.bind 1 (
 .loop [(.c (.v (.int .i64 1))),(.c (.v (.int .i64 0)))] (
  .op (.bm (.cell 0 3)) (
  .op (.bin .lss (.x 2) (.x 3)) (
  .ite (.x 4)
   (.op (.elem 4 (.cell 0 3) (.x 2)) (
   .aL (.cells (.x 5) 4) (
   .op (.call F.fX [(.x 5)] false) (
   .op (.bin .add (.x 1) (.x 6)) (
   .op (.bin .add (.x 2) (.c (.v (.int .i64 1)))) (
   .jump [(.x 7),(.x 8)]))))))
   (.dq (.jump [(.x 1)])))))) (
.ret [(.x 1)]))
theorem T.aaX:ct Try.prog CF Try.f15=some (1,T.fX):=by kernel_rfl
theorem T.wH{args:List AV}{res:AV}(hl:args.length=1)(hn:AV.ae args=true)(hw:bD Try.prog (λ _ _ _=>False) (λ a=>a=res) T.fX args []):a7 Try.prog F.fX args res:=
 aV Try.func15 T.aaX hl hn hw
def T.jB:T:=
.aL (.cells (.x 0) 4) (
.bind 0 (
 .bind 1 (
  .aL (.cells (.x 0) 4) (
  .op (.call F.iy [(.x 0)] false) (
  .op (.un .not (.x 2)) (
  .ite (.x 3)
   (.jump [(.c (.v (.bool true)))])
   (.op (.call F.eZ [(.x 1),(.c (.v (.int .i64 9))),(.c (.v (.int .i64 11)))] false) (
   .op (.un .not (.x 4)) (
   .jump [(.x 5)]))))))) (
 .ite (.x 2)
  (.op (.mL (.v (.int .i64 0)) 0 []) (
  .dq (.ret [(.sl (.x 3))])))
  (.jump []))) (
.aL (.cells (.x 0) 4) (
.op (.mL (.v (.int .i64 0)) 0 []) (
.op (.bk F.cp G.cp [(.x 0),(.x 1),(.x 2)]) (
.ret [(.sl (.ext 3 0))])))))
theorem T.aeG:tG Try.prog CF false 3 1 Try.f17=some (2,T.jB):=by kernel_rfl
theorem T.yn{args xs:List AV}(hl:args.length=2)(hn:AV.ae args=true)(hw:bD Try.prog (λ _ _ _=>False) (λ a=>a= .sl xs) T.jB args []):uq Try.prog F.jB args false 3 1 xs:=
 vu Try.func17 T.aeG hl hn hw
def T.jZ:T:=
.aL (.cells (.x 0) 4) (
.bind 0 (
 .bind 1 (
  .op (.call F.cG [(.x 1)] false) (
  .op (.un .not (.x 3)) (
  .ite (.x 4)
   (.jump [(.c (.v (.bool true)))])
   (.aL (.cells (.x 0) 4) (
   .op (.call F.gS [(.x 0)] false) (
   .op (.un .not (.x 5)) (
   .jump [(.x 6)]))))))) (
 .ite (.x 3)
  (.aL (.cells (.x 0) 4) (
  .op (.call F.fo [(.x 0)] false) (
  .aL (.cells (.x 4) 4) (
  .dq (.ret [(.agg [(.cell 4 0),(.cell 4 1),(.cell 4 2),(.cell 4 3)])])))))
  (.jump []))) (
.aL (.cells (.x 0) 4) (
.op (.call F.ll [(.x 0),(.x 1),(.x 2)] false) (
.aL (.cells (.x 3) 4) (
.ret [(.agg [(.cell 3 0),(.cell 3 1),(.cell 3 2),(.cell 3 3)])])))))
theorem T.ah1:ct Try.prog CF Try.f19=some (3,T.jZ):=by kernel_rfl
theorem T.adK{args:List AV}{res:AV}(hl:args.length=3)(hn:AV.ae args=true)(hw:bD Try.prog (λ _ _ _=>False) (λ a=>a=res) T.jZ args []):a7 Try.prog F.jZ args res:=
 aV Try.func19 T.ah1 hl hn hw
def T.fp:T:=
.aL (.cells (.x 0) 4) (
.aL (.cells (.x 1) 4) (
.bind 1 (
 .op (.bin .eql (.cell 0 0) (.cell 1 0)) (
 .ite (.x 2)
  (.op (.bin .eql (.cell 0 1) (.cell 1 1)) (
  .ite (.x 3)
   (.op (.bin .eql (.cell 0 2) (.cell 1 2)) (
   .ite (.x 4)
    (.op (.call F.aJ [(.cell 0 3),(.cell 1 3),(.c (.fn F.fp []))] false) (
    .jump [(.x 5)]))
    (.jump [(.c (.v (.bool false)))])))
   (.jump [(.c (.v (.bool false)))])))
  (.jump [(.c (.v (.bool false)))]))) (
.ret [(.x 2)])))
theorem T.abh:ct Try.prog CF Try.f20=some (2,T.fp):=by kernel_rfl
theorem T.xa{args:List AV}{res:AV}(hl:args.length=2)(hn:AV.ae args=true)(hw:bD Try.prog (λ _ _ _=>False) (λ a=>a=res) T.fp args []):a7 Try.prog F.fp args res:=
 aV Try.func20 T.abh hl hn hw
def T.gS:T:=
.aL (.cells (.x 0) 4) (
.bind 1 (
 .aL (.cells (.x 0) 4) (
 .op (.call F.fy [(.x 0)] false) (
 .ite (.x 1)
  (.op (.call F.bg [(.cell 0 3),(.c (.fn F.iq []))] false) (
  .op (.un .not (.x 2)) (
  .jump [(.x 3)])))
  (.jump [(.c (.v (.bool false)))])))) (
.ret [(.x 1)]))
theorem T.afr:ct Try.prog CF Try.f29=some (1,T.gS):=by kernel_rfl
theorem T.abf{args:List AV}{res:AV}(hl:args.length=1)(hn:AV.ae args=true)(hw:bD Try.prog (λ _ _ _=>False) (λ a=>a=res) T.gS args []):a7 Try.prog F.gS args res:=
 aV Try.func29 T.afr hl hn hw
def T.kI:T:=
.aL (.cells (.x 0) 4) (
.bind 0 (
 .bind 1 (
  .op (.call F.cG [(.x 1)] false) (
  .op (.un .not (.x 2)) (
  .ite (.x 3)
   (.jump [(.c (.v (.bool true)))])
   (.aL (.cells (.x 0) 4) (
   .op (.call F.gS [(.x 0)] false) (
   .op (.un .not (.x 4)) (
   .jump [(.x 5)]))))))) (
 .ite (.x 2)
  (.dq (.ret [(.sl (.c (.sl [])))]))
  (.jump []))) (
.aL (.cells (.x 0) 4) (
.op (.eW true 3 1 F.im [(.x 0),(.x 1)]) (
.ret [(.sl (.x 2))]))))
theorem T.afs:tG Try.prog CF true 3 1 Try.f30=some (2,T.kI):=by kernel_rfl
theorem T.zB{args xs:List AV}(hl:args.length=2)(hn:AV.ae args=true)(hw:bD Try.prog (λ _ _ _=>False) (λ a=>a= .sl xs) T.kI args []):uq Try.prog F.kI args true 3 1 xs:=
 vu Try.func30 T.afs hl hn hw
def T.da:T:=
.op (.bm (.x 0)) (
.op (.bin .add (.c (.v (.int .i64 80080))) (.x 1)) (
.bind 1 (
 .loop [(.x 2),(.c (.v (.int .i64 0)))] (
  .bind 0 (
   .bind 1 (
    .op (.bm (.x 0)) (
    .op (.bin .lss (.x 4) (.x 5)) (
    .ite (.x 6)
     (.op (.bin .lss (.x 4) (.c (.v (.int .i64 4000)))) (
     .jump [(.x 7)]))
     (.jump [(.c (.v (.bool false)))])))) (
   .ite (.x 5)
    (.jump [])
    (.dq (.dq (.jump [(.x 3)]))))) (
  .op (.bin .mul (.x 3) (.c (.v (.int .i64 137)))) (
  .op (.elem 1 (.x 0) (.x 4)) (
  .aL (.lt (.x 6) 0) (
  .op (.conv .i64 (.cell 6 0)) (
  .op (.bin .add (.x 5) (.x 7)) (
  .op (.bin .add (.x 8) (.c (.v (.int .i64 11)))) (
  .op (.bin .and (.x 9) (.c (.v (.int .i64 1073741823)))) (
  .op (.bin .add (.x 4) (.c (.v (.int .i64 1)))) (
  .jump [(.x 10),(.x 11)]))))))))))) (
.aL (.one (.x 0)) (
.aL (.one (.x 3)) (
.aL (.cells (.agg [(.x 0),(.c (.v (.int .i64 0))),(.x 3)]) 3) (
.ret [(.x 0),(.c (.v (.int .i64 0))),(.x 3)]))))))
theorem T.acP:jX Try.prog CF G.da Try.f32=some T.da:=by kernel_rfl
theorem T.wE{ins outs:List AV}(hl:ins.length=1)(ho:outs.length=3)(hn:AV.ae ins=true)(hw:bD Try.prog (λ _ _ _=>False) (λ a=>a=br outs) T.da ins []):gQ Try.prog F.da G.da ins outs:=
 eL Try.func32 T.acP hl hn ho hw
def T.bl:T:=
.op (.bk F.aj G.aj [(.x 0),(.x 1),(.x 2),(.c (.v (.int .i64 6)))]) (
.op (.bin .add (.c (.v (.int .i64 1))) (.ext 4 0)) (
.op (.mL (.agg [(.v (.int .i64 0)),(.v (.int .i64 0)),(.v (.string ⟨#[]⟩)),.aw]) 0 []) (
.op (.mL (.agg [(.v (.int .i64 0)),(.v (.int .i64 0)),(.v (.string ⟨#[]⟩)),.aw]) 0 []) (
.bind 5 (
 .op (.bk F.aj G.aj [(.ext 4 1),(.ext 4 2),(.ext 4 3),(.x 3)]) (
 .loop [(.ext 8 1),(.ext 8 2),(.ext 8 3),(.x 6),(.x 7),(.ext 8 0)] (
  .op (.bin .gtr (.x 14) (.c (.v (.int .i64 0)))) (
  .ite (.x 15)
   (.bind 14 (
    .op (.bk F.aN G.aN [(.x 9),(.x 10),(.x 11),(.c (.v (.int .i64 2))),(.c (.v (.int .i64 0)))]) (
    .aL (.one (.ext 16 0)) (
    .aL (.one (.ext 16 4)) (
    .aL (.one (.ext 16 5)) (
    .op (.mL (.agg [(.v (.int .i64 0)),(.v (.int .i64 0)),(.v (.string ⟨#[]⟩)),.aw]) 0 []) (
    .bind 1 (
     .loop [(.x 17),(.c (.v (.int .i64 0)))] (
      .op (.bin .lss (.x 19) (.x 5)) (
      .ite (.x 20)
       (.aL (.one (.c (.v (.int .i64 11)))) (
       .aL (.one (.x 19)) (
       .aL (.cells (.agg [(.c (.v (.int .i64 11))),(.x 19),(.c (.v (.string ⟨#[]⟩))),(.c .aw)]) 4) (
       .op (.mL (.agg [(.v (.int .i64 0)),(.v (.int .i64 0)),(.v (.string ⟨#[]⟩)),.aw]) 1 [(0,(.agg [(.c (.v (.int .i64 11))),(.x 19),(.c (.v (.string ⟨#[]⟩))),(.c .aw)]))]) (
       .op (.app 4 56 (.x 18) (.sl (.x 21))) (
       .op (.bin .add (.x 19) (.c (.v (.int .i64 1)))) (
       .jump [(.x 22),(.x 23)])))))))
       (.dq (.jump [(.x 18)]))))) (
    .op (.bk F.aj G.aj [(.ext 16 1),(.ext 16 2),(.ext 16 3),(.x 5)]) (
    .aL (.idx (.x 18) (.ext 19 0)) (
    .aL (.cells (.agg [(.ext 16 0),(.ext 16 4),(.ext 16 5),(.sl (.ext 16 6))]) 4) (
    .op (.set (.x 18) (.ext 19 0) 0 4 (.agg [(.ext 16 0),(.ext 16 4),(.ext 16 5),(.sl (.ext 16 6))])) (
    .op (.bk F.aN G.aN [(.ext 19 1),(.ext 19 2),(.ext 19 3),(.c (.v (.int .i64 2))),(.x 5)]) (
    .aL (.one (.ext 21 0)) (
    .aL (.one (.ext 21 4)) (
    .aL (.one (.ext 21 5)) (
    .aL (.cells (.agg [(.ext 21 0),(.ext 21 4),(.ext 21 5),(.sl (.ext 21 6))]) 4) (
    .op (.mL (.agg [(.v (.int .i64 0)),(.v (.int .i64 0)),(.v (.string ⟨#[]⟩)),.aw]) 1 [(0,(.agg [(.ext 21 0),(.ext 21 4),(.ext 21 5),(.sl (.ext 21 6))]))]) (
    .op (.app 4 56 (.x 12) (.sl (.x 22))) (
    .op (.bk F.bL G.bL [(.ext 21 1),(.ext 21 2),(.ext 21 3),(.c (.v (.int .i64 4)))]) (
    .ite (.ext 24 0)
     (.op (.bk F.aN G.aN [(.ext 24 1),(.ext 24 2),(.ext 24 3),(.c (.v (.int .i64 2))),(.x 5)]) (
     .aL (.cells (.agg [(.ext 25 0),(.ext 25 4),(.ext 25 5),(.sl (.ext 25 6))]) 4) (
     .op (.mL (.agg [(.v (.int .i64 0)),(.v (.int .i64 0)),(.v (.string ⟨#[]⟩)),.aw]) 1 [(0,(.agg [(.ext 25 0),(.ext 25 4),(.ext 25 5),(.sl (.ext 25 6))]))]) (
     .op (.app 4 56 (.x 13) (.sl (.x 26))) (
     .jump [(.ext 25 1),(.ext 25 2),(.ext 25 3),(.x 23),(.x 27),(.ext 16 0),(.ext 16 4),(.ext 16 5),(.sl (.ext 16 6)),(.ext 21 0),(.ext 21 4),(.ext 21 5),(.sl (.ext 21 6)),(.x 22)])))))
     (.op (.call F.gj [(.agg [(.ext 21 0),(.ext 21 4),(.ext 21 5),(.sl (.ext 21 6))]),(.c (.v (.int .i64 11))),(.sl (.x 20))] false) (
     .aL (.cells (.x 25) 4) (
     .op (.mL (.agg [(.v (.int .i64 0)),(.v (.int .i64 0)),(.v (.string ⟨#[]⟩)),.aw]) 1 [(0,(.x 25))]) (
     .op (.app 4 56 (.x 13) (.sl (.x 26))) (
     .jump [(.ext 24 1),(.ext 24 2),(.ext 24 3),(.x 23),(.x 27),(.ext 16 0),(.ext 16 4),(.ext 16 5),(.sl (.ext 16 6)),(.ext 21 0),(.ext 21 4),(.ext 21 5),(.sl (.ext 21 6)),(.x 22)])))))))))))))))))))))))) (
   .op (.bin .sub (.x 14) (.c (.v (.int .i64 1)))) (
   .jump [(.x 16),(.x 17),(.x 18),(.x 19),(.x 20),(.x 30)])))
   (.dq (.jump [(.x 9),(.x 10),(.x 11),(.x 12),(.x 13)])))))) (
.ret [(.x 5),(.x 8),(.x 9),(.x 10),(.x 11),(.x 12)])))))
theorem T.so:jX Try.prog CF G.bl Try.f33=some T.bl:=by kernel_rfl
theorem T.pI{ins outs:List AV}(hl:ins.length=4)(ho:outs.length=6)(hn:AV.ae ins=true)(hw:bD Try.prog (λ _ _ _=>False) (λ a=>a=br outs) T.bl ins []):gQ Try.prog F.bl G.bl ins outs:=
 eL Try.func33 T.so hl hn ho hw
def T.fV:T:=
.op (.bm (.x 0)) (
.op (.bin .quo (.x 2) (.c (.v (.int .i64 12)))) (
.op (.bin .add (.c (.v (.int .i64 3))) (.x 3)) (
.op (.bin .gtr (.x 4) (.x 1)) (
.ite (.x 5)
 (.ret [(.x 1)])
 (.ret [(.x 4)])))))
theorem T.aaP:ct Try.prog CF Try.f34=some (2,T.fV):=by kernel_rfl
theorem T.pt{args:List AV}{res:AV}(hl:args.length=2)(hn:AV.ae args=true)(hw:bD Try.prog (λ _ _ _=>False) (λ a=>a=res) T.fV args []):a7 Try.prog F.fV args res:=
 aV Try.func34 T.aaP hl hn hw
def T.aj:T:=
.op (.bin .leq (.x 3) (.c (.v (.int .i64 0)))) (
.ite (.x 4)
 (.ret [(.c (.v (.int .i64 0))),(.x 0),(.x 1),(.x 2)])
 (.op (.bin .leq (.x 3) (.c (.v (.int .i64 256)))) (
 .ite (.x 5)
  (.op (.bk F.bM G.bM [(.x 0),(.x 1),(.x 2)]) (
  .op (.bin .rem (.ext 6 0) (.x 3)) (
  .ret [(.x 7),(.ext 6 1),(.ext 6 2),(.ext 6 3)])))
  (.op (.bk F.bM G.bM [(.x 0),(.x 1),(.x 2)]) (
  .op (.bk F.bM G.bM [(.ext 6 1),(.ext 6 2),(.ext 6 3)]) (
  .op (.bk F.bM G.bM [(.ext 7 1),(.ext 7 2),(.ext 7 3)]) (
  .op (.bin .mul (.ext 6 0) (.c (.v (.int .i64 65536)))) (
  .op (.bin .mul (.ext 7 0) (.c (.v (.int .i64 256)))) (
  .op (.bin .add (.x 9) (.x 10)) (
  .op (.bin .add (.x 11) (.ext 8 0)) (
  .op (.bin .rem (.x 12) (.x 3)) (
  .ret [(.x 13),(.ext 8 1),(.ext 8 2),(.ext 8 3)]))))))))))))
theorem T.yl:jX Try.prog CF G.aj Try.f35=some T.aj:=by kernel_rfl
theorem T.ti{ins outs:List AV}(hl:ins.length=4)(ho:outs.length=4)(hn:AV.ae ins=true)(hw:bD Try.prog (λ _ _ _=>False) (λ a=>a=br outs) T.aj ins []):gQ Try.prog F.aj G.aj ins outs:=
 eL Try.func35 T.yl hl hn ho hw
def T.b8:T:=
.op (.bm (.x 3)) (
.op (.bk F.aj G.aj [(.x 0),(.x 1),(.x 2),(.x 4)]) (
.op (.elem 1 (.x 3) (.ext 5 0)) (
.aL (.lt (.x 6) 0) (
.ret [(.cell 6 0),(.ext 5 1),(.ext 5 2),(.ext 5 3)]))))
theorem T.acV:jX Try.prog CF G.b8 Try.f36=some T.b8:=by kernel_rfl
theorem T.wG{ins outs:List AV}(hl:ins.length=4)(ho:outs.length=4)(hn:AV.ae ins=true)(hw:bD Try.prog (λ _ _ _=>False) (λ a=>a=br outs) T.b8 ins []):gQ Try.prog F.b8 G.b8 ins outs:=
 eL Try.func36 T.acV hl hn ho hw
def T.bB:T:=
.op (.bk F.aN G.aN [(.x 0),(.x 1),(.x 2),(.c (.v (.int .i64 4))),(.c (.v (.int .i64 3)))]) (
.aL (.one (.ext 3 0)) (
.aL (.one (.ext 3 4)) (
.aL (.one (.ext 3 5)) (
.bind 7 (
 .op (.bk F.aj G.aj [(.ext 3 1),(.ext 3 2),(.ext 3 3),(.c (.v (.int .i64 12)))]) (
 .op (.bin .eql (.ext 4 0) (.c (.v (.int .i64 0)))) (
 .ite (.x 5)
  (.aL (.one (.c (.v (.int .i64 (-1))))) (
  .aL (.one (.c (.v (.int .i64 1)))) (
  .op (.mL (.v (.int .i64 0)) 2 [(0,(.c (.v (.int .i64 (-1))))),(1,(.c (.v (.int .i64 1))))]) (
  .op (.bk F.b8 G.b8 [(.ext 4 1),(.ext 4 2),(.ext 4 3),(.sl (.x 6))]) (
  .aL (.one (.ext 7 0)) (
  .jump [(.ext 7 1),(.ext 7 2),(.ext 7 3),(.ext 3 6),(.ext 3 0),(.ext 7 0),(.ext 3 5)]))))))
  (.op (.bin .eql (.ext 4 0) (.c (.v (.int .i64 1)))) (
  .ite (.x 6)
   (.aL (.one (.c (.v (.int .i64 1)))) (
   .aL (.cells (.agg [(.c (.v (.int .i64 1))),(.c (.v (.int .i64 0))),(.c (.v (.string ⟨#[]⟩))),(.c .aw)]) 4) (
   .op (.mL (.agg [(.v (.int .i64 0)),(.v (.int .i64 0)),(.v (.string ⟨#[]⟩)),.aw]) 1 [(0,(.agg [(.c (.v (.int .i64 1))),(.c (.v (.int .i64 0))),(.c (.v (.string ⟨#[]⟩))),(.c .aw)]))]) (
   .op (.app 4 56 (.ext 3 6) (.sl (.x 7))) (
   .jump [(.ext 4 1),(.ext 4 2),(.ext 4 3),(.x 8),(.ext 3 0),(.ext 3 4),(.ext 3 5)])))))
   (.op (.bin .eql (.ext 4 0) (.c (.v (.int .i64 2)))) (
   .ite (.x 7)
    (.aL (.one (.c (.v (.int .i64 0)))) (
    .aL (.one (.c (.v (.int .i64 5)))) (
    .aL (.one (.c (.v (.int .i64 7)))) (
    .aL (.one (.c (.v (.int .i64 9)))) (
    .aL (.one (.c (.v (.int .i64 12)))) (
    .op (.mL (.v (.int .i64 0)) 5 [(0,(.c (.v (.int .i64 0)))),(1,(.c (.v (.int .i64 5)))),(2,(.c (.v (.int .i64 7)))),(3,(.c (.v (.int .i64 9)))),(4,(.c (.v (.int .i64 12))))]) (
    .op (.bk F.b8 G.b8 [(.ext 4 1),(.ext 4 2),(.ext 4 3),(.sl (.x 8))]) (
    .aL (.one (.ext 9 0)) (
    .jump [(.ext 9 1),(.ext 9 2),(.ext 9 3),(.ext 3 6),(.ext 9 0),(.ext 3 4),(.ext 3 5)])))))))))
    (.op (.bin .eql (.ext 4 0) (.c (.v (.int .i64 3)))) (
    .ite (.x 8)
     (.aL (.one (.c (.v (.string ⟨#[]⟩)))) (
     .aL (.one (.c (.v (.string ⟨#[120]⟩)))) (
     .aL (.one (.c (.v (.string ⟨#[76,101,116]⟩)))) (
     .op (.mL (.v (.string ⟨#[]⟩)) 3 [(0,(.c (.v (.string ⟨#[]⟩)))),(1,(.c (.v (.string ⟨#[120]⟩)))),(2,(.c (.v (.string ⟨#[76,101,116]⟩))))]) (
     .op (.bk F.b7 G.b7 [(.ext 4 1),(.ext 4 2),(.ext 4 3),(.sl (.x 9))]) (
     .aL (.one (.ext 10 0)) (
     .jump [(.ext 10 1),(.ext 10 2),(.ext 10 3),(.ext 3 6),(.ext 3 0),(.ext 3 4),(.ext 10 0)])))))))
     (.jump [(.ext 4 1),(.ext 4 2),(.ext 4 3),(.ext 3 6),(.ext 3 0),(.ext 3 4),(.ext 3 5)])))))))))) (
.aL (.one (.x 8)) (
.aL (.one (.x 9)) (
.aL (.one (.x 10)) (
.ret [(.agg [(.x 8),(.x 9),(.x 10),(.sl (.x 7))]),(.x 4),(.x 5),(.x 6)]))))))))
theorem T.uD:jX Try.prog CF G.bB Try.f37=some T.bB:=by kernel_rfl
theorem T.rA{ins outs:List AV}(hl:ins.length=3)(ho:outs.length=4)(hn:AV.ae ins=true)(hw:bD Try.prog (λ _ _ _=>False) (λ a=>a=br outs) T.bB ins []):gQ Try.prog F.bB G.bB ins outs:=
 eL Try.func37 T.uD hl hn ho hw
def T.hF:T:=
.aL (.cells (.x 0) 4) (
.op (.bm (.cell 0 3)) (
.bind 0 (
 .bind 1 (
  .op (.bin .neq (.cell 0 0) (.c (.v (.int .i64 7)))) (
  .ite (.x 2)
   (.op (.bin .neq (.cell 0 2) (.c (.v (.string ⟨#[]⟩)))) (
   .ite (.x 3)
    (.jump [(.c (.v (.bool true)))])
    (.op (.bin .lss (.cell 0 0) (.c (.v (.int .i64 9)))) (
    .ite (.x 4)
     (.op (.bin .neq (.cell 0 1) (.c (.v (.int .i64 0)))) (
     .jump [(.x 5)]))
     (.jump [(.c (.v (.bool false)))])))))
   (.op (.bin .lss (.cell 0 0) (.c (.v (.int .i64 9)))) (
   .ite (.x 3)
    (.op (.bin .neq (.cell 0 1) (.c (.v (.int .i64 0)))) (
    .jump [(.x 4)]))
    (.jump [(.c (.v (.bool false)))]))))) (
 .ite (.x 2)
  (.dq (.ret [(.c (.v (.bool false)))]))
  (.jump []))) (
.bind 0 (
 .bind 1 (
  .op (.bin .eql (.cell 0 0) (.c (.v (.int .i64 1)))) (
  .ite (.x 2)
   (.jump [(.x 2)])
   (.op (.bin .eql (.cell 0 0) (.c (.v (.int .i64 2)))) (
   .ite (.x 3)
    (.jump [(.x 3)])
    (.op (.bin .eql (.cell 0 0) (.c (.v (.int .i64 3)))) (
    .ite (.x 4)
     (.jump [(.x 4)])
     (.op (.bin .eql (.cell 0 0) (.c (.v (.int .i64 4)))) (
     .jump [(.x 5)])))))))) (
 .ite (.x 2)
  (.op (.bin .eql (.x 1) (.c (.v (.int .i64 0)))) (
  .dq (.ret [(.x 3)])))
  (.op (.bin .eql (.cell 0 0) (.c (.v (.int .i64 5)))) (
  .ite (.x 3)
   (.op (.bin .eql (.x 1) (.c (.v (.int .i64 2)))) (
   .dq (.ret [(.x 4)])))
   (.op (.bin .eql (.cell 0 0) (.c (.v (.int .i64 6)))) (
   .ite (.x 4)
    (.op (.bin .geq (.x 1) (.c (.v (.int .i64 2)))) (
    .dq (.ret [(.x 5)])))
    (.op (.bin .eql (.cell 0 0) (.c (.v (.int .i64 7)))) (
    .ite (.x 5)
     (.op (.call F.jg [(.cell 0 2)] false) (
     .dq (.ret [(.x 6)])))
     (.op (.bin .eql (.cell 0 0) (.c (.v (.int .i64 8)))) (
     .ite (.x 6)
      (.op (.bin .eql (.x 1) (.c (.v (.int .i64 1)))) (
      .dq (.ret [(.x 7)])))
      (.bind 1 (
       .op (.bin .eql (.cell 0 0) (.c (.v (.int .i64 9)))) (
       .ite (.x 7)
        (.jump [(.x 7)])
        (.op (.bin .eql (.cell 0 0) (.c (.v (.int .i64 10)))) (
        .ite (.x 8)
         (.jump [(.x 8)])
         (.op (.bin .eql (.cell 0 0) (.c (.v (.int .i64 11)))) (
         .jump [(.x 9)])))))) (
      .ite (.x 7)
       (.bind 1 (
        .op (.bin .eql (.x 1) (.c (.v (.int .i64 0)))) (
        .ite (.x 8)
         (.op (.bin .geq (.cell 0 1) (.c (.v (.int .i64 0)))) (
         .jump [(.x 9)]))
         (.jump [(.c (.v (.bool false)))]))) (
       .dq (.ret [(.x 8)])))
       (.jump []))))))))))))) (
.ret [(.c (.v (.bool false)))]))))
theorem T.aaH:ct Try.prog CF Try.f38=some (1,T.hF):=by kernel_rfl
theorem T.wA{args:List AV}{res:AV}(hl:args.length=1)(hn:AV.ae args=true)(hw:bD Try.prog (λ _ _ _=>False) (λ a=>a=res) T.hF args []):a7 Try.prog F.hF args res:=
 aV Try.func38 T.aaH hl hn hw
def T.eZ:T:=
.bind 1 (
 .op (.bin .geq (.x 0) (.x 1)) (
 .ite (.x 3)
  (.op (.bin .leq (.x 0) (.x 2)) (
  .jump [(.x 4)]))
  (.jump [(.c (.v (.bool false)))]))) (
.ret [(.x 3)])
theorem T.aeE:ct Try.prog CF Try.f39=some (3,T.eZ):=by kernel_rfl
theorem T.aaU{args:List AV}{res:AV}(hl:args.length=3)(hn:AV.ae args=true)(hw:bD Try.prog (λ _ _ _=>False) (λ a=>a=res) T.eZ args []):a7 Try.prog F.eZ args res:=
 aV Try.func39 T.aeE hl hn hw
def T.cp:T:=
.aL (.cells (.x 0) 4) (
.bind 1 (
 .bind 1 (
  .op (.bin .eql (.cell 0 0) (.x 1)) (
  .ite (.x 3)
   (.op (.call F.je [(.sl (.x 2)),(.cell 0 1)] true) (
   .op (.un .not (.x 4)) (
   .jump [(.x 5)])))
   (.jump [(.c (.v (.bool false)))]))) (
 .ite (.x 3)
  (.aL (.one (.cell 0 1)) (
  .op (.mL (.v (.int .i64 0)) 1 [(0,(.cell 0 1))]) (
  .op (.app 1 8 (.x 2) (.sl (.x 4))) (
  .jump [(.x 5)]))))
  (.jump [(.x 2)]))) (
.bind 1 (
 .loop [(.x 3),(.c (.v (.int .i64 0)))] (
  .op (.bm (.cell 0 3)) (
  .op (.bin .lss (.x 5) (.x 6)) (
  .ite (.x 7)
   (.op (.elem 4 (.cell 0 3) (.x 5)) (
   .aL (.cells (.x 8) 4) (
   .op (.bk F.cp G.cp [(.x 8),(.x 1),(.x 4)]) (
   .op (.bin .add (.x 5) (.c (.v (.int .i64 1)))) (
   .jump [(.ext 9 0),(.x 10)])))))
   (.dq (.jump [(.x 4)])))))) (
.ret [(.x 4)])))
theorem T.aaL:jX Try.prog CF G.cp Try.f40=some T.cp:=by kernel_rfl
theorem T.uB{ins outs:List AV}(hl:ins.length=3)(ho:outs.length=1)(hn:AV.ae ins=true)(hw:bD Try.prog (λ _ _ _=>False) (λ a=>a=br outs) T.cp ins []):gQ Try.prog F.cp G.cp ins outs:=
 eL Try.func40 T.aaL hl hn ho hw
def T.cG:T:=
.op (.call F.fk [(.x 0),(.c (.v (.int .i64 9))),(.c (.v (.int .i64 11)))] false) (
.ret [(.x 1)])
theorem T.ve:ct Try.prog CF Try.f49=some (1,T.cG):=by kernel_rfl
theorem T.mV{args:List AV}{res:AV}(hl:args.length=1)(hn:AV.ae args=true)(hw:bD Try.prog (λ _ _ _=>False) (λ a=>a=res) T.cG args []):a7 Try.prog F.cG args res:=
 aV Try.func49 T.ve hl hn hw
def T.fo:T:=
.aL (.cells (.x 0) 4) (
.aL (.one (.c .aw)) (
.bind 1 (
 .op (.bm (.cell 0 3)) (
 .loop [(.c (.sl [])),(.c (.v (.int .i64 0)))] (
  .op (.bin .lss (.x 3) (.x 1)) (
  .ite (.x 4)
   (.op (.elem 4 (.cell 0 3) (.x 3)) (
   .aL (.cells (.x 5) 4) (
   .aL (.cells (.x 5) 4) (
   .aL (.cells (.x 5) 4) (
   .op (.call F.fo [(.x 5)] false) (
   .aL (.cells (.x 6) 4) (
   .op (.mL (.agg [(.v (.int .i64 0)),(.v (.int .i64 0)),(.v (.string ⟨#[]⟩)),.aw]) 1 [(0,(.x 6))]) (
   .op (.app 4 56 (.x 2) (.x 7)) (
   .op (.bin .add (.x 3) (.c (.v (.int .i64 1)))) (
   .jump [(.x 8),(.x 9)]))))))))))
   (.dq (.jump [(.x 2)])))))) (
.aL (.one (.cell 0 0)) (
.aL (.one (.cell 0 1)) (
.aL (.one (.cell 0 2)) (
.ret [(.agg [(.cell 0 0),(.cell 0 1),(.cell 0 2),(.sl (.x 1))])]))))))
theorem T.abc:ct Try.prog CF Try.f50=some (1,T.fo):=by kernel_rfl
theorem T.wV{args:List AV}{res:AV}(hl:args.length=1)(hn:AV.ae args=true)(hw:bD Try.prog (λ _ _ _=>False) (λ a=>a=res) T.fo args []):a7 Try.prog F.fo args res:=
 aV Try.func50 T.abc hl hn hw
def T.ll:T:=
.aL (.cells (.x 0) 4) (
.bind 0 (
 .bind 1 (
  .op (.bin .eql (.cell 0 0) (.x 1)) (
  .ite (.x 3)
   (.op (.bm (.x 2)) (
   .op (.bin .lss (.cell 0 1) (.x 4)) (
   .jump [(.x 5)])))
   (.jump [(.c (.v (.bool false)))]))) (
 .ite (.x 3)
  (.op (.elem 4 (.x 2) (.cell 0 1)) (
  .aL (.cells (.x 4) 4) (
  .op (.call F.fo [(.x 4)] false) (
  .aL (.cells (.x 5) 4) (
  .dq (.ret [(.agg [(.cell 5 0),(.cell 5 1),(.cell 5 2),(.cell 5 3)])]))))))
  (.jump []))) (
.aL (.cells (.x 0) 4) (
.aL (.cells (.x 0) 4) (
.aL (.one (.c .aw)) (
.bind 1 (
 .op (.bm (.cell 0 3)) (
 .loop [(.c (.sl [])),(.c (.v (.int .i64 0)))] (
  .op (.bin .lss (.x 5) (.x 3)) (
  .ite (.x 6)
   (.op (.elem 4 (.cell 0 3) (.x 5)) (
   .aL (.cells (.x 7) 4) (
   .aL (.cells (.x 7) 4) (
   .aL (.cells (.x 7) 4) (
   .op (.call F.ll [(.x 7),(.x 1),(.x 2)] false) (
   .aL (.cells (.x 8) 4) (
   .op (.mL (.agg [(.v (.int .i64 0)),(.v (.int .i64 0)),(.v (.string ⟨#[]⟩)),.aw]) 1 [(0,(.x 8))]) (
   .op (.app 4 56 (.x 4) (.x 9)) (
   .op (.bin .add (.x 5) (.c (.v (.int .i64 1)))) (
   .jump [(.x 10),(.x 11)]))))))))))
   (.dq (.jump [(.x 4)])))))) (
.aL (.one (.cell 0 0)) (
.aL (.one (.cell 0 1)) (
.aL (.one (.cell 0 2)) (
.ret [(.agg [(.cell 0 0),(.cell 0 1),(.cell 0 2),(.sl (.x 3))])])))))))))
theorem T.ah0:ct Try.prog CF Try.f51=some (3,T.ll):=by kernel_rfl
theorem T.adx{args:List AV}{res:AV}(hl:args.length=3)(hn:AV.ae args=true)(hw:bD Try.prog (λ _ _ _=>False) (λ a=>a=res) T.ll args []):a7 Try.prog F.ll args res:=
 aV Try.func51 T.ah0 hl hn hw
def T.aJ:T:=
.op (.bm (.x 0)) (
.op (.bm (.x 1)) (
.op (.bin .neq (.x 3) (.x 4)) (
.ite (.x 5)
 (.ret [(.c (.v (.bool false)))])
 (.bind 0 (
  .op (.bm (.x 0)) (
  .loop [(.c (.v (.int .i64 0)))] (
   .op (.bin .lss (.x 7) (.x 6)) (
   .ite (.x 8)
    (.op (.elem 4 (.x 0) (.x 7)) (
    .aL (.cells (.x 9) 4) (
    .aL (.cells (.x 9) 4) (
    .op (.elem 4 (.x 1) (.x 7)) (
    .aL (.cells (.x 10) 4) (
    .aL (.cells (.x 10) 4) (
    .aL (.cells (.x 9) 4) (
    .aL (.cells (.x 10) 4) (
    .op (.ew (.x 2) [(.x 9),(.x 10)] false) (
    .op (.un .not (.x 11)) (
    .ite (.x 12)
     (.dq (.dq (.ret [(.c (.v (.bool false)))])))
     (.op (.bin .add (.x 7) (.c (.v (.int .i64 1)))) (
     .jump [(.x 13)])))))))))))))
    (.dq (.jump [])))))) (
 .ret [(.c (.v (.bool true)))])))))
theorem T.eC:ct Try.prog CF Try.f52=some (3,T.aJ):=by kernel_rfl
theorem T.eg{args:List AV}{res:AV}(hl:args.length=3)(hn:AV.ae args=true)(hw:bD Try.prog (λ _ _ _=>False) (λ a=>a=res) T.aJ args []):a7 Try.prog F.aJ args res:=
 aV Try.func52 T.eC hl hn hw
def T.fb:T:=
.bind 0 (
 .loop [(.c (.v (.int .i64 0)))] (
  .op (.bm (.x 0)) (
  .op (.bin .lss (.x 2) (.x 3)) (
  .ite (.x 4)
   (.bind 1 (
    .bind 0 (
     .bind 1 (
      .op (.elem 4 (.x 0) (.x 2)) (
      .aL (.cells (.x 5) 4) (
      .op (.call F.fX [(.x 5)] false) (
      .op (.bin .gtr (.x 6) (.c (.v (.int .i64 200)))) (
      .ite (.x 7)
       (.jump [(.c (.v (.bool true)))])
       (.op (.elem 4 (.x 0) (.x 2)) (
       .aL (.cells (.x 8) 4) (
       .op (.call F.iy [(.x 8)] false) (
       .op (.un .not (.x 9)) (
       .jump [(.x 10)])))))))))) (
     .ite (.x 5)
      (.dq (.dq (.dq (.dq (.ret [(.c (.v (.bool false)))])))))
      (.jump []))) (
    .op (.elem 4 (.x 0) (.x 2)) (
    .aL (.cells (.x 5) 4) (
    .op (.eW false 3 1 F.jB [(.x 5),(.c (.v (.int .i64 11)))]) (
    .loop [(.c (.v (.int .i64 0)))] (
     .op (.bm (.sl (.x 6))) (
     .op (.bin .lss (.x 7) (.x 8)) (
     .ite (.x 9)
      (.aL (.idx (.x 6) (.x 7)) (
      .op (.get (.x 6) (.x 7) 0 none) (
      .op (.bin .geq (.x 10) (.x 1)) (
      .ite (.x 11)
       (.dq (.dq (.dq (.dq (.ret [(.c (.v (.bool false)))])))))
       (.op (.bin .add (.x 7) (.c (.v (.int .i64 1)))) (
       .jump [(.x 12)]))))))
      (.dq (.jump [(.x 6)])))))))))) (
   .op (.bin .add (.x 2) (.c (.v (.int .i64 1)))) (
   .jump [(.x 6)])))
   (.dq (.jump [])))))) (
.ret [(.c (.v (.bool true)))])
theorem T.x7:ct Try.prog CF Try.f53=some (2,T.fb):=by kernel_rfl
theorem T.uA{args:List AV}{res:AV}(hl:args.length=2)(hn:AV.ae args=true)(hw:bD Try.prog (λ _ _ _=>False) (λ a=>a=res) T.fb args []):a7 Try.prog F.fb args res:=
 aV Try.func53 T.x7 hl hn hw
def T.hZ:T:=
.aL (.cells (.x 0) 4) (
.aL (.cells (.x 1) 4) (
.bind 0 (
 .bind 1 (
  .op (.bin .neq (.cell 0 0) (.cell 1 0)) (
  .ite (.x 2)
   (.jump [(.c (.v (.bool true)))])
   (.op (.bin .neq (.cell 0 1) (.cell 1 1)) (
   .ite (.x 3)
    (.jump [(.c (.v (.bool true)))])
    (.op (.bin .neq (.cell 0 2) (.cell 1 2)) (
    .ite (.x 4)
     (.jump [(.c (.v (.bool true)))])
     (.op (.bm (.cell 0 3)) (
     .op (.bm (.cell 1 3)) (
     .op (.bin .neq (.x 5) (.x 6)) (
     .jump [(.x 7)])))))))))) (
 .ite (.x 2)
  (.dq (.ret [(.c (.v (.bool false)))]))
  (.jump []))) (
.bind 0 (
 .loop [(.c (.v (.int .i64 0)))] (
  .op (.bm (.cell 0 3)) (
  .op (.bin .lss (.x 2) (.x 3)) (
  .ite (.x 4)
   (.op (.elem 4 (.cell 0 3) (.x 2)) (
   .aL (.cells (.x 5) 4) (
   .op (.elem 4 (.cell 1 3) (.x 2)) (
   .aL (.cells (.x 6) 4) (
   .op (.call F.hZ [(.x 5),(.x 6)] true) (
   .op (.un .not (.x 7)) (
   .ite (.x 8)
    (.dq (.dq (.ret [(.c (.v (.bool false)))])))
    (.op (.bin .add (.x 2) (.c (.v (.int .i64 1)))) (
    .jump [(.x 9)])))))))))
   (.dq (.jump [])))))) (
.ret [(.c (.v (.bool true)))]))))
theorem T.aaZ:ct Try.prog CF Try.f61=some (2,T.hZ):=by kernel_rfl
theorem T.wI{args:List AV}{res:AV}(hl:args.length=2)(hn:AV.ae args=true)(hw:bD Try.prog (λ _ _ _=>False) (λ a=>a=res) T.hZ args []):a7 Try.prog F.hZ args res:=
 aV Try.func61 T.aaZ hl hn hw
def T.fy:T:=
.aL (.cells (.x 0) 4) (
.op (.bm (.cell 0 3)) (
.op (.bin .eql (.x 1) (.c (.v (.int .i64 0)))) (
.op (.bin .eql (.cell 0 2) (.c (.v (.string ⟨#[]⟩)))) (
.op (.bin .eql (.cell 0 1) (.c (.v (.int .i64 0)))) (
.bind 3 (
 .bind 1 (
  .op (.bin .eql (.cell 0 0) (.c (.v (.int .i64 1)))) (
  .ite (.x 5)
   (.jump [(.x 5)])
   (.op (.bin .eql (.cell 0 0) (.c (.v (.int .i64 2)))) (
   .ite (.x 6)
    (.jump [(.x 6)])
    (.op (.bin .eql (.cell 0 0) (.c (.v (.int .i64 3)))) (
    .ite (.x 7)
     (.jump [(.x 7)])
     (.op (.bin .eql (.cell 0 0) (.c (.v (.int .i64 4)))) (
     .jump [(.x 8)])))))))) (
 .ite (.x 5)
  (.jump [(.x 2),(.x 3),(.x 4)])
  (.op (.bin .eql (.cell 0 0) (.c (.v (.int .i64 5)))) (
  .ite (.x 6)
   (.op (.bm (.cell 0 3)) (
   .op (.bin .eql (.x 7) (.c (.v (.int .i64 2)))) (
   .jump [(.x 8),(.x 3),(.x 4)])))
   (.op (.bin .eql (.cell 0 0) (.c (.v (.int .i64 6)))) (
   .ite (.x 7)
    (.op (.bm (.cell 0 3)) (
    .op (.bin .geq (.x 8) (.c (.v (.int .i64 2)))) (
    .jump [(.x 9),(.x 3),(.x 4)])))
    (.op (.bin .eql (.cell 0 0) (.c (.v (.int .i64 7)))) (
    .ite (.x 8)
     (.op (.call F.jr [(.cell 0 2)] false) (
     .jump [(.c (.v (.bool true))),(.x 9),(.x 4)]))
     (.op (.bin .eql (.cell 0 0) (.c (.v (.int .i64 8)))) (
     .ite (.x 9)
      (.op (.bm (.cell 0 3)) (
      .op (.bin .eql (.x 10) (.c (.v (.int .i64 1)))) (
      .jump [(.x 11),(.x 3),(.x 4)])))
      (.bind 1 (
       .op (.bin .eql (.cell 0 0) (.c (.v (.int .i64 9)))) (
       .ite (.x 10)
        (.jump [(.x 10)])
        (.op (.bin .eql (.cell 0 0) (.c (.v (.int .i64 10)))) (
        .ite (.x 11)
         (.jump [(.x 11)])
         (.op (.bin .eql (.cell 0 0) (.c (.v (.int .i64 11)))) (
         .jump [(.x 12)])))))) (
      .ite (.x 10)
       (.op (.bin .geq (.cell 0 1) (.c (.v (.int .i64 0)))) (
       .jump [(.x 2),(.x 3),(.x 11)]))
       (.dq (.ret [(.c (.v (.bool false)))])))))))))))))) (
.bind 1 (
 .ite (.x 5)
  (.ite (.x 6)
   (.jump [(.x 7)])
   (.jump [(.c (.v (.bool false)))]))
  (.jump [(.c (.v (.bool false)))])) (
.ret [(.x 8)])))))))
theorem T.wN:ct Try.prog CF Try.f62=some (1,T.fy):=by kernel_rfl
theorem T.tO{args:List AV}{res:AV}(hl:args.length=1)(hn:AV.ae args=true)(hw:bD Try.prog (λ _ _ _=>False) (λ a=>a=res) T.fy args []):a7 Try.prog F.fy args res:=
 aV Try.func62 T.wN hl hn hw
def T.bg:T:=
.op (.call F.bp [(.x 0),(.x 1)] false) (
.op (.bin .geq (.x 2) (.c (.v (.int .i64 0)))) (
.ret [(.x 3)]))
theorem T.ia:ct Try.prog CF Try.f63=some (2,T.bg):=by kernel_rfl
theorem T.gV{args:List AV}{res:AV}(hl:args.length=2)(hn:AV.ae args=true)(hw:bD Try.prog (λ _ _ _=>False) (λ a=>a=res) T.bg args []):a7 Try.prog F.bg args res:=
 aV Try.func63 T.ia hl hn hw
def T.iq:T:=
.aL (.cells (.x 0) 4) (
.aL (.cells (.x 0) 4) (
.op (.call F.gS [(.x 0)] false) (
.op (.un .not (.x 1)) (
.ret [(.x 2)]))))
theorem T.abg:ct Try.prog CF Try.f64=some (1,T.iq):=by kernel_rfl
theorem T.wZ{args:List AV}{res:AV}(hl:args.length=1)(hn:AV.ae args=true)(hw:bD Try.prog (λ _ _ _=>False) (λ a=>a=res) T.iq args []):a7 Try.prog F.iq args res:=
 aV Try.func64 T.abg hl hn hw
def T.im:T:=
.aL (.cells (.x 0) 4) (
.bind 1 (
 .op (.bin .eql (.cell 0 0) (.x 1)) (
 .ite (.x 2)
  (.aL (.one (.cell 0 1)) (
  .op (.mL (.v (.int .i64 0)) 1 [(0,(.cell 0 1))]) (
  .op (.app 1 8 (.c (.sl [])) (.sl (.x 3))) (
  .jump [(.x 4)]))))
  (.jump [(.c (.sl []))]))) (
.bind 1 (
 .op (.bm (.cell 0 3)) (
 .loop [(.x 2),(.c (.v (.int .i64 0)))] (
  .op (.bin .lss (.x 5) (.x 3)) (
  .ite (.x 6)
   (.bind 6 (
    .op (.elem 4 (.cell 0 3) (.x 5)) (
    .aL (.cells (.x 7) 4) (
    .aL (.cells (.x 7) 4) (
    .aL (.cells (.x 7) 4) (
    .op (.eW true 3 1 F.im [(.x 7),(.x 1)]) (
    .op (.bm (.sl (.x 8))) (
    .loop [(.x 4),(.c (.v (.int .i64 0)))] (
     .op (.bin .lss (.x 11) (.x 9)) (
     .ite (.x 12)
      (.bind 1 (
       .aL (.idx (.x 8) (.x 11)) (
       .op (.get (.x 8) (.x 11) 0 none) (
       .op (.call F.cn [(.sl (.x 10)),(.x 13)] true) (
       .op (.un .not (.x 14)) (
       .ite (.x 15)
        (.aL (.one (.x 13)) (
        .op (.mL (.v (.int .i64 0)) 1 [(0,(.x 13))]) (
        .op (.app 1 8 (.x 10) (.sl (.x 16))) (
        .jump [(.x 17)]))))
        (.jump [(.x 10)])))))) (
      .op (.bin .add (.x 11) (.c (.v (.int .i64 1)))) (
      .jump [(.x 13),(.x 14)])))
      (.dq (.jump [(.x 10),(.cell 7 0),(.cell 7 1),(.cell 7 2),(.cell 7 3),(.x 8)]))))))))))) (
   .op (.bin .add (.x 5) (.c (.v (.int .i64 1)))) (
   .jump [(.x 7),(.x 13)])))
   (.dq (.jump [(.x 4)])))))) (
.ret [(.sl (.x 3))])))
theorem T.adF:tG Try.prog CF true 3 1 Try.f65=some (2,T.im):=by kernel_rfl
theorem T.wT{args xs:List AV}(hl:args.length=2)(hn:AV.ae args=true)(hw:bD Try.prog (λ _ _ _=>False) (λ a=>a= .sl xs) T.im args []):uq Try.prog F.im args true 3 1 xs:=
 vu Try.func65 T.adF hl hn hw
def T.aN:T:=
.bind 3 (
 .bind 4 (
  .op (.bin .leq (.x 3) (.c (.v (.int .i64 0)))) (
  .ite (.x 5)
   (.jump [(.x 0),(.x 1),(.x 2),(.c (.v (.bool true)))])
   (.op (.bk F.bL G.bL [(.x 0),(.x 1),(.x 2),(.c (.v (.int .i64 4)))]) (
   .jump [(.ext 6 1),(.ext 6 2),(.ext 6 3),(.ext 6 0)])))) (
 .ite (.x 8)
  (.bind 3 (
   .op (.bk F.aj G.aj [(.x 5),(.x 6),(.x 7),(.c (.v (.int .i64 8)))]) (
   .bind 1 (
    .op (.bin .eql (.ext 9 0) (.c (.v (.int .i64 0)))) (
    .ite (.x 10)
     (.jump [(.x 10)])
     (.op (.bin .eql (.ext 9 0) (.c (.v (.int .i64 1)))) (
     .ite (.x 11)
      (.jump [(.x 11)])
      (.op (.bin .eql (.ext 9 0) (.c (.v (.int .i64 2)))) (
      .ite (.x 12)
       (.jump [(.x 12)])
       (.op (.bin .eql (.ext 9 0) (.c (.v (.int .i64 3)))) (
       .jump [(.x 13)])))))))) (
   .ite (.x 10)
    (.op (.bin .gtr (.x 4) (.c (.v (.int .i64 0)))) (
    .ite (.x 11)
     (.op (.bk F.aj G.aj [(.ext 9 1),(.ext 9 2),(.ext 9 3),(.x 4)]) (
     .aL (.one (.c (.v (.int .i64 11)))) (
     .aL (.one (.ext 12 0)) (
     .aL (.cells (.agg [(.c (.v (.int .i64 11))),(.ext 12 0),(.c (.v (.string ⟨#[]⟩))),(.c .aw)]) 4) (
     .dq (.dq (.ret [(.c (.v (.int .i64 11))),(.ext 12 1),(.ext 12 2),(.ext 12 3),(.ext 12 0),(.c (.v (.string ⟨#[]⟩))),(.c (.sl []))])))))))
     (.jump [(.ext 9 1),(.ext 9 2),(.ext 9 3)])))
    (.op (.bin .eql (.ext 9 0) (.c (.v (.int .i64 4)))) (
    .ite (.x 11)
     (.op (.bk F.aj G.aj [(.ext 9 1),(.ext 9 2),(.ext 9 3),(.c (.v (.int .i64 2)))]) (
     .aL (.one (.c (.v (.int .i64 9)))) (
     .aL (.one (.ext 12 0)) (
     .aL (.cells (.agg [(.c (.v (.int .i64 9))),(.ext 12 0),(.c (.v (.string ⟨#[]⟩))),(.c .aw)]) 4) (
     .dq (.dq (.ret [(.c (.v (.int .i64 9))),(.ext 12 1),(.ext 12 2),(.ext 12 3),(.ext 12 0),(.c (.v (.string ⟨#[]⟩))),(.c (.sl []))])))))))
     (.op (.bin .eql (.ext 9 0) (.c (.v (.int .i64 5)))) (
     .ite (.x 12)
      (.op (.bk F.aj G.aj [(.ext 9 1),(.ext 9 2),(.ext 9 3),(.c (.v (.int .i64 2)))]) (
      .aL (.one (.c (.v (.int .i64 10)))) (
      .aL (.one (.ext 13 0)) (
      .aL (.cells (.agg [(.c (.v (.int .i64 10))),(.ext 13 0),(.c (.v (.string ⟨#[]⟩))),(.c .aw)]) 4) (
      .dq (.dq (.ret [(.c (.v (.int .i64 10))),(.ext 13 1),(.ext 13 2),(.ext 13 3),(.ext 13 0),(.c (.v (.string ⟨#[]⟩))),(.c (.sl []))])))))))
      (.jump [(.ext 9 1),(.ext 9 2),(.ext 9 3)])))))))) (
  .op (.bk F.aj G.aj [(.x 9),(.x 10),(.x 11),(.c (.v (.int .i64 4)))]) (
  .op (.bin .add (.c (.v (.int .i64 1))) (.ext 12 0)) (
  .aL (.one (.x 13)) (
  .aL (.cells (.agg [(.x 13),(.c (.v (.int .i64 0))),(.c (.v (.string ⟨#[]⟩))),(.c .aw)]) 4) (
  .dq (.ret [(.x 13),(.ext 12 1),(.ext 12 2),(.ext 12 3),(.c (.v (.int .i64 0))),(.c (.v (.string ⟨#[]⟩))),(.c (.sl []))])))))))
  (.jump [(.x 5),(.x 6),(.x 7)]))) (
.op (.bk F.aj G.aj [(.x 5),(.x 6),(.x 7),(.c (.v (.int .i64 4)))]) (
.op (.bin .add (.c (.v (.int .i64 5))) (.ext 8 0)) (
.aL (.one (.x 9)) (
.aL (.cells (.agg [(.x 9),(.c (.v (.int .i64 0))),(.c (.v (.string ⟨#[]⟩))),(.c .aw)]) 4) (
.bind 5 (
 .op (.bin .eql (.x 9) (.c (.v (.int .i64 6)))) (
 .ite (.x 10)
  (.op (.bk F.aj G.aj [(.ext 8 1),(.ext 8 2),(.ext 8 3),(.c (.v (.int .i64 2)))]) (
  .op (.bin .add (.c (.v (.int .i64 2))) (.ext 11 0)) (
  .jump [(.ext 11 1),(.ext 11 2),(.ext 11 3),(.c (.v (.string ⟨#[]⟩))),(.x 12)])))
  (.op (.bin .eql (.x 9) (.c (.v (.int .i64 7)))) (
  .ite (.x 11)
   (.aL (.one (.c (.v (.string ⟨#[116]⟩)))) (
   .aL (.one (.c (.v (.string ⟨#[108,105,115,116]⟩)))) (
   .aL (.one (.c (.v (.string ⟨#[117]⟩)))) (
   .op (.mL (.v (.string ⟨#[]⟩)) 3 [(0,(.c (.v (.string ⟨#[116]⟩)))),(1,(.c (.v (.string ⟨#[108,105,115,116]⟩)))),(2,(.c (.v (.string ⟨#[117]⟩))))]) (
   .op (.bk F.b7 G.b7 [(.ext 8 1),(.ext 8 2),(.ext 8 3),(.sl (.x 12))]) (
   .aL (.one (.ext 13 0)) (
   .op (.bk F.aj G.aj [(.ext 13 1),(.ext 13 2),(.ext 13 3),(.c (.v (.int .i64 3)))]) (
   .jump [(.ext 14 1),(.ext 14 2),(.ext 14 3),(.ext 13 0),(.ext 14 0)]))))))))
   (.op (.bin .eql (.x 9) (.c (.v (.int .i64 8)))) (
   .ite (.x 12)
    (.jump [(.ext 8 1),(.ext 8 2),(.ext 8 3),(.c (.v (.string ⟨#[]⟩))),(.c (.v (.int .i64 1)))])
    (.jump [(.ext 8 1),(.ext 8 2),(.ext 8 3),(.c (.v (.string ⟨#[]⟩))),(.c (.v (.int .i64 2)))]))))))) (
.bind 4 (
 .loop [(.x 10),(.x 11),(.x 12),(.c (.sl [])),(.c (.v (.int .i64 0)))] (
  .op (.bin .lss (.x 19) (.x 14)) (
  .ite (.x 20)
   (.op (.bin .sub (.x 3) (.c (.v (.int .i64 1)))) (
   .op (.bk F.aN G.bq [(.x 15),(.x 16),(.x 17),(.x 21),(.x 4)]) (
   .aL (.cells (.ext 22 0) 4) (
   .op (.mL (.agg [(.v (.int .i64 0)),(.v (.int .i64 0)),(.v (.string ⟨#[]⟩)),.aw]) 1 [(0,(.ext 22 0))]) (
   .op (.app 4 56 (.x 18) (.x 23)) (
   .op (.bin .add (.x 19) (.c (.v (.int .i64 1)))) (
   .jump [(.ext 22 1),(.ext 22 2),(.ext 22 3),(.x 24),(.x 25)])))))))
   (.dq (.jump [(.x 15),(.x 16),(.x 17),(.x 18)]))))) (
.aL (.one (.x 9)) (
.aL (.one (.c (.v (.int .i64 0)))) (
.aL (.one (.x 13)) (
.ret [(.x 9),(.x 15),(.x 16),(.x 17),(.c (.v (.int .i64 0))),(.x 13),(.x 18)]))))))))))
theorem T.aaM:jX Try.prog CF G.aN Try.f66=some T.aN:=by kernel_rfl
theorem T.oa{ins outs:List AV}(hl:ins.length=5)(ho:outs.length=7)(hn:AV.ae ins=true)(hw:bD Try.prog (λ _ _ _=>False) (λ a=>a=br outs) T.aN ins []):gQ Try.prog F.aN G.aN ins outs:=
 eL Try.func66 T.aaM hl hn ho hw
def T.bq:T:=
.bind 3 (
 .bind 4 (
  .op (.bin .leq (.x 3) (.c (.v (.int .i64 0)))) (
  .ite (.x 5)
   (.jump [(.x 0),(.x 1),(.x 2),(.c (.v (.bool true)))])
   (.op (.bk F.bL G.bL [(.x 0),(.x 1),(.x 2),(.c (.v (.int .i64 4)))]) (
   .jump [(.ext 6 1),(.ext 6 2),(.ext 6 3),(.ext 6 0)])))) (
 .ite (.x 8)
  (.bind 3 (
   .op (.bk F.aj G.aj [(.x 5),(.x 6),(.x 7),(.c (.v (.int .i64 8)))]) (
   .bind 1 (
    .op (.bin .eql (.ext 9 0) (.c (.v (.int .i64 0)))) (
    .ite (.x 10)
     (.jump [(.x 10)])
     (.op (.bin .eql (.ext 9 0) (.c (.v (.int .i64 1)))) (
     .ite (.x 11)
      (.jump [(.x 11)])
      (.op (.bin .eql (.ext 9 0) (.c (.v (.int .i64 2)))) (
      .ite (.x 12)
       (.jump [(.x 12)])
       (.op (.bin .eql (.ext 9 0) (.c (.v (.int .i64 3)))) (
       .jump [(.x 13)])))))))) (
   .ite (.x 10)
    (.op (.bin .gtr (.x 4) (.c (.v (.int .i64 0)))) (
    .ite (.x 11)
     (.op (.bk F.aj G.aj [(.ext 9 1),(.ext 9 2),(.ext 9 3),(.x 4)]) (
     .aL (.one (.c (.v (.int .i64 11)))) (
     .aL (.one (.ext 12 0)) (
     .aL (.cells (.agg [(.c (.v (.int .i64 11))),(.ext 12 0),(.c (.v (.string ⟨#[]⟩))),(.c .aw)]) 4) (
     .dq (.dq (.ret [(.agg [(.c (.v (.int .i64 11))),(.ext 12 0),(.c (.v (.string ⟨#[]⟩))),(.c .aw)]),(.ext 12 1),(.ext 12 2),(.ext 12 3)])))))))
     (.jump [(.ext 9 1),(.ext 9 2),(.ext 9 3)])))
    (.op (.bin .eql (.ext 9 0) (.c (.v (.int .i64 4)))) (
    .ite (.x 11)
     (.op (.bk F.aj G.aj [(.ext 9 1),(.ext 9 2),(.ext 9 3),(.c (.v (.int .i64 2)))]) (
     .aL (.one (.c (.v (.int .i64 9)))) (
     .aL (.one (.ext 12 0)) (
     .aL (.cells (.agg [(.c (.v (.int .i64 9))),(.ext 12 0),(.c (.v (.string ⟨#[]⟩))),(.c .aw)]) 4) (
     .dq (.dq (.ret [(.agg [(.c (.v (.int .i64 9))),(.ext 12 0),(.c (.v (.string ⟨#[]⟩))),(.c .aw)]),(.ext 12 1),(.ext 12 2),(.ext 12 3)])))))))
     (.op (.bin .eql (.ext 9 0) (.c (.v (.int .i64 5)))) (
     .ite (.x 12)
      (.op (.bk F.aj G.aj [(.ext 9 1),(.ext 9 2),(.ext 9 3),(.c (.v (.int .i64 2)))]) (
      .aL (.one (.c (.v (.int .i64 10)))) (
      .aL (.one (.ext 13 0)) (
      .aL (.cells (.agg [(.c (.v (.int .i64 10))),(.ext 13 0),(.c (.v (.string ⟨#[]⟩))),(.c .aw)]) 4) (
      .dq (.dq (.ret [(.agg [(.c (.v (.int .i64 10))),(.ext 13 0),(.c (.v (.string ⟨#[]⟩))),(.c .aw)]),(.ext 13 1),(.ext 13 2),(.ext 13 3)])))))))
      (.jump [(.ext 9 1),(.ext 9 2),(.ext 9 3)])))))))) (
  .op (.bk F.aj G.aj [(.x 9),(.x 10),(.x 11),(.c (.v (.int .i64 4)))]) (
  .op (.bin .add (.c (.v (.int .i64 1))) (.ext 12 0)) (
  .aL (.one (.x 13)) (
  .aL (.cells (.agg [(.x 13),(.c (.v (.int .i64 0))),(.c (.v (.string ⟨#[]⟩))),(.c .aw)]) 4) (
  .dq (.ret [(.agg [(.x 13),(.c (.v (.int .i64 0))),(.c (.v (.string ⟨#[]⟩))),(.c .aw)]),(.ext 12 1),(.ext 12 2),(.ext 12 3)])))))))
  (.jump [(.x 5),(.x 6),(.x 7)]))) (
.op (.bk F.aj G.aj [(.x 5),(.x 6),(.x 7),(.c (.v (.int .i64 4)))]) (
.op (.bin .add (.c (.v (.int .i64 5))) (.ext 8 0)) (
.aL (.one (.x 9)) (
.aL (.cells (.agg [(.x 9),(.c (.v (.int .i64 0))),(.c (.v (.string ⟨#[]⟩))),(.c .aw)]) 4) (
.bind 5 (
 .op (.bin .eql (.x 9) (.c (.v (.int .i64 6)))) (
 .ite (.x 10)
  (.op (.bk F.aj G.aj [(.ext 8 1),(.ext 8 2),(.ext 8 3),(.c (.v (.int .i64 2)))]) (
  .op (.bin .add (.c (.v (.int .i64 2))) (.ext 11 0)) (
  .jump [(.ext 11 1),(.ext 11 2),(.ext 11 3),(.c (.v (.string ⟨#[]⟩))),(.x 12)])))
  (.op (.bin .eql (.x 9) (.c (.v (.int .i64 7)))) (
  .ite (.x 11)
   (.aL (.one (.c (.v (.string ⟨#[116]⟩)))) (
   .aL (.one (.c (.v (.string ⟨#[108,105,115,116]⟩)))) (
   .aL (.one (.c (.v (.string ⟨#[117]⟩)))) (
   .op (.mL (.v (.string ⟨#[]⟩)) 3 [(0,(.c (.v (.string ⟨#[116]⟩)))),(1,(.c (.v (.string ⟨#[108,105,115,116]⟩)))),(2,(.c (.v (.string ⟨#[117]⟩))))]) (
   .op (.bk F.b7 G.b7 [(.ext 8 1),(.ext 8 2),(.ext 8 3),(.sl (.x 12))]) (
   .aL (.one (.ext 13 0)) (
   .op (.bk F.aj G.aj [(.ext 13 1),(.ext 13 2),(.ext 13 3),(.c (.v (.int .i64 3)))]) (
   .jump [(.ext 14 1),(.ext 14 2),(.ext 14 3),(.ext 13 0),(.ext 14 0)]))))))))
   (.op (.bin .eql (.x 9) (.c (.v (.int .i64 8)))) (
   .ite (.x 12)
    (.jump [(.ext 8 1),(.ext 8 2),(.ext 8 3),(.c (.v (.string ⟨#[]⟩))),(.c (.v (.int .i64 1)))])
    (.jump [(.ext 8 1),(.ext 8 2),(.ext 8 3),(.c (.v (.string ⟨#[]⟩))),(.c (.v (.int .i64 2)))]))))))) (
.bind 4 (
 .loop [(.x 10),(.x 11),(.x 12),(.c (.sl [])),(.c (.v (.int .i64 0)))] (
  .op (.bin .lss (.x 19) (.x 14)) (
  .ite (.x 20)
   (.op (.bin .sub (.x 3) (.c (.v (.int .i64 1)))) (
   .op (.bk F.aN G.bq [(.x 15),(.x 16),(.x 17),(.x 21),(.x 4)]) (
   .aL (.cells (.ext 22 0) 4) (
   .op (.mL (.agg [(.v (.int .i64 0)),(.v (.int .i64 0)),(.v (.string ⟨#[]⟩)),.aw]) 1 [(0,(.ext 22 0))]) (
   .op (.app 4 56 (.x 18) (.x 23)) (
   .op (.bin .add (.x 19) (.c (.v (.int .i64 1)))) (
   .jump [(.ext 22 1),(.ext 22 2),(.ext 22 3),(.x 24),(.x 25)])))))))
   (.dq (.jump [(.x 15),(.x 16),(.x 17),(.x 18)]))))) (
.aL (.one (.x 9)) (
.aL (.one (.c (.v (.int .i64 0)))) (
.aL (.one (.x 13)) (
.ret [(.agg [(.x 9),(.c (.v (.int .i64 0))),(.x 13),(.sl (.x 18))]),(.x 15),(.x 16),(.x 17)]))))))))))
theorem T.uC:jX Try.prog CF G.bq Try.f66=some T.bq:=by kernel_rfl
theorem T.fF{ins outs:List AV}(hl:ins.length=5)(ho:outs.length=4)(hn:AV.ae ins=true)(hw:bD Try.prog (λ _ _ _=>False) (λ a=>a=br outs) T.bq ins []):gQ Try.prog F.aN G.bq ins outs:=
 eL Try.func66 T.uC hl hn ho hw
def T.bL:T:=
.op (.bk F.aj G.aj [(.x 0),(.x 1),(.x 2),(.x 3)]) (
.op (.bin .eql (.ext 4 0) (.c (.v (.int .i64 0)))) (
.ret [(.x 5),(.ext 4 1),(.ext 4 2),(.ext 4 3)]))
theorem T.aaQ:jX Try.prog CF G.bL Try.f67=some T.bL:=by kernel_rfl
theorem T.uF{ins outs:List AV}(hl:ins.length=4)(ho:outs.length=4)(hn:AV.ae ins=true)(hw:bD Try.prog (λ _ _ _=>False) (λ a=>a=br outs) T.bL ins []):gQ Try.prog F.bL G.bL ins outs:=
 eL Try.func67 T.aaQ hl hn ho hw
def T.gj:T:=
.aL (.cells (.x 0) 4) (
.bind 0 (
 .bind 1 (
  .op (.bin .eql (.cell 0 0) (.x 1)) (
  .ite (.x 3)
   (.op (.bm (.x 2)) (
   .op (.bin .lss (.cell 0 1) (.x 4)) (
   .jump [(.x 5)])))
   (.jump [(.c (.v (.bool false)))]))) (
 .ite (.x 3)
  (.op (.elem 4 (.x 2) (.cell 0 1)) (
  .aL (.cells (.x 4) 4) (
  .op (.call F.fU [(.x 4)] false) (
  .aL (.cells (.x 5) 4) (
  .dq (.ret [(.agg [(.cell 5 0),(.cell 5 1),(.cell 5 2),(.cell 5 3)])]))))))
  (.jump []))) (
.aL (.cells (.x 0) 4) (
.aL (.cells (.x 0) 4) (
.op (.mL (.agg [(.v (.int .i64 0)),(.v (.int .i64 0)),(.v (.string ⟨#[]⟩)),.aw]) 0 []) (
.bind 1 (
 .loop [(.x 3),(.c (.v (.int .i64 0)))] (
  .op (.bm (.cell 0 3)) (
  .op (.bin .lss (.x 5) (.x 6)) (
  .ite (.x 7)
   (.op (.elem 4 (.cell 0 3) (.x 5)) (
   .aL (.cells (.x 8) 4) (
   .op (.call F.gj [(.x 8),(.x 1),(.x 2)] false) (
   .aL (.cells (.x 9) 4) (
   .op (.mL (.agg [(.v (.int .i64 0)),(.v (.int .i64 0)),(.v (.string ⟨#[]⟩)),.aw]) 1 [(0,(.x 9))]) (
   .op (.app 4 56 (.x 4) (.x 10)) (
   .op (.bin .add (.x 5) (.c (.v (.int .i64 1)))) (
   .jump [(.x 11),(.x 12)]))))))))
   (.dq (.jump [(.x 4)])))))) (
.aL (.one (.cell 0 0)) (
.aL (.one (.cell 0 1)) (
.aL (.one (.cell 0 2)) (
.ret [(.agg [(.cell 0 0),(.cell 0 1),(.cell 0 2),(.sl (.x 4))])])))))))))
theorem T.acH:ct Try.prog CF Try.f68=some (3,T.gj):=by kernel_rfl
theorem T.x9{args:List AV}{res:AV}(hl:args.length=3)(hn:AV.ae args=true)(hw:bD Try.prog (λ _ _ _=>False) (λ a=>a=res) T.gj args []):a7 Try.prog F.gj args res:=
 aV Try.func68 T.acH hl hn hw
def T.bM:T:=
.op (.bin .mul (.x 2) (.c (.v (.int .i64 6364136223846793005)))) (
.op (.bin .add (.x 3) (.c (.v (.int .i64 1442695040888963407)))) (
.aL (.one (.x 4)) (
.op (.bin .shr (.x 4) (.c (.v (.int .u64 33)))) (
.op (.bin .shr (.x 4) (.c (.v (.int .u64 47)))) (
.op (.bin .xor (.x 5) (.x 6)) (
.op (.bin .and (.x 7) (.c (.v (.int .i64 255)))) (
.bind 2 (
 .op (.bm (.x 0)) (
 .op (.bin .lss (.x 1) (.x 9)) (
 .ite (.x 10)
  (.op (.elem 1 (.x 0) (.x 1)) (
  .aL (.lt (.x 11) 0) (
  .op (.conv .i64 (.cell 11 0)) (
  .op (.bin .add (.x 8) (.x 12)) (
  .op (.bin .and (.x 13) (.c (.v (.int .i64 255)))) (
  .op (.bin .add (.x 1) (.c (.v (.int .i64 1)))) (
  .aL (.one (.x 15)) (
  .jump [(.x 15),(.x 14)]))))))))
  (.jump [(.x 1),(.x 8)])))) (
.ret [(.x 10),(.x 0),(.x 9),(.x 4)]))))))))
theorem T.aaV:jX Try.prog CF G.bM Try.f69=some T.bM:=by kernel_rfl
theorem T.uH{ins outs:List AV}(hl:ins.length=3)(ho:outs.length=4)(hn:AV.ae ins=true)(hw:bD Try.prog (λ _ _ _=>False) (λ a=>a=br outs) T.bM ins []):gQ Try.prog F.bM G.bM ins outs:=
 eL Try.func69 T.aaV hl hn ho hw
def T.b7:T:=
.op (.bm (.x 3)) (
.op (.bk F.aj G.aj [(.x 0),(.x 1),(.x 2),(.x 4)]) (
.op (.elem 1 (.x 3) (.ext 5 0)) (
.aL (.lt (.x 6) 0) (
.ret [(.cell 6 0),(.ext 5 1),(.ext 5 2),(.ext 5 3)]))))
theorem T.acL:jX Try.prog CF G.b7 Try.f70=some T.b7:=by kernel_rfl
theorem T.wD{ins outs:List AV}(hl:ins.length=4)(ho:outs.length=4)(hn:AV.ae ins=true)(hw:bD Try.prog (λ _ _ _=>False) (λ a=>a=br outs) T.b7 ins []):gQ Try.prog F.b7 G.b7 ins outs:=
 eL Try.func70 T.acL hl hn ho hw
def T.jg:T:=
.bind 1 (
 .op (.call F.fW [(.x 0),(.c (.v (.bool false)))] false) (
 .ite (.x 1)
  (.op (.call F.jh [(.x 0)] false) (
  .op (.un .not (.x 2)) (
  .jump [(.x 3)])))
  (.jump [(.c (.v (.bool false)))]))) (
.ret [(.x 1)])
theorem T.acR:ct Try.prog CF Try.f71=some (1,T.jg):=by kernel_rfl
theorem T.yj{args:List AV}{res:AV}(hl:args.length=1)(hn:AV.ae args=true)(hw:bD Try.prog (λ _ _ _=>False) (λ a=>a=res) T.jg args []):a7 Try.prog F.jg args res:=
 aV Try.func71 T.acR hl hn hw
def T.je:T:=
.bind 0 (
 .loop [(.c (.v (.int .i64 0)))] (
  .op (.bm (.x 0)) (
  .op (.bin .lss (.x 2) (.x 3)) (
  .ite (.x 4)
   (.op (.elem 1 (.x 0) (.x 2)) (
   .aL (.lt (.x 5) 0) (
   .op (.bin .eql (.cell 5 0) (.x 1)) (
   .ite (.x 6)
    (.dq (.dq (.ret [(.c (.v (.bool true)))])))
    (.op (.bin .add (.x 2) (.c (.v (.int .i64 1)))) (
    .jump [(.x 7)]))))))
   (.dq (.jump [])))))) (
.ret [(.c (.v (.bool false)))])
theorem T.acJ:ct Try.prog CF Try.f72=some (2,T.je):=by kernel_rfl
theorem T.yd{args:List AV}{res:AV}(hl:args.length=2)(hn:AV.ae args=true)(hw:bD Try.prog (λ _ _ _=>False) (λ a=>a=res) T.je args []):a7 Try.prog F.je args res:=
 aV Try.func72 T.acJ hl hn hw
def T.fk:T:=
.bind 1 (
 .op (.bin .geq (.x 0) (.x 1)) (
 .ite (.x 3)
  (.op (.bin .leq (.x 0) (.x 2)) (
  .jump [(.x 4)]))
  (.jump [(.c (.v (.bool false)))]))) (
.ret [(.x 3)])
theorem T.aa9:ct Try.prog CF Try.f73=some (3,T.fk):=by kernel_rfl
theorem T.wL{args:List AV}{res:AV}(hl:args.length=3)(hn:AV.ae args=true)(hw:bD Try.prog (λ _ _ _=>False) (λ a=>a=res) T.fk args []):a7 Try.prog F.fk args res:=
 aV Try.func73 T.aa9 hl hn hw
def T.dc:T:=
.bind 1 (
 .op (.bm (.x 0)) (
 .loop [(.c (.v (.int .i64 0))),(.c (.v (.int .i64 0)))] (
  .op (.bin .lss (.x 3) (.x 1)) (
  .ite (.x 4)
   (.bind 1 (
    .op (.elem 1 (.x 0) (.x 3)) (
    .aL (.lt (.x 5) 0) (
    .op (.bm (.cell 5 0)) (
    .op (.bin .add (.x 2) (.x 6)) (
    .op (.bin .lss (.x 7) (.c (.v (.int .i64 0)))) (
    .ite (.x 8)
     (.aL (.no) (
     .aL (.no) (
     .jump [(.x 7)])))
     (.jump [(.x 7)]))))))) (
   .op (.bin .add (.x 3) (.c (.v (.int .i64 1)))) (
   .jump [(.x 5),(.x 6)])))
   (.dq (.jump [(.x 2)])))))) (
.op (.bk F.aC G.aP [(.x 1)]) (
.bind 1 (
 .op (.bm (.x 0)) (
 .loop [(.c (.sl [])),(.c (.v (.int .i64 0)))] (
  .op (.bin .lss (.x 5) (.x 3)) (
  .ite (.x 6)
   (.op (.elem 1 (.x 0) (.x 5)) (
   .aL (.lt (.x 7) 0) (
   .op (.app 4 56 (.x 4) (.cell 7 0)) (
   .op (.bin .add (.x 5) (.c (.v (.int .i64 1)))) (
   .jump [(.x 8),(.x 9)])))))
   (.dq (.jump [(.x 4)])))))) (
.ret [(.sl (.x 3))])))
theorem T.jl:ct Try.prog CFB Try.f74=some (1,T.dc):=by kernel_rfl
theorem T.iM{args:List AV}{res:AV}(hl:args.length=1)(hn:AV.ae args=true)(hw:bD Try.prog (λ _ _ _=>False) (λ a=>a=res) T.dc args []):a7 Try.prog F.aS args res:=
 aV Try.func74 T.jl hl hn hw
def T.aS:T:=
.bind 1 (
 .op (.bm (.x 0)) (
 .loop [(.c (.v (.int .i64 0))),(.c (.v (.int .i64 0)))] (
  .op (.bin .lss (.x 3) (.x 1)) (
  .ite (.x 4)
   (.bind 1 (
    .op (.elem 1 (.x 0) (.x 3)) (
    .aL (.lt (.x 5) 0) (
    .op (.bm (.cell 5 0)) (
    .op (.bin .add (.x 2) (.x 6)) (
    .op (.bin .lss (.x 7) (.c (.v (.int .i64 0)))) (
    .ite (.x 8)
     (.aL (.no) (
     .aL (.no) (
     .jump [(.x 7)])))
     (.jump [(.x 7)]))))))) (
   .op (.bin .add (.x 3) (.c (.v (.int .i64 1)))) (
   .jump [(.x 5),(.x 6)])))
   (.dq (.jump [(.x 2)])))))) (
.op (.bk F.aC G.aC [(.x 1)]) (
.bind 1 (
 .op (.bm (.x 0)) (
 .loop [(.ext 2 0),(.c (.v (.int .i64 0)))] (
  .op (.bin .lss (.x 5) (.x 3)) (
  .ite (.x 6)
   (.op (.elem 1 (.x 0) (.x 5)) (
   .aL (.lt (.x 7) 0) (
   .op (.app 4 56 (.x 4) (.cell 7 0)) (
   .op (.bin .add (.x 5) (.c (.v (.int .i64 1)))) (
   .jump [(.x 8),(.x 9)])))))
   (.dq (.jump [(.x 4)])))))) (
.ret [(.sl (.x 3))])))
theorem T.jT:ct Try.prog CF Try.f74=some (1,T.aS):=by kernel_rfl
theorem T.jk{args:List AV}{res:AV}(hl:args.length=1)(hn:AV.ae args=true)(hw:bD Try.prog (λ _ _ _=>False) (λ a=>a=res) T.aS args []):a7 Try.prog F.aS args res:=
 aV Try.func74 T.jT hl hn hw
def T.gd:T:=
.aL (.cells (.x 0) 4) (
.bind 1 (
 .op (.bm (.cell 0 3)) (
 .loop [(.c (.v (.int .i64 1))),(.c (.v (.int .i64 0)))] (
  .op (.bin .lss (.x 3) (.x 1)) (
  .ite (.x 4)
   (.op (.elem 4 (.cell 0 3) (.x 3)) (
   .aL (.cells (.x 5) 4) (
   .aL (.cells (.x 5) 4) (
   .aL (.cells (.x 5) 4) (
   .op (.call F.gd [(.x 5)] false) (
   .op (.bin .add (.x 2) (.x 6)) (
   .op (.bin .add (.x 3) (.c (.v (.int .i64 1)))) (
   .jump [(.x 7),(.x 8)]))))))))
   (.dq (.jump [(.x 2)])))))) (
.ret [(.x 1)]))
theorem T.abe:ct Try.prog CF Try.f75=some (1,T.gd):=by kernel_rfl
theorem T.wY{args:List AV}{res:AV}(hl:args.length=1)(hn:AV.ae args=true)(hw:bD Try.prog (λ _ _ _=>False) (λ a=>a=res) T.gd args []):a7 Try.prog F.gd args res:=
 aV Try.func75 T.abe hl hn hw
def T.jr:T:=
.bind 1 (
 .op (.call F.il [(.x 0),(.c (.fn F.ik []))] false) (
 .ite (.x 1)
  (.op (.call F.js [(.x 0)] false) (
  .op (.un .not (.x 2)) (
  .jump [(.x 3)])))
  (.jump [(.c (.v (.bool false)))]))) (
.ret [(.x 1)])
theorem T.ady:ct Try.prog CF Try.f80=some (1,T.jr):=by kernel_rfl
theorem T.zt{args:List AV}{res:AV}(hl:args.length=1)(hn:AV.ae args=true)(hw:bD Try.prog (λ _ _ _=>False) (λ a=>a=res) T.jr args []):a7 Try.prog F.jr args res:=
 aV Try.func80 T.ady hl hn hw
def T.bp:T:=
.bind 0 (
 .op (.bm (.x 0)) (
 .loop [(.c (.v (.int .i64 0)))] (
  .op (.bin .lss (.x 3) (.x 2)) (
  .ite (.x 4)
   (.op (.elem 4 (.x 0) (.x 3)) (
   .aL (.cells (.x 5) 4) (
   .op (.ew (.x 1) [(.x 5)] false) (
   .ite (.x 6)
    (.dq (.dq (.ret [(.x 3)])))
    (.op (.bin .add (.x 3) (.c (.v (.int .i64 1)))) (
    .jump [(.x 7)]))))))
   (.dq (.jump [])))))) (
.ret [(.c (.v (.int .i64 (-1))))])
theorem T.iU:ct Try.prog CF Try.f81=some (2,T.bp):=by kernel_rfl
theorem T.iz{args:List AV}{res:AV}(hl:args.length=2)(hn:AV.ae args=true)(hw:bD Try.prog (λ _ _ _=>False) (λ a=>a=res) T.bp args []):a7 Try.prog F.bp args res:=
 aV Try.func81 T.iU hl hn hw
def T.cn:T:=
.op (.call F.cQ [(.x 0),(.x 1)] false) (
.op (.bin .geq (.x 2) (.c (.v (.int .i64 0)))) (
.ret [(.x 3)]))
theorem T.mG:ct Try.prog CF Try.f82=some (2,T.cn):=by kernel_rfl
theorem T.lz{args:List AV}{res:AV}(hl:args.length=2)(hn:AV.ae args=true)(hw:bD Try.prog (λ _ _ _=>False) (λ a=>a=res) T.cn args []):a7 Try.prog F.cn args res:=
 aV Try.func82 T.mG hl hn hw
def T.fU:T:=
.aL (.cells (.x 0) 4) (
.aL (.cells (.x 0) 4) (
.aL (.cells (.x 0) 4) (
.op (.mL (.agg [(.v (.int .i64 0)),(.v (.int .i64 0)),(.v (.string ⟨#[]⟩)),.aw]) 0 []) (
.bind 1 (
 .loop [(.x 1),(.c (.v (.int .i64 0)))] (
  .op (.bm (.cell 0 3)) (
  .op (.bin .lss (.x 3) (.x 4)) (
  .ite (.x 5)
   (.op (.elem 4 (.cell 0 3) (.x 3)) (
   .aL (.cells (.x 6) 4) (
   .op (.call F.fU [(.x 6)] false) (
   .aL (.cells (.x 7) 4) (
   .op (.mL (.agg [(.v (.int .i64 0)),(.v (.int .i64 0)),(.v (.string ⟨#[]⟩)),.aw]) 1 [(0,(.x 7))]) (
   .op (.app 4 56 (.x 2) (.x 8)) (
   .op (.bin .add (.x 3) (.c (.v (.int .i64 1)))) (
   .jump [(.x 9),(.x 10)]))))))))
   (.dq (.jump [(.x 2)])))))) (
.aL (.one (.cell 0 0)) (
.aL (.one (.cell 0 1)) (
.aL (.one (.cell 0 2)) (
.ret [(.agg [(.cell 0 0),(.cell 0 1),(.cell 0 2),(.sl (.x 2))])]))))))))
theorem T.aaN:ct Try.prog CF Try.f83=some (1,T.fU):=by kernel_rfl
theorem T.wC{args:List AV}{res:AV}(hl:args.length=1)(hn:AV.ae args=true)(hw:bD Try.prog (λ _ _ _=>False) (λ a=>a=res) T.fU args []):a7 Try.prog F.fU args res:=
 aV Try.func83 T.aaN hl hn hw
def T.fW:T:=
.bind 0 (
 .bind 1 (
  .op (.lg (.x 0)) (
  .op (.call F.eZ [(.x 2),(.c (.v (.int .i64 1))),(.c (.v (.int .i64 12)))] false) (
  .op (.un .not (.x 3)) (
  .ite (.x 4)
   (.jump [(.c (.v (.bool true)))])
   (.op (.lF (.x 0) (.c (.v (.int .i64 0)))) (
   .op (.conv .i64 (.x 5)) (
   .op (.call F.fe [(.x 6)] false) (
   .op (.beq true (.x 1) (.x 7)) (
   .ite (.x 8)
    (.jump [(.c (.v (.bool true)))])
    (.op (.un .not (.x 1)) (
    .ite (.x 9)
     (.op (.lF (.x 0) (.c (.v (.int .i64 0)))) (
     .op (.conv .i64 (.x 10)) (
     .op (.call F.ff [(.x 11)] false) (
     .op (.un .not (.x 12)) (
     .jump [(.x 13)])))))
     (.jump [(.c (.v (.bool false)))])))))))))))) (
 .ite (.x 2)
  (.dq (.ret [(.c (.v (.bool false)))]))
  (.jump []))) (
.bind 0 (
 .loop [(.c (.v (.int .i64 0)))] (
  .op (.lg (.x 0)) (
  .op (.bin .lss (.x 2) (.x 3)) (
  .ite (.x 4)
   (.op (.lF (.x 0) (.x 2)) (
   .op (.conv .i64 (.x 5)) (
   .op (.call F.ef [(.x 6)] false) (
   .op (.un .not (.x 7)) (
   .ite (.x 8)
    (.dq (.dq (.ret [(.c (.v (.bool false)))])))
    (.op (.bin .add (.x 2) (.c (.v (.int .i64 1)))) (
    .jump [(.x 9)])))))))
   (.dq (.jump [])))))) (
.ret [(.c (.v (.bool true)))]))
theorem T.aaS:ct Try.prog CF Try.f84=some (2,T.fW):=by kernel_rfl
theorem T.wF{args:List AV}{res:AV}(hl:args.length=2)(hn:AV.ae args=true)(hw:bD Try.prog (λ _ _ _=>False) (λ a=>a=res) T.fW args []):a7 Try.prog F.fW args res:=
 aV Try.func84 T.aaS hl hn hw
def T.jh:T:=
.aL (.one (.c (.v (.string ⟨#[116,121,112,101]⟩)))) (
.aL (.one (.c (.v (.string ⟨#[111,102]⟩)))) (
.aL (.one (.c (.v (.string ⟨#[108,101,116]⟩)))) (
.aL (.one (.c (.v (.string ⟨#[114,101,99]⟩)))) (
.aL (.one (.c (.v (.string ⟨#[105,110]⟩)))) (
.aL (.one (.c (.v (.string ⟨#[102,117,110]⟩)))) (
.aL (.one (.c (.v (.string ⟨#[105,102]⟩)))) (
.aL (.one (.c (.v (.string ⟨#[116,104,101,110]⟩)))) (
.aL (.one (.c (.v (.string ⟨#[101,108,115,101]⟩)))) (
.aL (.one (.c (.v (.string ⟨#[109,97,116,99,104]⟩)))) (
.aL (.one (.c (.v (.string ⟨#[119,105,116,104]⟩)))) (
.aL (.one (.c (.v (.string ⟨#[101,110,100]⟩)))) (
.aL (.one (.c (.v (.string ⟨#[116,114,117,101]⟩)))) (
.aL (.one (.c (.v (.string ⟨#[102,97,108,115,101]⟩)))) (
.aL (.one (.c (.v (.string ⟨#[114,101,102]⟩)))) (
.aL (.one (.c (.v (.string ⟨#[114,101,97,100]⟩)))) (
.aL (.one (.c (.v (.string ⟨#[112,114,105,110,116]⟩)))) (
.aL (.one (.c (.v (.string ⟨#[101,120,105,116]⟩)))) (
.aL (.one (.c (.v (.string ⟨#[115,105,122,101]⟩)))) (
.op (.mL (.v (.string ⟨#[]⟩)) 19 [(0,(.c (.v (.string ⟨#[116,121,112,101]⟩)))),(1,(.c (.v (.string ⟨#[111,102]⟩)))),(2,(.c (.v (.string ⟨#[108,101,116]⟩)))),(3,(.c (.v (.string ⟨#[114,101,99]⟩)))),(4,(.c (.v (.string ⟨#[105,110]⟩)))),(5,(.c (.v (.string ⟨#[102,117,110]⟩)))),(6,(.c (.v (.string ⟨#[105,102]⟩)))),(7,(.c (.v (.string ⟨#[116,104,101,110]⟩)))),(8,(.c (.v (.string ⟨#[101,108,115,101]⟩)))),(9,(.c (.v (.string ⟨#[109,97,116,99,104]⟩)))),(10,(.c (.v (.string ⟨#[119,105,116,104]⟩)))),(11,(.c (.v (.string ⟨#[101,110,100]⟩)))),(12,(.c (.v (.string ⟨#[116,114,117,101]⟩)))),(13,(.c (.v (.string ⟨#[102,97,108,115,101]⟩)))),(14,(.c (.v (.string ⟨#[114,101,102]⟩)))),(15,(.c (.v (.string ⟨#[114,101,97,100]⟩)))),(16,(.c (.v (.string ⟨#[112,114,105,110,116]⟩)))),(17,(.c (.v (.string ⟨#[101,120,105,116]⟩)))),(18,(.c (.v (.string ⟨#[115,105,122,101]⟩))))]) (
.bind 0 (
 .loop [(.c (.v (.int .i64 0)))] (
  .op (.bm (.sl (.x 1))) (
  .op (.bin .lss (.x 2) (.x 3)) (
  .ite (.x 4)
   (.aL (.idx (.x 1) (.x 2)) (
   .op (.get (.x 1) (.x 2) 0 none) (
   .op (.bin .eql (.x 5) (.x 0)) (
   .ite (.x 6)
    (.dq (.dq (.ret [(.c (.v (.bool true)))])))
    (.op (.bin .add (.x 2) (.c (.v (.int .i64 1)))) (
    .jump [(.x 7)]))))))
   (.dq (.jump [])))))) (
.ret [(.c (.v (.bool false)))])))))))))))))))))))))
theorem T.acT:ct Try.prog CF Try.f85=some (1,T.jh):=by kernel_rfl
theorem T.yk{args:List AV}{res:AV}(hl:args.length=1)(hn:AV.ae args=true)(hw:bD Try.prog (λ _ _ _=>False) (λ a=>a=res) T.jh args []):a7 Try.prog F.jh args res:=
 aV Try.func85 T.acT hl hn hw
def T.aC:T:=
.op (.bin .lss (.x 0) (.c (.v (.int .i64 0)))) (
.ite (.x 1)
 (.aL (.no) (
 .aL (.no) (
 .op (.bin .sub (.c (.v (.int .i64 0))) (.c (.v (.int .i64 0)))) (
 .op (.bin .sub (.x 0) (.x 2)) (
 .op (.bin .gtr (.x 3) (.c (.v (.int .i64 0)))) (
 .ite (.x 4)
  (.op (.rep 56 (.agg [(.v (.int .i64 0)),(.v (.int .i64 0)),(.v (.string ⟨#[]⟩)),.aw]) (.x 3) (.x 3)) (
  .aL (.ne (.x 5)) (
  .ret [(.c (.sl []))])))
  (.aL (.no) (
  .ret []))))))))
 (.op (.bin .sub (.c (.v (.int .i64 0))) (.c (.v (.int .i64 0)))) (
 .op (.bin .sub (.x 0) (.x 2)) (
 .op (.bin .gtr (.x 3) (.c (.v (.int .i64 0)))) (
 .ite (.x 4)
  (.op (.rep 56 (.agg [(.v (.int .i64 0)),(.v (.int .i64 0)),(.v (.string ⟨#[]⟩)),.aw]) (.x 3) (.x 3)) (
  .aL (.ne (.x 5)) (
  .ret [(.c (.sl []))])))
  (.aL (.no) (
  .ret [])))))))
theorem T.kB:jX Try.prog CFC G.aC Try.f86=some T.aC:=by kernel_rfl
theorem T.jN{ins outs:List AV}(hl:ins.length=1)(ho:outs.length=1)(hn:AV.ae ins=true)(hw:bD Try.prog (λ _ _ _=>False) (λ a=>a=br outs) T.aC ins []):gQ Try.prog F.aC G.aC ins outs:=
 eL Try.func86 T.kB hl hn ho hw
def T.aP:T:=
.op (.bin .lss (.x 0) (.c (.v (.int .i64 0)))) (
.ite (.x 1)
 (.aL (.no) (
 .aL (.no) (
 .op (.bin .sub (.c (.v (.int .i64 0))) (.c (.v (.int .i64 0)))) (
 .op (.bin .sub (.x 0) (.x 2)) (
 .op (.bin .gtr (.x 3) (.c (.v (.int .i64 0)))) (
 .ite (.x 4)
  (.op (.rep 56 (.agg [(.v (.int .i64 0)),(.v (.int .i64 0)),(.v (.string ⟨#[]⟩)),.aw]) (.x 3) (.x 3)) (
  .aL (.ne (.x 5)) (
  .aL (.no) (
  .ret []))))
  (.ret [])))))))
 (.op (.bin .sub (.c (.v (.int .i64 0))) (.c (.v (.int .i64 0)))) (
 .op (.bin .sub (.x 0) (.x 2)) (
 .op (.bin .gtr (.x 3) (.c (.v (.int .i64 0)))) (
 .ite (.x 4)
  (.op (.rep 56 (.agg [(.v (.int .i64 0)),(.v (.int .i64 0)),(.v (.string ⟨#[]⟩)),.aw]) (.x 3) (.x 3)) (
  .aL (.ne (.x 5)) (
  .aL (.no) (
  .ret []))))
  (.ret []))))))
theorem T.jO:jX Try.prog CFC G.aP Try.f86=some T.aP:=by kernel_rfl
theorem T.iL{ins outs:List AV}(hl:ins.length=1)(ho:outs.length=0)(hn:AV.ae ins=true)(hw:bD Try.prog (λ _ _ _=>False) (λ a=>a=br outs) T.aP ins []):gQ Try.prog F.aC G.aP ins outs:=
 eL Try.func86 T.jO hl hn ho hw
def T.il:T:=
.bind 1 (
 .op (.lg (.x 0)) (
 .op (.call F.fk [(.x 2),(.c (.v (.int .i64 1))),(.c (.v (.int .i64 12)))] false) (
 .ite (.x 3)
  (.op (.lF (.x 0) (.c (.v (.int .i64 0)))) (
  .op (.ew (.x 1) [(.x 4)] false) (
  .ite (.x 5)
   (.op (.call F.mU [(.x 0),(.c (.v (.int .i64 0))),(.c (.fn F.eJ []))] false) (
   .op (.lg (.x 0)) (
   .op (.bin .eql (.x 6) (.x 7)) (
   .jump [(.x 8)]))))
   (.jump [(.c (.v (.bool false)))]))))
  (.jump [(.c (.v (.bool false)))])))) (
.ret [(.x 2)])
theorem T.aba:ct Try.prog CF Try.f88=some (2,T.il):=by kernel_rfl
theorem T.wS{args:List AV}{res:AV}(hl:args.length=2)(hn:AV.ae args=true)(hw:bD Try.prog (λ _ _ _=>False) (λ a=>a=res) T.il args []):a7 Try.prog F.il args res:=
 aV Try.func88 T.aba hl hn hw
def T.ik:T:=
.bind 1 (
 .op (.bin .geq (.x 0) (.c (.v (.int .u8 97)))) (
 .ite (.x 1)
  (.op (.bin .leq (.x 0) (.c (.v (.int .u8 122)))) (
  .jump [(.x 2)]))
  (.jump [(.c (.v (.bool false)))]))) (
.ret [(.x 1)])
theorem T.adv:ct Try.prog CF Try.f89=some (1,T.ik):=by kernel_rfl
theorem T.zp{args:List AV}{res:AV}(hl:args.length=1)(hn:AV.ae args=true)(hw:bD Try.prog (λ _ _ _=>False) (λ a=>a=res) T.ik args []):a7 Try.prog F.ik args res:=
 aV Try.func89 T.adv hl hn hw
def T.js:T:=
.aL (.one (.c (.v (.string ⟨#[116,121,112,101]⟩)))) (
.aL (.one (.c (.v (.string ⟨#[111,102]⟩)))) (
.aL (.one (.c (.v (.string ⟨#[108,101,116]⟩)))) (
.aL (.one (.c (.v (.string ⟨#[114,101,99]⟩)))) (
.aL (.one (.c (.v (.string ⟨#[105,110]⟩)))) (
.aL (.one (.c (.v (.string ⟨#[102,117,110]⟩)))) (
.aL (.one (.c (.v (.string ⟨#[105,102]⟩)))) (
.aL (.one (.c (.v (.string ⟨#[116,104,101,110]⟩)))) (
.aL (.one (.c (.v (.string ⟨#[101,108,115,101]⟩)))) (
.aL (.one (.c (.v (.string ⟨#[109,97,116,99,104]⟩)))) (
.aL (.one (.c (.v (.string ⟨#[119,105,116,104]⟩)))) (
.aL (.one (.c (.v (.string ⟨#[101,110,100]⟩)))) (
.aL (.one (.c (.v (.string ⟨#[116,114,117,101]⟩)))) (
.aL (.one (.c (.v (.string ⟨#[102,97,108,115,101]⟩)))) (
.aL (.one (.c (.v (.string ⟨#[114,101,102]⟩)))) (
.aL (.one (.c (.v (.string ⟨#[114,101,97,100]⟩)))) (
.aL (.one (.c (.v (.string ⟨#[112,114,105,110,116]⟩)))) (
.aL (.one (.c (.v (.string ⟨#[101,120,105,116]⟩)))) (
.aL (.one (.c (.v (.string ⟨#[115,105,122,101]⟩)))) (
.op (.mL (.v (.string ⟨#[]⟩)) 19 [(0,(.c (.v (.string ⟨#[116,121,112,101]⟩)))),(1,(.c (.v (.string ⟨#[111,102]⟩)))),(2,(.c (.v (.string ⟨#[108,101,116]⟩)))),(3,(.c (.v (.string ⟨#[114,101,99]⟩)))),(4,(.c (.v (.string ⟨#[105,110]⟩)))),(5,(.c (.v (.string ⟨#[102,117,110]⟩)))),(6,(.c (.v (.string ⟨#[105,102]⟩)))),(7,(.c (.v (.string ⟨#[116,104,101,110]⟩)))),(8,(.c (.v (.string ⟨#[101,108,115,101]⟩)))),(9,(.c (.v (.string ⟨#[109,97,116,99,104]⟩)))),(10,(.c (.v (.string ⟨#[119,105,116,104]⟩)))),(11,(.c (.v (.string ⟨#[101,110,100]⟩)))),(12,(.c (.v (.string ⟨#[116,114,117,101]⟩)))),(13,(.c (.v (.string ⟨#[102,97,108,115,101]⟩)))),(14,(.c (.v (.string ⟨#[114,101,102]⟩)))),(15,(.c (.v (.string ⟨#[114,101,97,100]⟩)))),(16,(.c (.v (.string ⟨#[112,114,105,110,116]⟩)))),(17,(.c (.v (.string ⟨#[101,120,105,116]⟩)))),(18,(.c (.v (.string ⟨#[115,105,122,101]⟩))))]) (
.op (.call F.bG [(.sl (.x 1)),(.x 0)] true) (
.ret [(.x 2)])))))))))))))))))))))
theorem T.adB:ct Try.prog CF Try.f90=some (1,T.js):=by kernel_rfl
theorem T.zu{args:List AV}{res:AV}(hl:args.length=1)(hn:AV.ae args=true)(hw:bD Try.prog (λ _ _ _=>False) (λ a=>a=res) T.js args []):a7 Try.prog F.js args res:=
 aV Try.func90 T.adB hl hn hw
def T.cQ:T:=
.bind 0 (
 .op (.bm (.x 0)) (
 .loop [(.c (.v (.int .i64 0)))] (
  .op (.bin .lss (.x 3) (.x 2)) (
  .ite (.x 4)
   (.op (.elem 1 (.x 0) (.x 3)) (
   .aL (.lt (.x 5) 0) (
   .op (.bin .eql (.x 1) (.cell 5 0)) (
   .ite (.x 6)
    (.dq (.dq (.ret [(.x 3)])))
    (.op (.bin .add (.x 3) (.c (.v (.int .i64 1)))) (
    .jump [(.x 7)]))))))
   (.dq (.jump [])))))) (
.ret [(.c (.v (.int .i64 (-1))))])
theorem T.oc:ct Try.prog CF Try.f91=some (2,T.cQ):=by kernel_rfl
theorem T.nf{args:List AV}{res:AV}(hl:args.length=2)(hn:AV.ae args=true)(hw:bD Try.prog (λ _ _ _=>False) (λ a=>a=res) T.cQ args []):a7 Try.prog F.cQ args res:=
 aV Try.func91 T.oc hl hn hw
def T.fe:T:=
.op (.call F.eZ [(.x 0),(.c (.v (.int .i64 65))),(.c (.v (.int .i64 90)))] false) (
.ret [(.x 1)])
theorem T.yf:ct Try.prog CF Try.f92=some (1,T.fe):=by kernel_rfl
theorem T.uE{args:List AV}{res:AV}(hl:args.length=1)(hn:AV.ae args=true)(hw:bD Try.prog (λ _ _ _=>False) (λ a=>a=res) T.fe args []):a7 Try.prog F.fe args res:=
 aV Try.func92 T.yf hl hn hw
def T.ff:T:=
.op (.call F.eZ [(.x 0),(.c (.v (.int .i64 97))),(.c (.v (.int .i64 122)))] false) (
.ret [(.x 1)])
theorem T.yi:ct Try.prog CF Try.f93=some (1,T.ff):=by kernel_rfl
theorem T.uG{args:List AV}{res:AV}(hl:args.length=1)(hn:AV.ae args=true)(hw:bD Try.prog (λ _ _ _=>False) (λ a=>a=res) T.ff args []):a7 Try.prog F.ff args res:=
 aV Try.func93 T.yi hl hn hw
def T.ef:T:=
.bind 1 (
 .op (.call F.ff [(.x 0)] false) (
 .ite (.x 1)
  (.jump [(.c (.v (.bool true)))])
  (.op (.call F.fe [(.x 0)] false) (
  .ite (.x 2)
   (.jump [(.c (.v (.bool true)))])
   (.op (.call F.jf [(.x 0)] false) (
   .ite (.x 3)
    (.jump [(.c (.v (.bool true)))])
    (.op (.bin .eql (.x 0) (.c (.v (.int .i64 95)))) (
    .jump [(.x 4)])))))))) (
.ret [(.x 1)])
theorem T.th:ct Try.prog CF Try.f94=some (1,T.ef):=by kernel_rfl
theorem T.rB{args:List AV}{res:AV}(hl:args.length=1)(hn:AV.ae args=true)(hw:bD Try.prog (λ _ _ _=>False) (λ a=>a=res) T.ef args []):a7 Try.prog F.ef args res:=
 aV Try.func94 T.th hl hn hw
def T.mU:T:=
.bind 1 (
 .loop [(.x 1)] (
  .bind 0 (
   .bind 1 (
    .op (.lg (.x 0)) (
    .op (.bin .lss (.x 3) (.x 4)) (
    .ite (.x 5)
     (.op (.lF (.x 0) (.x 3)) (
     .op (.ew (.x 2) [(.x 6)] false) (
     .jump [(.x 7)])))
     (.jump [(.c (.v (.bool false)))])))) (
   .ite (.x 4)
    (.jump [])
    (.dq (.dq (.jump [(.x 3)]))))) (
  .op (.bin .add (.x 3) (.c (.v (.int .i64 1)))) (
  .jump [(.x 4)])))) (
.ret [(.x 3)])
theorem T.ahY:ct Try.prog CF Try.f95=some (3,T.mU):=by kernel_rfl
theorem T.adw{args:List AV}{res:AV}(hl:args.length=3)(hn:AV.ae args=true)(hw:bD Try.prog (λ _ _ _=>False) (λ a=>a=res) T.mU args []):a7 Try.prog F.mU args res:=
 aV Try.func95 T.ahY hl hn hw
def T.eJ:T:=
.bind 1 (
 .op (.call F.ik [(.x 0)] false) (
 .ite (.x 1)
  (.jump [(.c (.v (.bool true)))])
  (.op (.call F.jt [(.x 0)] false) (
  .ite (.x 2)
   (.jump [(.c (.v (.bool true)))])
   (.op (.call F.ju [(.x 0)] false) (
   .ite (.x 3)
    (.jump [(.c (.v (.bool true)))])
    (.op (.bin .eql (.x 0) (.c (.v (.int .u8 95)))) (
    .jump [(.x 4)])))))))) (
.ret [(.x 1)])
theorem T.wQ:ct Try.prog CF Try.f96=some (1,T.eJ):=by kernel_rfl
theorem T.tQ{args:List AV}{res:AV}(hl:args.length=1)(hn:AV.ae args=true)(hw:bD Try.prog (λ _ _ _=>False) (λ a=>a=res) T.eJ args []):a7 Try.prog F.eJ args res:=
 aV Try.func96 T.wQ hl hn hw
def T.bG:T:=
.op (.call F.b6 [(.x 0),(.x 1)] false) (
.op (.bin .geq (.x 2) (.c (.v (.int .i64 0)))) (
.ret [(.x 3)]))
theorem T.jS:ct Try.prog CF Try.f97=some (2,T.bG):=by kernel_rfl
theorem T.jj{args:List AV}{res:AV}(hl:args.length=2)(hn:AV.ae args=true)(hw:bD Try.prog (λ _ _ _=>False) (λ a=>a=res) T.bG args []):a7 Try.prog F.bG args res:=
 aV Try.func97 T.jS hl hn hw
def T.jf:T:=
.op (.call F.eZ [(.x 0),(.c (.v (.int .i64 48))),(.c (.v (.int .i64 57)))] false) (
.ret [(.x 1)])
theorem T.acN:ct Try.prog CF Try.f98=some (1,T.jf):=by kernel_rfl
theorem T.yh{args:List AV}{res:AV}(hl:args.length=1)(hn:AV.ae args=true)(hw:bD Try.prog (λ _ _ _=>False) (λ a=>a=res) T.jf args []):a7 Try.prog F.jf args res:=
 aV Try.func98 T.acN hl hn hw
def T.jt:T:=
.bind 1 (
 .op (.bin .geq (.x 0) (.c (.v (.int .u8 65)))) (
 .ite (.x 1)
  (.op (.bin .leq (.x 0) (.c (.v (.int .u8 90)))) (
  .jump [(.x 2)]))
  (.jump [(.c (.v (.bool false)))]))) (
.ret [(.x 1)])
theorem T.adD:ct Try.prog CF Try.f99=some (1,T.jt):=by kernel_rfl
theorem T.zv{args:List AV}{res:AV}(hl:args.length=1)(hn:AV.ae args=true)(hw:bD Try.prog (λ _ _ _=>False) (λ a=>a=res) T.jt args []):a7 Try.prog F.jt args res:=
 aV Try.func99 T.adD hl hn hw
def T.ju:T:=
.bind 1 (
 .op (.bin .geq (.x 0) (.c (.v (.int .u8 48)))) (
 .ite (.x 1)
  (.op (.bin .leq (.x 0) (.c (.v (.int .u8 57)))) (
  .jump [(.x 2)]))
  (.jump [(.c (.v (.bool false)))]))) (
.ret [(.x 1)])
theorem T.adH:ct Try.prog CF Try.f100=some (1,T.ju):=by kernel_rfl
theorem T.zx{args:List AV}{res:AV}(hl:args.length=1)(hn:AV.ae args=true)(hw:bD Try.prog (λ _ _ _=>False) (λ a=>a=res) T.ju args []):a7 Try.prog F.ju args res:=
 aV Try.func100 T.adH hl hn hw
def T.b6:T:=
.bind 0 (
 .op (.bm (.x 0)) (
 .loop [(.c (.v (.int .i64 0)))] (
  .op (.bin .lss (.x 3) (.x 2)) (
  .ite (.x 4)
   (.op (.elem 1 (.x 0) (.x 3)) (
   .aL (.lt (.x 5) 0) (
   .op (.bin .eql (.x 1) (.cell 5 0)) (
   .ite (.x 6)
    (.dq (.dq (.ret [(.x 3)])))
    (.op (.bin .add (.x 3) (.c (.v (.int .i64 1)))) (
    .jump [(.x 7)]))))))
   (.dq (.jump [])))))) (
.ret [(.c (.v (.int .i64 (-1))))])
theorem T.ld:ct Try.prog CF Try.f101=some (2,T.b6):=by kernel_rfl
theorem T.kj{args:List AV}{res:AV}(hl:args.length=2)(hn:AV.ae args=true)(hw:bD Try.prog (λ _ _ _=>False) (λ a=>a=res) T.b6 args []):a7 Try.prog F.b6 args res:=
 aV Try.func101 T.ld hl hn hw
end Go.Proofs.Ab
