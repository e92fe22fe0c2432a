/-
  WHAT IS LEFT of this seat's functions, printed by a program of ours (wip/tool/Gen2.lean) from the translation; each with the theorem that it is what is left of that function.
-/
import Derived.Test.YtkinchcjijhmgaaGreatDoorChecked
import Derived.KernelRfl
import Derived.Test.YtkinchcjijhmgaaGreatDoorAbM5
set_option linter.unusedVariables false
set_option linter.unusedSimpArgs false
namespace Go.Proofs.Ab
open Go.Ab
set_option maxRecDepth 100000
namespace F
abbrev dm:FuncId:=3
abbrev dF:FuncId:=4
abbrev dJ:FuncId:=5
abbrev fU:FuncId:=6
abbrev gE:FuncId:=7
abbrev ey:FuncId:=8
abbrev eF:FuncId:=9
abbrev eu:FuncId:=10
abbrev gM:FuncId:=11
abbrev strings_Split:FuncId:=12
abbrev bg:FuncId:=13
abbrev fI:FuncId:=14
abbrev gU:FuncId:=15
abbrev gF:FuncId:=16
abbrev iR:FuncId:=17
abbrev bA:FuncId:=18
abbrev bZ:FuncId:=19
abbrev dS:FuncId:=20
abbrev fk:FuncId:=21
abbrev dC:FuncId:=22
abbrev eX:FuncId:=23
abbrev fX:FuncId:=24
abbrev er:FuncId:=25
abbrev fg:FuncId:=26
abbrev cF:FuncId:=27
abbrev dR:FuncId:=28
abbrev strings_genSplit:FuncId:=29
abbrev ei:FuncId:=30
abbrev strings_Cut:FuncId:=31
abbrev gS:FuncId:=32
abbrev gT:FuncId:=33
abbrev strings_SplitN:FuncId:=34
abbrev kI:FuncId:=35
abbrev fJ:FuncId:=36
abbrev b5:FuncId:=37
abbrev aV:FuncId:=38
abbrev fp:FuncId:=39
abbrev gd:FuncId:=40
abbrev bM:FuncId:=41
abbrev fo:FuncId:=42
abbrev gb:FuncId:=43
abbrev ew:FuncId:=44
abbrev iG:FuncId:=45
abbrev cV:FuncId:=46
abbrev fW:FuncId:=47
abbrev eY:FuncId:=48
abbrev bh:FuncId:=49
abbrev fV:FuncId:=50
abbrev iH:FuncId:=51
abbrev u9:FuncId:=52
abbrev strings_Count:FuncId:=53
abbrev strings_Index:FuncId:=54
abbrev strconv_Atoi:FuncId:=55
abbrev strconv_Itoa:FuncId:=56
abbrev bY:FuncId:=57
abbrev cX:FuncId:=58
abbrev cS:FuncId:=59
abbrev eG:FuncId:=60
abbrev fc:FuncId:=61
abbrev a7:FuncId:=62
abbrev iK:FuncId:=63
abbrev bQ:FuncId:=64
abbrev strings_Contains:FuncId:=65
abbrev cY:FuncId:=66
abbrev iL:FuncId:=67
abbrev bL:FuncId:=68
abbrev cU:FuncId:=69
abbrev ug:FuncId:=70
abbrev eS:FuncId:=73
abbrev cT:FuncId:=77
abbrev aR:FuncId:=78
abbrev strconv_syntaxError:FuncId:=85
abbrev strconv_rangeError:FuncId:=86
abbrev bk:FuncId:=90
end F
def FL:List Nat:=[3,6,7,8,11,15,16,17,18,19,20,21,22,23,24,26,27,28,30,31,35,36,37,38,39,40,41,42,43,44,45,46,47,48,49,50,51,53,54,56,57,58,59,60,61,62,63,64,65,66,67,68,69,70,71,73,76,77,78,79,80,82,83,89,90,92,94,96,97,100,101,102,103,104,105,106,107,108]
def FR:List (Nat×Bool×Nat×Nat):=[]
abbrev G.bg:jw:=⟨1,[(.d (.x 0))],[],2,(.aK [(.row 0 (.x 0)),(.d (.x 1))]),[(.row true 3 1 (.x 0))],[]⟩
abbrev G.bA:jw:=⟨2,[(.row 0 (.x 0)),(.d (.x 1))],[(.row true 34 6 (.x 0))],2,(.d (.x 1)),[(.row true 34 6 (.x 0))],[0]⟩
abbrev G.bZ:jw:=⟨2,[(.row 0 (.x 0)),(.d (.x 1))],[(.row true 3 1 (.x 0))],2,(.d (.x 1)),[(.row true 3 1 (.x 0))],[0]⟩
def SG:List (Nat×List jw):=[(13,[G.bg]),(18,[G.bA]),(19,[G.bZ])]
abbrev CF:Cfg:=⟨FL,FR,SG,false⟩
def T.dF:T:=
.aP (.cells (.agg [(.c .aQ),(.c .aQ)]) 2) (
.bind 3 (
 .loop [(.c .aQ),(.c (.sl [])),(.c (.v (.int .i64 0))),(.c (.v (.int .i64 0)))] (
  .bind 0 (
   .bind 1 (
    .op (.dI (.x 0)) (
    .op (.bin .lss (.x 4) (.x 5)) (
    .ite (.x 6)
     (.jump [(.c (.v (.bool true)))])
     (.op (.bin .eql (.x 3) (.c (.v (.int .i64 0)))) (
     .jump [(.x 7)]))))) (
   .ite (.x 5)
    (.jump [])
    (.bn (.bn (.jump [(.x 1),(.x 2),(.x 3)]))))) (
  .bind 3 (
   .bind 1 (
    .loop [(.x 4)] (
     .bind 0 (
      .bind 1 (
       .op (.dI (.x 0)) (
       .op (.bin .lss (.x 5) (.x 6)) (
       .ite (.x 7)
        (.op (.eB (.x 0) (.x 5)) (
        .op (.bin .neq (.x 8) (.c (.v (.int .u8 10)))) (
        .jump [(.x 9)])))
        (.jump [(.c (.v (.bool false)))])))) (
      .ite (.x 6)
       (.jump [])
       (.bn (.bn (.jump [(.x 5)]))))) (
     .op (.bin .add (.x 5) (.c (.v (.int .i64 1)))) (
     .jump [(.x 6)])))) (
   .bind 0 (
    .bind 1 (
     .op (.dI (.x 0)) (
     .op (.bin .eql (.x 5) (.x 6)) (
     .ite (.x 7)
      (.jump [(.c (.v (.bool true)))])
      (.op (.bin .sub (.x 5) (.x 4)) (
      .op (.bin .gtr (.x 8) (.c (.v (.int .i64 10000)))) (
      .jump [(.x 9)])))))) (
    .ite (.x 6)
     (.aP (.cells (.agg [(.c .aQ),(.c .aQ)]) 2) (
     .bn (.bn (.bn (.bn (.ret [(.agg [(.c .aQ),(.c .aQ)]),(.x 3)]))))))
     (.jump []))) (
   .bind 3 (
    .op (.bin .eql (.x 3) (.c (.v (.int .i64 0)))) (
    .ite (.x 6)
     (.op (.cL (.x 0) (some (.x 4)) (some (.x 5))) (
     .op (.call F.eF [(.x 7)] false) (
     .aP (.aK (.x 8) 0) (
     .aP (.aK (.x 8) 1) (
     .aP (.one (.ext 8 0)) (
     .jump [(.ext 8 0),(.x 2),(.ext 8 1)]))))))
     (.aP (.cells (.agg [(.c (.v (.int .i64 0))),(.c (.v (.int .i64 0))),(.c (.v (.int .i64 0))),(.c (.v (.int .i64 0))),(.c (.v (.int .i64 0))),(.c (.v (.string ⟨#[]⟩)))]) 6) (
     .op (.cL (.x 0) (some (.x 4)) (some (.x 5))) (
     .op (.call F.eu [(.x 7)] false) (
     .aP (.aK (.x 8) 0) (
     .aP (.aK (.x 8) 1) (
     .op (.val (.ext 8 0)) (
     .aP (.cells (.x 9) 6) (
     .aP (.cells (.x 9) 6) (
     .aP (.cells (.x 9) 6) (
     .op (.pH (.agg [(.v (.int .i64 0)),(.v (.int .i64 0)),(.v (.int .i64 0)),(.v (.int .i64 0)),(.v (.int .i64 0)),(.v (.string ⟨#[]⟩))]) 1 [(0,(.x 9))]) (
     .op (.app 6 56 (.x 2) (.sl (.x 10))) (
     .jump [(.x 1),(.x 11),(.ext 8 1)])))))))))))))) (
   .op (.un .not (.x 8)) (
   .ite (.x 9)
    (.aP (.cells (.agg [(.c .aQ),(.c .aQ)]) 2) (
    .bn (.bn (.bn (.ret [(.agg [(.c .aQ),(.c .aQ)]),(.x 3)])))))
    (.op (.bin .add (.x 5) (.c (.v (.int .i64 1)))) (
    .jump [(.x 6),(.x 7),(.x 10)]))))))) (
  .op (.bin .add (.x 3) (.c (.v (.int .i64 1)))) (
  .jump [(.x 5),(.x 6),(.x 8),(.x 7)]))))) (
.op (.call F.gM [(.agg [(.sl (.x 2)),(.x 1)])] false) (
.op (.un .not (.x 4)) (
.ite (.x 5)
 (.aP (.cells (.agg [(.c .aQ),(.c .aQ)]) 2) (
 .ret [(.agg [(.c .aQ),(.c .aQ)]),(.x 3)]))
 (.aP (.cells (.agg [(.sl (.x 2)),(.x 1)]) 2) (
 .ret [(.agg [(.sl (.x 2)),(.x 1)]),(.c (.v (.int .i64 (-1))))]))))))
theorem T.sV:bU Tryz.prog CF Tryz.f4=some (1,T.dF):=by kernel_rfl
theorem T.qi{args:List AV}{res:AV}(hl:args.length=1)(hn:AV.ad args=true)(hw:bD Tryz.prog (λ _ _ _=>False) (λ a=>a=res) T.dF args []):aI Tryz.prog F.dF args res:=
 aH Tryz.func4 T.sV hl hn hw
def T.fU:T:=
.aP (.cells (.x 0) 2) (
.aP (.cells (.x 1) 2) (
.op (.call F.gF [(.cell 0 0),(.cell 1 0)] false) (
.op (.un .not (.x 2)) (
.ite (.x 3)
 (.ret [(.c (.v (.bool false)))])
 (.op (.call F.iR [(.cell 0 1),(.cell 1 1)] false) (
 .op (.un .not (.x 4)) (
 .ite (.x 5)
  (.ret [(.c (.v (.bool false)))])
  (.ret [(.c (.v (.bool true)))]))))))))
theorem T.y0:bU Tryz.prog CF Tryz.f6=some (2,T.fU):=by kernel_rfl
theorem T.vv{args:List AV}{res:AV}(hl:args.length=2)(hn:AV.ad args=true)(hw:bD Tryz.prog (λ _ _ _=>False) (λ a=>a=res) T.fU args []):aI Tryz.prog F.fU args res:=
 aH Tryz.func6 T.y0 hl hn hw
def T.ey:T:=
.aP (.cells (.x 0) 2) (
.op (.call F.dS [(.cell 0 0),(.x 1)] false) (
.op (.bin .lss (.x 2) (.c (.v (.int .i64 0)))) (
.ite (.x 3)
 (.ret [(.c (.v (.int .i64 (-1))))])
 (.op (.call F.fk [(.cell 0 1),(.x 2)] false) (
 .op (.bin .lss (.x 4) (.c (.v (.int .i64 0)))) (
 .ite (.x 5)
  (.ret [(.c (.v (.int .i64 (-1))))])
  (.ret [(.x 4)])))))))
theorem T.vr:bU Tryz.prog CF Tryz.f8=some (2,T.ey):=by kernel_rfl
theorem T.rW{args:List AV}{res:AV}(hl:args.length=2)(hn:AV.ad args=true)(hw:bD Tryz.prog (λ _ _ _=>False) (λ a=>a=res) T.ey args []):aI Tryz.prog F.ey args res:=
 aH Tryz.func8 T.vr hl hn hw
def T.eF:T:=
.op (.pH (.v (.int .i64 0)) 0 []) (
.op (.call F.dC [(.x 0)] false) (
.aP (.aK (.x 2) 0) (
.aP (.aK (.x 2) 1) (
.aP (.aK (.x 2) 2) (
.op (.bin .neq (.ext 2 0) (.c (.v (.string ⟨#[115,116,97,114,116,115]⟩)))) (
.ite (.x 3)
 (.ret [(.sl (.x 1)),(.c (.v (.bool false)))])
 (.bind 1 (
  .loop [(.x 1),(.ext 2 1),(.ext 2 2)] (
   .op (.un .not (.x 6)) (
   .ite (.x 7)
    (.op (.call F.dC [(.x 5)] false) (
    .aP (.aK (.x 8) 0) (
    .aP (.aK (.x 8) 1) (
    .aP (.aK (.x 8) 2) (
    .op (.call F.eX [(.ext 8 0)] false) (
    .aP (.aK (.x 9) 0) (
    .aP (.aK (.x 9) 1) (
    .op (.un .not (.ext 9 1)) (
    .ite (.x 10)
     (.bn (.bn (.ret [(.sl (.x 4)),(.c (.v (.bool false)))])))
     (.aP (.one (.ext 9 0)) (
     .op (.pH (.v (.int .i64 0)) 1 [(0,(.ext 9 0))]) (
     .op (.app 1 8 (.x 4) (.sl (.x 11))) (
     .jump [(.x 12),(.ext 8 1),(.ext 8 2)])))))))))))))
    (.bn (.jump [(.x 4)]))))) (
 .ret [(.sl (.x 4)),(.c (.v (.bool true)))]))))))))
theorem T.sP:bU Tryz.prog CF Tryz.f9=some (1,T.eF):=by kernel_rfl
theorem T.qh{args:List AV}{res:AV}(hl:args.length=1)(hn:AV.ad args=true)(hw:bD Tryz.prog (λ _ _ _=>False) (λ a=>a=res) T.eF args []):aI Tryz.prog F.eF args res:=
 aH Tryz.func9 T.sP hl hn hw
def T.eu:T:=
.op (.call F.dC [(.x 0)] false) (
.aP (.aK (.x 1) 0) (
.aP (.aK (.x 1) 1) (
.aP (.aK (.x 1) 2) (
.op (.call F.fX [(.ext 1 0)] false) (
.aP (.aK (.x 2) 0) (
.aP (.aK (.x 2) 1) (
.aP (.aK (.x 2) 2) (
.aP (.one (.ext 2 0)) (
.aP (.one (.ext 2 1)) (
.aP (.cells (.agg [(.ext 2 0),(.c (.v (.int .i64 0))),(.c (.v (.int .i64 0))),(.c (.v (.int .i64 0))),(.c (.v (.int .i64 0))),(.ext 2 1)]) 6) (
.bind 5 (
 .loop [(.c (.v (.int .i64 0))),(.c (.v (.int .i64 0))),(.c (.v (.int .i64 0))),(.c (.v (.int .i64 0))),(.ext 1 1),(.ext 1 2),(.c (.v (.int .i64 0)))] (
  .op (.dI (.ext 2 2)) (
  .op (.bin .lss (.x 9) (.x 10)) (
  .ite (.x 11)
   (.bind 6 (
    .bind 0 (
     .bind 1 (
      .ite (.x 8)
       (.jump [(.c (.v (.bool true)))])
       (.op (.eB (.ext 2 2) (.x 9)) (
       .op (.bin .eql (.x 12) (.c (.v (.int .u8 32)))) (
       .jump [(.x 13)])))) (
     .ite (.x 12)
      (.aP (.cells (.agg [(.ext 2 0),(.x 3),(.x 4),(.x 5),(.x 6),(.ext 2 1)]) 6) (
      .bn (.bn (.bn (.bn (.ret [(.agg [(.ext 2 0),(.x 3),(.x 4),(.x 5),(.x 6),(.ext 2 1)]),(.c (.v (.bool false)))]))))))
      (.jump []))) (
    .bind 0 (
     .op (.eB (.ext 2 2) (.x 9)) (
     .op (.bin .eql (.x 12) (.c (.v (.int .u8 116)))) (
     .ite (.x 13)
      (.bind 0 (
       .bind 1 (
        .op (.bin .eql (.x 7) (.c (.v (.string ⟨#[]⟩)))) (
        .ite (.x 14)
         (.jump [(.c (.v (.bool true)))])
         (.op (.eB (.x 7) (.c (.v (.int .i64 0)))) (
         .op (.bin .neq (.x 15) (.c (.v (.int .u8 34)))) (
         .jump [(.x 16)]))))) (
       .ite (.x 14)
        (.aP (.cells (.agg [(.ext 2 0),(.x 3),(.x 4),(.x 5),(.x 6),(.ext 2 1)]) 6) (
        .bn (.bn (.bn (.bn (.bn (.ret [(.agg [(.ext 2 0),(.x 3),(.x 4),(.x 5),(.x 6),(.ext 2 1)]),(.c (.v (.bool false)))])))))))
        (.jump []))) (
      .op (.call F.er [(.x 7),(.c (.v (.int .i64 0)))] false) (
      .aP (.aK (.x 14) 0) (
      .aP (.aK (.x 14) 1) (
      .aP (.aK (.x 14) 2) (
      .op (.val (.ext 14 0)) (
      .aP (.cells (.x 15) 4) (
      .aP (.one (.cell 15 1)) (
      .bind 1 (
       .op (.bin .eql (.ext 14 2) (.c (.v (.int .i64 0)))) (
       .ite (.x 16)
        (.op (.dI (.x 7)) (
        .op (.bin .eql (.ext 14 1) (.x 17)) (
        .aP (.cells (.agg [(.ext 2 0),(.x 3),(.x 4),(.x 5),(.x 6),(.cell 15 1)]) 6) (
        .jump [(.x 18)]))))
        (.aP (.cells (.agg [(.ext 2 0),(.x 3),(.x 4),(.x 5),(.x 6),(.cell 15 1)]) 6) (
        .jump [(.c (.v (.bool false)))])))) (
      .bn (.bn (.bn (.bn (.ret [(.agg [(.ext 2 0),(.x 3),(.x 4),(.x 5),(.x 6),(.cell 15 1)]),(.x 16)]))))))))))))))
      (.jump [])))) (
    .op (.call F.dC [(.x 7)] false) (
    .aP (.aK (.x 12) 0) (
    .aP (.aK (.x 12) 1) (
    .aP (.aK (.x 12) 2) (
    .op (.call F.eX [(.ext 12 0)] false) (
    .aP (.aK (.x 13) 0) (
    .aP (.aK (.x 13) 1) (
    .bind 2 (
     .op (.eB (.ext 2 2) (.x 9)) (
     .op (.bin .neq (.x 14) (.c (.v (.int .u8 110)))) (
     .ite (.x 15)
      (.op (.call F.fg [(.ext 12 0)] false) (
      .aP (.aK (.x 16) 0) (
      .aP (.aK (.x 16) 1) (
      .jump [(.ext 16 0),(.ext 16 1)]))))
      (.jump [(.ext 13 0),(.ext 13 1)])))) (
    .op (.un .not (.x 15)) (
    .ite (.x 16)
     (.aP (.cells (.agg [(.ext 2 0),(.x 3),(.x 4),(.x 5),(.x 6),(.ext 2 1)]) 6) (
     .bn (.bn (.bn (.ret [(.agg [(.ext 2 0),(.x 3),(.x 4),(.x 5),(.x 6),(.ext 2 1)]),(.c (.v (.bool false)))])))))
     (.op (.eB (.ext 2 2) (.x 9)) (
     .op (.bin .eql (.x 17) (.c (.v (.int .u8 97)))) (
     .ite (.x 18)
      (.aP (.one (.x 14)) (
      .jump [(.x 14),(.x 4),(.x 5),(.x 6),(.ext 12 1),(.ext 12 2)]))
      (.op (.bin .eql (.x 17) (.c (.v (.int .u8 98)))) (
      .ite (.x 19)
       (.aP (.one (.x 14)) (
       .jump [(.x 3),(.x 14),(.x 5),(.x 6),(.ext 12 1),(.ext 12 2)]))
       (.op (.bin .eql (.x 17) (.c (.v (.int .u8 99)))) (
       .ite (.x 20)
        (.aP (.one (.x 14)) (
        .jump [(.x 3),(.x 4),(.x 14),(.x 6),(.ext 12 1),(.ext 12 2)]))
        (.aP (.one (.x 14)) (
        .jump [(.x 3),(.x 4),(.x 5),(.x 14),(.ext 12 1),(.ext 12 2)]))))))))))))))))))))) (
   .op (.bin .add (.x 9) (.c (.v (.int .i64 1)))) (
   .jump [(.x 12),(.x 13),(.x 14),(.x 15),(.x 16),(.x 17),(.x 18)])))
   (.bn (.jump [(.x 3),(.x 4),(.x 5),(.x 6),(.x 8)])))))) (
.aP (.cells (.agg [(.ext 2 0),(.x 3),(.x 4),(.x 5),(.x 6),(.ext 2 1)]) 6) (
.ret [(.agg [(.ext 2 0),(.x 3),(.x 4),(.x 5),(.x 6),(.ext 2 1)]),(.x 7)])))))))))))))
theorem T.vh:bU Tryz.prog CF Tryz.f10=some (1,T.eu):=by kernel_rfl
theorem T.rn{args:List AV}{res:AV}(hl:args.length=1)(hn:AV.ad args=true)(hw:bD Tryz.prog (λ _ _ _=>False) (λ a=>a=res) T.eu args []):aI Tryz.prog F.eu args res:=
 aH Tryz.func10 T.vh hl hn hw
def T.gM:T:=
.aP (.cells (.x 0) 2) (
.bind 0 (
 .bind 1 (
  .op (.cz (.cell 0 0)) (
  .op (.call F.cF [(.x 1),(.c (.v (.int .i64 1))),(.c (.v (.int .i64 40000)))] false) (
  .op (.un .not (.x 2)) (
  .ite (.x 3)
   (.jump [(.c (.v (.bool true)))])
   (.op (.cz (.cell 0 1)) (
   .op (.bin .gtr (.x 4) (.c (.v (.int .i64 400)))) (
   .jump [(.x 5)]))))))) (
 .ite (.x 1)
  (.bn (.ret [(.c (.v (.bool false)))]))
  (.jump []))) (
.bind 0 (
 .loop [(.c (.v (.int .i64 0)))] (
  .op (.cz (.cell 0 0)) (
  .op (.bin .lss (.x 1) (.x 2)) (
  .ite (.x 3)
   (.op (.elem 6 (.cell 0 0) (.x 1)) (
   .aP (.cells (.x 4) 6) (
   .aP (.cells (.x 0) 2) (
   .op (.call F.dR [(.x 4),(.x 0)] true) (
   .op (.un .not (.x 5)) (
   .ite (.x 6)
    (.bn (.bn (.ret [(.c (.v (.bool false)))])))
    (.op (.bin .add (.x 1) (.c (.v (.int .i64 1)))) (
    .jump [(.x 7)]))))))))
   (.bn (.jump [])))))) (
.bind 0 (
 .loop [(.c (.v (.int .i64 0)))] (
  .op (.cz (.cell 0 1)) (
  .op (.bin .lss (.x 1) (.x 2)) (
  .ite (.x 3)
   (.op (.elem 1 (.cell 0 1) (.x 1)) (
   .aP (.lt (.x 4) 0) (
   .op (.cz (.cell 0 0)) (
   .op (.bin .sub (.x 5) (.c (.v (.int .i64 1)))) (
   .op (.call F.cF [(.cell 4 0),(.c (.v (.int .i64 0))),(.x 6)] true) (
   .op (.un .not (.x 7)) (
   .ite (.x 8)
    (.bn (.bn (.ret [(.c (.v (.bool false)))])))
    (.op (.bin .add (.x 1) (.c (.v (.int .i64 1)))) (
    .jump [(.x 9)])))))))))
   (.bn (.jump [])))))) (
.op (.cz (.cell 0 0)) (
.op (.bin .sub (.x 1) (.c (.v (.int .i64 1)))) (
.op (.elem 6 (.cell 0 0) (.x 2)) (
.aP (.lt (.x 3) 0) (
.bind 1 (
 .op (.bin .eql (.cell 3 0) (.c (.v (.int .i64 12)))) (
 .ite (.x 4)
  (.jump [(.c (.v (.bool true)))])
  (.op (.bin .eql (.cell 3 0) (.c (.v (.int .i64 13)))) (
  .ite (.x 5)
   (.jump [(.c (.v (.bool true)))])
   (.op (.bin .eql (.cell 3 0) (.c (.v (.int .i64 14)))) (
   .ite (.x 6)
    (.jump [(.c (.v (.bool true)))])
    (.op (.bin .eql (.cell 3 0) (.c (.v (.int .i64 15)))) (
    .jump [(.x 7)])))))))) (
.ret [(.x 4)])))))))))
theorem T.yR:bU Tryz.prog CF Tryz.f11=some (1,T.gM):=by kernel_rfl
theorem T.vk{args:List AV}{res:AV}(hl:args.length=1)(hn:AV.ad args=true)(hw:bD Tryz.prog (λ _ _ _=>False) (λ a=>a=res) T.gM args []):aI Tryz.prog F.gM args res:=
 aH Tryz.func11 T.yR hl hn hw
def T.strings_Split:T:=
.op (.call F.strings_genSplit [(.x 0),(.x 1),(.c (.v (.int .i64 0))),(.c (.v (.int .i64 (-1))))] false) (
.ret [(.x 2)])
theorem T.va:bU Tryz.prog CF Tryz.f12=some (2,T.strings_Split):=by kernel_rfl
theorem T.re{args:List AV}{res:AV}(hl:args.length=2)(hn:AV.ad args=true)(hw:bD Tryz.prog (λ _ _ _=>False) (λ a=>a=res) T.strings_Split args []):aI Tryz.prog F.strings_Split args res:=
 aH Tryz.func12 T.va hl hn hw
def T.bg:T:=
.op (.call F.strings_Split [(.x 0),(.c (.v (.string ⟨#[32]⟩)))] false) (
.op (.elem 1 (.x 1) (.c (.v (.int .i64 0)))) (
.aP (.lt (.x 2) 0) (
.op (.bin .neq (.cell 2 0) (.c (.v (.string ⟨#[115,116,97,114,116,115]⟩)))) (
.ite (.x 3)
 (.ret [(.c (.sl [])),(.c (.v (.bool false)))])
 (.bind 1 (
  .op (.cw 1 (.x 1) (some (.c (.v (.int .i64 1)))) none) (
  .op (.cz (.x 4)) (
  .loop [(.c (.sl [])),(.c (.v (.int .i64 0)))] (
   .op (.bin .lss (.x 7) (.x 5)) (
   .ite (.x 8)
    (.op (.elem 1 (.x 4) (.x 7)) (
    .aP (.lt (.x 9) 0) (
    .op (.call F.ei [(.cell 9 0)] false) (
    .aP (.aK (.x 10) 0) (
    .aP (.aK (.x 10) 1) (
    .op (.un .not (.ext 10 1)) (
    .ite (.x 11)
     (.bn (.bn (.ret [(.c (.sl [])),(.c (.v (.bool false)))])))
     (.aP (.one (.ext 10 0)) (
     .op (.pH (.v (.int .i64 0)) 1 [(0,(.ext 10 0))]) (
     .op (.app 1 8 (.x 6) (.sl (.x 12))) (
     .op (.bin .add (.x 7) (.c (.v (.int .i64 1)))) (
     .jump [(.x 13),(.x 14)]))))))))))))
    (.bn (.jump [(.x 6)]))))))) (
 .ret [(.x 4),(.c (.v (.bool true)))]))))))
theorem T.qH:rR Tryz.prog CF G.bg Tryz.f13=some T.bg:=by kernel_rfl
theorem T.nT{ins outs:List AV}(hl:ins.length=1)(ho:outs.length=2)(hn:AV.ad ins=true)(hw:bD Tryz.prog (λ _ _ _=>False) (λ a=>a=b4 outs) T.bg ins []):sF Tryz.prog F.bg G.bg ins outs:=
 sX Tryz.func13 T.qH hl hn ho hw
def T.gU:T:=
.aP (.cells (.x 0) 2) (
.bind 0 (
 .bind 1 (
  .op (.cz (.cell 0 0)) (
  .op (.call F.b5 [(.x 1),(.c (.v (.int .i64 1))),(.c (.v (.int .i64 40000)))] false) (
  .op (.un .not (.x 2)) (
  .ite (.x 3)
   (.jump [(.c (.v (.bool true)))])
   (.op (.cz (.cell 0 1)) (
   .op (.bin .gtr (.x 4) (.c (.v (.int .i64 400)))) (
   .jump [(.x 5)]))))))) (
 .ite (.x 1)
  (.bn (.ret [(.c (.v (.bool false)))]))
  (.jump []))) (
.bind 0 (
 .bind 1 (
  .op (.call F.aV [(.cell 0 0),(.fn F.fp [(.ip (.agg [(.cell 0 0),(.cell 0 1)]) 0)])] false) (
  .ite (.x 1)
   (.jump [(.c (.v (.bool true)))])
   (.op (.call F.bM [(.cell 0 1),(.fn F.fo [(.ip (.agg [(.cell 0 0),(.cell 0 1)]) 0)])] false) (
   .jump [(.x 2)])))) (
 .ite (.x 1)
  (.bn (.ret [(.c (.v (.bool false)))]))
  (.jump []))) (
.bind 0 (
 .op (.cz (.cell 0 0)) (
 .op (.bin .sub (.x 1) (.c (.v (.int .i64 1)))) (
 .op (.elem 6 (.cell 0 0) (.x 2)) (
 .aP (.lt (.x 3) 0) (
 .bind 1 (
  .op (.bin .eql (.cell 3 0) (.c (.v (.int .i64 12)))) (
  .ite (.x 4)
   (.jump [(.x 4)])
   (.op (.bin .eql (.cell 3 0) (.c (.v (.int .i64 13)))) (
   .ite (.x 5)
    (.jump [(.x 5)])
    (.op (.bin .eql (.cell 3 0) (.c (.v (.int .i64 14)))) (
    .ite (.x 6)
     (.jump [(.x 6)])
     (.op (.bin .eql (.cell 3 0) (.c (.v (.int .i64 15)))) (
     .jump [(.x 7)])))))))) (
 .ite (.x 4)
  (.bn (.ret [(.c (.v (.bool true)))]))
  (.jump []))))))) (
.ret [(.c (.v (.bool false)))]))))
theorem T.y7:bU Tryz.prog CF Tryz.f15=some (1,T.gU):=by kernel_rfl
theorem T.vB{args:List AV}{res:AV}(hl:args.length=1)(hn:AV.ad args=true)(hw:bD Tryz.prog (λ _ _ _=>False) (λ a=>a=res) T.gU args []):aI Tryz.prog F.gU args res:=
 aH Tryz.func15 T.y7 hl hn hw
def T.gF:T:=
.op (.cz (.x 0)) (
.op (.cz (.x 1)) (
.op (.bin .neq (.x 2) (.x 3)) (
.ite (.x 4)
 (.ret [(.c (.v (.bool false)))])
 (.bind 0 (
  .loop [(.c (.v (.int .i64 0)))] (
   .op (.cz (.x 0)) (
   .op (.bin .lss (.x 5) (.x 6)) (
   .ite (.x 7)
    (.op (.elem 6 (.x 0) (.x 5)) (
    .aP (.cells (.x 8) 6) (
    .op (.elem 6 (.x 1) (.x 5)) (
    .aP (.cells (.x 9) 6) (
    .op (.call F.gb [(.x 8),(.x 9)] true) (
    .op (.un .not (.x 10)) (
    .ite (.x 11)
     (.bn (.bn (.ret [(.c (.v (.bool false)))])))
     (.op (.bin .add (.x 5) (.c (.v (.int .i64 1)))) (
     .jump [(.x 12)])))))))))
    (.bn (.jump [])))))) (
 .ret [(.c (.v (.bool true)))])))))
theorem T.vu:bU Tryz.prog CF Tryz.f16=some (2,T.gF):=by kernel_rfl
theorem T.rX{args:List AV}{res:AV}(hl:args.length=2)(hn:AV.ad args=true)(hw:bD Tryz.prog (λ _ _ _=>False) (λ a=>a=res) T.gF args []):aI Tryz.prog F.gF args res:=
 aH Tryz.func16 T.vu hl hn hw
def T.iR:T:=
.op (.cz (.x 0)) (
.op (.cz (.x 1)) (
.op (.bin .neq (.x 2) (.x 3)) (
.ite (.x 4)
 (.ret [(.c (.v (.bool false)))])
 (.bind 0 (
  .loop [(.c (.v (.int .i64 0)))] (
   .op (.cz (.x 0)) (
   .op (.bin .lss (.x 5) (.x 6)) (
   .ite (.x 7)
    (.op (.elem 1 (.x 0) (.x 5)) (
    .aP (.lt (.x 8) 0) (
    .op (.elem 1 (.x 1) (.x 5)) (
    .aP (.lt (.x 9) 0) (
    .op (.bin .neq (.cell 8 0) (.cell 9 0)) (
    .ite (.x 10)
     (.bn (.bn (.ret [(.c (.v (.bool false)))])))
     (.op (.bin .add (.x 5) (.c (.v (.int .i64 1)))) (
     .jump [(.x 11)]))))))))
    (.bn (.jump [])))))) (
 .ret [(.c (.v (.bool true)))])))))
theorem T.yZ:bU Tryz.prog CF Tryz.f17=some (2,T.iR):=by kernel_rfl
theorem T.vt{args:List AV}{res:AV}(hl:args.length=2)(hn:AV.ad args=true)(hw:bD Tryz.prog (λ _ _ _=>False) (λ a=>a=res) T.iR args []):aI Tryz.prog F.iR args res:=
 aH Tryz.func17 T.yZ hl hn hw
def T.bA:T:=
.bind 2 (
 .loop [(.x 0),(.x 1),(.c (.v (.int .i64 0)))] (
  .op (.cz (.sl (.x 2))) (
  .op (.bin .lss (.x 4) (.x 5)) (
  .ite (.x 6)
   (.aP (.idx (.x 2) (.x 4)) (
   .aP (.idx (.x 2) (.x 4)) (
   .aP (.one (.x 3)) (
   .op (.set (.x 2) (.x 4) 0 1 (.x 3)) (
   .op (.bin .add (.x 3) (.c (.v (.int .i64 1)))) (
   .aP (.idx (.x 7) (.x 4)) (
   .aP (.idx (.x 7) (.x 4)) (
   .aP (.one (.x 8)) (
   .op (.set (.x 7) (.x 4) 1 1 (.x 8)) (
   .op (.bin .add (.x 8) (.c (.v (.int .i64 1)))) (
   .aP (.idx (.x 9) (.x 4)) (
   .aP (.idx (.x 9) (.x 4)) (
   .aP (.one (.x 10)) (
   .op (.set (.x 9) (.x 4) 2 1 (.x 10)) (
   .op (.bin .add (.x 10) (.c (.v (.int .i64 1)))) (
   .aP (.idx (.x 11) (.x 4)) (
   .aP (.idx (.x 11) (.x 4)) (
   .aP (.one (.x 12)) (
   .op (.set (.x 11) (.x 4) 3 1 (.x 12)) (
   .op (.bin .add (.x 12) (.c (.v (.int .i64 1)))) (
   .aP (.idx (.x 13) (.x 4)) (
   .aP (.idx (.x 13) (.x 4)) (
   .aP (.one (.x 14)) (
   .op (.set (.x 13) (.x 4) 4 1 (.x 14)) (
   .op (.bin .add (.x 14) (.c (.v (.int .i64 1)))) (
   .op (.call F.ew [(.x 16)] false) (
   .aP (.idx (.x 15) (.x 4)) (
   .aP (.idx (.x 15) (.x 4)) (
   .aP (.one (.x 17)) (
   .op (.set (.x 15) (.x 4) 5 1 (.x 17)) (
   .op (.bin .add (.x 16) (.c (.v (.int .i64 1)))) (
   .op (.bin .add (.x 4) (.c (.v (.int .i64 1)))) (
   .jump [(.x 18),(.x 19),(.x 20)])))))))))))))))))))))))))))))))))
   (.bn (.jump [(.x 2),(.x 3)])))))) (
.ret [(.x 2),(.x 3)])
theorem T.rT:rR Tryz.prog CF G.bA Tryz.f18=some T.bA:=by kernel_rfl
theorem T.oC{ins outs:List AV}(hl:ins.length=2)(ho:outs.length=2)(hn:AV.ad ins=true)(hw:bD Tryz.prog (λ _ _ _=>False) (λ a=>a=b4 outs) T.bA ins []):sF Tryz.prog F.bA G.bA ins outs:=
 sX Tryz.func18 T.rT hl hn ho hw
def T.bZ:T:=
.bind 2 (
 .loop [(.x 0),(.x 1),(.c (.v (.int .i64 0)))] (
  .op (.cz (.sl (.x 2))) (
  .op (.bin .lss (.x 4) (.x 5)) (
  .ite (.x 6)
   (.aP (.idx (.x 2) (.x 4)) (
   .aP (.one (.x 3)) (
   .op (.set (.x 2) (.x 4) 0 1 (.x 3)) (
   .op (.bin .add (.x 3) (.c (.v (.int .i64 1)))) (
   .op (.bin .add (.x 4) (.c (.v (.int .i64 1)))) (
   .jump [(.x 7),(.x 8),(.x 9)]))))))
   (.bn (.jump [(.x 2),(.x 3)])))))) (
.ret [(.x 2),(.x 3)])
theorem T.vp:rR Tryz.prog CF G.bZ Tryz.f19=some T.bZ:=by kernel_rfl
theorem T.qD{ins outs:List AV}(hl:ins.length=2)(ho:outs.length=2)(hn:AV.ad ins=true)(hw:bD Tryz.prog (λ _ _ _=>False) (λ a=>a=b4 outs) T.bZ ins []):sF Tryz.prog F.bZ G.bZ ins outs:=
 sX Tryz.func19 T.vp hl hn ho hw
def T.dS:T:=
.bind 1 (
 .loop [(.x 1),(.c (.v (.int .i64 0)))] (
  .op (.cz (.x 0)) (
  .op (.bin .lss (.x 3) (.x 4)) (
  .ite (.x 5)
   (.op (.elem 6 (.x 0) (.x 3)) (
   .aP (.lt (.x 6) 0) (
   .op (.bin .neq (.cell 6 0) (.x 2)) (
   .ite (.x 7)
    (.bn (.bn (.ret [(.c (.v (.int .i64 (-1))))])))
    (.op (.bin .add (.x 2) (.c (.v (.int .i64 1)))) (
    .op (.elem 6 (.x 0) (.x 3)) (
    .aP (.lt (.x 9) 1) (
    .op (.bin .neq (.cell 9 1) (.x 8)) (
    .ite (.x 10)
     (.bn (.bn (.ret [(.c (.v (.int .i64 (-1))))])))
     (.op (.bin .add (.x 8) (.c (.v (.int .i64 1)))) (
     .op (.elem 6 (.x 0) (.x 3)) (
     .aP (.lt (.x 12) 2) (
     .op (.bin .neq (.cell 12 2) (.x 11)) (
     .ite (.x 13)
      (.bn (.bn (.ret [(.c (.v (.int .i64 (-1))))])))
      (.op (.bin .add (.x 11) (.c (.v (.int .i64 1)))) (
      .op (.elem 6 (.x 0) (.x 3)) (
      .aP (.lt (.x 15) 3) (
      .op (.bin .neq (.cell 15 3) (.x 14)) (
      .ite (.x 16)
       (.bn (.bn (.ret [(.c (.v (.int .i64 (-1))))])))
       (.op (.bin .add (.x 14) (.c (.v (.int .i64 1)))) (
       .op (.elem 6 (.x 0) (.x 3)) (
       .aP (.lt (.x 18) 4) (
       .op (.bin .neq (.cell 18 4) (.x 17)) (
       .ite (.x 19)
        (.bn (.bn (.ret [(.c (.v (.int .i64 (-1))))])))
        (.op (.bin .add (.x 17) (.c (.v (.int .i64 1)))) (
        .op (.elem 6 (.x 0) (.x 3)) (
        .aP (.lt (.x 21) 5) (
        .op (.call F.ew [(.x 20)] true) (
        .op (.bin .neq (.cell 21 5) (.x 22)) (
        .ite (.x 23)
         (.bn (.bn (.ret [(.c (.v (.int .i64 (-1))))])))
         (.op (.bin .add (.x 20) (.c (.v (.int .i64 1)))) (
         .op (.bin .add (.x 3) (.c (.v (.int .i64 1)))) (
         .jump [(.x 24),(.x 25)])))))))))))))))))))))))))))))))))
   (.bn (.jump [(.x 2)])))))) (
.ret [(.x 2)])
theorem T.rV:bU Tryz.prog CF Tryz.f20=some (2,T.dS):=by kernel_rfl
theorem T.pw{args:List AV}{res:AV}(hl:args.length=2)(hn:AV.ad args=true)(hw:bD Tryz.prog (λ _ _ _=>False) (λ a=>a=res) T.dS args []):aI Tryz.prog F.dS args res:=
 aH Tryz.func20 T.rV hl hn hw
def T.fk:T:=
.bind 1 (
 .loop [(.x 1),(.c (.v (.int .i64 0)))] (
  .op (.cz (.x 0)) (
  .op (.bin .lss (.x 3) (.x 4)) (
  .ite (.x 5)
   (.op (.elem 1 (.x 0) (.x 3)) (
   .aP (.lt (.x 6) 0) (
   .op (.bin .neq (.cell 6 0) (.x 2)) (
   .ite (.x 7)
    (.bn (.bn (.ret [(.c (.v (.int .i64 (-1))))])))
    (.op (.bin .add (.x 2) (.c (.v (.int .i64 1)))) (
    .op (.bin .add (.x 3) (.c (.v (.int .i64 1)))) (
    .jump [(.x 8),(.x 9)])))))))
   (.bn (.jump [(.x 2)])))))) (
.ret [(.x 2)])
theorem T.vq:bU Tryz.prog CF Tryz.f21=some (2,T.fk):=by kernel_rfl
theorem T.rU{args:List AV}{res:AV}(hl:args.length=2)(hn:AV.ad args=true)(hw:bD Tryz.prog (λ _ _ _=>False) (λ a=>a=res) T.fk args []):aI Tryz.prog F.fk args res:=
 aH Tryz.func21 T.vq hl hn hw
def T.dC:T:=
.bind 0 (
 .loop [(.c (.v (.int .i64 0)))] (
  .op (.dI (.x 0)) (
  .op (.bin .lss (.x 1) (.x 2)) (
  .ite (.x 3)
   (.op (.eB (.x 0) (.x 1)) (
   .op (.bin .eql (.x 4) (.c (.v (.int .u8 32)))) (
   .ite (.x 5)
    (.op (.cL (.x 0) none (some (.x 1))) (
    .op (.bin .add (.x 1) (.c (.v (.int .i64 1)))) (
    .op (.cL (.x 0) (some (.x 7)) none) (
    .bn (.bn (.ret [(.x 6),(.x 8),(.c (.v (.bool false)))]))))))
    (.op (.bin .add (.x 1) (.c (.v (.int .i64 1)))) (
    .jump [(.x 6)])))))
   (.bn (.jump [])))))) (
.ret [(.x 0),(.c (.v (.string ⟨#[]⟩))),(.c (.v (.bool true)))])
theorem T.wE:bU Tryz.prog CF Tryz.f22=some (1,T.dC):=by kernel_rfl
theorem T.sR{args:List AV}{res:AV}(hl:args.length=1)(hn:AV.ad args=true)(hw:bD Tryz.prog (λ _ _ _=>False) (λ a=>a=res) T.dC args []):aI Tryz.prog F.dC args res:=
 aH Tryz.func22 T.wE hl hn hw
def T.eX:T:=
.bind 0 (
 .bind 1 (
  .op (.dI (.x 0)) (
  .op (.bin .eql (.x 1) (.c (.v (.int .i64 0)))) (
  .ite (.x 2)
   (.jump [(.c (.v (.bool true)))])
   (.op (.dI (.x 0)) (
   .op (.bin .gtr (.x 3) (.c (.v (.int .i64 20)))) (
   .jump [(.x 4)])))))) (
 .ite (.x 1)
  (.bn (.ret [(.c (.v (.int .i64 0))),(.c (.v (.bool false)))]))
  (.jump []))) (
.bind 1 (
 .op (.eB (.x 0) (.c (.v (.int .i64 0)))) (
 .op (.bin .eql (.x 1) (.c (.v (.int .u8 45)))) (
 .ite (.x 2)
  (.jump [(.c (.v (.int .i64 1)))])
  (.jump [(.c (.v (.int .i64 0)))])))) (
.bind 1 (
 .loop [(.c (.v (.int .i64 0))),(.x 1)] (
  .op (.dI (.x 0)) (
  .op (.bin .lss (.x 3) (.x 4)) (
  .ite (.x 5)
   (.bind 1 (
    .op (.eB (.x 0) (.x 3)) (
    .op (.conv .i64 (.x 6)) (
    .op (.call F.iG [(.x 7)] false) (
    .op (.un .not (.x 8)) (
    .ite (.x 9)
     (.bn (.bn (.bn (.ret [(.c (.v (.int .i64 0))),(.c (.v (.bool false)))]))))
     (.op (.eB (.x 0) (.x 3)) (
     .op (.bin .sub (.x 10) (.c (.v (.int .u8 48)))) (
     .op (.conv .i64 (.x 11)) (
     .bind 1 (
      .op (.bin .eql (.x 1) (.c (.v (.int .i64 1)))) (
      .ite (.x 13)
       (.op (.un .neg (.x 12)) (
       .jump [(.x 14)]))
       (.jump [(.x 12)]))) (
     .op (.bin .mul (.x 2) (.c (.v (.int .i64 10)))) (
     .op (.bin .add (.x 14) (.x 13)) (
     .jump [(.x 15)])))))))))))) (
   .op (.bin .add (.x 3) (.c (.v (.int .i64 1)))) (
   .jump [(.x 6),(.x 7)])))
   (.bn (.jump [(.x 2)])))))) (
.op (.call F.cV [(.x 2)] false) (
.op (.bin .eql (.x 3) (.x 0)) (
.ret [(.x 2),(.x 4)])))))
theorem T.yO:bU Tryz.prog CF Tryz.f23=some (1,T.eX):=by kernel_rfl
theorem T.vg{args:List AV}{res:AV}(hl:args.length=1)(hn:AV.ad args=true)(hw:bD Tryz.prog (λ _ _ _=>False) (λ a=>a=res) T.eX args []):aI Tryz.prog F.eX args res:=
 aH Tryz.func23 T.yO hl hn hw
def T.fX:T:=
.bind 0 (
 .op (.bin .eql (.x 0) (.c (.v (.string ⟨#[105,110,116]⟩)))) (
 .ite (.x 1)
  (.bn (.ret [(.c (.v (.int .i64 1))),(.c (.v (.string ⟨#[]⟩))),(.c (.v (.string ⟨#[97,110]⟩)))]))
  (.op (.bin .eql (.x 0) (.c (.v (.string ⟨#[115,116,114]⟩)))) (
  .ite (.x 2)
   (.bn (.ret [(.c (.v (.int .i64 2))),(.c (.v (.string ⟨#[]⟩))),(.c (.v (.string ⟨#[97,116]⟩)))]))
   (.op (.bin .eql (.x 0) (.c (.v (.string ⟨#[108,97,98]⟩)))) (
   .ite (.x 3)
    (.bn (.ret [(.c (.v (.int .i64 3))),(.c (.v (.string ⟨#[]⟩))),(.c (.v (.string ⟨#[97,110]⟩)))]))
    (.op (.bin .eql (.x 0) (.c (.v (.string ⟨#[109,111,118,101]⟩)))) (
    .ite (.x 4)
     (.bn (.ret [(.c (.v (.int .i64 4))),(.c (.v (.string ⟨#[]⟩))),(.c (.v (.string ⟨#[97,98]⟩)))]))
     (.op (.bin .eql (.x 0) (.c (.v (.string ⟨#[108,111,97,100]⟩)))) (
     .ite (.x 5)
      (.bn (.ret [(.c (.v (.int .i64 5))),(.c (.v (.string ⟨#[]⟩))),(.c (.v (.string ⟨#[97,110]⟩)))]))
      (.op (.bin .eql (.x 0) (.c (.v (.string ⟨#[115,116,111,114,101]⟩)))) (
      .ite (.x 6)
       (.bn (.ret [(.c (.v (.int .i64 6))),(.c (.v (.string ⟨#[]⟩))),(.c (.v (.string ⟨#[97,110]⟩)))]))
       (.bind 1 (
        .op (.bin .eql (.x 0) (.c (.v (.string ⟨#[97,100,100]⟩)))) (
        .ite (.x 7)
         (.jump [(.x 7)])
         (.op (.bin .eql (.x 0) (.c (.v (.string ⟨#[115,117,98]⟩)))) (
         .ite (.x 8)
          (.jump [(.x 8)])
          (.op (.bin .eql (.x 0) (.c (.v (.string ⟨#[109,117,108]⟩)))) (
          .ite (.x 9)
           (.jump [(.x 9)])
           (.op (.bin .eql (.x 0) (.c (.v (.string ⟨#[101,113]⟩)))) (
           .ite (.x 10)
            (.jump [(.x 10)])
            (.op (.bin .eql (.x 0) (.c (.v (.string ⟨#[108,116]⟩)))) (
            .ite (.x 11)
             (.jump [(.x 11)])
             (.op (.bin .eql (.x 0) (.c (.v (.string ⟨#[99,97,116]⟩)))) (
             .jump [(.x 12)])))))))))))) (
       .ite (.x 7)
        (.aP (.one (.c (.v (.string ⟨#[43]⟩)))) (
        .aP (.one (.c (.v (.string ⟨#[45]⟩)))) (
        .aP (.one (.c (.v (.string ⟨#[42]⟩)))) (
        .aP (.one (.c (.v (.string ⟨#[61]⟩)))) (
        .aP (.one (.c (.v (.string ⟨#[60]⟩)))) (
        .aP (.one (.c (.v (.string ⟨#[94]⟩)))) (
        .op (.pH (.v (.string ⟨#[]⟩)) 6 [(0,(.c (.v (.string ⟨#[43]⟩)))),(1,(.c (.v (.string ⟨#[45]⟩)))),(2,(.c (.v (.string ⟨#[42]⟩)))),(3,(.c (.v (.string ⟨#[61]⟩)))),(4,(.c (.v (.string ⟨#[60]⟩)))),(5,(.c (.v (.string ⟨#[94]⟩))))]) (
        .loop [(.c (.v (.int .i64 0)))] (
         .op (.bin .lss (.x 9) (.c (.v (.int .i64 6)))) (
         .ite (.x 10)
          (.aP (.idx (.x 8) (.x 9)) (
          .op (.get (.x 8) (.x 9) 0 none) (
          .op (.call F.fW [(.x 11)] false) (
          .op (.bin .eql (.x 12) (.x 0)) (
          .ite (.x 13)
           (.aP (.idx (.x 8) (.x 9)) (
           .op (.get (.x 8) (.x 9) 0 none) (
           .bn (.bn (.ret [(.c (.v (.int .i64 7))),(.x 14),(.c (.v (.string ⟨#[97,98,99]⟩)))])))))
           (.op (.bin .add (.x 9) (.c (.v (.int .i64 1)))) (
           .jump [(.x 14)])))))))
          (.bn (.jump []))))))))))))
        (.op (.bin .eql (.x 0) (.c (.v (.string ⟨#[115,105,122,101]⟩)))) (
        .ite (.x 8)
         (.bn (.ret [(.c (.v (.int .i64 7))),(.x 0),(.c (.v (.string ⟨#[97,98]⟩)))]))
         (.op (.bin .eql (.x 0) (.c (.v (.string ⟨#[114,101,97,100]⟩)))) (
         .ite (.x 9)
          (.bn (.ret [(.c (.v (.int .i64 7))),(.x 0),(.c (.v (.string ⟨#[97]⟩)))]))
          (.op (.bin .eql (.x 0) (.c (.v (.string ⟨#[112,114,105,110,116]⟩)))) (
          .ite (.x 10)
           (.bn (.ret [(.c (.v (.int .i64 7))),(.x 0),(.c (.v (.string ⟨#[98]⟩)))]))
           (.op (.bin .eql (.x 0) (.c (.v (.string ⟨#[110,101,119]⟩)))) (
           .ite (.x 11)
            (.bn (.ret [(.c (.v (.int .i64 8))),(.c (.v (.string ⟨#[]⟩))),(.c (.v (.string ⟨#[97,110]⟩)))]))
            (.op (.bin .eql (.x 0) (.c (.v (.string ⟨#[112,117,116]⟩)))) (
            .ite (.x 12)
             (.bn (.ret [(.c (.v (.int .i64 9))),(.c (.v (.string ⟨#[]⟩))),(.c (.v (.string ⟨#[97,110,98]⟩)))]))
             (.op (.bin .eql (.x 0) (.c (.v (.string ⟨#[103,101,116]⟩)))) (
             .ite (.x 13)
              (.bn (.ret [(.c (.v (.int .i64 10))),(.c (.v (.string ⟨#[]⟩))),(.c (.v (.string ⟨#[97,98,110]⟩)))]))
              (.op (.bin .eql (.x 0) (.c (.v (.string ⟨#[122,101,114,111]⟩)))) (
              .ite (.x 14)
               (.bn (.ret [(.c (.v (.int .i64 11))),(.c (.v (.string ⟨#[]⟩))),(.c (.v (.string ⟨#[97,110]⟩)))]))
               (.op (.bin .eql (.x 0) (.c (.v (.string ⟨#[106,117,109,112]⟩)))) (
               .ite (.x 15)
                (.bn (.ret [(.c (.v (.int .i64 12))),(.c (.v (.string ⟨#[]⟩))),(.c (.v (.string ⟨#[110]⟩)))]))
                (.op (.bin .eql (.x 0) (.c (.v (.string ⟨#[103,111]⟩)))) (
                .ite (.x 16)
                 (.bn (.ret [(.c (.v (.int .i64 13))),(.c (.v (.string ⟨#[]⟩))),(.c (.v (.string ⟨#[97]⟩)))]))
                 (.op (.bin .eql (.x 0) (.c (.v (.string ⟨#[101,120,105,116]⟩)))) (
                 .ite (.x 17)
                  (.bn (.ret [(.c (.v (.int .i64 14))),(.c (.v (.string ⟨#[]⟩))),(.c (.v (.string ⟨#[97]⟩)))]))
                  (.op (.bin .eql (.x 0) (.c (.v (.string ⟨#[102,97,105,108]⟩)))) (
                  .ite (.x 18)
                   (.bn (.ret [(.c (.v (.int .i64 15))),(.c (.v (.string ⟨#[]⟩))),(.c (.v (.string ⟨#[110]⟩)))]))
                   (.jump []))))))))))))))))))))))))))))))))))))) (
.ret [(.c (.v (.int .i64 0))),(.c (.v (.string ⟨#[]⟩))),(.c (.v (.string ⟨#[32]⟩)))])
theorem T.wH:bU Tryz.prog CF Tryz.f24=some (1,T.fX):=by kernel_rfl
theorem T.sT{args:List AV}{res:AV}(hl:args.length=1)(hn:AV.ad args=true)(hw:bD Tryz.prog (λ _ _ _=>False) (λ a=>a=res) T.fX args []):aI Tryz.prog F.fX args res:=
 aH Tryz.func24 T.wH hl hn hw
def T.er:T:=
.op (.pH (.v (.int .u8 0)) 0 []) (
.bind 1 (
 .op (.bin .add (.x 1) (.c (.v (.int .i64 1)))) (
 .loop [(.x 2),(.x 3)] (
  .op (.dI (.x 0)) (
  .op (.bin .lss (.x 5) (.x 6)) (
  .ite (.x 7)
   (.bind 3 (
    .op (.eB (.x 0) (.x 5)) (
    .bind 2 (
     .op (.bin .eql (.x 8) (.c (.v (.int .u8 34)))) (
     .ite (.x 9)
      (.op (.pu .b2s [(.sl (.x 4))]) (
      .aP (.one (.c (.v (.int .i64 2)))) (
      .aP (.one (.x 10)) (
      .aP (.one (.x 1)) (
      .op (.bin .add (.x 5) (.c (.v (.int .i64 1)))) (
      .aP (.cells (.agg [(.c (.v (.int .i64 2))),(.x 10),(.c (.v (.int .i64 0))),(.x 1)]) 4) (
      .bn (.bn (.bn (.bn (.ret [(.agg [(.c (.v (.int .i64 2))),(.x 10),(.c (.v (.int .i64 0))),(.x 1)]),(.x 11),(.c (.v (.int .i64 0)))])))))))))))
      (.bind 1 (
       .op (.bin .eql (.x 8) (.c (.v (.int .u8 92)))) (
       .ite (.x 10)
        (.op (.bin .add (.x 5) (.c (.v (.int .i64 1)))) (
        .op (.dI (.x 0)) (
        .op (.bin .lss (.x 11) (.x 12)) (
        .ite (.x 13)
         (.op (.bin .add (.x 5) (.c (.v (.int .i64 1)))) (
         .op (.eB (.x 0) (.x 14)) (
         .op (.bin .eql (.x 15) (.c (.v (.int .u8 110)))) (
         .ite (.x 16)
          (.jump [(.c (.v (.bool true)))])
          (.op (.bin .add (.x 5) (.c (.v (.int .i64 1)))) (
          .op (.eB (.x 0) (.x 17)) (
          .op (.bin .eql (.x 18) (.c (.v (.int .u8 34)))) (
          .ite (.x 19)
           (.jump [(.c (.v (.bool true)))])
           (.op (.bin .add (.x 5) (.c (.v (.int .i64 1)))) (
           .op (.eB (.x 0) (.x 20)) (
           .op (.bin .eql (.x 21) (.c (.v (.int .u8 92)))) (
           .jump [(.x 22)]))))))))))))
         (.jump [(.c (.v (.bool false)))])))))
        (.jump [(.c (.v (.bool false)))]))) (
      .ite (.x 10)
       (.op (.bin .add (.x 5) (.c (.v (.int .i64 1)))) (
       .op (.eB (.x 0) (.x 11)) (
       .op (.bin .eql (.x 12) (.c (.v (.int .u8 110)))) (
       .ite (.x 13)
        (.jump [(.x 11),(.c (.v (.int .u8 10)))])
        (.jump [(.x 11),(.x 12)])))))
       (.bind 1 (
        .op (.bin .eql (.x 8) (.c (.v (.int .u8 92)))) (
        .ite (.x 11)
         (.jump [(.c (.v (.bool true)))])
         (.op (.conv .i64 (.x 8)) (
         .op (.call F.cF [(.x 12),(.c (.v (.int .i64 32))),(.c (.v (.int .i64 126)))] false) (
         .op (.un .not (.x 13)) (
         .jump [(.x 14)])))))) (
       .ite (.x 11)
        (.aP (.cells (.agg [(.c (.v (.int .i64 0))),(.c (.v (.string ⟨#[]⟩))),(.c (.v (.int .i64 0))),(.c (.v (.int .i64 0)))]) 4) (
        .bn (.bn (.bn (.bn (.ret [(.agg [(.c (.v (.int .i64 0))),(.c (.v (.string ⟨#[]⟩))),(.c (.v (.int .i64 0))),(.c (.v (.int .i64 0)))]),(.x 5),(.c (.v (.int .i64 4)))]))))))
        (.jump [(.x 5),(.x 8)]))))))) (
    .aP (.one (.x 10)) (
    .op (.pH (.v (.int .u8 0)) 1 [(0,(.x 10))]) (
    .op (.app 1 1 (.x 4) (.sl (.x 11))) (
    .jump [(.x 12),(.x 11),(.x 9)])))))) (
   .op (.bin .add (.x 10) (.c (.v (.int .i64 1)))) (
   .jump [(.x 8),(.x 11)])))
   (.bn (.jump [(.x 4)]))))))) (
.aP (.cells (.agg [(.c (.v (.int .i64 0))),(.c (.v (.string ⟨#[]⟩))),(.c (.v (.int .i64 0))),(.c (.v (.int .i64 0)))]) 4) (
.ret [(.agg [(.c (.v (.int .i64 0))),(.c (.v (.string ⟨#[]⟩))),(.c (.v (.int .i64 0))),(.c (.v (.int .i64 0)))]),(.x 1),(.c (.v (.int .i64 4)))])))
theorem T.vc:bU Tryz.prog CF Tryz.f25=some (2,T.er):=by kernel_rfl
theorem T.rj{args:List AV}{res:AV}(hl:args.length=2)(hn:AV.ad args=true)(hw:bD Tryz.prog (λ _ _ _=>False) (λ a=>a=res) T.er args []):aI Tryz.prog F.er args res:=
 aH Tryz.func25 T.vc hl hn hw
def T.fg:T:=
.bind 0 (
 .bind 1 (
  .op (.dI (.x 0)) (
  .op (.bin .lss (.x 1) (.c (.v (.int .i64 2)))) (
  .ite (.x 2)
   (.jump [(.c (.v (.bool true)))])
   (.op (.eB (.x 0) (.c (.v (.int .i64 0)))) (
   .op (.bin .neq (.x 3) (.c (.v (.int .u8 114)))) (
   .jump [(.x 4)])))))) (
 .ite (.x 1)
  (.bn (.ret [(.c (.v (.int .i64 0))),(.c (.v (.bool false)))]))
  (.jump []))) (
.op (.cL (.x 0) (some (.c (.v (.int .i64 1)))) none) (
.op (.call F.eX [(.x 1)] false) (
.aP (.aK (.x 2) 0) (
.aP (.aK (.x 2) 1) (
.bind 1 (
 .ite (.ext 2 1)
  (.op (.call F.cF [(.ext 2 0),(.c (.v (.int .i64 0))),(.c (.v (.int .i64 15)))] false) (
  .jump [(.x 3)]))
  (.jump [(.c (.v (.bool false)))])) (
.ret [(.ext 2 0),(.x 3)]))))))
theorem T.ve:bU Tryz.prog CF Tryz.f26=some (1,T.fg):=by kernel_rfl
theorem T.rl{args:List AV}{res:AV}(hl:args.length=1)(hn:AV.ad args=true)(hw:bD Tryz.prog (λ _ _ _=>False) (λ a=>a=res) T.fg args []):aI Tryz.prog F.fg args res:=
 aH Tryz.func26 T.ve hl hn hw
def T.cF:T:=
.bind 1 (
 .op (.bin .geq (.x 0) (.x 1)) (
 .ite (.x 3)
  (.op (.bin .leq (.x 0) (.x 2)) (
  .jump [(.x 4)]))
  (.jump [(.c (.v (.bool false)))]))) (
.ret [(.x 3)])
theorem T.acj:bU Tryz.prog CF Tryz.f27=some (3,T.cF):=by kernel_rfl
theorem T.yN{args:List AV}{res:AV}(hl:args.length=3)(hn:AV.ad args=true)(hw:bD Tryz.prog (λ _ _ _=>False) (λ a=>a=res) T.cF args []):aI Tryz.prog F.cF args res:=
 aH Tryz.func27 T.acj hl hn hw
def T.dR:T:=
.aP (.cells (.x 0) 6) (
.aP (.cells (.x 1) 2) (
.bind 0 (
 .bind 1 (
  .op (.call F.eY [(.cell 0 1)] false) (
  .op (.un .not (.x 2)) (
  .ite (.x 3)
   (.jump [(.c (.v (.bool true)))])
   (.op (.call F.eY [(.cell 0 2)] false) (
   .op (.un .not (.x 4)) (
   .ite (.x 5)
    (.jump [(.c (.v (.bool true)))])
    (.op (.call F.eY [(.cell 0 3)] false) (
    .op (.un .not (.x 6)) (
    .jump [(.x 7)]))))))))) (
 .ite (.x 2)
  (.bn (.ret [(.c (.v (.bool false)))]))
  (.jump []))) (
.op (.cz (.cell 1 0)) (
.op (.bin .sub (.x 2) (.c (.v (.int .i64 1)))) (
.op (.call F.cF [(.cell 0 4),(.c (.v (.int .i64 0))),(.x 3)] false) (
.bind 0 (
 .op (.bin .eql (.cell 0 0) (.c (.v (.int .i64 1)))) (
 .ite (.x 5)
  (.aP (.cells (.x 0) 6) (
  .op (.call F.bh [(.x 0),(.c (.v (.string ⟨#[97,110]⟩)))] false) (
  .bn (.ret [(.x 6)]))))
  (.op (.bin .eql (.cell 0 0) (.c (.v (.int .i64 2)))) (
  .ite (.x 6)
   (.bind 1 (
    .aP (.cells (.x 0) 6) (
    .op (.call F.bh [(.x 0),(.c (.v (.string ⟨#[97,116]⟩)))] false) (
    .ite (.x 7)
     (.op (.call F.fV [(.cell 0 5)] false) (
     .ite (.x 8)
      (.op (.dI (.cell 0 5)) (
      .op (.bin .leq (.x 9) (.c (.v (.int .i64 4000)))) (
      .jump [(.x 10)])))
      (.jump [(.c (.v (.bool false)))])))
     (.jump [(.c (.v (.bool false)))])))) (
   .bn (.ret [(.x 7)])))
   (.op (.bin .eql (.cell 0 0) (.c (.v (.int .i64 3)))) (
   .ite (.x 7)
    (.bind 1 (
     .aP (.cells (.x 0) 6) (
     .op (.call F.bh [(.x 0),(.c (.v (.string ⟨#[97,110]⟩)))] false) (
     .ite (.x 8)
      (.op (.cz (.cell 1 1)) (
      .op (.bin .sub (.x 9) (.c (.v (.int .i64 1)))) (
      .op (.call F.cF [(.cell 0 4),(.c (.v (.int .i64 0))),(.x 10)] false) (
      .jump [(.x 11)]))))
      (.jump [(.c (.v (.bool false)))])))) (
    .bn (.ret [(.x 8)])))
    (.op (.bin .eql (.cell 0 0) (.c (.v (.int .i64 4)))) (
    .ite (.x 8)
     (.aP (.cells (.x 0) 6) (
     .op (.call F.bh [(.x 0),(.c (.v (.string ⟨#[97,98]⟩)))] false) (
     .bn (.ret [(.x 9)]))))
     (.bind 1 (
      .op (.bin .eql (.cell 0 0) (.c (.v (.int .i64 5)))) (
      .ite (.x 9)
       (.jump [(.x 9)])
       (.op (.bin .eql (.cell 0 0) (.c (.v (.int .i64 6)))) (
       .jump [(.x 10)])))) (
     .ite (.x 9)
      (.bind 1 (
       .aP (.cells (.x 0) 6) (
       .op (.call F.bh [(.x 0),(.c (.v (.string ⟨#[97,110]⟩)))] false) (
       .ite (.x 10)
        (.op (.call F.cF [(.cell 0 4),(.c (.v (.int .i64 0))),(.c (.v (.int .i64 63)))] false) (
        .jump [(.x 11)]))
        (.jump [(.c (.v (.bool false)))])))) (
      .bn (.ret [(.x 10)])))
      (.op (.bin .eql (.cell 0 0) (.c (.v (.int .i64 7)))) (
      .ite (.x 10)
       (.aP (.cells (.x 0) 6) (
       .op (.call F.iH [(.x 0)] false) (
       .bn (.ret [(.x 11)]))))
       (.op (.bin .eql (.cell 0 0) (.c (.v (.int .i64 8)))) (
       .ite (.x 11)
        (.bind 1 (
         .aP (.cells (.x 0) 6) (
         .op (.call F.bh [(.x 0),(.c (.v (.string ⟨#[97,110]⟩)))] false) (
         .ite (.x 12)
          (.op (.call F.cF [(.cell 0 4),(.c (.v (.int .i64 1))),(.c (.v (.int .i64 4000)))] false) (
          .jump [(.x 13)]))
          (.jump [(.c (.v (.bool false)))])))) (
        .bn (.ret [(.x 12)])))
        (.bind 1 (
         .op (.bin .eql (.cell 0 0) (.c (.v (.int .i64 9)))) (
         .ite (.x 12)
          (.jump [(.x 12)])
          (.op (.bin .eql (.cell 0 0) (.c (.v (.int .i64 10)))) (
          .jump [(.x 13)])))) (
        .ite (.x 12)
         (.bind 1 (
          .aP (.cells (.x 0) 6) (
          .op (.call F.bh [(.x 0),(.c (.v (.string ⟨#[97,98,110]⟩)))] false) (
          .ite (.x 13)
           (.op (.bin .geq (.cell 0 4) (.c (.v (.int .i64 0)))) (
           .jump [(.x 14)]))
           (.jump [(.c (.v (.bool false)))])))) (
         .bn (.ret [(.x 13)])))
         (.op (.bin .eql (.cell 0 0) (.c (.v (.int .i64 11)))) (
         .ite (.x 13)
          (.bind 1 (
           .aP (.cells (.x 0) 6) (
           .op (.call F.bh [(.x 0),(.c (.v (.string ⟨#[97,110]⟩)))] false) (
           .ite (.x 14)
            (.jump [(.x 4)])
            (.jump [(.c (.v (.bool false)))])))) (
          .bn (.ret [(.x 14)])))
          (.op (.bin .eql (.cell 0 0) (.c (.v (.int .i64 12)))) (
          .ite (.x 14)
           (.bind 1 (
            .aP (.cells (.x 0) 6) (
            .op (.call F.bh [(.x 0),(.c (.v (.string ⟨#[110]⟩)))] false) (
            .ite (.x 15)
             (.jump [(.x 4)])
             (.jump [(.c (.v (.bool false)))])))) (
           .bn (.ret [(.x 15)])))
           (.bind 1 (
            .op (.bin .eql (.cell 0 0) (.c (.v (.int .i64 13)))) (
            .ite (.x 15)
             (.jump [(.x 15)])
             (.op (.bin .eql (.cell 0 0) (.c (.v (.int .i64 14)))) (
             .jump [(.x 16)])))) (
           .ite (.x 15)
            (.aP (.cells (.x 0) 6) (
            .op (.call F.bh [(.x 0),(.c (.v (.string ⟨#[97]⟩)))] false) (
            .bn (.ret [(.x 16)]))))
            (.op (.bin .eql (.cell 0 0) (.c (.v (.int .i64 15)))) (
            .ite (.x 16)
             (.bind 1 (
              .aP (.cells (.x 0) 6) (
              .op (.call F.bh [(.x 0),(.c (.v (.string ⟨#[110]⟩)))] false) (
              .ite (.x 17)
               (.op (.call F.cF [(.cell 0 4),(.c (.v (.int .i64 1))),(.c (.v (.int .i64 2)))] false) (
               .jump [(.x 18)]))
               (.jump [(.c (.v (.bool false)))])))) (
             .bn (.ret [(.x 17)])))
             (.jump []))))))))))))))))))))))))) (
.ret [(.c (.v (.bool false)))])))))))
theorem T.rq:bU Tryz.prog CF Tryz.f28=some (2,T.dR):=by kernel_rfl
theorem T.pr{args:List AV}{res:AV}(hl:args.length=2)(hn:AV.ad args=true)(hw:bD Tryz.prog (λ _ _ _=>False) (λ a=>a=res) T.dR args []):aI Tryz.prog F.dR args res:=
 aH Tryz.func28 T.rq hl hn hw
def T.strings_genSplit:T:=
.op (.bin .eql (.x 3) (.c (.v (.int .i64 0)))) (
.ite (.x 4)
 (.ret [(.c .aQ)])
 (.op (.bin .eql (.x 1) (.c (.v (.string ⟨#[]⟩)))) (
 .ite (.x 5)
  (.op (.call F.u9 [(.x 0),(.x 3)] false) (
  .ret [(.x 6)]))
  (.bind 1 (
   .op (.bin .lss (.x 3) (.c (.v (.int .i64 0)))) (
   .ite (.x 6)
    (.op (.call F.strings_Count [(.x 0),(.x 1)] false) (
    .op (.bin .add (.x 7) (.c (.v (.int .i64 1)))) (
    .jump [(.x 8)])))
    (.jump [(.x 3)]))) (
  .op (.dI (.x 0)) (
  .op (.bin .add (.x 7) (.c (.v (.int .i64 1)))) (
  .op (.pu .min [(.x 6),(.x 8)]) (
  .op (.rep 16 (.v (.string ⟨#[]⟩)) (.x 9) (.x 9)) (
  .op (.bin .sub (.x 9) (.c (.v (.int .i64 1)))) (
  .bind 3 (
   .loop [(.x 10),(.x 0),(.c (.v (.int .i64 0)))] (
    .op (.bin .lss (.x 14) (.x 11)) (
    .ite (.x 15)
     (.op (.call F.strings_Index [(.x 13),(.x 1)] false) (
     .op (.bin .lss (.x 16) (.c (.v (.int .i64 0)))) (
     .ite (.x 17)
      (.bn (.jump [(.x 12),(.x 13),(.x 14)]))
      (.op (.bin .add (.x 16) (.x 2)) (
      .op (.cL (.x 13) none (some (.x 18))) (
      .aP (.idx (.x 12) (.x 14)) (
      .aP (.one (.x 19)) (
      .op (.set (.x 12) (.x 14) 0 1 (.x 19)) (
      .op (.dI (.x 1)) (
      .op (.bin .add (.x 16) (.x 21)) (
      .op (.cL (.x 13) (some (.x 22)) none) (
      .op (.bin .add (.x 14) (.c (.v (.int .i64 1)))) (
      .jump [(.x 20),(.x 23),(.x 24)])))))))))))))
     (.bn (.jump [(.x 12),(.x 13),(.x 14)]))))) (
  .aP (.idx (.x 12) (.x 14)) (
  .aP (.one (.x 13)) (
  .op (.set (.x 12) (.x 14) 0 1 (.x 13)) (
  .op (.bin .add (.x 14) (.c (.v (.int .i64 1)))) (
  .op (.cw 1 (.sl (.x 15)) none (some (.x 16))) (
  .ret [(.x 17)]))))))))))))))))
theorem T.pY:bU Tryz.prog CF Tryz.f29=some (4,T.strings_genSplit):=by kernel_rfl
theorem T.oa{args:List AV}{res:AV}(hl:args.length=4)(hn:AV.ad args=true)(hw:bD Tryz.prog (λ _ _ _=>False) (λ a=>a=res) T.strings_genSplit args []):aI Tryz.prog F.strings_genSplit args res:=
 aH Tryz.func29 T.pY hl hn hw
def T.ei:T:=
.op (.call F.strconv_Atoi [(.x 0)] false) (
.aP (.aK (.x 1) 0) (
.aP (.aK (.x 1) 1) (
.bind 1 (
 .op (.pu (.qG false) [(.ext 1 1)]) (
 .ite (.x 2)
  (.op (.call F.strconv_Itoa [(.ext 1 0)] false) (
  .op (.bin .eql (.x 3) (.x 0)) (
  .jump [(.x 4)])))
  (.jump [(.c (.v (.bool false)))]))) (
.ret [(.ext 1 0),(.x 2)]))))
theorem T.xN:bU Tryz.prog CF Tryz.f30=some (1,T.ei):=by kernel_rfl
theorem T.tz{args:List AV}{res:AV}(hl:args.length=1)(hn:AV.ad args=true)(hw:bD Tryz.prog (λ _ _ _=>False) (λ a=>a=res) T.ei args []):aI Tryz.prog F.ei args res:=
 aH Tryz.func30 T.xN hl hn hw
def T.strings_Cut:T:=
.op (.call F.bY [(.x 0),(.x 1)] false) (
.aP (.aK (.x 2) 0) (
.aP (.aK (.x 2) 1) (
.aP (.aK (.x 2) 2) (
.ret [(.ext 2 0),(.ext 2 1),(.ext 2 2)]))))
theorem T.yM:bU Tryz.prog CF Tryz.f31=some (2,T.strings_Cut):=by kernel_rfl
theorem T.vb{args:List AV}{res:AV}(hl:args.length=2)(hn:AV.ad args=true)(hw:bD Tryz.prog (λ _ _ _=>False) (λ a=>a=res) T.strings_Cut args []):aI Tryz.prog F.strings_Cut args res:=
 aH Tryz.func31 T.yM hl hn hw
def T.gS:T:=
.bind 1 (
 .loop [(.c (.sl [])),(.c (.v (.int .i64 1)))] (
  .op (.bin .leq (.x 1) (.c (.v (.int .i64 15)))) (
  .ite (.x 2)
   (.bind 1 (
    .op (.bin .neq (.x 1) (.c (.v (.int .i64 7)))) (
    .ite (.x 3)
     (.aP (.one (.x 1)) (
     .aP (.cells (.agg [(.x 1),(.c (.v (.int .i64 0))),(.c (.v (.int .i64 0))),(.c (.v (.int .i64 0))),(.c (.v (.int .i64 0))),(.c (.v (.string ⟨#[]⟩)))]) 6) (
     .op (.pH (.agg [(.v (.int .i64 0)),(.v (.int .i64 0)),(.v (.int .i64 0)),(.v (.int .i64 0)),(.v (.int .i64 0)),(.v (.string ⟨#[]⟩))]) 1 [(0,(.agg [(.x 1),(.c (.v (.int .i64 0))),(.c (.v (.int .i64 0))),(.c (.v (.int .i64 0))),(.c (.v (.int .i64 0))),(.c (.v (.string ⟨#[]⟩)))]))]) (
     .op (.app 6 56 (.x 0) (.sl (.x 4))) (
     .jump [(.x 5)])))))
     (.jump [(.x 0)]))) (
   .op (.bin .add (.x 1) (.c (.v (.int .i64 1)))) (
   .jump [(.x 3),(.x 4)])))
   (.bn (.jump [(.x 0)]))))) (
.bind 2 (
 .aP (.one (.c (.v (.string ⟨#[43]⟩)))) (
 .aP (.one (.c (.v (.string ⟨#[45]⟩)))) (
 .aP (.one (.c (.v (.string ⟨#[42]⟩)))) (
 .aP (.one (.c (.v (.string ⟨#[61]⟩)))) (
 .aP (.one (.c (.v (.string ⟨#[60]⟩)))) (
 .aP (.one (.c (.v (.string ⟨#[94]⟩)))) (
 .aP (.one (.c (.v (.string ⟨#[115,105,122,101]⟩)))) (
 .aP (.one (.c (.v (.string ⟨#[114,101,97,100]⟩)))) (
 .aP (.one (.c (.v (.string ⟨#[112,114,105,110,116]⟩)))) (
 .op (.pH (.v (.string ⟨#[]⟩)) 9 [(0,(.c (.v (.string ⟨#[43]⟩)))),(1,(.c (.v (.string ⟨#[45]⟩)))),(2,(.c (.v (.string ⟨#[42]⟩)))),(3,(.c (.v (.string ⟨#[61]⟩)))),(4,(.c (.v (.string ⟨#[60]⟩)))),(5,(.c (.v (.string ⟨#[94]⟩)))),(6,(.c (.v (.string ⟨#[115,105,122,101]⟩)))),(7,(.c (.v (.string ⟨#[114,101,97,100]⟩)))),(8,(.c (.v (.string ⟨#[112,114,105,110,116]⟩))))]) (
 .op (.cz (.sl (.x 1))) (
 .loop [(.x 0),(.c (.v (.int .i64 0)))] (
  .op (.bin .lss (.x 4) (.x 2)) (
  .ite (.x 5)
   (.aP (.idx (.x 1) (.x 4)) (
   .op (.get (.x 1) (.x 4) 0 none) (
   .aP (.one (.c (.v (.int .i64 7)))) (
   .aP (.one (.x 6)) (
   .aP (.cells (.agg [(.c (.v (.int .i64 7))),(.c (.v (.int .i64 0))),(.c (.v (.int .i64 0))),(.c (.v (.int .i64 0))),(.c (.v (.int .i64 0))),(.x 6)]) 6) (
   .op (.pH (.agg [(.v (.int .i64 0)),(.v (.int .i64 0)),(.v (.int .i64 0)),(.v (.int .i64 0)),(.v (.int .i64 0)),(.v (.string ⟨#[]⟩))]) 1 [(0,(.agg [(.c (.v (.int .i64 7))),(.c (.v (.int .i64 0))),(.c (.v (.int .i64 0))),(.c (.v (.int .i64 0))),(.c (.v (.int .i64 0))),(.x 6)]))]) (
   .op (.app 6 56 (.x 3) (.sl (.x 7))) (
   .op (.bin .add (.x 4) (.c (.v (.int .i64 1)))) (
   .jump [(.x 8),(.x 9)])))))))))
   (.bn (.jump [(.x 3),(.x 1)])))))))))))))))) (
.ret [(.sl (.x 1))]))
theorem T.abp:bU Tryz.prog CF Tryz.f32=some (0,T.gS):=by kernel_rfl
theorem T.xQ{args:List AV}{res:AV}(hl:args.length=0)(hn:AV.ad args=true)(hw:bD Tryz.prog (λ _ _ _=>False) (λ a=>a=res) T.gS args []):aI Tryz.prog F.gS args res:=
 aH Tryz.func32 T.abp hl hn hw
def T.strings_SplitN:T:=
.op (.call F.strings_genSplit [(.x 0),(.x 1),(.c (.v (.int .i64 0))),(.x 2)] false) (
.ret [(.x 3)])
theorem T.sH:bU Tryz.prog CF Tryz.f34=some (3,T.strings_SplitN):=by kernel_rfl
theorem T.pZ{args:List AV}{res:AV}(hl:args.length=3)(hn:AV.ad args=true)(hw:bD Tryz.prog (λ _ _ _=>False) (λ a=>a=res) T.strings_SplitN args []):aI Tryz.prog F.strings_SplitN args res:=
 aH Tryz.func34 T.sH hl hn hw
def T.b5:T:=
.bind 1 (
 .op (.bin .geq (.x 0) (.x 1)) (
 .ite (.x 3)
  (.op (.bin .leq (.x 0) (.x 2)) (
  .jump [(.x 4)]))
  (.jump [(.c (.v (.bool false)))]))) (
.ret [(.x 3)])
theorem T.y5:bU Tryz.prog CF Tryz.f37=some (3,T.b5):=by kernel_rfl
theorem T.vz{args:List AV}{res:AV}(hl:args.length=3)(hn:AV.ad args=true)(hw:bD Tryz.prog (λ _ _ _=>False) (λ a=>a=res) T.b5 args []):aI Tryz.prog F.b5 args res:=
 aH Tryz.func37 T.y5 hl hn hw
def T.aV:T:=
.op (.call F.a7 [(.x 0),(.x 1)] false) (
.op (.bin .geq (.x 2) (.c (.v (.int .i64 0)))) (
.ret [(.x 3)]))
theorem T.fC:bU Tryz.prog CF Tryz.f38=some (2,T.aV):=by kernel_rfl
theorem T.fh{args:List AV}{res:AV}(hl:args.length=2)(hn:AV.ad args=true)(hw:bD Tryz.prog (λ _ _ _=>False) (λ a=>a=res) T.aV args []):aI Tryz.prog F.aV args res:=
 aH Tryz.func38 T.fC hl hn hw
def T.fp:T:=
.aP (.cells (.x 0) 6) (
.op (.ldp (some 2) (.x 1)) (
.aP (.cells (.x 0) 6) (
.op (.call F.gd [(.x 2),(.x 0)] false) (
.op (.un .not (.x 3)) (
.ret [(.x 4)])))))
theorem T.vE:bU Tryz.prog CF Tryz.f39=some (2,T.fp):=by kernel_rfl
theorem T.si{args:List AV}{res:AV}(hl:args.length=2)(hn:AV.ad args=true)(hw:bD Tryz.prog (λ _ _ _=>False) (λ a=>a=res) T.fp args []):aI Tryz.prog F.fp args res:=
 aH Tryz.func39 T.vE hl hn hw
def T.gd:T:=
.aP (.cells (.x 0) 2) (
.aP (.cells (.x 1) 6) (
.aP (.cells (.x 1) 6) (
.op (.call F.iK [(.x 1)] false) (
.aP (.aK (.x 2) 0) (
.aP (.aK (.x 2) 1) (
.aP (.one (.c (.v (.string ⟨#[]⟩)))) (
.aP (.one (.ext 2 0)) (
.aP (.one (.c (.v .nilFunc))) (
.aP (.one (.fn F.bQ [(.ip (.ext 2 0) 0)])) (
.bind 0 (
 .bind 1 (
  .op (.un .not (.ext 2 1)) (
  .ite (.x 3)
   (.jump [(.c (.v (.bool true)))])
   (.op (.call F.cY [(.c (.v (.string ⟨#[97]⟩))),(.cell 1 1),(.ip (.fn F.bQ [(.ip (.ext 2 0) 0)]) 0)] false) (
   .op (.un .not (.x 4)) (
   .ite (.x 5)
    (.jump [(.c (.v (.bool true)))])
    (.op (.call F.cY [(.c (.v (.string ⟨#[98]⟩))),(.cell 1 2),(.ip (.fn F.bQ [(.ip (.ext 2 0) 0)]) 0)] false) (
    .op (.un .not (.x 6)) (
    .ite (.x 7)
     (.jump [(.c (.v (.bool true)))])
     (.op (.call F.cY [(.c (.v (.string ⟨#[99]⟩))),(.cell 1 3),(.ip (.fn F.bQ [(.ip (.ext 2 0) 0)]) 0)] false) (
     .op (.un .not (.x 8)) (
     .ite (.x 9)
      (.jump [(.c (.v (.bool true)))])
      (.op (.val (.fn F.bQ [(.ip (.ext 2 0) 0)])) (
      .aP (.lt (.x 10) 0) (
      .op (.eJ (.cell 10 0) [(.c (.v (.string ⟨#[110]⟩)))] false) (
      .op (.un .not (.x 11)) (
      .ite (.x 12)
       (.op (.bin .neq (.cell 1 4) (.c (.v (.int .i64 0)))) (
       .ite (.x 13)
        (.jump [(.c (.v (.bool true)))])
        (.op (.val (.fn F.bQ [(.ip (.ext 2 0) 0)])) (
        .aP (.lt (.x 14) 0) (
        .op (.eJ (.cell 14 0) [(.c (.v (.string ⟨#[116]⟩)))] false) (
        .op (.un .not (.x 15)) (
        .ite (.x 16)
         (.op (.bin .neq (.cell 1 5) (.c (.v (.string ⟨#[]⟩)))) (
         .jump [(.x 17)]))
         (.jump [(.c (.v (.bool false)))]))))))))
       (.op (.val (.fn F.bQ [(.ip (.ext 2 0) 0)])) (
       .aP (.lt (.x 13) 0) (
       .op (.eJ (.cell 13 0) [(.c (.v (.string ⟨#[116]⟩)))] false) (
       .op (.un .not (.x 14)) (
       .ite (.x 15)
        (.op (.bin .neq (.cell 1 5) (.c (.v (.string ⟨#[]⟩)))) (
        .jump [(.x 16)]))
        (.jump [(.c (.v (.bool false)))])))))))))))))))))))))) (
 .ite (.x 3)
  (.bn (.ret [(.c (.v (.bool false)))]))
  (.jump []))) (
.bind 0 (
 .op (.bin .eql (.cell 1 0) (.c (.v (.int .i64 2)))) (
 .ite (.x 3)
  (.bind 1 (
   .op (.dI (.cell 1 5)) (
   .op (.bin .leq (.x 4) (.c (.v (.int .i64 4000)))) (
   .ite (.x 5)
    (.op (.call F.iL [(.cell 1 5)] false) (
    .jump [(.x 6)]))
    (.jump [(.c (.v (.bool false)))])))) (
  .bn (.ret [(.x 4)])))
  (.op (.bin .eql (.cell 1 0) (.c (.v (.int .i64 3)))) (
  .ite (.x 4)
   (.op (.cz (.cell 0 1)) (
   .op (.bin .sub (.x 5) (.c (.v (.int .i64 1)))) (
   .op (.call F.b5 [(.cell 1 4),(.c (.v (.int .i64 0))),(.x 6)] false) (
   .bn (.ret [(.x 7)])))))
   (.bind 1 (
    .op (.bin .eql (.cell 1 0) (.c (.v (.int .i64 5)))) (
    .ite (.x 5)
     (.jump [(.x 5)])
     (.op (.bin .eql (.cell 1 0) (.c (.v (.int .i64 6)))) (
     .jump [(.x 6)])))) (
   .ite (.x 5)
    (.op (.call F.b5 [(.cell 1 4),(.c (.v (.int .i64 0))),(.c (.v (.int .i64 63)))] false) (
    .bn (.ret [(.x 6)])))
    (.op (.bin .eql (.cell 1 0) (.c (.v (.int .i64 8)))) (
    .ite (.x 6)
     (.op (.call F.b5 [(.cell 1 4),(.c (.v (.int .i64 1))),(.c (.v (.int .i64 4000)))] false) (
     .bn (.ret [(.x 7)])))
     (.bind 1 (
      .op (.bin .eql (.cell 1 0) (.c (.v (.int .i64 9)))) (
      .ite (.x 7)
       (.jump [(.x 7)])
       (.op (.bin .eql (.cell 1 0) (.c (.v (.int .i64 10)))) (
       .jump [(.x 8)])))) (
     .ite (.x 7)
      (.op (.bin .geq (.cell 1 4) (.c (.v (.int .i64 0)))) (
      .bn (.ret [(.x 8)])))
      (.bind 1 (
       .op (.bin .eql (.cell 1 0) (.c (.v (.int .i64 11)))) (
       .ite (.x 8)
        (.jump [(.x 8)])
        (.op (.bin .eql (.cell 1 0) (.c (.v (.int .i64 12)))) (
        .jump [(.x 9)])))) (
      .ite (.x 8)
       (.op (.cz (.cell 0 0)) (
       .op (.bin .sub (.x 9) (.c (.v (.int .i64 1)))) (
       .op (.call F.b5 [(.cell 1 4),(.c (.v (.int .i64 0))),(.x 10)] false) (
       .bn (.ret [(.x 11)])))))
       (.op (.bin .eql (.cell 1 0) (.c (.v (.int .i64 15)))) (
       .ite (.x 9)
        (.op (.call F.b5 [(.cell 1 4),(.c (.v (.int .i64 1))),(.c (.v (.int .i64 2)))] false) (
        .bn (.ret [(.x 10)])))
        (.jump []))))))))))))))) (
.ret [(.c (.v (.bool true)))]))))))))))))
theorem T.xR:bU Tryz.prog CF Tryz.f40=some (2,T.gd):=by kernel_rfl
theorem T.tD{args:List AV}{res:AV}(hl:args.length=2)(hn:AV.ad args=true)(hw:bD Tryz.prog (λ _ _ _=>False) (λ a=>a=res) T.gd args []):aI Tryz.prog F.gd args res:=
 aH Tryz.func40 T.xR hl hn hw
def T.bM:T:=
.op (.call F.bL [(.x 0),(.x 1)] false) (
.op (.bin .geq (.x 2) (.c (.v (.int .i64 0)))) (
.ret [(.x 3)]))
theorem T.jC:bU Tryz.prog CF Tryz.f41=some (2,T.bM):=by kernel_rfl
theorem T.jc{args:List AV}{res:AV}(hl:args.length=2)(hn:AV.ad args=true)(hw:bD Tryz.prog (λ _ _ _=>False) (λ a=>a=res) T.bM args []):aI Tryz.prog F.bM args res:=
 aH Tryz.func41 T.jC hl hn hw
def T.fo:T:=
.op (.fap 0 (.x 1)) (
.op (.ldp none (.x 2)) (
.op (.cz (.x 3)) (
.op (.bin .sub (.x 4) (.c (.v (.int .i64 1)))) (
.op (.call F.b5 [(.x 0),(.c (.v (.int .i64 0))),(.x 5)] false) (
.op (.un .not (.x 6)) (
.ret [(.x 7)]))))))
theorem T.vC:bU Tryz.prog CF Tryz.f42=some (2,T.fo):=by kernel_rfl
theorem T.sh{args:List AV}{res:AV}(hl:args.length=2)(hn:AV.ad args=true)(hw:bD Tryz.prog (λ _ _ _=>False) (λ a=>a=res) T.fo args []):aI Tryz.prog F.fo args res:=
 aH Tryz.func42 T.vC hl hn hw
def T.gb:T:=
.aP (.cells (.x 0) 6) (
.aP (.cells (.x 1) 6) (
.op (.bin .neq (.cell 0 0) (.cell 1 0)) (
.ite (.x 2)
 (.ret [(.c (.v (.bool false)))])
 (.op (.bin .neq (.cell 0 1) (.cell 1 1)) (
 .ite (.x 3)
  (.ret [(.c (.v (.bool false)))])
  (.op (.bin .neq (.cell 0 2) (.cell 1 2)) (
  .ite (.x 4)
   (.ret [(.c (.v (.bool false)))])
   (.op (.bin .neq (.cell 0 3) (.cell 1 3)) (
   .ite (.x 5)
    (.ret [(.c (.v (.bool false)))])
    (.op (.bin .neq (.cell 0 4) (.cell 1 4)) (
    .ite (.x 6)
     (.ret [(.c (.v (.bool false)))])
     (.op (.bin .neq (.cell 0 5) (.cell 1 5)) (
     .ite (.x 7)
      (.ret [(.c (.v (.bool false)))])
      (.ret [(.c (.v (.bool true)))]))))))))))))))
theorem T.xE:bU Tryz.prog CF Tryz.f43=some (2,T.gb):=by kernel_rfl
theorem T.tq{args:List AV}{res:AV}(hl:args.length=2)(hn:AV.ad args=true)(hw:bD Tryz.prog (λ _ _ _=>False) (λ a=>a=res) T.gb args []):aI Tryz.prog F.gb args res:=
 aH Tryz.func43 T.xE hl hn hw
def T.ew:T:=
.op (.bin .leq (.x 0) (.c (.v (.int .i64 0)))) (
.ite (.x 1)
 (.ret [(.c (.v (.string ⟨#[109,48]⟩)))])
 (.bind 1 (
  .loop [(.x 0),(.c (.v (.string ⟨#[]⟩)))] (
   .op (.bin .gtr (.x 2) (.c (.v (.int .i64 0)))) (
   .ite (.x 4)
    (.op (.bin .rem (.x 2) (.c (.v (.int .i64 10)))) (
    .op (.bin .add (.c (.v (.int .i64 48))) (.x 5)) (
    .op (.conv .u8 (.x 6)) (
    .aP (.one (.x 7)) (
    .op (.pH (.v (.int .u8 0)) 1 [(0,(.x 7))]) (
    .op (.pu .b2s [(.sl (.x 8))]) (
    .op (.bin .add (.x 9) (.x 3)) (
    .op (.bin .quo (.x 2) (.c (.v (.int .i64 10)))) (
    .jump [(.x 11),(.x 10)])))))))))
    (.bn (.jump [(.x 3)]))))) (
 .op (.bin .add (.c (.v (.string ⟨#[109]⟩))) (.x 2)) (
 .ret [(.x 3)]))))
theorem T.vo:bU Tryz.prog CF Tryz.f44=some (1,T.ew):=by kernel_rfl
theorem T.rS{args:List AV}{res:AV}(hl:args.length=1)(hn:AV.ad args=true)(hw:bD Tryz.prog (λ _ _ _=>False) (λ a=>a=res) T.ew args []):aI Tryz.prog F.ew args res:=
 aH Tryz.func44 T.vo hl hn hw
def T.iG:T:=
.op (.call F.cF [(.x 0),(.c (.v (.int .i64 48))),(.c (.v (.int .i64 57)))] false) (
.ret [(.x 1)])
theorem T.aaJ:bU Tryz.prog CF Tryz.f45=some (1,T.iG):=by kernel_rfl
theorem T.wB{args:List AV}{res:AV}(hl:args.length=1)(hn:AV.ad args=true)(hw:bD Tryz.prog (λ _ _ _=>False) (λ a=>a=res) T.iG args []):aI Tryz.prog F.iG args res:=
 aH Tryz.func45 T.aaJ hl hn hw
def T.cV:T:=
.op (.bin .lss (.x 0) (.c (.v (.int .i64 0)))) (
.ite (.x 1)
 (.op (.bin .add (.x 0) (.c (.v (.int .i64 1)))) (
 .op (.un .neg (.x 2)) (
 .op (.conv .u64 (.x 3)) (
 .op (.bin .add (.x 4) (.c (.v (.int .u64 1)))) (
 .op (.call F.cU [(.x 5)] false) (
 .op (.bin .add (.c (.v (.string ⟨#[45]⟩))) (.x 6)) (
 .ret [(.x 7)])))))))
 (.op (.conv .u64 (.x 0)) (
 .op (.call F.cU [(.x 2)] false) (
 .ret [(.x 3)]))))
theorem T.sL:bU Tryz.prog CF Tryz.f46=some (1,T.cV):=by kernel_rfl
theorem T.kQ{args:List AV}{res:AV}(hl:args.length=1)(hn:AV.ad args=true)(hw:bD Tryz.prog (λ _ _ _=>False) (λ a=>a=res) T.cV args []):aI Tryz.prog F.cV args res:=
 aH Tryz.func46 T.sL hl hn hw
def T.fW:T:=
.aP (.one (.c (.v (.string ⟨#[43]⟩)))) (
.aP (.one (.c (.v (.string ⟨#[45]⟩)))) (
.aP (.one (.c (.v (.string ⟨#[42]⟩)))) (
.aP (.one (.c (.v (.string ⟨#[61]⟩)))) (
.aP (.one (.c (.v (.string ⟨#[60]⟩)))) (
.aP (.one (.c (.v (.string ⟨#[94]⟩)))) (
.op (.pH (.v (.string ⟨#[]⟩)) 6 [(0,(.c (.v (.string ⟨#[43]⟩)))),(1,(.c (.v (.string ⟨#[45]⟩)))),(2,(.c (.v (.string ⟨#[42]⟩)))),(3,(.c (.v (.string ⟨#[61]⟩)))),(4,(.c (.v (.string ⟨#[60]⟩)))),(5,(.c (.v (.string ⟨#[94]⟩))))]) (
.aP (.one (.c (.v (.string ⟨#[97,100,100]⟩)))) (
.aP (.one (.c (.v (.string ⟨#[115,117,98]⟩)))) (
.aP (.one (.c (.v (.string ⟨#[109,117,108]⟩)))) (
.aP (.one (.c (.v (.string ⟨#[101,113]⟩)))) (
.aP (.one (.c (.v (.string ⟨#[108,116]⟩)))) (
.aP (.one (.c (.v (.string ⟨#[99,97,116]⟩)))) (
.op (.pH (.v (.string ⟨#[]⟩)) 6 [(0,(.c (.v (.string ⟨#[97,100,100]⟩)))),(1,(.c (.v (.string ⟨#[115,117,98]⟩)))),(2,(.c (.v (.string ⟨#[109,117,108]⟩)))),(3,(.c (.v (.string ⟨#[101,113]⟩)))),(4,(.c (.v (.string ⟨#[108,116]⟩)))),(5,(.c (.v (.string ⟨#[99,97,116]⟩))))]) (
.bind 0 (
 .loop [(.c (.v (.int .i64 0)))] (
  .op (.bin .lss (.x 3) (.c (.v (.int .i64 6)))) (
  .ite (.x 4)
   (.aP (.idx (.x 1) (.x 3)) (
   .op (.get (.x 1) (.x 3) 0 none) (
   .op (.bin .eql (.x 5) (.x 0)) (
   .ite (.x 6)
    (.aP (.idx (.x 2) (.x 3)) (
    .op (.get (.x 2) (.x 3) 0 none) (
    .bn (.bn (.ret [(.x 7)])))))
    (.op (.bin .add (.x 3) (.c (.v (.int .i64 1)))) (
    .jump [(.x 7)]))))))
   (.bn (.jump []))))) (
.ret [(.x 0)])))))))))))))))
theorem T.wF:bU Tryz.prog CF Tryz.f47=some (1,T.fW):=by kernel_rfl
theorem T.sS{args:List AV}{res:AV}(hl:args.length=1)(hn:AV.ad args=true)(hw:bD Tryz.prog (λ _ _ _=>False) (λ a=>a=res) T.fW args []):aI Tryz.prog F.fW args res:=
 aH Tryz.func47 T.wF hl hn hw
def T.eY:T:=
.op (.call F.cF [(.x 0),(.c (.v (.int .i64 0))),(.c (.v (.int .i64 15)))] false) (
.ret [(.x 1)])
theorem T.yP:bU Tryz.prog CF Tryz.f48=some (1,T.eY):=by kernel_rfl
theorem T.vj{args:List AV}{res:AV}(hl:args.length=1)(hn:AV.ad args=true)(hw:bD Tryz.prog (λ _ _ _=>False) (λ a=>a=res) T.eY args []):aI Tryz.prog F.eY args res:=
 aH Tryz.func48 T.yP hl hn hw
def T.bh:T:=
.aP (.cells (.x 0) 6) (
.aP (.one (.c (.v (.bool false)))) (
.aP (.one (.c (.v (.bool false)))) (
.aP (.one (.c (.v (.bool false)))) (
.aP (.one (.c (.v (.bool false)))) (
.aP (.one (.c (.v (.bool false)))) (
.op (.pH (.v (.bool false)) 5 [(0,(.c (.v (.bool false)))),(1,(.c (.v (.bool false)))),(2,(.c (.v (.bool false)))),(3,(.c (.v (.bool false)))),(4,(.c (.v (.bool false))))]) (
.bind 1 (
 .loop [(.x 2),(.c (.v (.int .i64 0)))] (
  .op (.dI (.x 1)) (
  .op (.bin .lss (.x 4) (.x 5)) (
  .ite (.x 6)
   (.bind 1 (
    .loop [(.x 3),(.c (.v (.int .i64 0)))] (
     .op (.bin .lss (.x 8) (.c (.v (.int .i64 5)))) (
     .ite (.x 9)
      (.bind 1 (
       .op (.eB (.x 1) (.x 4)) (
       .op (.eB (.c (.v (.string ⟨#[97,98,99,110,116]⟩))) (.x 8)) (
       .op (.bin .eql (.x 10) (.x 11)) (
       .ite (.x 12)
        (.aP (.idx (.x 7) (.x 8)) (
        .aP (.one (.c (.v (.bool true)))) (
        .op (.set (.x 7) (.x 8) 0 1 (.c (.v (.bool true)))) (
        .jump [(.x 13)]))))
        (.jump [(.x 7)]))))) (
      .op (.bin .add (.x 8) (.c (.v (.int .i64 1)))) (
      .jump [(.x 10),(.x 11)])))
      (.bn (.jump [(.x 7)]))))) (
   .op (.bin .add (.x 4) (.c (.v (.int .i64 1)))) (
   .jump [(.x 7),(.x 8)])))
   (.bn (.jump [(.x 3)])))))) (
.bind 1 (
 .aP (.idx (.x 3) (.c (.v (.int .i64 0)))) (
 .op (.get (.x 3) (.c (.v (.int .i64 0))) 0 none) (
 .ite (.x 4)
  (.aP (.idx (.x 3) (.c (.v (.int .i64 1)))) (
  .op (.get (.x 3) (.c (.v (.int .i64 1))) 0 none) (
  .ite (.x 5)
   (.aP (.idx (.x 3) (.c (.v (.int .i64 2)))) (
   .op (.get (.x 3) (.c (.v (.int .i64 2))) 0 none) (
   .ite (.x 6)
    (.aP (.idx (.x 3) (.c (.v (.int .i64 3)))) (
    .op (.get (.x 3) (.c (.v (.int .i64 3))) 0 none) (
    .ite (.x 7)
     (.aP (.idx (.x 3) (.c (.v (.int .i64 4)))) (
     .op (.get (.x 3) (.c (.v (.int .i64 4))) 0 none) (
     .ite (.x 8)
      (.jump [(.c (.v (.bool true)))])
      (.op (.bin .eql (.cell 0 5) (.c (.v (.string ⟨#[]⟩)))) (
      .jump [(.x 9)])))))
     (.op (.bin .eql (.cell 0 4) (.c (.v (.int .i64 0)))) (
     .ite (.x 8)
      (.aP (.idx (.x 3) (.c (.v (.int .i64 4)))) (
      .op (.get (.x 3) (.c (.v (.int .i64 4))) 0 none) (
      .ite (.x 9)
       (.jump [(.c (.v (.bool true)))])
       (.op (.bin .eql (.cell 0 5) (.c (.v (.string ⟨#[]⟩)))) (
       .jump [(.x 10)])))))
      (.jump [(.c (.v (.bool false)))]))))))
    (.op (.bin .eql (.cell 0 3) (.c (.v (.int .i64 0)))) (
    .ite (.x 7)
     (.aP (.idx (.x 3) (.c (.v (.int .i64 3)))) (
     .op (.get (.x 3) (.c (.v (.int .i64 3))) 0 none) (
     .ite (.x 8)
      (.aP (.idx (.x 3) (.c (.v (.int .i64 4)))) (
      .op (.get (.x 3) (.c (.v (.int .i64 4))) 0 none) (
      .ite (.x 9)
       (.jump [(.c (.v (.bool true)))])
       (.op (.bin .eql (.cell 0 5) (.c (.v (.string ⟨#[]⟩)))) (
       .jump [(.x 10)])))))
      (.op (.bin .eql (.cell 0 4) (.c (.v (.int .i64 0)))) (
      .ite (.x 9)
       (.aP (.idx (.x 3) (.c (.v (.int .i64 4)))) (
       .op (.get (.x 3) (.c (.v (.int .i64 4))) 0 none) (
       .ite (.x 10)
        (.jump [(.c (.v (.bool true)))])
        (.op (.bin .eql (.cell 0 5) (.c (.v (.string ⟨#[]⟩)))) (
        .jump [(.x 11)])))))
       (.jump [(.c (.v (.bool false)))]))))))
     (.jump [(.c (.v (.bool false)))]))))))
   (.op (.bin .eql (.cell 0 2) (.c (.v (.int .i64 0)))) (
   .ite (.x 6)
    (.aP (.idx (.x 3) (.c (.v (.int .i64 2)))) (
    .op (.get (.x 3) (.c (.v (.int .i64 2))) 0 none) (
    .ite (.x 7)
     (.aP (.idx (.x 3) (.c (.v (.int .i64 3)))) (
     .op (.get (.x 3) (.c (.v (.int .i64 3))) 0 none) (
     .ite (.x 8)
      (.aP (.idx (.x 3) (.c (.v (.int .i64 4)))) (
      .op (.get (.x 3) (.c (.v (.int .i64 4))) 0 none) (
      .ite (.x 9)
       (.jump [(.c (.v (.bool true)))])
       (.op (.bin .eql (.cell 0 5) (.c (.v (.string ⟨#[]⟩)))) (
       .jump [(.x 10)])))))
      (.op (.bin .eql (.cell 0 4) (.c (.v (.int .i64 0)))) (
      .ite (.x 9)
       (.aP (.idx (.x 3) (.c (.v (.int .i64 4)))) (
       .op (.get (.x 3) (.c (.v (.int .i64 4))) 0 none) (
       .ite (.x 10)
        (.jump [(.c (.v (.bool true)))])
        (.op (.bin .eql (.cell 0 5) (.c (.v (.string ⟨#[]⟩)))) (
        .jump [(.x 11)])))))
       (.jump [(.c (.v (.bool false)))]))))))
     (.op (.bin .eql (.cell 0 3) (.c (.v (.int .i64 0)))) (
     .ite (.x 8)
      (.aP (.idx (.x 3) (.c (.v (.int .i64 3)))) (
      .op (.get (.x 3) (.c (.v (.int .i64 3))) 0 none) (
      .ite (.x 9)
       (.aP (.idx (.x 3) (.c (.v (.int .i64 4)))) (
       .op (.get (.x 3) (.c (.v (.int .i64 4))) 0 none) (
       .ite (.x 10)
        (.jump [(.c (.v (.bool true)))])
        (.op (.bin .eql (.cell 0 5) (.c (.v (.string ⟨#[]⟩)))) (
        .jump [(.x 11)])))))
       (.op (.bin .eql (.cell 0 4) (.c (.v (.int .i64 0)))) (
       .ite (.x 10)
        (.aP (.idx (.x 3) (.c (.v (.int .i64 4)))) (
        .op (.get (.x 3) (.c (.v (.int .i64 4))) 0 none) (
        .ite (.x 11)
         (.jump [(.c (.v (.bool true)))])
         (.op (.bin .eql (.cell 0 5) (.c (.v (.string ⟨#[]⟩)))) (
         .jump [(.x 12)])))))
        (.jump [(.c (.v (.bool false)))]))))))
      (.jump [(.c (.v (.bool false)))]))))))
    (.jump [(.c (.v (.bool false)))]))))))
  (.op (.bin .eql (.cell 0 1) (.c (.v (.int .i64 0)))) (
  .ite (.x 5)
   (.aP (.idx (.x 3) (.c (.v (.int .i64 1)))) (
   .op (.get (.x 3) (.c (.v (.int .i64 1))) 0 none) (
   .ite (.x 6)
    (.aP (.idx (.x 3) (.c (.v (.int .i64 2)))) (
    .op (.get (.x 3) (.c (.v (.int .i64 2))) 0 none) (
    .ite (.x 7)
     (.aP (.idx (.x 3) (.c (.v (.int .i64 3)))) (
     .op (.get (.x 3) (.c (.v (.int .i64 3))) 0 none) (
     .ite (.x 8)
      (.aP (.idx (.x 3) (.c (.v (.int .i64 4)))) (
      .op (.get (.x 3) (.c (.v (.int .i64 4))) 0 none) (
      .ite (.x 9)
       (.jump [(.c (.v (.bool true)))])
       (.op (.bin .eql (.cell 0 5) (.c (.v (.string ⟨#[]⟩)))) (
       .jump [(.x 10)])))))
      (.op (.bin .eql (.cell 0 4) (.c (.v (.int .i64 0)))) (
      .ite (.x 9)
       (.aP (.idx (.x 3) (.c (.v (.int .i64 4)))) (
       .op (.get (.x 3) (.c (.v (.int .i64 4))) 0 none) (
       .ite (.x 10)
        (.jump [(.c (.v (.bool true)))])
        (.op (.bin .eql (.cell 0 5) (.c (.v (.string ⟨#[]⟩)))) (
        .jump [(.x 11)])))))
       (.jump [(.c (.v (.bool false)))]))))))
     (.op (.bin .eql (.cell 0 3) (.c (.v (.int .i64 0)))) (
     .ite (.x 8)
      (.aP (.idx (.x 3) (.c (.v (.int .i64 3)))) (
      .op (.get (.x 3) (.c (.v (.int .i64 3))) 0 none) (
      .ite (.x 9)
       (.aP (.idx (.x 3) (.c (.v (.int .i64 4)))) (
       .op (.get (.x 3) (.c (.v (.int .i64 4))) 0 none) (
       .ite (.x 10)
        (.jump [(.c (.v (.bool true)))])
        (.op (.bin .eql (.cell 0 5) (.c (.v (.string ⟨#[]⟩)))) (
        .jump [(.x 11)])))))
       (.op (.bin .eql (.cell 0 4) (.c (.v (.int .i64 0)))) (
       .ite (.x 10)
        (.aP (.idx (.x 3) (.c (.v (.int .i64 4)))) (
        .op (.get (.x 3) (.c (.v (.int .i64 4))) 0 none) (
        .ite (.x 11)
         (.jump [(.c (.v (.bool true)))])
         (.op (.bin .eql (.cell 0 5) (.c (.v (.string ⟨#[]⟩)))) (
         .jump [(.x 12)])))))
        (.jump [(.c (.v (.bool false)))]))))))
      (.jump [(.c (.v (.bool false)))]))))))
    (.op (.bin .eql (.cell 0 2) (.c (.v (.int .i64 0)))) (
    .ite (.x 7)
     (.aP (.idx (.x 3) (.c (.v (.int .i64 2)))) (
     .op (.get (.x 3) (.c (.v (.int .i64 2))) 0 none) (
     .ite (.x 8)
      (.aP (.idx (.x 3) (.c (.v (.int .i64 3)))) (
      .op (.get (.x 3) (.c (.v (.int .i64 3))) 0 none) (
      .ite (.x 9)
       (.aP (.idx (.x 3) (.c (.v (.int .i64 4)))) (
       .op (.get (.x 3) (.c (.v (.int .i64 4))) 0 none) (
       .ite (.x 10)
        (.jump [(.c (.v (.bool true)))])
        (.op (.bin .eql (.cell 0 5) (.c (.v (.string ⟨#[]⟩)))) (
        .jump [(.x 11)])))))
       (.op (.bin .eql (.cell 0 4) (.c (.v (.int .i64 0)))) (
       .ite (.x 10)
        (.aP (.idx (.x 3) (.c (.v (.int .i64 4)))) (
        .op (.get (.x 3) (.c (.v (.int .i64 4))) 0 none) (
        .ite (.x 11)
         (.jump [(.c (.v (.bool true)))])
         (.op (.bin .eql (.cell 0 5) (.c (.v (.string ⟨#[]⟩)))) (
         .jump [(.x 12)])))))
        (.jump [(.c (.v (.bool false)))]))))))
      (.op (.bin .eql (.cell 0 3) (.c (.v (.int .i64 0)))) (
      .ite (.x 9)
       (.aP (.idx (.x 3) (.c (.v (.int .i64 3)))) (
       .op (.get (.x 3) (.c (.v (.int .i64 3))) 0 none) (
       .ite (.x 10)
        (.aP (.idx (.x 3) (.c (.v (.int .i64 4)))) (
        .op (.get (.x 3) (.c (.v (.int .i64 4))) 0 none) (
        .ite (.x 11)
         (.jump [(.c (.v (.bool true)))])
         (.op (.bin .eql (.cell 0 5) (.c (.v (.string ⟨#[]⟩)))) (
         .jump [(.x 12)])))))
        (.op (.bin .eql (.cell 0 4) (.c (.v (.int .i64 0)))) (
        .ite (.x 11)
         (.aP (.idx (.x 3) (.c (.v (.int .i64 4)))) (
         .op (.get (.x 3) (.c (.v (.int .i64 4))) 0 none) (
         .ite (.x 12)
          (.jump [(.c (.v (.bool true)))])
          (.op (.bin .eql (.cell 0 5) (.c (.v (.string ⟨#[]⟩)))) (
          .jump [(.x 13)])))))
         (.jump [(.c (.v (.bool false)))]))))))
       (.jump [(.c (.v (.bool false)))]))))))
     (.jump [(.c (.v (.bool false)))]))))))
   (.jump [(.c (.v (.bool false)))])))))) (
.ret [(.x 4)])))))))))
theorem T.wJ:bU Tryz.prog CF Tryz.f49=some (2,T.bh):=by kernel_rfl
theorem T.sU{args:List AV}{res:AV}(hl:args.length=2)(hn:AV.ad args=true)(hw:bD Tryz.prog (λ _ _ _=>False) (λ a=>a=res) T.bh args []):aI Tryz.prog F.bh args res:=
 aH Tryz.func49 T.wJ hl hn hw
def T.fV:T:=
.bind 0 (
 .loop [(.c (.v (.int .i64 0)))] (
  .op (.dI (.x 0)) (
  .op (.bin .lss (.x 1) (.x 2)) (
  .ite (.x 3)
   (.bind 0 (
    .bind 1 (
     .op (.eB (.x 0) (.x 1)) (
     .op (.bin .neq (.x 4) (.c (.v (.int .u8 10)))) (
     .ite (.x 5)
      (.op (.eB (.x 0) (.x 1)) (
      .op (.conv .i64 (.x 6)) (
      .op (.call F.cF [(.x 7),(.c (.v (.int .i64 32))),(.c (.v (.int .i64 126)))] false) (
      .op (.un .not (.x 8)) (
      .jump [(.x 9)])))))
      (.jump [(.c (.v (.bool false)))])))) (
    .ite (.x 4)
     (.bn (.bn (.bn (.ret [(.c (.v (.bool false)))]))))
     (.jump []))) (
   .op (.bin .add (.x 1) (.c (.v (.int .i64 1)))) (
   .jump [(.x 4)])))
   (.bn (.jump [])))))) (
.ret [(.c (.v (.bool true)))])
theorem T.wC:bU Tryz.prog CF Tryz.f50=some (1,T.fV):=by kernel_rfl
theorem T.sO{args:List AV}{res:AV}(hl:args.length=1)(hn:AV.ad args=true)(hw:bD Tryz.prog (λ _ _ _=>False) (λ a=>a=res) T.fV args []):aI Tryz.prog F.fV args res:=
 aH Tryz.func50 T.wC hl hn hw
def T.iH:T:=
.aP (.cells (.x 0) 6) (
.bind 0 (
 .bind 1 (
  .op (.bin .eql (.cell 0 5) (.c (.v (.string ⟨#[43]⟩)))) (
  .ite (.x 1)
   (.jump [(.x 1)])
   (.op (.bin .eql (.cell 0 5) (.c (.v (.string ⟨#[45]⟩)))) (
   .ite (.x 2)
    (.jump [(.x 2)])
    (.op (.bin .eql (.cell 0 5) (.c (.v (.string ⟨#[42]⟩)))) (
    .ite (.x 3)
     (.jump [(.x 3)])
     (.op (.bin .eql (.cell 0 5) (.c (.v (.string ⟨#[61]⟩)))) (
     .ite (.x 4)
      (.jump [(.x 4)])
      (.op (.bin .eql (.cell 0 5) (.c (.v (.string ⟨#[60]⟩)))) (
      .ite (.x 5)
       (.jump [(.x 5)])
       (.op (.bin .eql (.cell 0 5) (.c (.v (.string ⟨#[94]⟩)))) (
       .jump [(.x 6)])))))))))))) (
 .ite (.x 1)
  (.aP (.cells (.x 0) 6) (
  .op (.call F.bh [(.x 0),(.c (.v (.string ⟨#[97,98,99,116]⟩)))] false) (
  .bn (.ret [(.x 2)]))))
  (.op (.bin .eql (.cell 0 5) (.c (.v (.string ⟨#[115,105,122,101]⟩)))) (
  .ite (.x 2)
   (.aP (.cells (.x 0) 6) (
   .op (.call F.bh [(.x 0),(.c (.v (.string ⟨#[97,98,116]⟩)))] false) (
   .bn (.ret [(.x 3)]))))
   (.op (.bin .eql (.cell 0 5) (.c (.v (.string ⟨#[114,101,97,100]⟩)))) (
   .ite (.x 3)
    (.aP (.cells (.x 0) 6) (
    .op (.call F.bh [(.x 0),(.c (.v (.string ⟨#[97,116]⟩)))] false) (
    .bn (.ret [(.x 4)]))))
    (.op (.bin .eql (.cell 0 5) (.c (.v (.string ⟨#[112,114,105,110,116]⟩)))) (
    .ite (.x 4)
     (.aP (.cells (.x 0) 6) (
     .op (.call F.bh [(.x 0),(.c (.v (.string ⟨#[98,116]⟩)))] false) (
     .bn (.ret [(.x 5)]))))
     (.jump []))))))))) (
.ret [(.c (.v (.bool false)))]))
theorem T.aaL:bU Tryz.prog CF Tryz.f51=some (1,T.iH):=by kernel_rfl
theorem T.wK{args:List AV}{res:AV}(hl:args.length=1)(hn:AV.ad args=true)(hw:bD Tryz.prog (λ _ _ _=>False) (λ a=>a=res) T.iH args []):aI Tryz.prog F.iH args res:=
 aH Tryz.func51 T.aaL hl hn hw
def T.bY:T:=
.op (.call F.eS [(.x 0),(.x 1)] false) (
.op (.bin .geq (.x 2) (.c (.v (.int .i64 0)))) (
.ite (.x 3)
 (.op (.cL (.x 0) none (some (.x 2))) (
 .op (.dI (.x 1)) (
 .op (.bin .add (.x 2) (.x 5)) (
 .op (.cL (.x 0) (some (.x 6)) none) (
 .ret [(.x 4),(.x 7),(.c (.v (.bool true)))])))))
 (.ret [(.x 0),(.c (.v (.string ⟨#[]⟩))),(.c (.v (.bool false)))])))
theorem T.lq:bU Tryz.prog CF Tryz.f57=some (2,T.bY):=by kernel_rfl
theorem T.kA{args:List AV}{res:AV}(hl:args.length=2)(hn:AV.ad args=true)(hw:bD Tryz.prog (λ _ _ _=>False) (λ a=>a=res) T.bY args []):aI Tryz.prog F.bY args res:=
 aH Tryz.func57 T.lq hl hn hw
def T.cX:T:=
.op (.call F.cT [(.x 0),(.c (.v (.string ⟨#[114]⟩)))] false) (
.aP (.aK (.x 1) 0) (
.aP (.aK (.x 1) 1) (
.op (.call F.ei [(.ext 1 0)] false) (
.aP (.aK (.x 2) 0) (
.aP (.aK (.x 2) 1) (
.bind 1 (
 .ite (.ext 1 1)
  (.ite (.ext 2 1)
   (.op (.call F.b5 [(.ext 2 0),(.c (.v (.int .i64 0))),(.c (.v (.int .i64 15)))] false) (
   .jump [(.x 3)]))
   (.jump [(.c (.v (.bool false)))]))
  (.jump [(.c (.v (.bool false)))])) (
.ret [(.ext 2 0),(.x 3)])))))))
theorem T.px:bU Tryz.prog CF Tryz.f58=some (1,T.cX):=by kernel_rfl
theorem T.nS{args:List AV}{res:AV}(hl:args.length=1)(hn:AV.ad args=true)(hw:bD Tryz.prog (λ _ _ _=>False) (λ a=>a=res) T.cX args []):aI Tryz.prog F.cX args res:=
 aH Tryz.func58 T.px hl hn hw
def T.cS:T:=
.op (.call F.aR [(.x 0),(.x 1)] false) (
.ret [(.x 2)])
theorem T.po:bU Tryz.prog CF Tryz.f59=some (2,T.cS):=by kernel_rfl
theorem T.nO{args:List AV}{res:AV}(hl:args.length=2)(hn:AV.ad args=true)(hw:bD Tryz.prog (λ _ _ _=>False) (λ a=>a=res) T.cS args []):aI Tryz.prog F.cS args res:=
 aH Tryz.func59 T.po hl hn hw
def T.eG:T:=
.bind 1 (
 .op (.bin .add (.x 1) (.c (.v (.int .i64 1)))) (
 .loop [(.c (.sl [])),(.x 2)] (
  .op (.dI (.x 0)) (
  .op (.bin .lss (.x 4) (.x 5)) (
  .ite (.x 6)
   (.bind 3 (
    .op (.eB (.x 0) (.x 4)) (
    .bind 2 (
     .op (.bin .eql (.x 7) (.c (.v (.int .u8 34)))) (
     .ite (.x 8)
      (.op (.pu .b2s [(.sl (.x 3))]) (
      .op (.bin .add (.x 4) (.c (.v (.int .i64 1)))) (
      .bn (.bn (.bn (.bn (.ret [(.x 9),(.x 10),(.c (.v (.bool true)))])))))))
      (.op (.bin .eql (.x 7) (.c (.v (.int .u8 92)))) (
      .ite (.x 9)
       (.op (.bin .add (.x 4) (.c (.v (.int .i64 1)))) (
       .op (.dI (.x 0)) (
       .op (.bin .eql (.x 10) (.x 11)) (
       .ite (.x 12)
        (.bn (.bn (.bn (.bn (.ret [(.c (.v (.string ⟨#[]⟩))),(.c (.v (.int .i64 0))),(.c (.v (.bool false)))])))))
        (.op (.eB (.x 0) (.x 10)) (
        .op (.bin .eql (.x 13) (.c (.v (.int .u8 110)))) (
        .ite (.x 14)
         (.jump [(.x 10),(.c (.v (.int .u8 10)))])
         (.bind 1 (
          .op (.bin .eql (.x 13) (.c (.v (.int .u8 34)))) (
          .ite (.x 15)
           (.jump [(.x 15)])
           (.op (.bin .eql (.x 13) (.c (.v (.int .u8 92)))) (
           .jump [(.x 16)])))) (
         .ite (.x 15)
          (.op (.eB (.x 0) (.x 10)) (
          .jump [(.x 10),(.x 16)]))
          (.bn (.bn (.bn (.bn (.ret [(.c (.v (.string ⟨#[]⟩))),(.c (.v (.int .i64 0))),(.c (.v (.bool false)))]))))))))))))))
       (.op (.conv .i64 (.x 7)) (
       .op (.call F.b5 [(.x 10),(.c (.v (.int .i64 32))),(.c (.v (.int .i64 126)))] false) (
       .op (.un .not (.x 11)) (
       .ite (.x 12)
        (.bn (.bn (.bn (.bn (.ret [(.c (.v (.string ⟨#[]⟩))),(.c (.v (.int .i64 0))),(.c (.v (.bool false)))])))))
        (.jump [(.x 4),(.x 7)]))))))))) (
    .aP (.one (.x 9)) (
    .op (.pH (.v (.int .u8 0)) 1 [(0,(.x 9))]) (
    .op (.app 1 1 (.x 3) (.sl (.x 10))) (
    .jump [(.x 11),(.x 10),(.x 8)])))))) (
   .op (.bin .add (.x 9) (.c (.v (.int .i64 1)))) (
   .jump [(.x 7),(.x 10)])))
   (.bn (.jump [(.x 3)]))))))) (
.ret [(.c (.v (.string ⟨#[]⟩))),(.c (.v (.int .i64 0))),(.c (.v (.bool false)))])
theorem T.tB:bU Tryz.prog CF Tryz.f60=some (2,T.eG):=by kernel_rfl
theorem T.qJ{args:List AV}{res:AV}(hl:args.length=2)(hn:AV.ad args=true)(hw:bD Tryz.prog (λ _ _ _=>False) (λ a=>a=res) T.eG args []):aI Tryz.prog F.eG args res:=
 aH Tryz.func60 T.tB hl hn hw
def T.fc:T:=
.aP (.one (.c (.v (.int .u8 34)))) (
.op (.pH (.v (.int .u8 0)) 1 [(0,(.c (.v (.int .u8 34))))]) (
.bind 1 (
 .loop [(.x 1),(.c (.v (.int .i64 0)))] (
  .op (.dI (.x 0)) (
  .op (.bin .lss (.x 3) (.x 4)) (
  .ite (.x 5)
   (.bind 2 (
    .op (.eB (.x 0) (.x 3)) (
    .op (.bin .eql (.x 6) (.c (.v (.int .u8 10)))) (
    .ite (.x 7)
     (.aP (.one (.c (.v (.int .u8 92)))) (
     .aP (.one (.c (.v (.int .u8 110)))) (
     .op (.pH (.v (.int .u8 0)) 2 [(0,(.c (.v (.int .u8 92)))),(1,(.c (.v (.int .u8 110))))]) (
     .op (.app 1 1 (.x 2) (.sl (.x 8))) (
     .jump [(.x 9),(.x 8)])))))
     (.bind 1 (
      .op (.bin .eql (.x 6) (.c (.v (.int .u8 34)))) (
      .ite (.x 8)
       (.jump [(.x 8)])
       (.op (.bin .eql (.x 6) (.c (.v (.int .u8 92)))) (
       .jump [(.x 9)])))) (
     .ite (.x 8)
      (.op (.eB (.x 0) (.x 3)) (
      .aP (.one (.c (.v (.int .u8 92)))) (
      .aP (.one (.x 9)) (
      .op (.pH (.v (.int .u8 0)) 2 [(0,(.c (.v (.int .u8 92)))),(1,(.x 9))]) (
      .op (.app 1 1 (.x 2) (.sl (.x 10))) (
      .jump [(.x 11),(.x 10)]))))))
      (.op (.eB (.x 0) (.x 3)) (
      .aP (.one (.x 9)) (
      .op (.pH (.v (.int .u8 0)) 1 [(0,(.x 9))]) (
      .op (.app 1 1 (.x 2) (.sl (.x 10))) (
      .jump [(.x 11),(.x 10)])))))))))) (
   .op (.bin .add (.x 3) (.c (.v (.int .i64 1)))) (
   .jump [(.x 6),(.x 8)])))
   (.bn (.jump [(.x 2)])))))) (
.aP (.one (.c (.v (.int .u8 34)))) (
.op (.pH (.v (.int .u8 0)) 1 [(0,(.c (.v (.int .u8 34))))]) (
.op (.app 1 1 (.x 2) (.sl (.x 3))) (
.op (.pu .b2s [(.sl (.x 4))]) (
.ret [(.x 5)])))))))
theorem T.y6:bU Tryz.prog CF Tryz.f61=some (1,T.fc):=by kernel_rfl
theorem T.vA{args:List AV}{res:AV}(hl:args.length=1)(hn:AV.ad args=true)(hw:bD Tryz.prog (λ _ _ _=>False) (λ a=>a=res) T.fc args []):aI Tryz.prog F.fc args res:=
 aH Tryz.func61 T.y6 hl hn hw
def T.a7:T:=
.bind 0 (
 .op (.cz (.x 0)) (
 .loop [(.c (.v (.int .i64 0)))] (
  .op (.bin .lss (.x 3) (.x 2)) (
  .ite (.x 4)
   (.op (.elem 6 (.x 0) (.x 3)) (
   .aP (.cells (.x 5) 6) (
   .op (.eJ (.x 1) [(.x 5)] false) (
   .ite (.x 6)
    (.bn (.bn (.ret [(.x 3)])))
    (.op (.bin .add (.x 3) (.c (.v (.int .i64 1)))) (
    .jump [(.x 7)]))))))
   (.bn (.jump [])))))) (
.ret [(.c (.v (.int .i64 (-1))))])
theorem T.gw:bU Tryz.prog CF Tryz.f62=some (2,T.a7):=by kernel_rfl
theorem T.fR{args:List AV}{res:AV}(hl:args.length=2)(hn:AV.ad args=true)(hw:bD Tryz.prog (λ _ _ _=>False) (λ a=>a=res) T.a7 args []):aI Tryz.prog F.a7 args res:=
 aH Tryz.func62 T.gw hl hn hw
def T.iK:T:=
.aP (.cells (.x 0) 6) (
.bind 0 (
 .bind 1 (
  .op (.bin .eql (.cell 0 0) (.c (.v (.int .i64 1)))) (
  .ite (.x 1)
   (.jump [(.x 1)])
   (.op (.bin .eql (.cell 0 0) (.c (.v (.int .i64 3)))) (
   .ite (.x 2)
    (.jump [(.x 2)])
    (.op (.bin .eql (.cell 0 0) (.c (.v (.int .i64 5)))) (
    .ite (.x 3)
     (.jump [(.x 3)])
     (.op (.bin .eql (.cell 0 0) (.c (.v (.int .i64 6)))) (
     .ite (.x 4)
      (.jump [(.x 4)])
      (.op (.bin .eql (.cell 0 0) (.c (.v (.int .i64 8)))) (
      .ite (.x 5)
       (.jump [(.x 5)])
       (.op (.bin .eql (.cell 0 0) (.c (.v (.int .i64 11)))) (
       .jump [(.x 6)])))))))))))) (
 .ite (.x 1)
  (.bn (.ret [(.c (.v (.string ⟨#[97,110]⟩))),(.c (.v (.bool true)))]))
  (.op (.bin .eql (.cell 0 0) (.c (.v (.int .i64 2)))) (
  .ite (.x 2)
   (.bn (.ret [(.c (.v (.string ⟨#[97,116]⟩))),(.c (.v (.bool true)))]))
   (.op (.bin .eql (.cell 0 0) (.c (.v (.int .i64 4)))) (
   .ite (.x 3)
    (.bn (.ret [(.c (.v (.string ⟨#[97,98]⟩))),(.c (.v (.bool true)))]))
    (.op (.bin .eql (.cell 0 0) (.c (.v (.int .i64 7)))) (
    .ite (.x 4)
     (.bind 1 (
      .op (.bin .eql (.cell 0 5) (.c (.v (.string ⟨#[43]⟩)))) (
      .ite (.x 5)
       (.jump [(.x 5)])
       (.op (.bin .eql (.cell 0 5) (.c (.v (.string ⟨#[45]⟩)))) (
       .ite (.x 6)
        (.jump [(.x 6)])
        (.op (.bin .eql (.cell 0 5) (.c (.v (.string ⟨#[42]⟩)))) (
        .ite (.x 7)
         (.jump [(.x 7)])
         (.op (.bin .eql (.cell 0 5) (.c (.v (.string ⟨#[61]⟩)))) (
         .ite (.x 8)
          (.jump [(.x 8)])
          (.op (.bin .eql (.cell 0 5) (.c (.v (.string ⟨#[60]⟩)))) (
          .ite (.x 9)
           (.jump [(.x 9)])
           (.op (.bin .eql (.cell 0 5) (.c (.v (.string ⟨#[94]⟩)))) (
           .jump [(.x 10)])))))))))))) (
     .ite (.x 5)
      (.bn (.ret [(.c (.v (.string ⟨#[97,98,99,116]⟩))),(.c (.v (.bool true)))]))
      (.op (.bin .eql (.cell 0 5) (.c (.v (.string ⟨#[115,105,122,101]⟩)))) (
      .ite (.x 6)
       (.bn (.ret [(.c (.v (.string ⟨#[97,98,116]⟩))),(.c (.v (.bool true)))]))
       (.op (.bin .eql (.cell 0 5) (.c (.v (.string ⟨#[114,101,97,100]⟩)))) (
       .ite (.x 7)
        (.bn (.ret [(.c (.v (.string ⟨#[97,116]⟩))),(.c (.v (.bool true)))]))
        (.op (.bin .eql (.cell 0 5) (.c (.v (.string ⟨#[112,114,105,110,116]⟩)))) (
        .ite (.x 8)
         (.bn (.ret [(.c (.v (.string ⟨#[98,116]⟩))),(.c (.v (.bool true)))]))
         (.jump [])))))))))
     (.bind 1 (
      .op (.bin .eql (.cell 0 0) (.c (.v (.int .i64 9)))) (
      .ite (.x 5)
       (.jump [(.x 5)])
       (.op (.bin .eql (.cell 0 0) (.c (.v (.int .i64 10)))) (
       .jump [(.x 6)])))) (
     .ite (.x 5)
      (.bn (.ret [(.c (.v (.string ⟨#[97,98,110]⟩))),(.c (.v (.bool true)))]))
      (.bind 1 (
       .op (.bin .eql (.cell 0 0) (.c (.v (.int .i64 12)))) (
       .ite (.x 6)
        (.jump [(.x 6)])
        (.op (.bin .eql (.cell 0 0) (.c (.v (.int .i64 15)))) (
        .jump [(.x 7)])))) (
      .ite (.x 6)
       (.bn (.ret [(.c (.v (.string ⟨#[110]⟩))),(.c (.v (.bool true)))]))
       (.bind 1 (
        .op (.bin .eql (.cell 0 0) (.c (.v (.int .i64 13)))) (
        .ite (.x 7)
         (.jump [(.x 7)])
         (.op (.bin .eql (.cell 0 0) (.c (.v (.int .i64 14)))) (
         .jump [(.x 8)])))) (
       .ite (.x 7)
        (.bn (.ret [(.c (.v (.string ⟨#[97]⟩))),(.c (.v (.bool true)))]))
        (.jump []))))))))))))))) (
.ret [(.c (.v (.string ⟨#[]⟩))),(.c (.v (.bool false)))]))
theorem T.abl:bU Tryz.prog CF Tryz.f63=some (1,T.iK):=by kernel_rfl
theorem T.xO{args:List AV}{res:AV}(hl:args.length=1)(hn:AV.ad args=true)(hw:bD Tryz.prog (λ _ _ _=>False) (λ a=>a=res) T.iK args []):aI Tryz.prog F.iK args res:=
 aH Tryz.func63 T.abl hl hn hw
def T.bQ:T:=
.op (.ldp none (.x 1)) (
.op (.call F.strings_Contains [(.x 2),(.x 0)] false) (
.ret [(.x 3)]))
theorem T.tG:bU Tryz.prog CF Tryz.f64=some (2,T.bQ):=by kernel_rfl
theorem T.qL{args:List AV}{res:AV}(hl:args.length=2)(hn:AV.ad args=true)(hw:bD Tryz.prog (λ _ _ _=>False) (λ a=>a=res) T.bQ args []):aI Tryz.prog F.bQ args res:=
 aH Tryz.func64 T.tG hl hn hw
def T.cY:T:=
.bind 1 (
 .op (.ldp none (.x 2)) (
 .op (.eJ (.x 3) [(.x 0)] false) (
 .ite (.x 4)
  (.op (.call F.b5 [(.x 1),(.c (.v (.int .i64 0))),(.c (.v (.int .i64 15)))] false) (
  .ite (.x 5)
   (.jump [(.c (.v (.bool true)))])
   (.op (.bin .eql (.x 1) (.c (.v (.int .i64 0)))) (
   .jump [(.x 6)]))))
  (.op (.bin .eql (.x 1) (.c (.v (.int .i64 0)))) (
  .jump [(.x 5)]))))) (
.ret [(.x 3)])
theorem T.tE:bU Tryz.prog CF Tryz.f66=some (3,T.cY):=by kernel_rfl
theorem T.qK{args:List AV}{res:AV}(hl:args.length=3)(hn:AV.ad args=true)(hw:bD Tryz.prog (λ _ _ _=>False) (λ a=>a=res) T.cY args []):aI Tryz.prog F.cY args res:=
 aH Tryz.func66 T.tE hl hn hw
def T.iL:T:=
.bind 0 (
 .loop [(.c (.v (.int .i64 0)))] (
  .op (.dI (.x 0)) (
  .op (.bin .lss (.x 1) (.x 2)) (
  .ite (.x 3)
   (.bind 0 (
    .bind 1 (
     .op (.eB (.x 0) (.x 1)) (
     .op (.conv .i64 (.x 4)) (
     .op (.call F.b5 [(.x 5),(.c (.v (.int .i64 32))),(.c (.v (.int .i64 126)))] false) (
     .op (.un .not (.x 6)) (
     .ite (.x 7)
      (.op (.eB (.x 0) (.x 1)) (
      .op (.bin .neq (.x 8) (.c (.v (.int .u8 10)))) (
      .jump [(.x 9)])))
      (.jump [(.c (.v (.bool false)))])))))) (
    .ite (.x 4)
     (.bn (.bn (.bn (.ret [(.c (.v (.bool false)))]))))
     (.jump []))) (
   .op (.bin .add (.x 1) (.c (.v (.int .i64 1)))) (
   .jump [(.x 4)])))
   (.bn (.jump [])))))) (
.ret [(.c (.v (.bool true)))])
theorem T.abn:bU Tryz.prog CF Tryz.f67=some (1,T.iL):=by kernel_rfl
theorem T.xP{args:List AV}{res:AV}(hl:args.length=1)(hn:AV.ad args=true)(hw:bD Tryz.prog (λ _ _ _=>False) (λ a=>a=res) T.iL args []):aI Tryz.prog F.iL args res:=
 aH Tryz.func67 T.abn hl hn hw
def T.bL:T:=
.bind 0 (
 .op (.cz (.x 0)) (
 .loop [(.c (.v (.int .i64 0)))] (
  .op (.bin .lss (.x 3) (.x 2)) (
  .ite (.x 4)
   (.op (.elem 1 (.x 0) (.x 3)) (
   .aP (.lt (.x 5) 0) (
   .op (.eJ (.x 1) [(.cell 5 0)] false) (
   .ite (.x 6)
    (.bn (.bn (.ret [(.x 3)])))
    (.op (.bin .add (.x 3) (.c (.v (.int .i64 1)))) (
    .jump [(.x 7)]))))))
   (.bn (.jump [])))))) (
.ret [(.c (.v (.int .i64 (-1))))])
theorem T.kl:bU Tryz.prog CF Tryz.f68=some (2,T.bL):=by kernel_rfl
theorem T.jW{args:List AV}{res:AV}(hl:args.length=2)(hn:AV.ad args=true)(hw:bD Tryz.prog (λ _ _ _=>False) (λ a=>a=res) T.bL args []):aI Tryz.prog F.bL args res:=
 aH Tryz.func68 T.kl hl hn hw
def T.cU:T:=
.op (.bin .lss (.x 0) (.c (.v (.int .u64 10)))) (
.ite (.x 1)
 (.op (.bin .add (.c (.v (.int .u64 48))) (.x 0)) (
 .op (.conv .u8 (.x 2)) (
 .aP (.one (.x 3)) (
 .op (.pH (.v (.int .u8 0)) 1 [(0,(.x 3))]) (
 .op (.pu .b2s [(.sl (.x 4))]) (
 .ret [(.x 5)]))))))
 (.op (.bin .quo (.x 0) (.c (.v (.int .u64 10)))) (
 .op (.call F.cU [(.x 2)] true) (
 .op (.bin .rem (.x 0) (.c (.v (.int .u64 10)))) (
 .op (.bin .add (.c (.v (.int .u64 48))) (.x 4)) (
 .op (.conv .u8 (.x 5)) (
 .aP (.one (.x 6)) (
 .op (.pH (.v (.int .u8 0)) 1 [(0,(.x 6))]) (
 .op (.pu .b2s [(.x 7)]) (
 .op (.bin .add (.x 3) (.x 8)) (
 .ret [(.x 9)])))))))))))
theorem T.sK:bU Tryz.prog CF Tryz.f69=some (1,T.cU):=by kernel_rfl
theorem T.qg{args:List AV}{res:AV}(hl:args.length=1)(hn:AV.ad args=true)(hw:bD Tryz.prog (λ _ _ _=>False) (λ a=>a=res) T.cU args []):aI Tryz.prog F.cU args res:=
 aH Tryz.func69 T.sK hl hn hw
def T.cT:T:=
.op (.call F.bk [(.x 0),(.x 1)] false) (
.aP (.aK (.x 2) 0) (
.aP (.aK (.x 2) 1) (
.ret [(.ext 2 0),(.ext 2 1)])))
theorem T.pq:bU Tryz.prog CF Tryz.f77=some (2,T.cT):=by kernel_rfl
theorem T.nP{args:List AV}{res:AV}(hl:args.length=2)(hn:AV.ad args=true)(hw:bD Tryz.prog (λ _ _ _=>False) (λ a=>a=res) T.cT args []):aI Tryz.prog F.cT args res:=
 aH Tryz.func77 T.pq hl hn hw
def T.aR:T:=
.bind 1 (
 .op (.dI (.x 0)) (
 .op (.dI (.x 1)) (
 .op (.bin .geq (.x 2) (.x 3)) (
 .ite (.x 4)
  (.op (.dI (.x 1)) (
  .op (.cL (.x 0) none (some (.x 5))) (
  .op (.bin .eql (.x 6) (.x 1)) (
  .jump [(.x 7)]))))
  (.jump [(.c (.v (.bool false)))]))))) (
.ret [(.x 2)])
theorem T.ju:bU Tryz.prog CF Tryz.f78=some (2,T.aR):=by kernel_rfl
theorem T.eP{args:List AV}{res:AV}(hl:args.length=2)(hn:AV.ad args=true)(hw:bD Tryz.prog (λ _ _ _=>False) (λ a=>a=res) T.aR args []):aI Tryz.prog F.aR args res:=
 aH Tryz.func78 T.ju hl hn hw
def T.bk:T:=
.op (.call F.aR [(.x 0),(.x 1)] false) (
.op (.un .not (.x 2)) (
.ite (.x 3)
 (.ret [(.x 0),(.c (.v (.bool false)))])
 (.op (.dI (.x 1)) (
 .op (.cL (.x 0) (some (.x 4)) none) (
 .ret [(.x 5),(.c (.v (.bool true)))])))))
theorem T.jv:bU Tryz.prog CF Tryz.f90=some (2,T.bk):=by kernel_rfl
theorem T.iZ{args:List AV}{res:AV}(hl:args.length=2)(hn:AV.ad args=true)(hw:bD Tryz.prog (λ _ _ _=>False) (λ a=>a=res) T.bk args []):aI Tryz.prog F.bk args res:=
 aH Tryz.func90 T.jv hl hn hw
end Go.Proofs.Ab
