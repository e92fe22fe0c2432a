/-
  THE ABSTRACT CODE of some of this seat's functions, printed by a program of ours (wip/tool/Gen3.lean) from the translation; each with the theorem that it is that function's.
-/
import Derived.Test.YtkinchcjijhmgaaGreatDoorST
set_option linter.unusedVariables false
set_option linter.unusedSimpArgs false
namespace Go.Proofs.Ab
open Go.Ab
set_option maxRecDepth 100000
def A.dm:sG where
 iw:=1
 nt:=66
 res:=[.tmp 2]
 code:= .seq (.aU [0] (.region none [
    ⟨none,(some 2),.bt (.c (.v (.bool false)))⟩]))
  (.seq (.seq (.aU [0,13] (.region none [
    ⟨none,(some 11),.bt (.t 0)⟩,
    ⟨none,(some 12),.dI (.t 11)⟩,
    ⟨none,(some 13),.bin .gtr (.t 12) (.c (.v (.int .i64 1048576)))⟩]))
  (.cond (.t 13)
   (.seq (.aU [2] (.region none [
     ⟨none,(some 2),.bt (.c (.v (.bool true)))⟩]))
   (.ret))
   (.skip)))
  (.seq (.aU [0,3,4] (.region none [
    ⟨none,(some 15),.bt (.t 0)⟩,
    ⟨none,(some 16),.call F.dF [(.t 15)]⟩,
    ⟨none,(some 14),.bt (.t 16)⟩,
    ⟨none,(some 17),.ext (.t 14) 0⟩,
    ⟨none,(some 18),.ext (.t 14) 1⟩,
    ⟨none,(some 3),.alloc 25 2 (.agg [.aQ,.aQ])⟩,
    ⟨none,none,.store 2 (.t 3) (.t 17)⟩,
    ⟨none,(some 4),.bt (.t 18)⟩]))
  (.seq (.aU [0,3,4,5,6] (.region none [
    ⟨none,(some 20),.bt (.t 0)⟩,
    ⟨none,(some 21),.call F.dJ [(.t 20)]⟩,
    ⟨none,(some 19),.bt (.t 21)⟩,
    ⟨none,(some 22),.ext (.t 19) 0⟩,
    ⟨none,(some 23),.ext (.t 19) 1⟩,
    ⟨none,(some 5),.alloc 25 2 (.agg [.aQ,.aQ])⟩,
    ⟨none,none,.store 2 (.t 5) (.t 22)⟩,
    ⟨none,(some 6),.bt (.t 23)⟩]))
  (.seq (.seq (.aU [0,3,4,5,32] (.region none [
    ⟨none,(some 24),.load (some 2) (.t 5)⟩,
    ⟨none,(some 25),.load (some 2) (.t 3)⟩,
    ⟨none,(some 26),.call F.fU [(.t 24),(.t 25)]⟩,
    ⟨none,(some 27),.un .not (.t 26)⟩,
    ⟨none,(some 28),.bt (.t 27)⟩,
    ⟨(some (28,false)),(some 29),.bt (.t 6)⟩,
    ⟨(some (28,false)),(some 30),.bt (.t 4)⟩,
    ⟨(some (28,false)),(some 31),.bin .neq (.t 29) (.t 30)⟩,
    ⟨none,(some 32),.pick (.t 28) (.c (.v (.bool true))) (.t 31)⟩]))
  (.cond (.t 32)
   (.seq (.aU [2] (.region none [
     ⟨none,(some 2),.bt (.c (.v (.bool false)))⟩]))
   (.ret))
   (.skip)))
  (.seq (.aU [0,3,4,5,7] (.region none [
    ⟨none,(some 7),.bt (.c (.v (.int .i64 1)))⟩]))
  (.seq (.aU [0,3,4,5,7] (.region none [
    ⟨none,(some 33),.load (some 2) (.t 5)⟩,
    ⟨none,(some 34),.bt (.t 7)⟩,
    ⟨none,(some 35),.call F.gE [(.t 33),(.t 34)]⟩,
    ⟨none,(some 7),.bt (.t 35)⟩]))
  (.seq (.aU [0,3,4,5,7,8] (.region none [
    ⟨none,(some 8),.bt (.c (.v (.int .i64 1)))⟩]))
  (.seq (.aU [0,3,4,5,7,8] (.region none [
    ⟨none,(some 36),.load (some 2) (.t 5)⟩,
    ⟨none,(some 37),.bt (.t 8)⟩,
    ⟨none,(some 38),.call F.ey [(.t 36),(.t 37)]⟩,
    ⟨none,(some 8),.bt (.t 38)⟩]))
  (.seq (.seq (.aU [0,3,4,5,7,8,40] (.region none [
    ⟨none,(some 39),.bt (.t 8)⟩,
    ⟨none,(some 40),.bin .lss (.t 39) (.c (.v (.int .i64 0)))⟩]))
  (.cond (.t 40)
   (.seq (.aU [2] (.region none [
     ⟨none,(some 2),.bt (.c (.v (.bool false)))⟩]))
   (.ret))
   (.skip)))
  (.seq (.seq (.aU [0,3,4,5,7,43] (.region none [
    ⟨none,(some 41),.bt (.t 8)⟩,
    ⟨none,(some 42),.bt (.t 7)⟩,
    ⟨none,(some 43),.bin .neq (.t 41) (.t 42)⟩]))
  (.cond (.t 43)
   (.seq (.aU [2] (.region none [
     ⟨none,(some 2),.bt (.c (.v (.bool false)))⟩]))
   (.ret))
   (.skip)))
  (.seq (.aU [3,4,5,7,9,10] (.region none [
    ⟨none,(some 45),.bt (.t 0)⟩,
    ⟨none,(some 46),.call F.dJ [(.t 45)]⟩,
    ⟨none,(some 44),.bt (.t 46)⟩,
    ⟨none,(some 47),.ext (.t 44) 0⟩,
    ⟨none,(some 48),.ext (.t 44) 1⟩,
    ⟨none,(some 9),.alloc 25 2 (.agg [.aQ,.aQ])⟩,
    ⟨none,none,.store 2 (.t 9) (.t 47)⟩,
    ⟨none,(some 10),.bt (.t 48)⟩]))
  (.seq (.seq (.aU [5,7,57] (.region none [
    ⟨none,(some 49),.load (some 2) (.t 9)⟩,
    ⟨none,(some 50),.load (some 2) (.t 3)⟩,
    ⟨none,(some 51),.call F.fU [(.t 49),(.t 50)]⟩,
    ⟨none,(some 52),.un .not (.t 51)⟩,
    ⟨none,(some 53),.bt (.t 52)⟩,
    ⟨(some (53,false)),(some 54),.bt (.t 10)⟩,
    ⟨(some (53,false)),(some 55),.bt (.t 4)⟩,
    ⟨(some (53,false)),(some 56),.bin .neq (.t 54) (.t 55)⟩,
    ⟨none,(some 57),.pick (.t 53) (.c (.v (.bool true))) (.t 56)⟩]))
  (.cond (.t 57)
   (.seq (.aU [2] (.region none [
     ⟨none,(some 2),.bt (.c (.v (.bool false)))⟩]))
   (.ret))
   (.skip)))
  (.seq (.aU [5,7,8] (.region none [
    ⟨none,(some 8),.bt (.c (.v (.int .i64 1)))⟩]))
  (.seq (.aU [7,8] (.region none [
    ⟨none,(some 58),.load (some 2) (.t 5)⟩,
    ⟨none,(some 59),.bt (.t 8)⟩,
    ⟨none,(some 60),.call F.ey [(.t 58),(.t 59)]⟩,
    ⟨none,(some 8),.bt (.t 60)⟩]))
  (.seq (.seq (.aU [7,8,62] (.region none [
    ⟨none,(some 61),.bt (.t 8)⟩,
    ⟨none,(some 62),.bin .lss (.t 61) (.c (.v (.int .i64 0)))⟩]))
  (.cond (.t 62)
   (.seq (.aU [2] (.region none [
     ⟨none,(some 2),.bt (.c (.v (.bool false)))⟩]))
   (.ret))
   (.skip)))
  (.seq (.seq (.aU [65] (.region none [
    ⟨none,(some 63),.bt (.t 8)⟩,
    ⟨none,(some 64),.bt (.t 7)⟩,
    ⟨none,(some 65),.bin .neq (.t 63) (.t 64)⟩]))
  (.cond (.t 65)
   (.seq (.aU [2] (.region none [
     ⟨none,(some 2),.bt (.c (.v (.bool false)))⟩]))
   (.ret))
   (.skip)))
  (.seq (.aU [2] (.region none [
    ⟨none,(some 2),.bt (.c (.v (.bool true)))⟩]))
  (.ret))))))))))))))))))
theorem A.lU:cFn Tryz.prog F.dm A.dm:=
 ⟨_,_,Tryz.func3,rfl,by kernel_rfl,rfl,by decide,by kernel_rfl,by kernel_rfl⟩
def A.dJ:sG where
 iw:=1
 nt:=74
 res:=[.cell 2 (some 2),.tmp 3]
 code:= .seq (.aU [0,2] (.region none [
    ⟨none,(some 2),.alloc 25 2 (.agg [.aQ,.aQ])⟩,
    ⟨none,(some 3),.bt (.c (.v (.int .i64 0)))⟩]))
  (.seq (.aU [2,4] (.region none [
    ⟨none,(some 11),.bt (.t 0)⟩,
    ⟨none,(some 12),.call F.strings_Split [(.t 11),(.c (.v (.string ⟨#[10]⟩)))]⟩,
    ⟨none,(some 4),.bt (.t 12)⟩]))
  (.seq (.aU [2,4,5] (.region none [
    ⟨none,(some 13),.bt (.t 4)⟩,
    ⟨none,(some 14),.cz (.t 13)⟩,
    ⟨none,(some 15),.bin .sub (.t 14) (.c (.v (.int .i64 1)))⟩,
    ⟨none,(some 5),.bt (.t 15)⟩]))
  (.seq (.aU [2,4,5,6] (.region none [
    ⟨none,(some 6),.alloc 25 2 (.agg [.aQ,.aQ])⟩]))
  (.seq (.seq (.aU [2,4,5,6,18,19,20] (.region none [
    ⟨none,(some 16),.bt (.t 4)⟩,
    ⟨none,(some 17),.bt (.t 5)⟩,
    ⟨none,(some 18),.cw 1 (.t 16) none (some (.t 17))⟩,
    ⟨none,(some 19),.cz (.t 18)⟩,
    ⟨none,(some 20),.bt (.c (.v (.int .i64 0)))⟩]))
  (.block 0 (.loop (.seq (.aU [2,4,5,6,18,19,20,21] (.region none [
     ⟨none,(some 21),.bin .lss (.t 20) (.t 19)⟩]))
    (.seq (.cond (.t 21)
     (.skip)
     (.exit 0))
    (.seq (.block 1 (.seq (.aU [2,4,5,6,7,8,18,19,20] (.region none [
       ⟨none,(some 22),.bt (.t 20)⟩,
       ⟨none,(some 23),.kf 1 (.t 18) (.t 20)⟩,
       ⟨none,(some 24),.load none (.t 23)⟩,
       ⟨none,(some 7),.bt (.t 22)⟩,
       ⟨none,(some 8),.bt (.t 24)⟩]))
     (.seq (.aU [2,4,5,6,7,8,9,18,19,20] (.region none [
       ⟨none,(some 25),.bt (.t 8)⟩,
       ⟨none,(some 26),.dI (.t 25)⟩,
       ⟨none,(some 27),.bin .leq (.t 26) (.c (.v (.int .i64 10000)))⟩,
       ⟨none,(some 9),.bt (.t 27)⟩]))
     (.seq (.seq (.aU [2,4,5,6,7,8,9,18,19,20,32] (.region none [
       ⟨none,(some 28),.bt (.t 7)⟩,
       ⟨none,(some 29),.bin .eql (.t 28) (.c (.v (.int .i64 0)))⟩,
       ⟨none,(some 30),.bt (.t 29)⟩,
       ⟨(some (30,true)),(some 31),.bt (.t 9)⟩,
       ⟨none,(some 32),.pick (.t 30) (.t 31) (.c (.v (.bool false)))⟩]))
     (.cond (.t 32)
      (.aU [2,4,5,6,7,9,18,19,20] (.region none [
        ⟨none,(some 34),.bt (.t 8)⟩,
        ⟨none,(some 35),.call F.bg [(.t 34)]⟩,
        ⟨none,(some 33),.bt (.t 35)⟩,
        ⟨none,(some 36),.ext (.t 33) 0⟩,
        ⟨none,(some 37),.ext (.t 33) 1⟩,
        ⟨none,(some 38),.dz 1 (.t 6)⟩,
        ⟨none,none,.store 1 (.t 38) (.t 36)⟩,
        ⟨none,(some 9),.bt (.t 37)⟩]))
      (.seq (.aU [2,4,5,6,7,8,9,18,19,20,39] (.region none [
        ⟨none,(some 39),.bt (.t 9)⟩]))
      (.cond (.t 39)
       (.seq (.aU [2,4,5,6,7,8,10,18,19,20] (.region none [
         ⟨none,(some 40),.build [(.v (.int .i64 0)),(.v (.int .i64 0)),(.v (.int .i64 0)),(.v (.int .i64 0)),(.v (.int .i64 0)),(.v (.string ⟨#[]⟩))] []⟩,
         ⟨none,(some 10),.alloc 34 6 (.agg [(.v (.int .i64 0)),(.v (.int .i64 0)),(.v (.int .i64 0)),(.v (.int .i64 0)),(.v (.int .i64 0)),(.v (.string ⟨#[]⟩))])⟩,
         ⟨none,none,.store 6 (.t 10) (.t 40)⟩]))
       (.seq (.aU [2,4,5,6,7,9,10,18,19,20] (.region none [
         ⟨none,(some 42),.bt (.t 8)⟩,
         ⟨none,(some 43),.call F.fI [(.t 42)]⟩,
         ⟨none,(some 41),.bt (.t 43)⟩,
         ⟨none,(some 44),.ext (.t 41) 0⟩,
         ⟨none,(some 45),.ext (.t 41) 1⟩,
         ⟨none,none,.store 6 (.t 10) (.t 44)⟩,
         ⟨none,(some 9),.bt (.t 45)⟩]))
       (.aU [2,4,5,6,7,9,18,19,20] (.region none [
         ⟨none,(some 46),.dz 0 (.t 6)⟩,
         ⟨none,(some 47),.load none (.t 46)⟩,
         ⟨none,(some 48),.load (some 6) (.t 10)⟩,
         ⟨none,(some 49),.buildSlice 34 6 1 (.agg [(.v (.int .i64 0)),(.v (.int .i64 0)),(.v (.int .i64 0)),(.v (.int .i64 0)),(.v (.int .i64 0)),(.v (.string ⟨#[]⟩))]) [(0,(.t 48))]⟩,
         ⟨none,(some 50),.app 34 6 56 (.t 47) (.t 49)⟩,
         ⟨none,(some 51),.dz 0 (.t 6)⟩,
         ⟨none,none,.store 1 (.t 51) (.t 50)⟩]))))
       (.skip)))))
     (.seq (.aU [2,4,5,6,7,18,19,20,53] (.region none [
       ⟨none,(some 52),.bt (.t 9)⟩,
       ⟨none,(some 53),.un .not (.t 52)⟩]))
     (.cond (.t 53)
      (.seq (.aU [2,3] (.region none [
        ⟨none,(some 54),.build [.aQ,.aQ] []⟩,
        ⟨none,(some 55),.bt (.t 7)⟩,
        ⟨none,none,.store 2 (.t 2) (.t 54)⟩,
        ⟨none,(some 3),.bt (.t 55)⟩]))
      (.ret))
      (.skip)))))))
    (.aU [2,4,5,6,18,19,20] (.region none [
      ⟨none,(some 56),.bin .add (.t 20) (.c (.v (.int .i64 1)))⟩,
      ⟨none,(some 20),.bt (.t 56)⟩]))))))))
  (.seq (.seq (.aU [2,5,6,65] (.region none [
    ⟨none,(some 57),.bt (.t 4)⟩,
    ⟨none,(some 58),.bt (.t 5)⟩,
    ⟨none,(some 59),.kf 1 (.t 57) (.t 58)⟩,
    ⟨none,(some 60),.load none (.t 59)⟩,
    ⟨none,(some 61),.bin .neq (.t 60) (.c (.v (.string ⟨#[]⟩)))⟩,
    ⟨none,(some 62),.bt (.t 61)⟩,
    ⟨(some (62,false)),(some 63),.bt (.t 5)⟩,
    ⟨(some (62,false)),(some 64),.bin .eql (.t 63) (.c (.v (.int .i64 0)))⟩,
    ⟨none,(some 65),.pick (.t 62) (.c (.v (.bool true))) (.t 64)⟩]))
  (.cond (.t 65)
   (.seq (.aU [2,3] (.region none [
     ⟨none,(some 66),.build [.aQ,.aQ] []⟩,
     ⟨none,(some 67),.bt (.t 5)⟩,
     ⟨none,none,.store 2 (.t 2) (.t 66)⟩,
     ⟨none,(some 3),.bt (.t 67)⟩]))
   (.ret))
   (.skip)))
  (.seq (.seq (.aU [2,5,6,70] (.region none [
    ⟨none,(some 68),.load (some 2) (.t 6)⟩,
    ⟨none,(some 69),.call F.gU [(.t 68)]⟩,
    ⟨none,(some 70),.un .not (.t 69)⟩]))
  (.cond (.t 70)
   (.seq (.aU [2,3] (.region none [
     ⟨none,(some 71),.build [.aQ,.aQ] []⟩,
     ⟨none,(some 72),.bt (.t 5)⟩,
     ⟨none,none,.store 2 (.t 2) (.t 71)⟩,
     ⟨none,(some 3),.bt (.t 72)⟩]))
   (.ret))
   (.skip)))
  (.seq (.aU [2,3] (.region none [
    ⟨none,(some 73),.load (some 2) (.t 6)⟩,
    ⟨none,none,.store 2 (.t 2) (.t 73)⟩,
    ⟨none,(some 3),.bt (.c (.v (.int .i64 (-1))))⟩]))
  (.ret))))))))
theorem A.sf:cFn Tryz.prog F.dJ A.dJ:=
 ⟨_,_,Tryz.func5,rfl,by kernel_rfl,rfl,by decide,by kernel_rfl,by kernel_rfl⟩
def A.gE:sG where
 iw:=2
 nt:=14
 res:=[.tmp 4]
 code:= .seq (.aU [1,2] (.region none [
   ⟨none,(some 2),.box 25 2 (.t 0)⟩,
   ⟨none,(some 4),.bt (.c (.v (.int .i64 0)))⟩]))
  (.seq (.aU [1,2] (.region none [
    ⟨none,(some 5),.dz 0 (.t 2)⟩,
    ⟨none,(some 6),.load none (.t 5)⟩,
    ⟨none,(some 7),.bt (.t 1)⟩,
    ⟨none,(some 8),.call F.bA [(.t 6),(.t 7)]⟩,
    ⟨none,(some 1),.bt (.t 8)⟩]))
  (.seq (.aU [1] (.region none [
    ⟨none,(some 9),.dz 1 (.t 2)⟩,
    ⟨none,(some 10),.load none (.t 9)⟩,
    ⟨none,(some 11),.bt (.t 1)⟩,
    ⟨none,(some 12),.call F.bZ [(.t 10),(.t 11)]⟩,
    ⟨none,(some 1),.bt (.t 12)⟩]))
  (.seq (.aU [4] (.region none [
    ⟨none,(some 13),.bt (.t 1)⟩,
    ⟨none,(some 4),.bt (.t 13)⟩]))
  (.ret))))
theorem A.tp:cFn Tryz.prog F.gE A.gE:=
 ⟨_,_,Tryz.func7,rfl,by kernel_rfl,rfl,by decide,by kernel_rfl,by kernel_rfl⟩
def A.fI:sG where
 iw:=1
 nt:=65
 res:=[.cell 2 (some 6),.tmp 3]
 code:= .seq (.aU [0,2] (.region none [
   ⟨none,(some 2),.alloc 34 6 (.agg [(.v (.int .i64 0)),(.v (.int .i64 0)),(.v (.int .i64 0)),(.v (.int .i64 0)),(.v (.int .i64 0)),(.v (.string ⟨#[]⟩))])⟩,
   ⟨none,(some 3),.bt (.c (.v (.bool false)))⟩]))
  (.seq (.aU [0,2,4,5] (.region none [
    ⟨none,(some 14),.bt (.t 0)⟩,
    ⟨none,(some 15),.call F.strings_Cut [(.t 14),(.c (.v (.string ⟨#[32]⟩)))]⟩,
    ⟨none,(some 13),.bt (.t 15)⟩,
    ⟨none,(some 16),.ext (.t 13) 0⟩,
    ⟨none,(some 17),.ext (.t 13) 1⟩,
    ⟨none,(some 18),.ext (.t 13) 2⟩,
    ⟨none,(some 4),.bt (.t 16)⟩,
    ⟨none,(some 5),.bt (.t 17)⟩,
    ⟨none,(some 6),.bt (.t 18)⟩]))
  (.seq (.seq (.aU [0,2,4,5,19,20,21] (.region none [
    ⟨none,(some 19),.call F.gS []⟩,
    ⟨none,(some 20),.cz (.t 19)⟩,
    ⟨none,(some 21),.bt (.c (.v (.int .i64 0)))⟩]))
  (.block 0 (.loop (.seq (.aU [0,2,4,5,19,20,21,22] (.region none [
     ⟨none,(some 22),.bin .lss (.t 21) (.t 20)⟩]))
    (.seq (.cond (.t 22)
     (.skip)
     (.exit 0))
    (.seq (.block 1 (.seq (.aU [0,2,4,5,8,19,20,21] (.region none [
       ⟨none,(some 23),.kf 6 (.t 19) (.t 21)⟩,
       ⟨none,(some 24),.load (some 6) (.t 23)⟩,
       ⟨none,(some 8),.alloc 34 6 (.agg [(.v (.int .i64 0)),(.v (.int .i64 0)),(.v (.int .i64 0)),(.v (.int .i64 0)),(.v (.int .i64 0)),(.v (.string ⟨#[]⟩))])⟩,
       ⟨none,none,.store 6 (.t 8) (.t 24)⟩]))
     (.seq (.aU [0,2,4,5,8,9,19,20,21] (.region none [
       ⟨none,(some 25),.load (some 6) (.t 8)⟩,
       ⟨none,(some 26),.call F.gT [(.t 25)]⟩,
       ⟨none,(some 9),.alloc 60 2 (.agg [(.v (.string ⟨#[]⟩)),(.v (.string ⟨#[]⟩))])⟩,
       ⟨none,none,.store 2 (.t 9) (.t 26)⟩]))
     (.seq (.seq (.aU [0,2,4,5,8,9,19,20,21,30] (.region none [
       ⟨none,(some 27),.dz 0 (.t 9)⟩,
       ⟨none,(some 28),.load none (.t 27)⟩,
       ⟨none,(some 29),.bt (.t 4)⟩,
       ⟨none,(some 30),.bin .neq (.t 28) (.t 29)⟩]))
     (.cond (.t 30)
      (.exit 1)
      (.skip)))
     (.seq (.aU [0,2,8,9,10] (.region none [
       ⟨none,(some 31),.bt (.t 5)⟩,
       ⟨none,(some 32),.dz 1 (.t 9)⟩,
       ⟨none,(some 33),.load none (.t 32)⟩,
       ⟨none,(some 34),.dI (.t 33)⟩,
       ⟨none,(some 35),.call F.strings_SplitN [(.t 31),(.c (.v (.string ⟨#[32]⟩))),(.t 34)]⟩,
       ⟨none,(some 10),.bt (.t 35)⟩]))
     (.seq (.seq (.aU [0,2,8,9,10,41] (.region none [
       ⟨none,(some 36),.bt (.t 10)⟩,
       ⟨none,(some 37),.cz (.t 36)⟩,
       ⟨none,(some 38),.dz 1 (.t 9)⟩,
       ⟨none,(some 39),.load none (.t 38)⟩,
       ⟨none,(some 40),.dI (.t 39)⟩,
       ⟨none,(some 41),.bin .neq (.t 37) (.t 40)⟩]))
     (.cond (.t 41)
      (.seq (.aU [2,3] (.region none [
        ⟨none,(some 42),.build [(.v (.int .i64 0)),(.v (.int .i64 0)),(.v (.int .i64 0)),(.v (.int .i64 0)),(.v (.int .i64 0)),(.v (.string ⟨#[]⟩))] []⟩,
        ⟨none,none,.store 6 (.t 2) (.t 42)⟩,
        ⟨none,(some 3),.bt (.c (.v (.bool false)))⟩]))
      (.ret))
      (.skip)))
     (.seq (.seq (.aU [0,2,8,10,45] (.region none [
       ⟨none,(some 43),.dz 1 (.t 9)⟩,
       ⟨none,(some 44),.load none (.t 43)⟩,
       ⟨none,(some 45),.uj (.t 44)⟩]))
     (.block 2 (.loop (.seq (.aU [0,2,8,10,45,46,47] (.region none [
        ⟨none,(some 46),.uq (.t 45)⟩,
        ⟨none,(some 47),.ext (.t 46) 0⟩]))
       (.seq (.cond (.t 47)
        (.skip)
        (.exit 2))
       (.block 3 (.seq (.aU [0,2,8,10,11,12,45] (.region none [
          ⟨none,(some 48),.ext (.t 46) 1⟩,
          ⟨none,(some 49),.ext (.t 46) 2⟩,
          ⟨none,(some 11),.bt (.t 48)⟩,
          ⟨none,(some 12),.bt (.t 49)⟩]))
        (.seq (.aU [0,2,8,10,45,56] (.region none [
          ⟨none,(some 50),.bt (.t 12)⟩,
          ⟨none,(some 51),.bt (.t 10)⟩,
          ⟨none,(some 52),.bt (.t 11)⟩,
          ⟨none,(some 53),.kf 1 (.t 51) (.t 52)⟩,
          ⟨none,(some 54),.load none (.t 53)⟩,
          ⟨none,(some 55),.call F.kI [(.t 8),(.t 50),(.t 54)]⟩,
          ⟨none,(some 56),.un .not (.t 55)⟩]))
        (.cond (.t 56)
         (.seq (.aU [2,3] (.region none [
           ⟨none,(some 57),.build [(.v (.int .i64 0)),(.v (.int .i64 0)),(.v (.int .i64 0)),(.v (.int .i64 0)),(.v (.int .i64 0)),(.v (.string ⟨#[]⟩))] []⟩,
           ⟨none,none,.store 6 (.t 2) (.t 57)⟩,
           ⟨none,(some 3),.bt (.c (.v (.bool false)))⟩]))
         (.ret))
         (.skip))))))))))
     (.seq (.aU [2,3] (.region (some [[],[],[1],[],[2,3],[0,2,0],[4,5,0,1,2,3,4,5]]) [
       ⟨none,(some 58),.load (some 6) (.t 8)⟩,
       ⟨none,(some 59),.load (some 6) (.t 8)⟩,
       ⟨none,(some 60),.jX F.fJ [(.t 59)]⟩,
       ⟨none,(some 61),.bt (.t 0)⟩,
       ⟨none,(some 62),.bin .eql (.t 60) (.t 61)⟩,
       ⟨none,none,.store 6 (.t 2) (.t 58)⟩,
       ⟨none,(some 3),.bt (.t 62)⟩]))
     (.ret)))))))))
    (.aU [0,2,4,5,19,20,21] (.region none [
      ⟨none,(some 63),.bin .add (.t 21) (.c (.v (.int .i64 1)))⟩,
      ⟨none,(some 21),.bt (.t 63)⟩]))))))))
  (.seq (.aU [2,3] (.region none [
    ⟨none,(some 64),.build [(.v (.int .i64 0)),(.v (.int .i64 0)),(.v (.int .i64 0)),(.v (.int .i64 0)),(.v (.int .i64 0)),(.v (.string ⟨#[]⟩))] []⟩,
    ⟨none,none,.store 6 (.t 2) (.t 64)⟩,
    ⟨none,(some 3),.bt (.c (.v (.bool false)))⟩]))
  (.ret))))
theorem A.sd:cFn Tryz.prog F.fI A.fI:=
 ⟨_,_,Tryz.func14,rfl,by kernel_rfl,rfl,by decide,by kernel_rfl,by kernel_rfl⟩
def A.gT:sG where
 iw:=1
 nt:=48
 res:=[.cell 2 (some 2)]
 code:= .seq (.aU [1,2] (.region none [
    ⟨none,(some 1),.box 34 6 (.t 0)⟩,
    ⟨none,(some 2),.alloc 60 2 (.agg [(.v (.string ⟨#[]⟩)),(.v (.string ⟨#[]⟩))])⟩]))
  (.seq (.aU [1,2,3] (.region none [
    ⟨none,(some 5),.zP⟩,
    ⟨none,none,.lT .str (.t 5) (.c (.v (.string ⟨#[43]⟩))) (.c (.v (.string ⟨#[97,100,100]⟩)))⟩,
    ⟨none,none,.lT .str (.t 5) (.c (.v (.string ⟨#[45]⟩))) (.c (.v (.string ⟨#[115,117,98]⟩)))⟩,
    ⟨none,none,.lT .str (.t 5) (.c (.v (.string ⟨#[42]⟩))) (.c (.v (.string ⟨#[109,117,108]⟩)))⟩,
    ⟨none,none,.lT .str (.t 5) (.c (.v (.string ⟨#[61]⟩))) (.c (.v (.string ⟨#[101,113]⟩)))⟩,
    ⟨none,none,.lT .str (.t 5) (.c (.v (.string ⟨#[60]⟩))) (.c (.v (.string ⟨#[108,116]⟩)))⟩,
    ⟨none,none,.lT .str (.t 5) (.c (.v (.string ⟨#[94]⟩))) (.c (.v (.string ⟨#[99,97,116]⟩)))⟩,
    ⟨none,(some 6),.bt (.t 5)⟩,
    ⟨none,(some 3),.bt (.t 6)⟩]))
  (.seq (.seq (.aU [1,2,3,9] (.region none [
    ⟨none,(some 7),.dz 0 (.t 1)⟩,
    ⟨none,(some 8),.load none (.t 7)⟩,
    ⟨none,(some 9),.bin .neq (.t 8) (.c (.v (.int .i64 7)))⟩]))
  (.cond (.t 9)
   (.seq (.aU [1,2,4] (.region none [
     ⟨none,(some 10),.build [(.v (.string ⟨#[]⟩)),(.v (.string ⟨#[]⟩))] [(0,1,(.c (.v (.string ⟨#[105,110,116]⟩)))),(1,1,(.c (.v (.string ⟨#[97,110]⟩))))]⟩,
     ⟨none,(some 11),.build [(.v (.string ⟨#[]⟩)),(.v (.string ⟨#[]⟩))] [(0,1,(.c (.v (.string ⟨#[115,116,114]⟩)))),(1,1,(.c (.v (.string ⟨#[97,116]⟩))))]⟩,
     ⟨none,(some 12),.build [(.v (.string ⟨#[]⟩)),(.v (.string ⟨#[]⟩))] [(0,1,(.c (.v (.string ⟨#[108,97,98]⟩)))),(1,1,(.c (.v (.string ⟨#[97,110]⟩))))]⟩,
     ⟨none,(some 13),.build [(.v (.string ⟨#[]⟩)),(.v (.string ⟨#[]⟩))] [(0,1,(.c (.v (.string ⟨#[109,111,118,101]⟩)))),(1,1,(.c (.v (.string ⟨#[97,98]⟩))))]⟩,
     ⟨none,(some 14),.build [(.v (.string ⟨#[]⟩)),(.v (.string ⟨#[]⟩))] [(0,1,(.c (.v (.string ⟨#[108,111,97,100]⟩)))),(1,1,(.c (.v (.string ⟨#[97,110]⟩))))]⟩,
     ⟨none,(some 15),.build [(.v (.string ⟨#[]⟩)),(.v (.string ⟨#[]⟩))] [(0,1,(.c (.v (.string ⟨#[115,116,111,114,101]⟩)))),(1,1,(.c (.v (.string ⟨#[97,110]⟩))))]⟩,
     ⟨none,(some 16),.build [(.v (.string ⟨#[]⟩)),(.v (.string ⟨#[]⟩))] []⟩,
     ⟨none,(some 17),.build [(.v (.string ⟨#[]⟩)),(.v (.string ⟨#[]⟩))] [(0,1,(.c (.v (.string ⟨#[110,101,119]⟩)))),(1,1,(.c (.v (.string ⟨#[97,110]⟩))))]⟩,
     ⟨none,(some 18),.build [(.v (.string ⟨#[]⟩)),(.v (.string ⟨#[]⟩))] [(0,1,(.c (.v (.string ⟨#[112,117,116]⟩)))),(1,1,(.c (.v (.string ⟨#[97,110,98]⟩))))]⟩,
     ⟨none,(some 19),.build [(.v (.string ⟨#[]⟩)),(.v (.string ⟨#[]⟩))] [(0,1,(.c (.v (.string ⟨#[103,101,116]⟩)))),(1,1,(.c (.v (.string ⟨#[97,98,110]⟩))))]⟩,
     ⟨none,(some 20),.build [(.v (.string ⟨#[]⟩)),(.v (.string ⟨#[]⟩))] [(0,1,(.c (.v (.string ⟨#[122,101,114,111]⟩)))),(1,1,(.c (.v (.string ⟨#[97,110]⟩))))]⟩,
     ⟨none,(some 21),.build [(.v (.string ⟨#[]⟩)),(.v (.string ⟨#[]⟩))] [(0,1,(.c (.v (.string ⟨#[106,117,109,112]⟩)))),(1,1,(.c (.v (.string ⟨#[110]⟩))))]⟩,
     ⟨none,(some 22),.build [(.v (.string ⟨#[]⟩)),(.v (.string ⟨#[]⟩))] [(0,1,(.c (.v (.string ⟨#[103,111]⟩)))),(1,1,(.c (.v (.string ⟨#[97]⟩))))]⟩,
     ⟨none,(some 23),.build [(.v (.string ⟨#[]⟩)),(.v (.string ⟨#[]⟩))] [(0,1,(.c (.v (.string ⟨#[101,120,105,116]⟩)))),(1,1,(.c (.v (.string ⟨#[97]⟩))))]⟩,
     ⟨none,(some 24),.build [(.v (.string ⟨#[]⟩)),(.v (.string ⟨#[]⟩))] [(0,1,(.c (.v (.string ⟨#[102,97,105,108]⟩)))),(1,1,(.c (.v (.string ⟨#[110]⟩))))]⟩,
     ⟨none,(some 25),.buildSlice 60 2 15 (.agg [(.v (.string ⟨#[]⟩)),(.v (.string ⟨#[]⟩))]) [(0,(.t 10)),(1,(.t 11)),(2,(.t 12)),(3,(.t 13)),(4,(.t 14)),(5,(.t 15)),(6,(.t 16)),(7,(.t 17)),(8,(.t 18)),(9,(.t 19)),(10,(.t 20)),(11,(.t 21)),(12,(.t 22)),(13,(.t 23)),(14,(.t 24))]⟩,
     ⟨none,(some 4),.bt (.t 25)⟩]))
   (.seq (.aU [2] (.region none [
     ⟨none,(some 26),.bt (.t 4)⟩,
     ⟨none,(some 27),.dz 0 (.t 1)⟩,
     ⟨none,(some 28),.load none (.t 27)⟩,
     ⟨none,(some 29),.bin .sub (.t 28) (.c (.v (.int .i64 1)))⟩,
     ⟨none,(some 30),.kf 2 (.t 26) (.t 29)⟩,
     ⟨none,(some 31),.load (some 2) (.t 30)⟩,
     ⟨none,none,.store 2 (.t 2) (.t 31)⟩]))
   (.ret)))
   (.skip)))
  (.seq (.seq (.aU [1,2,3,33] (.region none [
    ⟨none,(some 32),.dz 5 (.t 1)⟩,
    ⟨none,(some 33),.load none (.t 32)⟩]))
  (.block 0 (.seq (.aU [1,2,3,33,34] (.region none [
     ⟨none,(some 35),.bin .eql (.t 33) (.c (.v (.string ⟨#[115,105,122,101]⟩)))⟩,
     ⟨none,(some 34),.bt (.t 35)⟩]))
   (.cond (.t 34)
    (.seq (.aU [2] (.region none [
      ⟨none,(some 36),.build [(.v (.string ⟨#[]⟩)),(.v (.string ⟨#[]⟩))] [(0,1,(.c (.v (.string ⟨#[115,105,122,101]⟩)))),(1,1,(.c (.v (.string ⟨#[97,98]⟩))))]⟩,
      ⟨none,none,.store 2 (.t 2) (.t 36)⟩]))
    (.ret))
    (.seq (.aU [1,2,3,33,37] (.region none [
      ⟨none,(some 38),.bin .eql (.t 33) (.c (.v (.string ⟨#[114,101,97,100]⟩)))⟩,
      ⟨none,(some 37),.bt (.t 38)⟩]))
    (.cond (.t 37)
     (.seq (.aU [2] (.region none [
       ⟨none,(some 39),.build [(.v (.string ⟨#[]⟩)),(.v (.string ⟨#[]⟩))] [(0,1,(.c (.v (.string ⟨#[114,101,97,100]⟩)))),(1,1,(.c (.v (.string ⟨#[97]⟩))))]⟩,
       ⟨none,none,.store 2 (.t 2) (.t 39)⟩]))
     (.ret))
     (.seq (.aU [1,2,3,40] (.region none [
       ⟨none,(some 41),.bin .eql (.t 33) (.c (.v (.string ⟨#[112,114,105,110,116]⟩)))⟩,
       ⟨none,(some 40),.bt (.t 41)⟩]))
     (.cond (.t 40)
      (.seq (.aU [2] (.region none [
        ⟨none,(some 42),.build [(.v (.string ⟨#[]⟩)),(.v (.string ⟨#[]⟩))] [(0,1,(.c (.v (.string ⟨#[112,114,105,110,116]⟩)))),(1,1,(.c (.v (.string ⟨#[98]⟩))))]⟩,
        ⟨none,none,.store 2 (.t 2) (.t 42)⟩]))
      (.ret))
      (.skip)))))))))
  (.seq (.aU [2] (.region none [
    ⟨none,(some 43),.bt (.t 3)⟩,
    ⟨none,(some 44),.dz 5 (.t 1)⟩,
    ⟨none,(some 45),.load none (.t 44)⟩,
    ⟨none,(some 46),.afh false .str (.v (.string ⟨#[]⟩)) (.t 43) (.t 45)⟩,
    ⟨none,(some 47),.build [(.v (.string ⟨#[]⟩)),(.v (.string ⟨#[]⟩))] [(0,1,(.t 46)),(1,1,(.c (.v (.string ⟨#[97,98,99]⟩))))]⟩,
    ⟨none,none,.store 2 (.t 2) (.t 47)⟩]))
  (.ret)))))
theorem A.xT:cFn Tryz.prog F.gT A.gT:=
 ⟨_,_,Tryz.func33,rfl,by kernel_rfl,rfl,by decide,by kernel_rfl,by kernel_rfl⟩
def A.kI:sG where
 iw:=3
 nt:=72
 res:=[.tmp 6]
 code:= .seq (.aU [0,1,2] (.region none [
    ⟨none,(some 6),.bt (.c (.v (.bool false)))⟩]))
  (.seq (.aU [0,1,2,7,8] (.region none [
    ⟨none,(some 13),.bt (.t 2)⟩,
    ⟨none,(some 14),.call F.cX [(.t 13)]⟩,
    ⟨none,(some 12),.bt (.t 14)⟩,
    ⟨none,(some 15),.ext (.t 12) 0⟩,
    ⟨none,(some 16),.ext (.t 12) 1⟩,
    ⟨none,(some 7),.bt (.t 15)⟩,
    ⟨none,(some 8),.bt (.t 16)⟩]))
  (.seq (.seq (.aU [0,2,7,8,17] (.region none [
    ⟨none,(some 17),.bt (.t 1)⟩]))
  (.block 0 (.seq (.aU [0,2,7,8,17,43] (.region none [
     ⟨none,(some 44),.bin .eql (.t 17) (.c (.v (.int .i32 97)))⟩,
     ⟨none,(some 43),.bt (.t 44)⟩]))
   (.cond (.t 43)
    (.aU [8] (.region none [
      ⟨none,(some 45),.bt (.t 0)⟩,
      ⟨none,(some 46),.bt (.t 7)⟩,
      ⟨none,(some 47),.ov (.t 45)⟩,
      ⟨none,(some 48),.dz 1 (.t 47)⟩,
      ⟨none,none,.store 1 (.t 48) (.t 46)⟩]))
    (.seq (.aU [0,2,7,8,17,49] (.region none [
      ⟨none,(some 50),.bin .eql (.t 17) (.c (.v (.int .i32 98)))⟩,
      ⟨none,(some 49),.bt (.t 50)⟩]))
    (.cond (.t 49)
     (.aU [8] (.region none [
       ⟨none,(some 51),.bt (.t 0)⟩,
       ⟨none,(some 52),.bt (.t 7)⟩,
       ⟨none,(some 53),.ov (.t 51)⟩,
       ⟨none,(some 54),.dz 2 (.t 53)⟩,
       ⟨none,none,.store 1 (.t 54) (.t 52)⟩]))
     (.seq (.aU [0,2,7,8,17,55] (.region none [
       ⟨none,(some 56),.bin .eql (.t 17) (.c (.v (.int .i32 99)))⟩,
       ⟨none,(some 55),.bt (.t 56)⟩]))
     (.cond (.t 55)
      (.aU [8] (.region none [
        ⟨none,(some 57),.bt (.t 0)⟩,
        ⟨none,(some 58),.bt (.t 7)⟩,
        ⟨none,(some 59),.ov (.t 57)⟩,
        ⟨none,(some 60),.dz 3 (.t 59)⟩,
        ⟨none,none,.store 1 (.t 60) (.t 58)⟩]))
      (.seq (.aU [0,2,61] (.region none [
        ⟨none,(some 62),.bin .eql (.t 17) (.c (.v (.int .i32 110)))⟩,
        ⟨none,(some 61),.bt (.t 62)⟩]))
      (.cond (.t 61)
       (.aU [8] (.region none [
         ⟨none,(some 64),.bt (.t 0)⟩,
         ⟨none,(some 65),.bt (.t 2)⟩,
         ⟨none,(some 66),.call F.ei [(.t 65)]⟩,
         ⟨none,(some 63),.bt (.t 66)⟩,
         ⟨none,(some 67),.ext (.t 63) 0⟩,
         ⟨none,(some 68),.ext (.t 63) 1⟩,
         ⟨none,(some 69),.ov (.t 64)⟩,
         ⟨none,(some 70),.dz 4 (.t 69)⟩,
         ⟨none,none,.store 1 (.t 70) (.t 67)⟩,
         ⟨none,(some 8),.bt (.t 68)⟩]))
       (.seq (.aU [0,2,9,10,11] (.region none [
         ⟨none,(some 9),.bt (.c (.v (.string ⟨#[]⟩)))⟩,
         ⟨none,(some 10),.bt (.c (.v (.int .i64 0)))⟩,
         ⟨none,(some 11),.bt (.c (.v (.bool false)))⟩]))
       (.seq (.seq (.aU [0,2,9,10,11,19] (.region none [
         ⟨none,(some 18),.bt (.t 2)⟩,
         ⟨none,(some 19),.call F.cS [(.t 18),(.c (.v (.string ⟨#[34]⟩)))]⟩]))
       (.cond (.t 19)
        (.aU [0,2,9,10,11] (.region none [
          ⟨none,(some 21),.bt (.t 2)⟩,
          ⟨none,(some 22),.call F.eG [(.t 21),(.c (.v (.int .i64 0)))]⟩,
          ⟨none,(some 20),.bt (.t 22)⟩,
          ⟨none,(some 23),.ext (.t 20) 0⟩,
          ⟨none,(some 24),.ext (.t 20) 1⟩,
          ⟨none,(some 25),.ext (.t 20) 2⟩,
          ⟨none,(some 9),.bt (.t 23)⟩,
          ⟨none,(some 10),.bt (.t 24)⟩,
          ⟨none,(some 11),.bt (.t 25)⟩]))
        (.skip)))
       (.aU [8] (.region none [
         ⟨none,(some 26),.bt (.t 0)⟩,
         ⟨none,(some 27),.bt (.t 9)⟩,
         ⟨none,(some 28),.bt (.t 11)⟩,
         ⟨none,(some 29),.bt (.t 28)⟩,
         ⟨(some (29,true)),(some 30),.bt (.t 10)⟩,
         ⟨(some (29,true)),(some 31),.bt (.t 2)⟩,
         ⟨(some (29,true)),(some 32),.dI (.t 31)⟩,
         ⟨(some (29,true)),(some 33),.bin .eql (.t 30) (.t 32)⟩,
         ⟨none,(some 34),.pick (.t 29) (.t 33) (.c (.v (.bool false)))⟩,
         ⟨none,(some 35),.bt (.t 34)⟩,
         ⟨(some (35,true)),(some 36),.bt (.t 9)⟩,
         ⟨(some (35,true)),(some 37),.call F.fc [(.t 36)]⟩,
         ⟨(some (35,true)),(some 38),.bt (.t 2)⟩,
         ⟨(some (35,true)),(some 39),.bin .eql (.t 37) (.t 38)⟩,
         ⟨none,(some 40),.pick (.t 35) (.t 39) (.c (.v (.bool false)))⟩,
         ⟨none,(some 41),.ov (.t 26)⟩,
         ⟨none,(some 42),.dz 5 (.t 41)⟩,
         ⟨none,none,.store 1 (.t 42) (.t 27)⟩,
         ⟨none,(some 8),.bt (.t 40)⟩]))))))))))))))
  (.seq (.aU [6] (.region none [
    ⟨none,(some 71),.bt (.t 8)⟩,
    ⟨none,(some 6),.bt (.t 71)⟩]))
  (.ret))))
theorem A.abr:cFn Tryz.prog F.kI A.kI:=
 ⟨_,_,Tryz.func35,rfl,by kernel_rfl,rfl,by decide,by kernel_rfl,by kernel_rfl⟩
def A.fJ:sG where
 iw:=1
 nt:=57
 res:=[.tmp 2]
 code:= .seq (.aU [1] (.region none [
   ⟨none,(some 1),.box 34 6 (.t 0)⟩,
   ⟨none,(some 2),.bt (.c (.v (.string ⟨#[]⟩)))⟩]))
  (.seq (.aU [1,3] (.region none [
    ⟨none,(some 7),.load (some 6) (.t 1)⟩,
    ⟨none,(some 8),.call F.gT [(.t 7)]⟩,
    ⟨none,(some 3),.alloc 60 2 (.agg [(.v (.string ⟨#[]⟩)),(.v (.string ⟨#[]⟩))])⟩,
    ⟨none,none,.store 2 (.t 3) (.t 8)⟩]))
  (.seq (.aU [1,3,4] (.region none [
    ⟨none,(some 9),.dz 0 (.t 3)⟩,
    ⟨none,(some 10),.load none (.t 9)⟩,
    ⟨none,(some 4),.bt (.t 10)⟩]))
  (.seq (.seq (.aU [1,4,13] (.region none [
    ⟨none,(some 11),.dz 1 (.t 3)⟩,
    ⟨none,(some 12),.load none (.t 11)⟩,
    ⟨none,(some 13),.uj (.t 12)⟩]))
  (.block 0 (.loop (.seq (.aU [1,4,13,14,15] (.region none [
     ⟨none,(some 14),.uq (.t 13)⟩,
     ⟨none,(some 15),.ext (.t 14) 0⟩]))
    (.seq (.cond (.t 15)
     (.skip)
     (.exit 0))
    (.block 1 (.seq (.aU [1,4,6,13] (.region none [
       ⟨none,(some 16),.ext (.t 14) 2⟩,
       ⟨none,(some 6),.bt (.t 16)⟩]))
     (.seq (.aU [1,4,13,17] (.region none [
       ⟨none,(some 17),.bt (.t 6)⟩]))
     (.block 2 (.seq (.aU [1,4,13,17,24] (.region none [
        ⟨none,(some 25),.bin .eql (.t 17) (.c (.v (.int .i32 97)))⟩,
        ⟨none,(some 24),.bt (.t 25)⟩]))
      (.cond (.t 24)
       (.aU [1,4,13] (.region none [
         ⟨none,(some 26),.bt (.t 4)⟩,
         ⟨none,(some 27),.dz 1 (.t 1)⟩,
         ⟨none,(some 28),.load none (.t 27)⟩,
         ⟨none,(some 29),.call F.strconv_Itoa [(.t 28)]⟩,
         ⟨none,(some 30),.bin .add (.c (.v (.string ⟨#[32,114]⟩))) (.t 29)⟩,
         ⟨none,(some 31),.bin .add (.t 26) (.t 30)⟩,
         ⟨none,(some 4),.bt (.t 31)⟩]))
       (.seq (.aU [1,4,13,17,32] (.region none [
         ⟨none,(some 33),.bin .eql (.t 17) (.c (.v (.int .i32 98)))⟩,
         ⟨none,(some 32),.bt (.t 33)⟩]))
       (.cond (.t 32)
        (.aU [1,4,13] (.region none [
          ⟨none,(some 34),.bt (.t 4)⟩,
          ⟨none,(some 35),.dz 2 (.t 1)⟩,
          ⟨none,(some 36),.load none (.t 35)⟩,
          ⟨none,(some 37),.call F.strconv_Itoa [(.t 36)]⟩,
          ⟨none,(some 38),.bin .add (.c (.v (.string ⟨#[32,114]⟩))) (.t 37)⟩,
          ⟨none,(some 39),.bin .add (.t 34) (.t 38)⟩,
          ⟨none,(some 4),.bt (.t 39)⟩]))
        (.seq (.aU [1,4,13,17,40] (.region none [
          ⟨none,(some 41),.bin .eql (.t 17) (.c (.v (.int .i32 99)))⟩,
          ⟨none,(some 40),.bt (.t 41)⟩]))
        (.cond (.t 40)
         (.aU [1,4,13] (.region none [
           ⟨none,(some 42),.bt (.t 4)⟩,
           ⟨none,(some 43),.dz 3 (.t 1)⟩,
           ⟨none,(some 44),.load none (.t 43)⟩,
           ⟨none,(some 45),.call F.strconv_Itoa [(.t 44)]⟩,
           ⟨none,(some 46),.bin .add (.c (.v (.string ⟨#[32,114]⟩))) (.t 45)⟩,
           ⟨none,(some 47),.bin .add (.t 42) (.t 46)⟩,
           ⟨none,(some 4),.bt (.t 47)⟩]))
         (.seq (.aU [1,4,13,48] (.region none [
           ⟨none,(some 49),.bin .eql (.t 17) (.c (.v (.int .i32 110)))⟩,
           ⟨none,(some 48),.bt (.t 49)⟩]))
         (.cond (.t 48)
          (.aU [1,4,13] (.region none [
            ⟨none,(some 50),.bt (.t 4)⟩,
            ⟨none,(some 51),.dz 4 (.t 1)⟩,
            ⟨none,(some 52),.load none (.t 51)⟩,
            ⟨none,(some 53),.call F.strconv_Itoa [(.t 52)]⟩,
            ⟨none,(some 54),.bin .add (.c (.v (.string ⟨#[32]⟩))) (.t 53)⟩,
            ⟨none,(some 55),.bin .add (.t 50) (.t 54)⟩,
            ⟨none,(some 4),.bt (.t 55)⟩]))
          (.aU [1,4,13] (.region none [
            ⟨none,(some 18),.bt (.t 4)⟩,
            ⟨none,(some 19),.dz 5 (.t 1)⟩,
            ⟨none,(some 20),.load none (.t 19)⟩,
            ⟨none,(some 21),.call F.fc [(.t 20)]⟩,
            ⟨none,(some 22),.bin .add (.c (.v (.string ⟨#[32]⟩))) (.t 21)⟩,
            ⟨none,(some 23),.bin .add (.t 18) (.t 22)⟩,
            ⟨none,(some 4),.bt (.t 23)⟩])))))))))))))))))))
  (.seq (.aU [2] (.region none [
    ⟨none,(some 56),.bt (.t 4)⟩,
    ⟨none,(some 2),.bt (.t 56)⟩]))
  (.ret)))))
theorem A.se:cFn Tryz.prog F.fJ A.fJ:=
 ⟨_,_,Tryz.func36,rfl,by kernel_rfl,rfl,by decide,by kernel_rfl,by kernel_rfl⟩
end Go.Proofs.Ab
