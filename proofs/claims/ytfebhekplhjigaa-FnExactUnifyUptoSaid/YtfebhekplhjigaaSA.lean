/-
  THE ABSTRACT CODE of some of this seat's functions, printed by a program of ours (wip/tool/Gen3.lean) from the translation; each with the theorem that it is that function's.
-/
import Derived.Test.YtfebhekplhjigaaST
set_option linter.unusedVariables false
set_option linter.unusedSimpArgs false
namespace Go.Proofs.Ab
open Go.Ab
set_option maxRecDepth 100000
def A.e9:lZ where
 cg:=3
 nt:=124
 res:=[.tmp 6]
 code:= .seq (.ai [0,1,2] (.region none [
    ⟨none,(some 6),.aq (.c (.v (.bool false)))⟩]))
  (.seq (.ai [0,1,2,7] (.region none [
    ⟨none,(some 7),.aq (.c (.v (.int .i64 1048576)))⟩]))
  (.seq (.ai [0,1,2,7] (.region none [
    ⟨none,(some 19),.aq (.t 1)⟩,
    ⟨none,(some 20),.aq (.t 7)⟩,
    ⟨none,(some 21),.call F.gd [(.t 19),(.t 20)]⟩,
    ⟨none,(some 7),.aq (.t 21)⟩]))
  (.seq (.seq (.ai [0,1,2,7,23] (.region none [
    ⟨none,(some 22),.aq (.t 7)⟩,
    ⟨none,(some 23),.bin .lss (.t 22) (.c (.v (.int .i64 0)))⟩]))
  (.cond (.t 23)
   (.seq (.ai [6] (.region none [
     ⟨none,(some 6),.aq (.c (.v (.bool true)))⟩]))
   (.ret))
   (.skip)))
  (.seq (.ai [0,1,2,7] (.region none [
    ⟨none,(some 24),.aq (.t 2)⟩,
    ⟨none,(some 25),.aq (.t 7)⟩,
    ⟨none,(some 26),.call F.gd [(.t 24),(.t 25)]⟩,
    ⟨none,(some 7),.aq (.t 26)⟩]))
  (.seq (.seq (.ai [0,1,2,28] (.region none [
    ⟨none,(some 27),.aq (.t 7)⟩,
    ⟨none,(some 28),.bin .lss (.t 27) (.c (.v (.int .i64 0)))⟩]))
  (.cond (.t 28)
   (.seq (.ai [6] (.region none [
     ⟨none,(some 6),.aq (.c (.v (.bool true)))⟩]))
   (.ret))
   (.skip)))
  (.seq (.ai [0,1,2,8,9] (.region none [
    ⟨none,(some 30),.aq (.t 0)⟩,
    ⟨none,(some 31),.aq (.t 1)⟩,
    ⟨none,(some 32),.call F.bK [(.t 31)]⟩,
    ⟨none,(some 33),.aq (.t 2)⟩,
    ⟨none,(some 34),.call F.bK [(.t 33)]⟩,
    ⟨none,(some 35),.call F.gX [(.t 30),(.t 32),(.t 34)]⟩,
    ⟨none,(some 29),.aq (.t 35)⟩,
    ⟨none,(some 36),.ext (.t 29) 0⟩,
    ⟨none,(some 37),.ext (.t 29) 1⟩,
    ⟨none,(some 8),.aq (.t 36)⟩,
    ⟨none,(some 9),.aq (.t 37)⟩]))
  (.seq (.ai [0,1,2,8,9,10] (.region none [
    ⟨none,(some 38),.aq (.t 1)⟩,
    ⟨none,(some 39),.call F.bK [(.t 38)]⟩,
    ⟨none,(some 10),.aq (.t 39)⟩]))
  (.seq (.ai [0,1,2,8,9,10,11] (.region none [
    ⟨none,(some 40),.aq (.t 2)⟩,
    ⟨none,(some 41),.call F.bK [(.t 40)]⟩,
    ⟨none,(some 11),.aq (.t 41)⟩]))
  (.seq (.ai [0,1,2,8,9,10,11,12,13] (.region none [
    ⟨none,(some 43),.aq (.t 0)⟩,
    ⟨none,(some 44),.aq (.t 10)⟩,
    ⟨none,(some 45),.aq (.t 11)⟩,
    ⟨none,(some 46),.call F.fo [(.t 43),(.t 44),(.t 45)]⟩,
    ⟨none,(some 42),.aq (.t 46)⟩,
    ⟨none,(some 47),.ext (.t 42) 0⟩,
    ⟨none,(some 48),.ext (.t 42) 1⟩,
    ⟨none,(some 12),.aq (.t 47)⟩,
    ⟨none,(some 13),.aq (.t 48)⟩]))
  (.seq (.seq (.ai [0,1,2,8,9,10,11,12,13,57] (.region none [
    ⟨none,(some 49),.aq (.t 12)⟩,
    ⟨none,(some 50),.aq (.t 8)⟩,
    ⟨none,(some 51),.call F.dQ [(.t 49),(.t 50)]⟩,
    ⟨none,(some 52),.un .not (.t 51)⟩,
    ⟨none,(some 53),.aq (.t 52)⟩,
    ⟨(some (53,false)),(some 54),.aq (.t 13)⟩,
    ⟨(some (53,false)),(some 55),.aq (.t 9)⟩,
    ⟨(some (53,false)),(some 56),.bin .neq (.t 54) (.t 55)⟩,
    ⟨none,(some 57),.pick (.t 53) (.c (.v (.bool true))) (.t 56)⟩]))
  (.cond (.t 57)
   (.seq (.ai [6] (.region none [
     ⟨none,(some 6),.aq (.c (.v (.bool false)))⟩]))
   (.ret))
   (.skip)))
  (.seq (.seq (.ai [0,1,2,8,9,10,11,12,13,62] (.region none [
    ⟨none,(some 58),.aq (.t 10)⟩,
    ⟨none,(some 59),.aq (.t 1)⟩,
    ⟨none,(some 60),.call F.bK [(.t 59)]⟩,
    ⟨none,(some 61),.call F.dQ [(.t 58),(.t 60)]⟩,
    ⟨none,(some 62),.un .not (.t 61)⟩]))
  (.cond (.t 62)
   (.seq (.ai [6] (.region none [
     ⟨none,(some 6),.aq (.c (.v (.bool false)))⟩]))
   (.ret))
   (.skip)))
  (.seq (.seq (.ai [0,1,2,8,9,10,11,12,13,67] (.region none [
    ⟨none,(some 63),.aq (.t 11)⟩,
    ⟨none,(some 64),.aq (.t 2)⟩,
    ⟨none,(some 65),.call F.bK [(.t 64)]⟩,
    ⟨none,(some 66),.call F.dQ [(.t 63),(.t 65)]⟩,
    ⟨none,(some 67),.un .not (.t 66)⟩]))
  (.cond (.t 67)
   (.seq (.ai [6] (.region none [
     ⟨none,(some 6),.aq (.c (.v (.bool false)))⟩]))
   (.ret))
   (.skip)))
  (.seq (.ai [0,1,2,8,9,10,11,12,13,14] (.region none [
    ⟨none,(some 14),.aq (.c (.v (.int .i64 1)))⟩]))
  (.seq (.ai [0,1,2,8,9,11,12,13,14] (.region none [
    ⟨none,(some 68),.aq (.t 10)⟩,
    ⟨none,(some 69),.aq (.t 14)⟩,
    ⟨none,(some 70),.call F.cp [(.t 68),(.t 69)]⟩,
    ⟨none,(some 14),.aq (.t 70)⟩]))
  (.seq (.ai [0,1,2,8,9,12,13,14] (.region none [
    ⟨none,(some 71),.aq (.t 11)⟩,
    ⟨none,(some 72),.aq (.t 14)⟩,
    ⟨none,(some 73),.call F.cp [(.t 71),(.t 72)]⟩,
    ⟨none,(some 14),.aq (.t 73)⟩]))
  (.seq (.seq (.ai [0,1,2,8,9,12,86] (.region none [
    ⟨none,(some 74),.aq (.t 14)⟩,
    ⟨none,(some 75),.bin .lss (.t 74) (.c (.v (.int .i64 0)))⟩,
    ⟨none,(some 76),.aq (.t 75)⟩,
    ⟨(some (76,false)),(some 77),.aq (.t 12)⟩,
    ⟨(some (76,false)),(some 78),.aq (.t 8)⟩,
    ⟨(some (76,false)),(some 79),.call F.dQ [(.t 77),(.t 78)]⟩,
    ⟨(some (76,false)),(some 80),.un .not (.t 79)⟩,
    ⟨none,(some 81),.pick (.t 76) (.c (.v (.bool true))) (.t 80)⟩,
    ⟨none,(some 82),.aq (.t 81)⟩,
    ⟨(some (82,false)),(some 83),.aq (.t 13)⟩,
    ⟨(some (82,false)),(some 84),.aq (.t 9)⟩,
    ⟨(some (82,false)),(some 85),.bin .neq (.t 83) (.t 84)⟩,
    ⟨none,(some 86),.pick (.t 82) (.c (.v (.bool true))) (.t 85)⟩]))
  (.cond (.t 86)
   (.seq (.ai [6] (.region none [
     ⟨none,(some 6),.aq (.c (.v (.bool false)))⟩]))
   (.ret))
   (.skip)))
  (.seq (.ai [0,1,2,8,9,12,15] (.region none [
    ⟨none,(some 15),.aq (.c (.v (.int .i64 1)))⟩]))
  (.seq (.ai [0,1,2,8,9,12,15] (.region none [
    ⟨none,(some 87),.aq (.t 12)⟩,
    ⟨none,(some 88),.aq (.t 15)⟩,
    ⟨none,(some 89),.call F.cp [(.t 87),(.t 88)]⟩,
    ⟨none,(some 15),.aq (.t 89)⟩]))
  (.seq (.ai [0,1,2,8,9,12,15,16] (.region none [
    ⟨none,(some 16),.aq (.c (.v (.int .i64 1)))⟩]))
  (.seq (.ai [0,1,2,8,9,12,15,16] (.region none [
    ⟨none,(some 90),.aq (.t 12)⟩,
    ⟨none,(some 91),.aq (.t 16)⟩,
    ⟨none,(some 92),.call F.eb [(.t 90),(.t 91)]⟩,
    ⟨none,(some 16),.aq (.t 92)⟩]))
  (.seq (.seq (.ai [0,1,2,8,9,12,15,16,94] (.region none [
    ⟨none,(some 93),.aq (.t 16)⟩,
    ⟨none,(some 94),.bin .lss (.t 93) (.c (.v (.int .i64 0)))⟩]))
  (.cond (.t 94)
   (.seq (.ai [6] (.region none [
     ⟨none,(some 6),.aq (.c (.v (.bool false)))⟩]))
   (.ret))
   (.skip)))
  (.seq (.seq (.ai [0,1,2,8,9,12,15,97] (.region none [
    ⟨none,(some 95),.aq (.t 16)⟩,
    ⟨none,(some 96),.aq (.t 15)⟩,
    ⟨none,(some 97),.bin .neq (.t 95) (.t 96)⟩]))
  (.cond (.t 97)
   (.seq (.ai [6] (.region none [
     ⟨none,(some 6),.aq (.c (.v (.bool false)))⟩]))
   (.ret))
   (.skip)))
  (.seq (.ai [8,9,12,15,17,18] (.region none [
    ⟨none,(some 99),.aq (.t 0)⟩,
    ⟨none,(some 100),.aq (.t 1)⟩,
    ⟨none,(some 101),.call F.bK [(.t 100)]⟩,
    ⟨none,(some 102),.aq (.t 2)⟩,
    ⟨none,(some 103),.call F.bK [(.t 102)]⟩,
    ⟨none,(some 104),.call F.fo [(.t 99),(.t 101),(.t 103)]⟩,
    ⟨none,(some 98),.aq (.t 104)⟩,
    ⟨none,(some 105),.ext (.t 98) 0⟩,
    ⟨none,(some 106),.ext (.t 98) 1⟩,
    ⟨none,(some 17),.aq (.t 105)⟩,
    ⟨none,(some 18),.aq (.t 106)⟩]))
  (.seq (.seq (.ai [12,15,115] (.region none [
    ⟨none,(some 107),.aq (.t 17)⟩,
    ⟨none,(some 108),.aq (.t 8)⟩,
    ⟨none,(some 109),.call F.dQ [(.t 107),(.t 108)]⟩,
    ⟨none,(some 110),.un .not (.t 109)⟩,
    ⟨none,(some 111),.aq (.t 110)⟩,
    ⟨(some (111,false)),(some 112),.aq (.t 18)⟩,
    ⟨(some (111,false)),(some 113),.aq (.t 9)⟩,
    ⟨(some (111,false)),(some 114),.bin .neq (.t 112) (.t 113)⟩,
    ⟨none,(some 115),.pick (.t 111) (.c (.v (.bool true))) (.t 114)⟩]))
  (.cond (.t 115)
   (.seq (.ai [6] (.region none [
     ⟨none,(some 6),.aq (.c (.v (.bool false)))⟩]))
   (.ret))
   (.skip)))
  (.seq (.ai [12,15,16] (.region none [
    ⟨none,(some 16),.aq (.c (.v (.int .i64 1)))⟩]))
  (.seq (.ai [15,16] (.region none [
    ⟨none,(some 116),.aq (.t 12)⟩,
    ⟨none,(some 117),.aq (.t 16)⟩,
    ⟨none,(some 118),.call F.eb [(.t 116),(.t 117)]⟩,
    ⟨none,(some 16),.aq (.t 118)⟩]))
  (.seq (.seq (.ai [15,16,120] (.region none [
    ⟨none,(some 119),.aq (.t 16)⟩,
    ⟨none,(some 120),.bin .lss (.t 119) (.c (.v (.int .i64 0)))⟩]))
  (.cond (.t 120)
   (.seq (.ai [6] (.region none [
     ⟨none,(some 6),.aq (.c (.v (.bool false)))⟩]))
   (.ret))
   (.skip)))
  (.seq (.seq (.ai [123] (.region none [
    ⟨none,(some 121),.aq (.t 16)⟩,
    ⟨none,(some 122),.aq (.t 15)⟩,
    ⟨none,(some 123),.bin .neq (.t 121) (.t 122)⟩]))
  (.cond (.t 123)
   (.seq (.ai [6] (.region none [
     ⟨none,(some 6),.aq (.c (.v (.bool false)))⟩]))
   (.ret))
   (.skip)))
  (.seq (.ai [6] (.region none [
    ⟨none,(some 6),.aq (.c (.v (.bool true)))⟩]))
  (.ret))))))))))))))))))))))))))))))
theorem A.sX:rK Try.prog F.e9 A.e9:=
 ⟨_,_,Try.func5,rfl,by kernel_rfl,rfl,by decide,by kernel_rfl,by kernel_rfl⟩
def A.ey:lZ where
 cg:=1
 nt:=18
 res:=[.cell 2 (some 4)]
 code:= .seq (.ai [1,2] (.region none [
   ⟨none,(some 1),.box 24 4 (.t 0)⟩,
   ⟨none,(some 2),.alloc 29 4 (.agg [(.v (.int .i64 0)),(.v (.int .i64 0)),(.v (.string ⟨#[]⟩)),.aA])⟩]))
  (.seq (.ai [1,2,3] (.region none [
    ⟨none,(some 3),.alloc 29 4 (.agg [(.v (.int .i64 0)),(.v (.int .i64 0)),(.v (.string ⟨#[]⟩)),.aA])⟩]))
  (.seq (.ai [1,2,3] (.region none [
    ⟨none,(some 4),.aB 0 (.t 1)⟩,
    ⟨none,(some 5),.load none (.t 4)⟩,
    ⟨none,(some 6),.aB 0 (.t 3)⟩,
    ⟨none,none,.store 1 (.t 6) (.t 5)⟩]))
  (.seq (.ai [1,2,3] (.region none [
    ⟨none,(some 7),.aB 1 (.t 1)⟩,
    ⟨none,(some 8),.load none (.t 7)⟩,
    ⟨none,(some 9),.aB 1 (.t 3)⟩,
    ⟨none,none,.store 1 (.t 9) (.t 8)⟩]))
  (.seq (.ai [1,2,3] (.region none [
    ⟨none,(some 10),.aB 2 (.t 1)⟩,
    ⟨none,(some 11),.load none (.t 10)⟩,
    ⟨none,(some 12),.aB 2 (.t 3)⟩,
    ⟨none,none,.store 1 (.t 12) (.t 11)⟩]))
  (.seq (.ai [2,3] (.region none [
    ⟨none,(some 13),.aB 3 (.t 1)⟩,
    ⟨none,(some 14),.load none (.t 13)⟩,
    ⟨none,(some 15),.call F.bK [(.t 14)]⟩,
    ⟨none,(some 16),.aB 3 (.t 3)⟩,
    ⟨none,none,.store 1 (.t 16) (.t 15)⟩]))
  (.seq (.ai [2] (.region none [
    ⟨none,(some 17),.load (some 4) (.t 3)⟩,
    ⟨none,none,.store 4 (.t 2) (.t 17)⟩]))
  (.ret)))))))
theorem A.ae1:rK Try.prog F.ey A.ey:=
 ⟨_,_,Try.func9,rfl,by kernel_rfl,rfl,by decide,by kernel_rfl,by kernel_rfl⟩
def A.bK:lZ where
 cg:=1
 nt:=23
 res:=[.tmp 2]
 code:= .seq (.ai [0] (.region none [
   ⟨none,(some 2),.aq (.c .aA)⟩]))
  (.seq (.ai [0,3] (.region none [
    ⟨none,(some 5),.aq (.t 0)⟩,
    ⟨none,(some 6),.bl (.t 5)⟩,
    ⟨none,(some 7),.mk 29 4 56 (.agg [(.v (.int .i64 0)),(.v (.int .i64 0)),(.v (.string ⟨#[]⟩)),.aA]) (.t 6) (.t 6)⟩,
    ⟨none,(some 3),.aq (.t 7)⟩]))
  (.seq (.seq (.ai [0,3,4] (.region none [
    ⟨none,(some 4),.aq (.c (.v (.int .i64 0)))⟩]))
  (.block 0 (.loop (.seq (.seq (.ai [0,3,4,11] (.region none [
     ⟨none,(some 8),.aq (.t 4)⟩,
     ⟨none,(some 9),.aq (.t 0)⟩,
     ⟨none,(some 10),.bl (.t 9)⟩,
     ⟨none,(some 11),.bin .lss (.t 8) (.t 10)⟩]))
    (.cond (.t 11)
     (.skip)
     (.exit 0)))
    (.seq (.block 1 (.ai [0,3,4] (.region none [
     ⟨none,(some 14),.aq (.t 3)⟩,
     ⟨none,(some 15),.aq (.t 4)⟩,
     ⟨none,(some 16),.aq (.t 0)⟩,
     ⟨none,(some 17),.aq (.t 4)⟩,
     ⟨none,(some 18),.bg 4 (.t 16) (.t 17)⟩,
     ⟨none,(some 19),.load (some 4) (.t 18)⟩,
     ⟨none,(some 20),.call F.ey [(.t 19)]⟩,
     ⟨none,(some 21),.bg 4 (.t 14) (.t 15)⟩,
     ⟨none,none,.store 4 (.t 21) (.t 20)⟩])))
    (.ai [0,3,4] (.region none [
      ⟨none,(some 12),.aq (.t 4)⟩,
      ⟨none,(some 13),.bin .add (.t 12) (.c (.v (.int .i64 1)))⟩,
      ⟨none,(some 4),.aq (.t 13)⟩])))))))
  (.seq (.ai [2] (.region none [
    ⟨none,(some 22),.aq (.t 3)⟩,
    ⟨none,(some 2),.aq (.t 22)⟩]))
  (.ret))))
theorem A.uN:rK Try.prog F.bK A.bK:=
 ⟨_,_,Try.func23,rfl,by kernel_rfl,rfl,by decide,by kernel_rfl,by kernel_rfl⟩
def A.cp:lZ where
 cg:=2
 nt:=42
 res:=[.tmp 4]
 code:= .seq (.ai [0,1] (.region none [
   ⟨none,(some 4),.aq (.c (.v (.int .i64 0)))⟩]))
  (.seq (.seq (.ai [0,1,5] (.region none [
    ⟨none,(some 5),.aq (.c (.v (.int .i64 0)))⟩]))
  (.block 0 (.loop (.seq (.seq (.ai [0,1,5,9] (.region none [
     ⟨none,(some 6),.aq (.t 5)⟩,
     ⟨none,(some 7),.aq (.t 0)⟩,
     ⟨none,(some 8),.bl (.t 7)⟩,
     ⟨none,(some 9),.bin .lss (.t 6) (.t 8)⟩]))
    (.cond (.t 9)
     (.skip)
     (.exit 0)))
    (.seq (.block 1 (.seq (.ai [0,1,5] (.region none [
      ⟨none,(some 12),.aq (.t 0)⟩,
      ⟨none,(some 13),.aq (.t 5)⟩,
      ⟨none,(some 14),.aq (.t 1)⟩,
      ⟨none,(some 15),.bg 4 (.t 12) (.t 13)⟩,
      ⟨none,(some 16),.aB 0 (.t 15)⟩,
      ⟨none,none,.store 1 (.t 16) (.t 14)⟩]))
     (.seq (.ai [0,1,5] (.region none [
       ⟨none,(some 17),.aq (.t 1)⟩,
       ⟨none,(some 18),.bin .add (.t 17) (.c (.v (.int .i64 1)))⟩,
       ⟨none,(some 1),.aq (.t 18)⟩]))
     (.seq (.ai [0,1,5] (.region none [
       ⟨none,(some 19),.aq (.t 0)⟩,
       ⟨none,(some 20),.aq (.t 5)⟩,
       ⟨none,(some 21),.aq (.t 1)⟩,
       ⟨none,(some 22),.bg 4 (.t 19) (.t 20)⟩,
       ⟨none,(some 23),.aB 1 (.t 22)⟩,
       ⟨none,none,.store 1 (.t 23) (.t 21)⟩]))
     (.seq (.ai [0,1,5] (.region none [
       ⟨none,(some 24),.aq (.t 1)⟩,
       ⟨none,(some 25),.bin .add (.t 24) (.c (.v (.int .i64 1)))⟩,
       ⟨none,(some 1),.aq (.t 25)⟩]))
     (.seq (.ai [0,1,5] (.region none [
       ⟨none,(some 26),.aq (.t 0)⟩,
       ⟨none,(some 27),.aq (.t 5)⟩,
       ⟨none,(some 28),.aq (.t 1)⟩,
       ⟨none,(some 29),.call F.eo [(.t 28)]⟩,
       ⟨none,(some 30),.bg 4 (.t 26) (.t 27)⟩,
       ⟨none,(some 31),.aB 2 (.t 30)⟩,
       ⟨none,none,.store 1 (.t 31) (.t 29)⟩]))
     (.seq (.ai [0,1,5] (.region none [
       ⟨none,(some 32),.aq (.t 1)⟩,
       ⟨none,(some 33),.bin .add (.t 32) (.c (.v (.int .i64 1)))⟩,
       ⟨none,(some 1),.aq (.t 33)⟩]))
     (.ai [0,1,5] (.region none [
       ⟨none,(some 34),.aq (.t 0)⟩,
       ⟨none,(some 35),.aq (.t 5)⟩,
       ⟨none,(some 36),.bg 4 (.t 34) (.t 35)⟩,
       ⟨none,(some 37),.aB 3 (.t 36)⟩,
       ⟨none,(some 38),.load none (.t 37)⟩,
       ⟨none,(some 39),.aq (.t 1)⟩,
       ⟨none,(some 40),.call F.cp [(.t 38),(.t 39)]⟩,
       ⟨none,(some 1),.aq (.t 40)⟩])))))))))
    (.ai [0,1,5] (.region none [
      ⟨none,(some 10),.aq (.t 5)⟩,
      ⟨none,(some 11),.bin .add (.t 10) (.c (.v (.int .i64 1)))⟩,
      ⟨none,(some 5),.aq (.t 11)⟩])))))))
  (.seq (.ai [4] (.region none [
    ⟨none,(some 41),.aq (.t 1)⟩,
    ⟨none,(some 4),.aq (.t 41)⟩]))
  (.ret)))
theorem A.mE:rK Try.prog F.cp A.cp:=
 ⟨_,_,Try.func25,rfl,by kernel_rfl,rfl,by decide,by kernel_rfl,by kernel_rfl⟩
end Go.Proofs.Ab
