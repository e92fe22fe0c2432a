/-
  THE ABSTRACT CODE of some of this seat's functions, printed by a program of ours (wip/tool/Gen3.lean) from the translation; each with the theorem that it is that function's.
-/
import Derived.Test.YtfebhekplhjigaaST
set_option linter.unusedSimpArgs false
set_option linter.unusedVariables false
namespace Go.Proofs.Ab
open Go.Ab
set_option maxRecDepth 100000
def A.ji:mo where
 cT:=3
 nt:=118
 res:=[.tmp 6,.tmp 7]
 code:= .seq (.ar [0,1,2] (.region none [
    ⟨none,(some 6),.aA (.c .aw)⟩,
    ⟨none,(some 7),.aA (.c (.v (.int .i64 0)))⟩]))
  (.seq (.ar [0,1,2,8] (.region none [
    ⟨none,(some 17),.buildSlice 29 4 0 (.agg [(.v (.int .i64 0)),(.v (.int .i64 0)),(.v (.string ⟨#[]⟩)),.aw]) []⟩,
    ⟨none,(some 8),.aA (.t 17)⟩]))
  (.seq (.seq (.ar [0,1,2,8,44] (.region none [
    ⟨none,(some 18),.aA (.t 0)⟩,
    ⟨none,(some 19),.call F.eZ [(.t 18),(.c (.v (.int .i64 0))),(.c (.v (.int .i64 300)))]⟩,
    ⟨none,(some 20),.un .not (.t 19)⟩,
    ⟨none,(some 21),.aA (.t 20)⟩,
    ⟨(some (21,false)),(some 22),.aA (.t 1)⟩,
    ⟨(some (21,false)),(some 23),.bm (.t 22)⟩,
    ⟨(some (21,false)),(some 24),.aA (.t 2)⟩,
    ⟨(some (21,false)),(some 25),.bm (.t 24)⟩,
    ⟨(some (21,false)),(some 26),.bin .neq (.t 23) (.t 25)⟩,
    ⟨none,(some 27),.pick (.t 21) (.c (.v (.bool true))) (.t 26)⟩,
    ⟨none,(some 28),.aA (.t 27)⟩,
    ⟨(some (28,false)),(some 29),.aA (.t 1)⟩,
    ⟨(some (28,false)),(some 30),.bm (.t 29)⟩,
    ⟨(some (28,false)),(some 31),.bin .gtr (.t 30) (.c (.v (.int .i64 200)))⟩,
    ⟨none,(some 32),.pick (.t 28) (.c (.v (.bool true))) (.t 31)⟩,
    ⟨none,(some 33),.aA (.t 32)⟩,
    ⟨(some (33,false)),(some 34),.aA (.t 1)⟩,
    ⟨(some (33,false)),(some 35),.aA (.t 0)⟩,
    ⟨(some (33,false)),(some 36),.call F.fb [(.t 34),(.t 35)]⟩,
    ⟨(some (33,false)),(some 37),.un .not (.t 36)⟩,
    ⟨none,(some 38),.pick (.t 33) (.c (.v (.bool true))) (.t 37)⟩,
    ⟨none,(some 39),.aA (.t 38)⟩,
    ⟨(some (39,false)),(some 40),.aA (.t 2)⟩,
    ⟨(some (39,false)),(some 41),.aA (.t 0)⟩,
    ⟨(some (39,false)),(some 42),.call F.fb [(.t 40),(.t 41)]⟩,
    ⟨(some (39,false)),(some 43),.un .not (.t 42)⟩,
    ⟨none,(some 44),.pick (.t 39) (.c (.v (.bool true))) (.t 43)⟩]))
  (.cond (.t 44)
   (.seq (.ar [6,7] (.region none [
     ⟨none,(some 45),.aA (.t 8)⟩,
     ⟨none,(some 6),.aA (.t 45)⟩,
     ⟨none,(some 7),.aA (.c (.v (.int .i64 1)))⟩]))
   (.ret))
   (.skip)))
  (.seq (.ar [0,1,2,8,9] (.region none [
    ⟨none,(some 46),.aA (.t 0)⟩,
    ⟨none,(some 47),.call F.gl [(.t 46)]⟩,
    ⟨none,(some 9),.aA (.t 47)⟩]))
  (.seq (.seq (.ar [0,1,2,8,9,10] (.region none [
    ⟨none,(some 10),.aA (.c (.v (.int .i64 0)))⟩]))
  (.block 0 (.loop (.seq (.seq (.ar [0,1,2,8,9,10,51] (.region none [
     ⟨none,(some 48),.aA (.t 10)⟩,
     ⟨none,(some 49),.aA (.t 1)⟩,
     ⟨none,(some 50),.bm (.t 49)⟩,
     ⟨none,(some 51),.bin .lss (.t 48) (.t 50)⟩]))
    (.cond (.t 51)
     (.skip)
     (.exit 0)))
    (.seq (.block 1 (.seq (.ar [0,1,2,8,9,10,11] (.region none [
       ⟨none,(some 54),.aA (.t 9)⟩,
       ⟨none,(some 55),.aA (.t 1)⟩,
       ⟨none,(some 56),.aA (.t 10)⟩,
       ⟨none,(some 57),.bJ 4 (.t 55) (.t 56)⟩,
       ⟨none,(some 58),.load (some 4) (.t 57)⟩,
       ⟨none,(some 59),.call F.fw [(.t 54),(.t 58)]⟩,
       ⟨none,(some 11),.aA (.t 59)⟩]))
     (.seq (.ar [0,1,2,8,9,10,11,12] (.region none [
       ⟨none,(some 60),.aA (.t 9)⟩,
       ⟨none,(some 61),.aA (.t 2)⟩,
       ⟨none,(some 62),.aA (.t 10)⟩,
       ⟨none,(some 63),.bJ 4 (.t 61) (.t 62)⟩,
       ⟨none,(some 64),.load (some 4) (.t 63)⟩,
       ⟨none,(some 65),.call F.fw [(.t 60),(.t 64)]⟩,
       ⟨none,(some 12),.aA (.t 65)⟩]))
     (.seq (.ar [0,1,2,8,9,10,70] (.region none [
       ⟨none,(some 66),.aA (.t 9)⟩,
       ⟨none,(some 67),.aA (.t 11)⟩,
       ⟨none,(some 68),.aA (.t 12)⟩,
       ⟨none,(some 69),.call F.fT [(.t 66),(.t 67),(.t 68)]⟩,
       ⟨none,(some 70),.un .not (.t 69)⟩]))
     (.cond (.t 70)
      (.seq (.ar [6,7] (.region none [
        ⟨none,(some 71),.aA (.t 8)⟩,
        ⟨none,(some 6),.aA (.t 71)⟩,
        ⟨none,(some 7),.aA (.c (.v (.int .i64 2)))⟩]))
      (.ret))
      (.skip))))))
    (.ar [0,1,2,8,9,10] (.region none [
      ⟨none,(some 52),.aA (.t 10)⟩,
      ⟨none,(some 53),.bin .add (.t 52) (.c (.v (.int .i64 1)))⟩,
      ⟨none,(some 10),.aA (.t 53)⟩])))))))
  (.seq (.ar [0,8,9,13] (.region none [
    ⟨none,(some 72),.aA (.t 9)⟩,
    ⟨none,(some 73),.ca (.t 72)⟩,
    ⟨none,(some 74),.aK 2 (.t 73)⟩,
    ⟨none,(some 75),.load none (.t 74)⟩,
    ⟨none,(some 76),.bm (.t 75)⟩,
    ⟨none,(some 77),.mk 3 1 8 (.v (.int .i64 0)) (.t 76) (.t 76)⟩,
    ⟨none,(some 13),.aA (.t 77)⟩]))
  (.seq (.seq (.ar [0,8,9,13,14] (.region none [
    ⟨none,(some 14),.aA (.c (.v (.int .i64 0)))⟩]))
  (.block 2 (.loop (.seq (.seq (.ar [0,8,9,13,14,84] (.region none [
     ⟨none,(some 78),.aA (.t 14)⟩,
     ⟨none,(some 79),.aA (.t 9)⟩,
     ⟨none,(some 80),.ca (.t 79)⟩,
     ⟨none,(some 81),.aK 2 (.t 80)⟩,
     ⟨none,(some 82),.load none (.t 81)⟩,
     ⟨none,(some 83),.bm (.t 82)⟩,
     ⟨none,(some 84),.bin .lss (.t 78) (.t 83)⟩]))
    (.cond (.t 84)
     (.skip)
     (.exit 2)))
    (.seq (.block 3 (.seq (.ar [0,8,9,13,14,91] (.region none [
       ⟨none,(some 87),.aA (.t 9)⟩,
       ⟨none,(some 88),.aA (.t 14)⟩,
       ⟨none,(some 89),.aA (.t 13)⟩,
       ⟨none,(some 90),.call F.fa [(.t 87),(.t 88),(.t 89),(.c (.v (.int .i64 201)))]⟩,
       ⟨none,(some 91),.un .not (.t 90)⟩]))
     (.cond (.t 91)
      (.seq (.ar [6,7] (.region none [
        ⟨none,(some 92),.aA (.t 8)⟩,
        ⟨none,(some 6),.aA (.t 92)⟩,
        ⟨none,(some 7),.aA (.c (.v (.int .i64 2)))⟩]))
      (.ret))
      (.skip))))
    (.ar [0,8,9,13,14] (.region none [
      ⟨none,(some 85),.aA (.t 14)⟩,
      ⟨none,(some 86),.bin .add (.t 85) (.c (.v (.int .i64 1)))⟩,
      ⟨none,(some 14),.aA (.t 86)⟩])))))))
  (.seq (.seq (.ar [0,8,9,13,15] (.region none [
    ⟨none,(some 15),.aA (.c (.v (.int .i64 0)))⟩]))
  (.block 4 (.loop (.seq (.seq (.ar [0,8,9,13,15,95] (.region none [
     ⟨none,(some 93),.aA (.t 15)⟩,
     ⟨none,(some 94),.aA (.t 0)⟩,
     ⟨none,(some 95),.bin .lss (.t 93) (.t 94)⟩]))
    (.cond (.t 95)
     (.skip)
     (.exit 4)))
    (.seq (.block 5 (.seq (.ar [0,8,9,13,15,104] (.region none [
       ⟨none,(some 98),.aA (.t 13)⟩,
       ⟨none,(some 99),.aA (.t 9)⟩,
       ⟨none,(some 100),.aA (.t 15)⟩,
       ⟨none,(some 101),.call F.dO [(.t 99),(.t 100)]⟩,
       ⟨none,(some 102),.bJ 1 (.t 98) (.t 101)⟩,
       ⟨none,(some 103),.load none (.t 102)⟩,
       ⟨none,(some 104),.bin .gtr (.t 103) (.c (.v (.int .i64 200)))⟩]))
     (.cond (.t 104)
      (.seq (.ar [6,7] (.region none [
        ⟨none,(some 105),.aA (.t 8)⟩,
        ⟨none,(some 6),.aA (.t 105)⟩,
        ⟨none,(some 7),.aA (.c (.v (.int .i64 3)))⟩]))
      (.ret))
      (.skip))))
    (.ar [0,8,9,13,15] (.region none [
      ⟨none,(some 96),.aA (.t 15)⟩,
      ⟨none,(some 97),.bin .add (.t 96) (.c (.v (.int .i64 1)))⟩,
      ⟨none,(some 15),.aA (.t 97)⟩])))))))
  (.seq (.seq (.ar [0,8,9,16] (.region none [
    ⟨none,(some 16),.aA (.c (.v (.int .i64 0)))⟩]))
  (.block 6 (.loop (.seq (.seq (.ar [0,8,9,16,108] (.region none [
     ⟨none,(some 106),.aA (.t 16)⟩,
     ⟨none,(some 107),.aA (.t 0)⟩,
     ⟨none,(some 108),.bin .lss (.t 106) (.t 107)⟩]))
    (.cond (.t 108)
     (.skip)
     (.exit 6)))
    (.seq (.block 7 (.ar [0,8,9,16] (.region none [
     ⟨none,(some 111),.aA (.t 8)⟩,
     ⟨none,(some 112),.aA (.t 9)⟩,
     ⟨none,(some 113),.aA (.t 16)⟩,
     ⟨none,(some 114),.call F.fc [(.t 112),(.t 113)]⟩,
     ⟨none,(some 115),.buildSlice 29 4 1 (.agg [(.v (.int .i64 0)),(.v (.int .i64 0)),(.v (.string ⟨#[]⟩)),.aw]) [(0,(.t 114))]⟩,
     ⟨none,(some 116),.app 29 4 56 (.t 111) (.t 115)⟩,
     ⟨none,(some 8),.aA (.t 116)⟩])))
    (.ar [0,8,9,16] (.region none [
      ⟨none,(some 109),.aA (.t 16)⟩,
      ⟨none,(some 110),.bin .add (.t 109) (.c (.v (.int .i64 1)))⟩,
      ⟨none,(some 16),.aA (.t 110)⟩])))))))
  (.seq (.ar [6,7] (.region none [
    ⟨none,(some 117),.aA (.t 8)⟩,
    ⟨none,(some 6),.aA (.t 117)⟩,
    ⟨none,(some 7),.aA (.c (.v (.int .i64 0)))⟩]))
  (.ret))))))))))
theorem A.aaW:rj Try.prog F.ji A.ji:=
 ⟨_,_,Try.func22,rfl,by kernel_rfl,rfl,by decide,by kernel_rfl,by kernel_rfl⟩
def A.gl:mo where
 cT:=1
 nt:=18
 res:=[.tmp 2]
 code:= .seq (.ar [0] (.region none [
   ⟨none,(some 2),.aA (.c (.v (.pointer none)))⟩]))
  (.seq (.ar [0,3] (.region none [
    ⟨none,(some 5),.build [.aw,.aw,.aw] []⟩,
    ⟨none,(some 6),.box 85 3 (.t 5)⟩,
    ⟨none,(some 3),.aA (.t 6)⟩]))
  (.seq (.seq (.ar [0,3,4] (.region none [
    ⟨none,(some 4),.aA (.c (.v (.int .i64 0)))⟩]))
  (.block 0 (.loop (.seq (.seq (.ar [0,3,4,9] (.region none [
     ⟨none,(some 7),.aA (.t 4)⟩,
     ⟨none,(some 8),.aA (.t 0)⟩,
     ⟨none,(some 9),.bin .lss (.t 7) (.t 8)⟩]))
    (.cond (.t 9)
     (.skip)
     (.exit 0)))
    (.seq (.block 1 (.ar [0,3,4] (.region none [
     ⟨none,(some 12),.aA (.t 3)⟩,
     ⟨none,(some 13),.aA (.t 4)⟩,
     ⟨none,(some 14),.build [(.v (.int .i64 0)),(.v (.int .i64 0)),(.v (.string ⟨#[]⟩)),.aw] [(0,1,(.c (.v (.int .i64 11)))),(1,1,(.t 13))]⟩,
     ⟨none,(some 15),.buildSlice 3 1 0 (.v (.int .i64 0)) []⟩,
     ⟨none,(some 16),.call F.hT [(.t 12),(.t 14),(.t 15)]⟩])))
    (.ar [0,3,4] (.region none [
      ⟨none,(some 10),.aA (.t 4)⟩,
      ⟨none,(some 11),.bin .add (.t 10) (.c (.v (.int .i64 1)))⟩,
      ⟨none,(some 4),.aA (.t 11)⟩])))))))
  (.seq (.ar [2] (.region none [
    ⟨none,(some 17),.aA (.t 3)⟩,
    ⟨none,(some 2),.aA (.t 17)⟩]))
  (.ret))))
theorem A.wB:rj Try.prog F.gl A.gl:=
 ⟨_,_,Try.func54,rfl,by kernel_rfl,rfl,by decide,by kernel_rfl,by kernel_rfl⟩
def A.fw:mo where
 cT:=2
 nt:=34
 res:=[.tmp 4]
 code:= .seq (.ar [0,3] (.region none [
    ⟨none,(some 3),.box 29 4 (.t 1)⟩,
    ⟨none,(some 4),.aA (.c (.v (.int .i64 0)))⟩]))
  (.seq (.seq (.ar [0,3,9] (.region none [
    ⟨none,(some 7),.aK 0 (.t 3)⟩,
    ⟨none,(some 8),.load none (.t 7)⟩,
    ⟨none,(some 9),.bin .eql (.t 8) (.c (.v (.int .i64 11)))⟩]))
  (.cond (.t 9)
   (.seq (.ar [4] (.region none [
     ⟨none,(some 10),.aK 1 (.t 3)⟩,
     ⟨none,(some 11),.load none (.t 10)⟩,
     ⟨none,(some 4),.aA (.t 11)⟩]))
   (.ret))
   (.skip)))
  (.seq (.ar [0,3,5] (.region none [
    ⟨none,(some 12),.buildSlice 3 1 0 (.v (.int .i64 0)) []⟩,
    ⟨none,(some 5),.aA (.t 12)⟩]))
  (.seq (.seq (.ar [0,3,5,6] (.region none [
    ⟨none,(some 6),.aA (.c (.v (.int .i64 0)))⟩]))
  (.block 0 (.loop (.seq (.seq (.ar [0,3,5,6,17] (.region none [
     ⟨none,(some 13),.aA (.t 6)⟩,
     ⟨none,(some 14),.aK 3 (.t 3)⟩,
     ⟨none,(some 15),.load none (.t 14)⟩,
     ⟨none,(some 16),.bm (.t 15)⟩,
     ⟨none,(some 17),.bin .lss (.t 13) (.t 16)⟩]))
    (.cond (.t 17)
     (.skip)
     (.exit 0)))
    (.seq (.block 1 (.ar [0,3,5,6] (.region none [
     ⟨none,(some 20),.aA (.t 5)⟩,
     ⟨none,(some 21),.aA (.t 0)⟩,
     ⟨none,(some 22),.aK 3 (.t 3)⟩,
     ⟨none,(some 23),.load none (.t 22)⟩,
     ⟨none,(some 24),.aA (.t 6)⟩,
     ⟨none,(some 25),.bJ 4 (.t 23) (.t 24)⟩,
     ⟨none,(some 26),.load (some 4) (.t 25)⟩,
     ⟨none,(some 27),.call F.fw [(.t 21),(.t 26)]⟩,
     ⟨none,(some 28),.buildSlice 3 1 1 (.v (.int .i64 0)) [(0,(.t 27))]⟩,
     ⟨none,(some 29),.app 3 1 8 (.t 20) (.t 28)⟩,
     ⟨none,(some 5),.aA (.t 29)⟩])))
    (.ar [0,3,5,6] (.region none [
      ⟨none,(some 18),.aA (.t 6)⟩,
      ⟨none,(some 19),.bin .add (.t 18) (.c (.v (.int .i64 1)))⟩,
      ⟨none,(some 6),.aA (.t 19)⟩])))))))
  (.seq (.ar [4] (.region none [
    ⟨none,(some 30),.aA (.t 0)⟩,
    ⟨none,(some 31),.load (some 4) (.t 3)⟩,
    ⟨none,(some 32),.aA (.t 5)⟩,
    ⟨none,(some 33),.call F.hT [(.t 30),(.t 31),(.t 32)]⟩,
    ⟨none,(some 4),.aA (.t 33)⟩]))
  (.ret)))))
theorem A.aaJ:rj Try.prog F.fw A.fw:=
 ⟨_,_,Try.func55,rfl,by kernel_rfl,rfl,by decide,by kernel_rfl,by kernel_rfl⟩
def A.fT:mo where
 cT:=3
 nt:=162
 res:=[.tmp 6]
 code:= .seq (.ar [0,1,2] (.region none [
    ⟨none,(some 6),.aA (.c (.v (.bool false)))⟩]))
  (.seq (.ar [0,1,2] (.region none [
    ⟨none,(some 10),.aA (.t 0)⟩,
    ⟨none,(some 11),.aA (.t 1)⟩,
    ⟨none,(some 12),.call F.dO [(.t 10),(.t 11)]⟩,
    ⟨none,(some 1),.aA (.t 12)⟩]))
  (.seq (.ar [0,1,2] (.region none [
    ⟨none,(some 13),.aA (.t 0)⟩,
    ⟨none,(some 14),.aA (.t 2)⟩,
    ⟨none,(some 15),.call F.dO [(.t 13),(.t 14)]⟩,
    ⟨none,(some 2),.aA (.t 15)⟩]))
  (.seq (.seq (.ar [0,1,2,18] (.region none [
    ⟨none,(some 16),.aA (.t 1)⟩,
    ⟨none,(some 17),.aA (.t 2)⟩,
    ⟨none,(some 18),.bin .eql (.t 16) (.t 17)⟩]))
  (.cond (.t 18)
   (.seq (.ar [6] (.region none [
     ⟨none,(some 6),.aA (.c (.v (.bool true)))⟩]))
   (.ret))
   (.skip)))
  (.seq (.ar [0,1,2,7] (.region none [
    ⟨none,(some 19),.aA (.t 0)⟩,
    ⟨none,(some 20),.ca (.t 19)⟩,
    ⟨none,(some 21),.aK 0 (.t 20)⟩,
    ⟨none,(some 22),.load none (.t 21)⟩,
    ⟨none,(some 23),.aA (.t 1)⟩,
    ⟨none,(some 24),.bJ 4 (.t 22) (.t 23)⟩,
    ⟨none,(some 25),.load (some 4) (.t 24)⟩,
    ⟨none,(some 7),.alloc 29 4 (.agg [(.v (.int .i64 0)),(.v (.int .i64 0)),(.v (.string ⟨#[]⟩)),.aw])⟩,
    ⟨none,none,.store 4 (.t 7) (.t 25)⟩]))
  (.seq (.ar [0,1,2,7,8] (.region none [
    ⟨none,(some 26),.aA (.t 0)⟩,
    ⟨none,(some 27),.ca (.t 26)⟩,
    ⟨none,(some 28),.aK 0 (.t 27)⟩,
    ⟨none,(some 29),.load none (.t 28)⟩,
    ⟨none,(some 30),.aA (.t 2)⟩,
    ⟨none,(some 31),.bJ 4 (.t 29) (.t 30)⟩,
    ⟨none,(some 32),.load (some 4) (.t 31)⟩,
    ⟨none,(some 8),.alloc 29 4 (.agg [(.v (.int .i64 0)),(.v (.int .i64 0)),(.v (.string ⟨#[]⟩)),.aw])⟩,
    ⟨none,none,.store 4 (.t 8) (.t 32)⟩]))
  (.seq (.block 0 (.seq (.ar [0,1,2,7,8,33] (.region none [
     ⟨none,(some 34),.aK 0 (.t 7)⟩,
     ⟨none,(some 35),.load none (.t 34)⟩,
     ⟨none,(some 36),.bin .eql (.t 35) (.c (.v (.int .i64 11)))⟩,
     ⟨none,(some 37),.aA (.t 36)⟩,
     ⟨(some (37,true)),(some 38),.aK 0 (.t 8)⟩,
     ⟨(some (37,true)),(some 39),.load none (.t 38)⟩,
     ⟨(some (37,true)),(some 40),.bin .eql (.t 39) (.c (.v (.int .i64 11)))⟩,
     ⟨none,(some 41),.pick (.t 37) (.t 40) (.c (.v (.bool false)))⟩,
     ⟨none,(some 33),.aA (.t 41)⟩]))
   (.cond (.t 33)
    (.seq (.seq (.ar [0,1,2,44] (.region none [
      ⟨none,(some 42),.aA (.t 1)⟩,
      ⟨none,(some 43),.aA (.t 2)⟩,
      ⟨none,(some 44),.bin .lss (.t 42) (.t 43)⟩]))
    (.cond (.t 44)
     (.ar [] (.region none [
       ⟨none,(some 45),.aA (.t 0)⟩,
       ⟨none,(some 46),.ca (.t 45)⟩,
       ⟨none,(some 47),.aK 2 (.t 46)⟩,
       ⟨none,(some 48),.load none (.t 47)⟩,
       ⟨none,(some 49),.aA (.t 2)⟩,
       ⟨none,(some 50),.aA (.t 1)⟩,
       ⟨none,(some 51),.bJ 1 (.t 48) (.t 49)⟩,
       ⟨none,none,.store 1 (.t 51) (.t 50)⟩]))
     (.ar [] (.region none [
       ⟨none,(some 52),.aA (.t 0)⟩,
       ⟨none,(some 53),.ca (.t 52)⟩,
       ⟨none,(some 54),.aK 2 (.t 53)⟩,
       ⟨none,(some 55),.load none (.t 54)⟩,
       ⟨none,(some 56),.aA (.t 1)⟩,
       ⟨none,(some 57),.aA (.t 2)⟩,
       ⟨none,(some 58),.bJ 1 (.t 55) (.t 56)⟩,
       ⟨none,none,.store 1 (.t 58) (.t 57)⟩]))))
    (.seq (.ar [6] (.region none [
      ⟨none,(some 6),.aA (.c (.v (.bool true)))⟩]))
    (.ret)))
    (.seq (.ar [0,1,2,7,8,59] (.region none [
      ⟨none,(some 60),.aK 0 (.t 7)⟩,
      ⟨none,(some 61),.load none (.t 60)⟩,
      ⟨none,(some 62),.bin .eql (.t 61) (.c (.v (.int .i64 11)))⟩,
      ⟨none,(some 59),.aA (.t 62)⟩]))
    (.cond (.t 59)
     (.seq (.ar [] (.region none [
       ⟨none,(some 63),.aA (.t 0)⟩,
       ⟨none,(some 64),.ca (.t 63)⟩,
       ⟨none,(some 65),.aK 2 (.t 64)⟩,
       ⟨none,(some 66),.load none (.t 65)⟩,
       ⟨none,(some 67),.aA (.t 1)⟩,
       ⟨none,(some 68),.aA (.t 2)⟩,
       ⟨none,(some 69),.bJ 1 (.t 66) (.t 67)⟩,
       ⟨none,none,.store 1 (.t 69) (.t 68)⟩]))
     (.seq (.ar [6] (.region none [
       ⟨none,(some 6),.aA (.c (.v (.bool true)))⟩]))
     (.ret)))
     (.seq (.ar [0,1,2,7,8,70] (.region none [
       ⟨none,(some 71),.aK 0 (.t 8)⟩,
       ⟨none,(some 72),.load none (.t 71)⟩,
       ⟨none,(some 73),.bin .eql (.t 72) (.c (.v (.int .i64 11)))⟩,
       ⟨none,(some 70),.aA (.t 73)⟩]))
     (.cond (.t 70)
      (.seq (.ar [] (.region none [
        ⟨none,(some 74),.aA (.t 0)⟩,
        ⟨none,(some 75),.ca (.t 74)⟩,
        ⟨none,(some 76),.aK 2 (.t 75)⟩,
        ⟨none,(some 77),.load none (.t 76)⟩,
        ⟨none,(some 78),.aA (.t 2)⟩,
        ⟨none,(some 79),.aA (.t 1)⟩,
        ⟨none,(some 80),.bJ 1 (.t 77) (.t 78)⟩,
        ⟨none,none,.store 1 (.t 80) (.t 79)⟩]))
      (.seq (.ar [6] (.region none [
        ⟨none,(some 6),.aA (.c (.v (.bool true)))⟩]))
      (.ret)))
      (.seq (.ar [0,1,2,81] (.region (some [[],[0],[],[2],[1,3],[4],[5],[6,5],[5],[8,5],[7,9,5],[5,10],[11,5],[12],[13,12],[12],[15,12],[14,16,12],[12,17],[18,12],[19],[20,19],[21,19],[22,19],[19],[23,24,19],[25,19],[26,19],[19],[28,19],[29,19],[30,19],[19],[31,32,19],[33,19],[34,19],[27,35,19],[19,36],[37,19]]) [
        ⟨none,(some 82),.aK 0 (.t 7)⟩,
        ⟨none,(some 83),.load none (.t 82)⟩,
        ⟨none,(some 84),.aK 0 (.t 8)⟩,
        ⟨none,(some 85),.load none (.t 84)⟩,
        ⟨none,(some 86),.bin .neq (.t 83) (.t 85)⟩,
        ⟨none,(some 87),.aA (.t 86)⟩,
        ⟨(some (87,false)),(some 88),.aK 1 (.t 7)⟩,
        ⟨(some (87,false)),(some 89),.load none (.t 88)⟩,
        ⟨(some (87,false)),(some 90),.aK 1 (.t 8)⟩,
        ⟨(some (87,false)),(some 91),.load none (.t 90)⟩,
        ⟨(some (87,false)),(some 92),.bin .neq (.t 89) (.t 91)⟩,
        ⟨none,(some 93),.pick (.t 87) (.c (.v (.bool true))) (.t 92)⟩,
        ⟨none,(some 94),.aA (.t 93)⟩,
        ⟨(some (94,false)),(some 95),.aK 2 (.t 7)⟩,
        ⟨(some (94,false)),(some 96),.load none (.t 95)⟩,
        ⟨(some (94,false)),(some 97),.aK 2 (.t 8)⟩,
        ⟨(some (94,false)),(some 98),.load none (.t 97)⟩,
        ⟨(some (94,false)),(some 99),.bin .neq (.t 96) (.t 98)⟩,
        ⟨none,(some 100),.pick (.t 94) (.c (.v (.bool true))) (.t 99)⟩,
        ⟨none,(some 101),.aA (.t 100)⟩,
        ⟨(some (101,false)),(some 102),.aA (.t 0)⟩,
        ⟨(some (101,false)),(some 103),.ca (.t 102)⟩,
        ⟨(some (101,false)),(some 104),.aK 1 (.t 103)⟩,
        ⟨(some (101,false)),(some 105),.load none (.t 104)⟩,
        ⟨(some (101,false)),(some 106),.aA (.t 1)⟩,
        ⟨(some (101,false)),(some 107),.bJ 1 (.t 105) (.t 106)⟩,
        ⟨(some (101,false)),(some 108),.load none (.t 107)⟩,
        ⟨(some (101,false)),(some 109),.bm (.t 108)⟩,
        ⟨(some (101,false)),(some 110),.aA (.t 0)⟩,
        ⟨(some (101,false)),(some 111),.ca (.t 110)⟩,
        ⟨(some (101,false)),(some 112),.aK 1 (.t 111)⟩,
        ⟨(some (101,false)),(some 113),.load none (.t 112)⟩,
        ⟨(some (101,false)),(some 114),.aA (.t 2)⟩,
        ⟨(some (101,false)),(some 115),.bJ 1 (.t 113) (.t 114)⟩,
        ⟨(some (101,false)),(some 116),.load none (.t 115)⟩,
        ⟨(some (101,false)),(some 117),.bm (.t 116)⟩,
        ⟨(some (101,false)),(some 118),.bin .neq (.t 109) (.t 117)⟩,
        ⟨none,(some 119),.pick (.t 101) (.c (.v (.bool true))) (.t 118)⟩,
        ⟨none,(some 81),.aA (.t 119)⟩]))
      (.cond (.t 81)
       (.seq (.ar [6] (.region none [
         ⟨none,(some 6),.aA (.c (.v (.bool false)))⟩]))
       (.ret))
       (.skip))))))))))
  (.seq (.ar [0,1,2] (.region none [
    ⟨none,(some 120),.aA (.t 0)⟩,
    ⟨none,(some 121),.ca (.t 120)⟩,
    ⟨none,(some 122),.aK 2 (.t 121)⟩,
    ⟨none,(some 123),.load none (.t 122)⟩,
    ⟨none,(some 124),.aA (.t 2)⟩,
    ⟨none,(some 125),.aA (.t 1)⟩,
    ⟨none,(some 126),.bJ 1 (.t 123) (.t 124)⟩,
    ⟨none,none,.store 1 (.t 126) (.t 125)⟩]))
  (.seq (.seq (.ar [0,1,2,9] (.region none [
    ⟨none,(some 9),.aA (.c (.v (.int .i64 0)))⟩]))
  (.block 1 (.loop (.seq (.seq (.ar [0,1,2,9,136] (.region none [
     ⟨none,(some 127),.aA (.t 9)⟩,
     ⟨none,(some 128),.aA (.t 0)⟩,
     ⟨none,(some 129),.ca (.t 128)⟩,
     ⟨none,(some 130),.aK 1 (.t 129)⟩,
     ⟨none,(some 131),.load none (.t 130)⟩,
     ⟨none,(some 132),.aA (.t 1)⟩,
     ⟨none,(some 133),.bJ 1 (.t 131) (.t 132)⟩,
     ⟨none,(some 134),.load none (.t 133)⟩,
     ⟨none,(some 135),.bm (.t 134)⟩,
     ⟨none,(some 136),.bin .lss (.t 127) (.t 135)⟩]))
    (.cond (.t 136)
     (.skip)
     (.exit 1)))
    (.seq (.block 2 (.seq (.ar [0,1,2,9,161] (.region (some [[],[],[1],[2],[3],[],[4,5],[6],[],[7,8],[9],[],[11],[12],[13],[],[14,15],[16],[],[17,18],[19],[0,10,20],[21]]) [
       ⟨none,(some 139),.aA (.t 0)⟩,
       ⟨none,(some 140),.aA (.t 0)⟩,
       ⟨none,(some 141),.ca (.t 140)⟩,
       ⟨none,(some 142),.aK 1 (.t 141)⟩,
       ⟨none,(some 143),.load none (.t 142)⟩,
       ⟨none,(some 144),.aA (.t 1)⟩,
       ⟨none,(some 145),.bJ 1 (.t 143) (.t 144)⟩,
       ⟨none,(some 146),.load none (.t 145)⟩,
       ⟨none,(some 147),.aA (.t 9)⟩,
       ⟨none,(some 148),.bJ 1 (.t 146) (.t 147)⟩,
       ⟨none,(some 149),.load none (.t 148)⟩,
       ⟨none,(some 150),.aA (.t 0)⟩,
       ⟨none,(some 151),.ca (.t 150)⟩,
       ⟨none,(some 152),.aK 1 (.t 151)⟩,
       ⟨none,(some 153),.load none (.t 152)⟩,
       ⟨none,(some 154),.aA (.t 2)⟩,
       ⟨none,(some 155),.bJ 1 (.t 153) (.t 154)⟩,
       ⟨none,(some 156),.load none (.t 155)⟩,
       ⟨none,(some 157),.aA (.t 9)⟩,
       ⟨none,(some 158),.bJ 1 (.t 156) (.t 157)⟩,
       ⟨none,(some 159),.load none (.t 158)⟩,
       ⟨none,(some 160),.call F.fT [(.t 139),(.t 149),(.t 159)]⟩,
       ⟨none,(some 161),.un .not (.t 160)⟩]))
     (.cond (.t 161)
      (.seq (.ar [6] (.region none [
        ⟨none,(some 6),.aA (.c (.v (.bool false)))⟩]))
      (.ret))
      (.skip))))
    (.ar [0,1,2,9] (.region none [
      ⟨none,(some 137),.aA (.t 9)⟩,
      ⟨none,(some 138),.bin .add (.t 137) (.c (.v (.int .i64 1)))⟩,
      ⟨none,(some 9),.aA (.t 138)⟩])))))))
  (.seq (.ar [6] (.region none [
    ⟨none,(some 6),.aA (.c (.v (.bool true)))⟩]))
  (.ret))))))))))
theorem A.yc:rj Try.prog F.fT A.fT:=
 ⟨_,_,Try.func56,rfl,by kernel_rfl,rfl,by decide,by kernel_rfl,by kernel_rfl⟩
def A.fa:mo where
 cT:=4
 nt:=79
 res:=[.tmp 8]
 code:= .seq (.ar [0,1,2,3] (.region none [
    ⟨none,(some 8),.aA (.c (.v (.bool false)))⟩]))
  (.seq (.ar [0,1,2,3] (.region none [
    ⟨none,(some 11),.aA (.t 0)⟩,
    ⟨none,(some 12),.aA (.t 1)⟩,
    ⟨none,(some 13),.call F.dO [(.t 11),(.t 12)]⟩,
    ⟨none,(some 1),.aA (.t 13)⟩]))
  (.seq (.seq (.ar [0,1,2,3,18] (.region none [
    ⟨none,(some 14),.aA (.t 2)⟩,
    ⟨none,(some 15),.aA (.t 1)⟩,
    ⟨none,(some 16),.bJ 1 (.t 14) (.t 15)⟩,
    ⟨none,(some 17),.load none (.t 16)⟩,
    ⟨none,(some 18),.bin .neq (.t 17) (.c (.v (.int .i64 0)))⟩]))
  (.cond (.t 18)
   (.seq (.ar [8] (.region none [
     ⟨none,(some 19),.aA (.t 2)⟩,
     ⟨none,(some 20),.aA (.t 1)⟩,
     ⟨none,(some 21),.bJ 1 (.t 19) (.t 20)⟩,
     ⟨none,(some 22),.load none (.t 21)⟩,
     ⟨none,(some 23),.bin .gtr (.t 22) (.c (.v (.int .i64 0)))⟩,
     ⟨none,(some 8),.aA (.t 23)⟩]))
   (.ret))
   (.skip)))
  (.seq (.ar [0,1,2,3] (.region none [
    ⟨none,(some 24),.aA (.t 2)⟩,
    ⟨none,(some 25),.aA (.t 1)⟩,
    ⟨none,(some 26),.bJ 1 (.t 24) (.t 25)⟩,
    ⟨none,none,.store 1 (.t 26) (.c (.v (.int .i64 (-1))))⟩]))
  (.seq (.ar [0,1,2,3,9] (.region none [
    ⟨none,(some 9),.aA (.c (.v (.int .i64 1)))⟩]))
  (.seq (.seq (.ar [0,1,2,3,9,10] (.region none [
    ⟨none,(some 10),.aA (.c (.v (.int .i64 0)))⟩]))
  (.block 0 (.loop (.seq (.seq (.ar [0,1,2,3,9,10,36] (.region none [
     ⟨none,(some 27),.aA (.t 10)⟩,
     ⟨none,(some 28),.aA (.t 0)⟩,
     ⟨none,(some 29),.ca (.t 28)⟩,
     ⟨none,(some 30),.aK 1 (.t 29)⟩,
     ⟨none,(some 31),.load none (.t 30)⟩,
     ⟨none,(some 32),.aA (.t 1)⟩,
     ⟨none,(some 33),.bJ 1 (.t 31) (.t 32)⟩,
     ⟨none,(some 34),.load none (.t 33)⟩,
     ⟨none,(some 35),.bm (.t 34)⟩,
     ⟨none,(some 36),.bin .lss (.t 27) (.t 35)⟩]))
    (.cond (.t 36)
     (.skip)
     (.exit 0)))
    (.seq (.block 1 (.seq (.seq (.ar [0,1,2,3,9,10,53] (.region none [
       ⟨none,(some 39),.aA (.t 0)⟩,
       ⟨none,(some 40),.aA (.t 0)⟩,
       ⟨none,(some 41),.ca (.t 40)⟩,
       ⟨none,(some 42),.aK 1 (.t 41)⟩,
       ⟨none,(some 43),.load none (.t 42)⟩,
       ⟨none,(some 44),.aA (.t 1)⟩,
       ⟨none,(some 45),.bJ 1 (.t 43) (.t 44)⟩,
       ⟨none,(some 46),.load none (.t 45)⟩,
       ⟨none,(some 47),.aA (.t 10)⟩,
       ⟨none,(some 48),.bJ 1 (.t 46) (.t 47)⟩,
       ⟨none,(some 49),.load none (.t 48)⟩,
       ⟨none,(some 50),.aA (.t 2)⟩,
       ⟨none,(some 51),.aA (.t 3)⟩,
       ⟨none,(some 52),.call F.fa [(.t 39),(.t 49),(.t 50),(.t 51)]⟩,
       ⟨none,(some 53),.un .not (.t 52)⟩]))
     (.cond (.t 53)
      (.seq (.ar [8] (.region none [
        ⟨none,(some 8),.aA (.c (.v (.bool false)))⟩]))
      (.ret))
      (.skip)))
     (.ar [0,1,2,3,9,10] (.region none [
       ⟨none,(some 54),.aA (.t 9)⟩,
       ⟨none,(some 55),.aA (.t 2)⟩,
       ⟨none,(some 56),.aA (.t 0)⟩,
       ⟨none,(some 57),.aA (.t 0)⟩,
       ⟨none,(some 58),.ca (.t 57)⟩,
       ⟨none,(some 59),.aK 1 (.t 58)⟩,
       ⟨none,(some 60),.load none (.t 59)⟩,
       ⟨none,(some 61),.aA (.t 1)⟩,
       ⟨none,(some 62),.bJ 1 (.t 60) (.t 61)⟩,
       ⟨none,(some 63),.load none (.t 62)⟩,
       ⟨none,(some 64),.aA (.t 10)⟩,
       ⟨none,(some 65),.bJ 1 (.t 63) (.t 64)⟩,
       ⟨none,(some 66),.load none (.t 65)⟩,
       ⟨none,(some 67),.call F.dO [(.t 56),(.t 66)]⟩,
       ⟨none,(some 68),.bJ 1 (.t 55) (.t 67)⟩,
       ⟨none,(some 69),.load none (.t 68)⟩,
       ⟨none,(some 70),.bin .add (.t 54) (.t 69)⟩,
       ⟨none,(some 9),.aA (.t 70)⟩]))))
    (.ar [0,1,2,3,9,10] (.region none [
      ⟨none,(some 37),.aA (.t 10)⟩,
      ⟨none,(some 38),.bin .add (.t 37) (.c (.v (.int .i64 1)))⟩,
      ⟨none,(some 10),.aA (.t 38)⟩])))))))
  (.seq (.seq (.ar [1,2,3,9,73] (.region none [
    ⟨none,(some 71),.aA (.t 9)⟩,
    ⟨none,(some 72),.aA (.t 3)⟩,
    ⟨none,(some 73),.bin .gtr (.t 71) (.t 72)⟩]))
  (.cond (.t 73)
   (.ar [1,2,9] (.region none [
     ⟨none,(some 74),.aA (.t 3)⟩,
     ⟨none,(some 9),.aA (.t 74)⟩]))
   (.skip)))
  (.seq (.ar [] (.region none [
    ⟨none,(some 75),.aA (.t 2)⟩,
    ⟨none,(some 76),.aA (.t 1)⟩,
    ⟨none,(some 77),.aA (.t 9)⟩,
    ⟨none,(some 78),.bJ 1 (.t 75) (.t 76)⟩,
    ⟨none,none,.store 1 (.t 78) (.t 77)⟩]))
  (.seq (.ar [8] (.region none [
    ⟨none,(some 8),.aA (.c (.v (.bool true)))⟩]))
  (.ret)))))))))
theorem A.wz:rj Try.prog F.fa A.fa:=
 ⟨_,_,Try.func57,rfl,by kernel_rfl,rfl,by decide,by kernel_rfl,by kernel_rfl⟩
def A.dO:mo where
 cT:=2
 nt:=22
 res:=[.tmp 4]
 code:= .seq (.ar [0,1] (.region none [
   ⟨none,(some 4),.aA (.c (.v (.int .i64 0)))⟩]))
  (.seq (.block 0 (.loop (.seq (.seq (.ar [0,1,13] (.region none [
     ⟨none,(some 5),.aA (.t 0)⟩,
     ⟨none,(some 6),.ca (.t 5)⟩,
     ⟨none,(some 7),.aK 2 (.t 6)⟩,
     ⟨none,(some 8),.load none (.t 7)⟩,
     ⟨none,(some 9),.aA (.t 1)⟩,
     ⟨none,(some 10),.bJ 1 (.t 8) (.t 9)⟩,
     ⟨none,(some 11),.load none (.t 10)⟩,
     ⟨none,(some 12),.aA (.t 1)⟩,
     ⟨none,(some 13),.bin .neq (.t 11) (.t 12)⟩]))
    (.cond (.t 13)
     (.skip)
     (.exit 0)))
    (.block 1 (.ar [0,1] (.region none [
     ⟨none,(some 14),.aA (.t 0)⟩,
     ⟨none,(some 15),.ca (.t 14)⟩,
     ⟨none,(some 16),.aK 2 (.t 15)⟩,
     ⟨none,(some 17),.load none (.t 16)⟩,
     ⟨none,(some 18),.aA (.t 1)⟩,
     ⟨none,(some 19),.bJ 1 (.t 17) (.t 18)⟩,
     ⟨none,(some 20),.load none (.t 19)⟩,
     ⟨none,(some 1),.aA (.t 20)⟩]))))))
  (.seq (.ar [4] (.region none [
    ⟨none,(some 21),.aA (.t 1)⟩,
    ⟨none,(some 4),.aA (.t 21)⟩]))
  (.ret)))
theorem A.ye:rj Try.prog F.dO A.dO:=
 ⟨_,_,Try.func58,rfl,by kernel_rfl,rfl,by decide,by kernel_rfl,by kernel_rfl⟩
def A.fc:mo where
 cT:=2
 nt:=49
 res:=[.cell 4 (some 4)]
 code:= .seq (.ar [0,1,4] (.region none [
   ⟨none,(some 4),.alloc 29 4 (.agg [(.v (.int .i64 0)),(.v (.int .i64 0)),(.v (.string ⟨#[]⟩)),.aw])⟩]))
  (.seq (.ar [0,1,4] (.region none [
    ⟨none,(some 7),.aA (.t 0)⟩,
    ⟨none,(some 8),.aA (.t 1)⟩,
    ⟨none,(some 9),.call F.dO [(.t 7),(.t 8)]⟩,
    ⟨none,(some 1),.aA (.t 9)⟩]))
  (.seq (.ar [0,1,4,5] (.region none [
    ⟨none,(some 10),.aA (.t 0)⟩,
    ⟨none,(some 11),.ca (.t 10)⟩,
    ⟨none,(some 12),.aK 0 (.t 11)⟩,
    ⟨none,(some 13),.load none (.t 12)⟩,
    ⟨none,(some 14),.aA (.t 1)⟩,
    ⟨none,(some 15),.bJ 4 (.t 13) (.t 14)⟩,
    ⟨none,(some 16),.load (some 4) (.t 15)⟩,
    ⟨none,(some 5),.alloc 29 4 (.agg [(.v (.int .i64 0)),(.v (.int .i64 0)),(.v (.string ⟨#[]⟩)),.aw])⟩,
    ⟨none,none,.store 4 (.t 5) (.t 16)⟩]))
  (.seq (.ar [0,1,4,5] (.region none [
    ⟨none,(some 17),.buildSlice 29 4 0 (.agg [(.v (.int .i64 0)),(.v (.int .i64 0)),(.v (.string ⟨#[]⟩)),.aw]) []⟩,
    ⟨none,(some 18),.aK 3 (.t 5)⟩,
    ⟨none,none,.store 1 (.t 18) (.t 17)⟩]))
  (.seq (.seq (.ar [0,1,4,5,6] (.region none [
    ⟨none,(some 6),.aA (.c (.v (.int .i64 0)))⟩]))
  (.block 0 (.loop (.seq (.seq (.ar [0,1,4,5,6,28] (.region none [
     ⟨none,(some 19),.aA (.t 6)⟩,
     ⟨none,(some 20),.aA (.t 0)⟩,
     ⟨none,(some 21),.ca (.t 20)⟩,
     ⟨none,(some 22),.aK 1 (.t 21)⟩,
     ⟨none,(some 23),.load none (.t 22)⟩,
     ⟨none,(some 24),.aA (.t 1)⟩,
     ⟨none,(some 25),.bJ 1 (.t 23) (.t 24)⟩,
     ⟨none,(some 26),.load none (.t 25)⟩,
     ⟨none,(some 27),.bm (.t 26)⟩,
     ⟨none,(some 28),.bin .lss (.t 19) (.t 27)⟩]))
    (.cond (.t 28)
     (.skip)
     (.exit 0)))
    (.seq (.block 1 (.ar [0,1,4,5,6] (.region (some [[],[0],[],[],[3],[4],[5],[],[6,7],[8],[],[9,10],[11],[2,12],[13],[1,14,13],[0,1,2,3,4,5,6,7,8,9,10,11,12,13,14,15],[16,15,15,0,1,2,3,4,5,6,7,8,9,10,11,12,13,14,15]]) [
     ⟨none,(some 31),.aK 3 (.t 5)⟩,
     ⟨none,(some 32),.load none (.t 31)⟩,
     ⟨none,(some 33),.aA (.t 0)⟩,
     ⟨none,(some 34),.aA (.t 0)⟩,
     ⟨none,(some 35),.ca (.t 34)⟩,
     ⟨none,(some 36),.aK 1 (.t 35)⟩,
     ⟨none,(some 37),.load none (.t 36)⟩,
     ⟨none,(some 38),.aA (.t 1)⟩,
     ⟨none,(some 39),.bJ 1 (.t 37) (.t 38)⟩,
     ⟨none,(some 40),.load none (.t 39)⟩,
     ⟨none,(some 41),.aA (.t 6)⟩,
     ⟨none,(some 42),.bJ 1 (.t 40) (.t 41)⟩,
     ⟨none,(some 43),.load none (.t 42)⟩,
     ⟨none,(some 44),.call F.fc [(.t 33),(.t 43)]⟩,
     ⟨none,(some 45),.buildSlice 29 4 1 (.agg [(.v (.int .i64 0)),(.v (.int .i64 0)),(.v (.string ⟨#[]⟩)),.aw]) [(0,(.t 44))]⟩,
     ⟨none,(some 46),.app 29 4 56 (.t 32) (.t 45)⟩,
     ⟨none,(some 47),.aK 3 (.t 5)⟩,
     ⟨none,none,.store 1 (.t 47) (.t 46)⟩])))
    (.ar [0,1,4,5,6] (.region none [
      ⟨none,(some 29),.aA (.t 6)⟩,
      ⟨none,(some 30),.bin .add (.t 29) (.c (.v (.int .i64 1)))⟩,
      ⟨none,(some 6),.aA (.t 30)⟩])))))))
  (.seq (.ar [4] (.region none [
    ⟨none,(some 48),.load (some 4) (.t 5)⟩,
    ⟨none,none,.store 4 (.t 4) (.t 48)⟩]))
  (.ret))))))
theorem A.x8:rj Try.prog F.fc A.fc:=
 ⟨_,_,Try.func59,rfl,by kernel_rfl,rfl,by decide,by kernel_rfl,by kernel_rfl⟩
def A.hT:mo where
 cT:=3
 nt:=49
 res:=[.tmp 6]
 code:= .seq (.ar [0,2,4] (.region none [
   ⟨none,(some 4),.box 29 4 (.t 1)⟩,
   ⟨none,(some 6),.aA (.c (.v (.int .i64 0)))⟩]))
  (.seq (.ar [0,2,4] (.region none [
    ⟨none,(some 7),.aK 3 (.t 4)⟩,
    ⟨none,none,.store 1 (.t 7) (.c .aw)⟩]))
  (.seq (.ar [0,2] (.region (some [[],[0],[1],[2],[],[3],[],[3,6,0,1,2,3,4,5,6],[7,5,0,1,2,3,4,5,6,7],[8,4,7,0,1,2,3,4,5,6,7],[0,0,1,2,3,4,5,6,7],[10,0,1,2,3,4,5,6,7],[11,7,7,0,1,2,3,4,5,6,7]]) [
    ⟨none,(some 8),.aA (.t 0)⟩,
    ⟨none,(some 9),.ca (.t 8)⟩,
    ⟨none,(some 10),.aK 0 (.t 9)⟩,
    ⟨none,(some 11),.load none (.t 10)⟩,
    ⟨none,(some 12),.load (some 4) (.t 4)⟩,
    ⟨none,(some 13),.bm (.t 11)⟩,
    ⟨none,(some 14),.buildSlice 29 4 1 (.agg [(.v (.int .i64 0)),(.v (.int .i64 0)),(.v (.string ⟨#[]⟩)),.aw]) [(0,(.c (.agg [(.v (.int .i64 0)),(.v (.int .i64 0)),(.v (.string ⟨#[]⟩)),.aw])))]⟩,
    ⟨none,(some 15),.app 29 4 56 (.t 11) (.t 14)⟩,
    ⟨none,(some 16),.bJ 4 (.t 15) (.t 13)⟩,
    ⟨none,none,.store 4 (.t 16) (.t 12)⟩,
    ⟨none,(some 17),.ca (.t 8)⟩,
    ⟨none,(some 18),.aK 0 (.t 17)⟩,
    ⟨none,none,.store 1 (.t 18) (.t 15)⟩]))
  (.seq (.ar [0] (.region none [
    ⟨none,(some 19),.aA (.t 0)⟩,
    ⟨none,(some 20),.aA (.t 0)⟩,
    ⟨none,(some 21),.ca (.t 20)⟩,
    ⟨none,(some 22),.aK 1 (.t 21)⟩,
    ⟨none,(some 23),.load none (.t 22)⟩,
    ⟨none,(some 24),.aA (.t 2)⟩,
    ⟨none,(some 25),.buildSlice 39 1 1 .aw [(0,(.t 24))]⟩,
    ⟨none,(some 26),.app 39 1 24 (.t 23) (.t 25)⟩,
    ⟨none,(some 27),.ca (.t 19)⟩,
    ⟨none,(some 28),.aK 1 (.t 27)⟩,
    ⟨none,none,.store 1 (.t 28) (.t 26)⟩]))
  (.seq (.ar [0] (.region (some [[],[],[1],[2],[3],[],[5],[6],[7],[8],[9],[4,10],[0,0,1,2,3,4,5,6,7,8,9,10,11],[12,0,1,2,3,4,5,6,7,8,9,10,11],[13,11,11,0,1,2,3,4,5,6,7,8,9,10,11]]) [
    ⟨none,(some 29),.aA (.t 0)⟩,
    ⟨none,(some 30),.aA (.t 0)⟩,
    ⟨none,(some 31),.ca (.t 30)⟩,
    ⟨none,(some 32),.aK 2 (.t 31)⟩,
    ⟨none,(some 33),.load none (.t 32)⟩,
    ⟨none,(some 34),.aA (.t 0)⟩,
    ⟨none,(some 35),.ca (.t 34)⟩,
    ⟨none,(some 36),.aK 2 (.t 35)⟩,
    ⟨none,(some 37),.load none (.t 36)⟩,
    ⟨none,(some 38),.bm (.t 37)⟩,
    ⟨none,(some 39),.buildSlice 3 1 1 (.v (.int .i64 0)) [(0,(.t 38))]⟩,
    ⟨none,(some 40),.app 3 1 8 (.t 33) (.t 39)⟩,
    ⟨none,(some 41),.ca (.t 29)⟩,
    ⟨none,(some 42),.aK 2 (.t 41)⟩,
    ⟨none,none,.store 1 (.t 42) (.t 40)⟩]))
  (.seq (.ar [6] (.region none [
    ⟨none,(some 43),.aA (.t 0)⟩,
    ⟨none,(some 44),.ca (.t 43)⟩,
    ⟨none,(some 45),.aK 2 (.t 44)⟩,
    ⟨none,(some 46),.load none (.t 45)⟩,
    ⟨none,(some 47),.bm (.t 46)⟩,
    ⟨none,(some 48),.bin .sub (.t 47) (.c (.v (.int .i64 1)))⟩,
    ⟨none,(some 6),.aA (.t 48)⟩]))
  (.ret))))))
theorem A.aaO:rj Try.prog F.hT A.hT:=
 ⟨_,_,Try.func79,rfl,by kernel_rfl,rfl,by decide,by kernel_rfl,by kernel_rfl⟩
end Go.Proofs.Ab
