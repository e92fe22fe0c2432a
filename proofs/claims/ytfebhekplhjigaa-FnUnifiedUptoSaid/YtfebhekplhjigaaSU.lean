/-
  THE ABSTRACT CODE of some of this seat's functions, printed by a program of ours (wip/tool/Gen3.lean) from the translation; each with the theorem that it is that function's.
-/
import Derived.Test.YtfebhekplhjigaaST
set_option linter.unusedSimpArgs false
set_option linter.unusedVariables false
namespace Go.Proofs.Ab
open Go.Ab
set_option maxRecDepth 100000
def A.jv:mo where
 cT:=3
 nt:=97
 res:=[.tmp 6,.tmp 7]
 code:= .seq (.ar [0,1,2] (.region none [
    ⟨none,(some 6),.aA (.c .aw)⟩,
    ⟨none,(some 7),.aA (.c (.v (.int .i64 0)))⟩]))
  (.seq (.seq (.ar [0,1,2,25] (.region none [
    ⟨none,(some 21),.aA (.t 0)⟩,
    ⟨none,(some 22),.aA (.t 1)⟩,
    ⟨none,(some 23),.aA (.t 2)⟩,
    ⟨none,(some 24),.call F.gz [(.t 21),(.t 22),(.t 23)]⟩,
    ⟨none,(some 25),.un .not (.t 24)⟩]))
  (.cond (.t 25)
   (.seq (.ar [6,7] (.region none [
     ⟨none,(some 6),.aA (.c .aw)⟩,
     ⟨none,(some 7),.aA (.c (.v (.int .i64 1)))⟩]))
   (.ret))
   (.skip)))
  (.seq (.ar [1,2,8] (.region none [
    ⟨none,(some 26),.aA (.t 0)⟩,
    ⟨none,(some 27),.mk 64 1 8 (.v (.pointer none)) (.t 26) (.t 26)⟩,
    ⟨none,(some 8),.alloc 63 1 .aw⟩,
    ⟨none,none,.store 1 (.t 8) (.t 27)⟩]))
  (.seq (.seq (.ar [1,2,8,29,30] (.region none [
    ⟨none,(some 28),.load none (.t 8)⟩,
    ⟨none,(some 29),.bm (.t 28)⟩,
    ⟨none,(some 30),.aA (.c (.v (.int .i64 0)))⟩]))
  (.block 0 (.loop (.seq (.ar [1,2,8,29,30,31] (.region none [
     ⟨none,(some 31),.bin .lss (.t 30) (.t 29)⟩]))
    (.seq (.cond (.t 31)
     (.skip)
     (.exit 0))
    (.seq (.block 1 (.seq (.ar [1,2,8,9,29,30] (.region none [
      ⟨none,(some 32),.aA (.t 30)⟩,
      ⟨none,(some 9),.aA (.t 32)⟩]))
     (.ar [1,2,8,29,30] (.region none [
       ⟨none,(some 33),.load none (.t 8)⟩,
       ⟨none,(some 34),.aA (.t 9)⟩,
       ⟨none,(some 35),.aA (.t 9)⟩,
       ⟨none,(some 36),.build [(.v (.int .i64 0)),(.v (.int .i64 0)),(.v (.string ⟨#[]⟩)),.aw,(.v (.pointer none))] [(0,1,(.c (.v (.int .i64 11)))),(1,1,(.t 35))]⟩,
       ⟨none,(some 37),.box 66 5 (.t 36)⟩,
       ⟨none,(some 38),.bJ 1 (.t 33) (.t 34)⟩,
       ⟨none,none,.store 1 (.t 38) (.t 37)⟩]))))
    (.ar [1,2,8,29,30] (.region none [
      ⟨none,(some 39),.bin .add (.t 30) (.c (.v (.int .i64 1)))⟩,
      ⟨none,(some 30),.aA (.t 39)⟩]))))))))
  (.seq (.ar [1,2,8,10] (.region none [
    ⟨none,(some 40),.sI F.dL [(.t 8)]⟩,
    ⟨none,(some 10),.aA (.t 40)⟩]))
  (.seq (.ar [1,2,8,10,11] (.region none [
    ⟨none,(some 41),.yZ⟩,
    ⟨none,(some 11),.aA (.t 41)⟩]))
  (.seq (.seq (.ar [1,2,8,10,11,43,44] (.region none [
    ⟨none,(some 42),.aA (.t 1)⟩,
    ⟨none,(some 43),.bm (.t 42)⟩,
    ⟨none,(some 44),.aA (.c (.v (.int .i64 0)))⟩]))
  (.block 2 (.loop (.seq (.ar [1,2,8,10,11,43,44,45] (.region none [
     ⟨none,(some 45),.bin .lss (.t 44) (.t 43)⟩]))
    (.seq (.cond (.t 45)
     (.skip)
     (.exit 2))
    (.seq (.block 3 (.seq (.ar [1,2,8,10,11,12,43,44] (.region none [
       ⟨none,(some 46),.aA (.t 44)⟩,
       ⟨none,(some 12),.aA (.t 46)⟩]))
     (.seq (.ar [1,2,8,10,11,43,44,60] (.region (some [[],[],[0,1],[2],[],[3,4],[],[],[6,7],[8],[],[9,10,5],[5,11,11],[12]]) [
       ⟨none,(some 47),.aA (.t 1)⟩,
       ⟨none,(some 48),.aA (.t 12)⟩,
       ⟨none,(some 49),.bJ 4 (.t 47) (.t 48)⟩,
       ⟨none,(some 50),.load (some 4) (.t 49)⟩,
       ⟨none,(some 51),.aA (.t 10)⟩,
       ⟨none,(some 52),.call F.dR [(.t 50),(.c (.v (.int .i64 11))),(.t 51)]⟩,
       ⟨none,(some 53),.aA (.t 2)⟩,
       ⟨none,(some 54),.aA (.t 12)⟩,
       ⟨none,(some 55),.bJ 4 (.t 53) (.t 54)⟩,
       ⟨none,(some 56),.load (some 4) (.t 55)⟩,
       ⟨none,(some 57),.aA (.t 10)⟩,
       ⟨none,(some 58),.call F.dR [(.t 56),(.c (.v (.int .i64 11))),(.t 57)]⟩,
       ⟨none,(some 59),.call F.jG [(.t 52),(.t 58)]⟩,
       ⟨none,(some 60),.un .not (.t 59)⟩]))
     (.cond (.t 60)
      (.seq (.ar [6,7] (.region none [
        ⟨none,(some 6),.aA (.c .aw)⟩,
        ⟨none,(some 7),.aA (.c (.v (.int .i64 2)))⟩]))
      (.ret))
      (.skip)))))
    (.ar [1,2,8,10,11,43,44] (.region none [
      ⟨none,(some 61),.bin .add (.t 44) (.c (.v (.int .i64 1)))⟩,
      ⟨none,(some 44),.aA (.t 61)⟩]))))))))
  (.seq (.seq (.ar [8,11,62,63,64] (.region none [
    ⟨none,(some 62),.load none (.t 8)⟩,
    ⟨none,(some 63),.bm (.t 62)⟩,
    ⟨none,(some 64),.aA (.c (.v (.int .i64 0)))⟩]))
  (.block 4 (.loop (.seq (.ar [8,11,62,63,64,65] (.region none [
     ⟨none,(some 65),.bin .lss (.t 64) (.t 63)⟩]))
    (.seq (.cond (.t 65)
     (.skip)
     (.exit 4))
    (.seq (.block 5 (.seq (.ar [8,11,14,62,63,64] (.region none [
       ⟨none,(some 66),.bJ 1 (.t 62) (.t 64)⟩,
       ⟨none,(some 67),.load none (.t 66)⟩,
       ⟨none,(some 14),.aA (.t 67)⟩]))
     (.seq (.ar [8,11,62,63,64,70] (.region none [
       ⟨none,(some 68),.aA (.t 14)⟩,
       ⟨none,(some 69),.aA (.t 11)⟩,
       ⟨none,(some 70),.call F.fm [(.t 68),(.t 69)]⟩]))
     (.cond (.t 70)
      (.seq (.ar [6,7] (.region none [
        ⟨none,(some 6),.aA (.c .aw)⟩,
        ⟨none,(some 7),.aA (.c (.v (.int .i64 2)))⟩]))
      (.ret))
      (.skip)))))
    (.ar [8,11,62,63,64] (.region none [
      ⟨none,(some 71),.bin .add (.t 64) (.c (.v (.int .i64 1)))⟩,
      ⟨none,(some 64),.aA (.t 71)⟩]))))))))
  (.seq (.ar [8,15] (.region none [
    ⟨none,(some 72),.yZ⟩,
    ⟨none,(some 15),.aA (.t 72)⟩]))
  (.seq (.ar [8,15,16] (.region none [
    ⟨none,(some 16),.aA (.c .aw)⟩]))
  (.seq (.seq (.ar [8,15,16,73,74,75] (.region none [
    ⟨none,(some 73),.load none (.t 8)⟩,
    ⟨none,(some 74),.bm (.t 73)⟩,
    ⟨none,(some 75),.aA (.c (.v (.int .i64 0)))⟩]))
  (.block 6 (.loop (.seq (.ar [8,15,16,73,74,75,76] (.region none [
     ⟨none,(some 76),.bin .lss (.t 75) (.t 74)⟩]))
    (.seq (.cond (.t 76)
     (.skip)
     (.exit 6))
    (.seq (.block 7 (.seq (.ar [8,15,16,18,73,74,75] (.region none [
       ⟨none,(some 77),.bJ 1 (.t 73) (.t 75)⟩,
       ⟨none,(some 78),.load none (.t 77)⟩,
       ⟨none,(some 18),.aA (.t 78)⟩]))
     (.seq (.ar [8,15,16,73,74,75,82] (.region none [
       ⟨none,(some 79),.aA (.t 18)⟩,
       ⟨none,(some 80),.aA (.t 15)⟩,
       ⟨none,(some 81),.call F.eI [(.t 79),(.t 80)]⟩,
       ⟨none,(some 82),.bin .gtr (.t 81) (.c (.v (.int .i64 200)))⟩]))
     (.cond (.t 82)
      (.seq (.ar [6,7] (.region none [
        ⟨none,(some 6),.aA (.c .aw)⟩,
        ⟨none,(some 7),.aA (.c (.v (.int .i64 3)))⟩]))
      (.ret))
      (.skip)))))
    (.ar [8,15,16,73,74,75] (.region none [
      ⟨none,(some 83),.bin .add (.t 75) (.c (.v (.int .i64 1)))⟩,
      ⟨none,(some 75),.aA (.t 83)⟩]))))))))
  (.seq (.seq (.ar [16,84,85,86] (.region none [
    ⟨none,(some 84),.load none (.t 8)⟩,
    ⟨none,(some 85),.bm (.t 84)⟩,
    ⟨none,(some 86),.aA (.c (.v (.int .i64 0)))⟩]))
  (.block 8 (.loop (.seq (.ar [16,84,85,86,87] (.region none [
     ⟨none,(some 87),.bin .lss (.t 86) (.t 85)⟩]))
    (.seq (.cond (.t 87)
     (.skip)
     (.exit 8))
    (.seq (.block 9 (.seq (.ar [16,20,84,85,86] (.region none [
      ⟨none,(some 88),.bJ 1 (.t 84) (.t 86)⟩,
      ⟨none,(some 89),.load none (.t 88)⟩,
      ⟨none,(some 20),.aA (.t 89)⟩]))
     (.ar [16,84,85,86] (.region none [
       ⟨none,(some 90),.aA (.t 16)⟩,
       ⟨none,(some 91),.aA (.t 20)⟩,
       ⟨none,(some 92),.call F.iE [(.t 91),(.c (.fn F.eG []))]⟩,
       ⟨none,(some 93),.buildSlice 29 4 1 (.agg [(.v (.int .i64 0)),(.v (.int .i64 0)),(.v (.string ⟨#[]⟩)),.aw]) [(0,(.t 92))]⟩,
       ⟨none,(some 94),.app 29 4 56 (.t 90) (.t 93)⟩,
       ⟨none,(some 16),.aA (.t 94)⟩]))))
    (.ar [16,84,85,86] (.region none [
      ⟨none,(some 95),.bin .add (.t 86) (.c (.v (.int .i64 1)))⟩,
      ⟨none,(some 86),.aA (.t 95)⟩]))))))))
  (.seq (.ar [6,7] (.region none [
    ⟨none,(some 96),.aA (.t 16)⟩,
    ⟨none,(some 6),.aA (.t 96)⟩,
    ⟨none,(some 7),.aA (.c (.v (.int .i64 0)))⟩]))
  (.ret)))))))))))))
theorem A.abd:rj Try.prog F.jv A.jv:=
 ⟨_,_,Try.func18,rfl,by kernel_rfl,rfl,by decide,by kernel_rfl,by kernel_rfl⟩
def A.gz:mo where
 cT:=3
 nt:=48
 res:=[.tmp 6]
 code:= .seq (.ar [1,2,3] (.region none [
    ⟨none,(some 3),.box 3 1 (.t 0)⟩,
    ⟨none,(some 6),.aA (.c (.v (.bool false)))⟩]))
  (.seq (.seq (.ar [1,2,3,23] (.region none [
    ⟨none,(some 9),.load none (.t 3)⟩,
    ⟨none,(some 10),.call F.fk [(.t 9),(.c (.v (.int .i64 0))),(.c (.v (.int .i64 300)))]⟩,
    ⟨none,(some 11),.un .not (.t 10)⟩,
    ⟨none,(some 12),.aA (.t 11)⟩,
    ⟨(some (12,false)),(some 13),.aA (.t 1)⟩,
    ⟨(some (12,false)),(some 14),.bm (.t 13)⟩,
    ⟨(some (12,false)),(some 15),.aA (.t 2)⟩,
    ⟨(some (12,false)),(some 16),.bm (.t 15)⟩,
    ⟨(some (12,false)),(some 17),.bin .neq (.t 14) (.t 16)⟩,
    ⟨none,(some 18),.pick (.t 12) (.c (.v (.bool true))) (.t 17)⟩,
    ⟨none,(some 19),.aA (.t 18)⟩,
    ⟨(some (19,false)),(some 20),.aA (.t 1)⟩,
    ⟨(some (19,false)),(some 21),.bm (.t 20)⟩,
    ⟨(some (19,false)),(some 22),.bin .gtr (.t 21) (.c (.v (.int .i64 200)))⟩,
    ⟨none,(some 23),.pick (.t 19) (.c (.v (.bool true))) (.t 22)⟩]))
  (.cond (.t 23)
   (.seq (.ar [6] (.region none [
     ⟨none,(some 6),.aA (.c (.v (.bool false)))⟩]))
   (.ret))
   (.skip)))
  (.seq (.seq (.ar [3,27,28,29] (.region none [
    ⟨none,(some 24),.aA (.t 1)⟩,
    ⟨none,(some 25),.aA (.t 2)⟩,
    ⟨none,(some 26),.buildSlice 27 1 2 .aw [(0,(.t 24)),(1,(.t 25))]⟩,
    ⟨none,(some 27),.call F.aS [(.t 26)]⟩,
    ⟨none,(some 28),.bm (.t 27)⟩,
    ⟨none,(some 29),.aA (.c (.v (.int .i64 0)))⟩]))
  (.block 0 (.loop (.seq (.ar [3,27,28,29,30] (.region none [
     ⟨none,(some 30),.bin .lss (.t 29) (.t 28)⟩]))
    (.seq (.cond (.t 30)
     (.skip)
     (.exit 0))
    (.seq (.block 1 (.seq (.ar [3,8,27,28,29] (.region none [
       ⟨none,(some 31),.bJ 4 (.t 27) (.t 29)⟩,
       ⟨none,(some 32),.load (some 4) (.t 31)⟩,
       ⟨none,(some 8),.alloc 29 4 (.agg [(.v (.int .i64 0)),(.v (.int .i64 0)),(.v (.string ⟨#[]⟩)),.aw])⟩,
       ⟨none,none,.store 4 (.t 8) (.t 32)⟩]))
     (.seq (.ar [3,27,28,29,46] (.region none [
       ⟨none,(some 33),.load (some 4) (.t 8)⟩,
       ⟨none,(some 34),.call F.gS [(.t 33)]⟩,
       ⟨none,(some 35),.un .not (.t 34)⟩,
       ⟨none,(some 36),.aA (.t 35)⟩,
       ⟨(some (36,false)),(some 37),.load (some 4) (.t 8)⟩,
       ⟨(some (36,false)),(some 38),.call F.gd [(.t 37)]⟩,
       ⟨(some (36,false)),(some 39),.bin .gtr (.t 38) (.c (.v (.int .i64 200)))⟩,
       ⟨none,(some 40),.pick (.t 36) (.c (.v (.bool true))) (.t 39)⟩,
       ⟨none,(some 41),.aA (.t 40)⟩,
       ⟨(some (41,false)),(some 42),.load (some 4) (.t 8)⟩,
       ⟨(some (41,false)),(some 43),.call F.kI [(.t 42),(.c (.v (.int .i64 11)))]⟩,
       ⟨(some (41,false)),(some 44),.sI F.fN [(.t 3)]⟩,
       ⟨(some (41,false)),(some 45),.call F.bT [(.t 43),(.t 44)]⟩,
       ⟨none,(some 46),.pick (.t 41) (.c (.v (.bool true))) (.t 45)⟩]))
     (.cond (.t 46)
      (.seq (.ar [6] (.region none [
        ⟨none,(some 6),.aA (.c (.v (.bool false)))⟩]))
      (.ret))
      (.skip)))))
    (.ar [3,27,28,29] (.region none [
      ⟨none,(some 47),.bin .add (.t 29) (.c (.v (.int .i64 1)))⟩,
      ⟨none,(some 29),.aA (.t 47)⟩]))))))))
  (.seq (.ar [6] (.region none [
    ⟨none,(some 6),.aA (.c (.v (.bool true)))⟩]))
  (.ret))))
theorem A.wM:rj Try.prog F.gz A.gz:=
 ⟨_,_,Try.func41,rfl,by kernel_rfl,rfl,by decide,by kernel_rfl,by kernel_rfl⟩
def A.dL:mo where
 cT:=2
 nt:=8
 res:=[.tmp 3]
 code:= .seq (.ar [0,1] (.region none [
   ⟨none,(some 3),.aA (.c (.v (.pointer none)))⟩]))
  (.seq (.ar [3] (.region none [
    ⟨none,(some 4),.load none (.t 1)⟩,
    ⟨none,(some 5),.aA (.t 0)⟩,
    ⟨none,(some 6),.bJ 1 (.t 4) (.t 5)⟩,
    ⟨none,(some 7),.load none (.t 6)⟩,
    ⟨none,(some 3),.aA (.t 7)⟩]))
  (.ret))
theorem A.wX:rj Try.prog F.dL A.dL:=
 ⟨_,_,Try.func42,rfl,by kernel_rfl,rfl,by decide,by kernel_rfl,by kernel_rfl⟩
def A.jG:mo where
 cT:=2
 nt:=126
 res:=[.tmp 4]
 code:= .seq (.ar [0,1] (.region none [
    ⟨none,(some 4),.aA (.c (.v (.bool false)))⟩]))
  (.seq (.ar [0,1] (.region none [
    ⟨none,(some 6),.aA (.t 0)⟩,
    ⟨none,(some 7),.call F.fO [(.t 6)]⟩,
    ⟨none,(some 8),.aA (.t 1)⟩,
    ⟨none,(some 9),.call F.fO [(.t 8)]⟩,
    ⟨none,(some 0),.aA (.t 7)⟩,
    ⟨none,(some 1),.aA (.t 9)⟩]))
  (.seq (.block 0 (.seq (.ar [0,1,10] (.region none [
     ⟨none,(some 11),.aA (.t 0)⟩,
     ⟨none,(some 12),.aA (.t 1)⟩,
     ⟨none,(some 13),.peq false (.t 11) (.t 12)⟩,
     ⟨none,(some 10),.aA (.t 13)⟩]))
   (.cond (.t 10)
    (.seq (.ar [4] (.region none [
      ⟨none,(some 4),.aA (.c (.v (.bool true)))⟩]))
    (.ret))
    (.seq (.ar [0,1,14] (.region (some [[],[0],[1],[2],[3],[4],[5],[6,5],[7,5],[8,5],[9,5],[10,5,5],[11],[12,11],[13,11],[14,11],[11],[16,11],[17,11],[18,11],[15,19,11],[11,20,5],[5,21],[22,11]]) [
      ⟨none,(some 15),.aA (.t 0)⟩,
      ⟨none,(some 16),.ca (.t 15)⟩,
      ⟨none,(some 17),.aK 0 (.t 16)⟩,
      ⟨none,(some 18),.load none (.t 17)⟩,
      ⟨none,(some 19),.bin .eql (.t 18) (.c (.v (.int .i64 11)))⟩,
      ⟨none,(some 20),.aA (.t 19)⟩,
      ⟨(some (20,true)),(some 21),.aA (.t 1)⟩,
      ⟨(some (20,true)),(some 22),.ca (.t 21)⟩,
      ⟨(some (20,true)),(some 23),.aK 0 (.t 22)⟩,
      ⟨(some (20,true)),(some 24),.load none (.t 23)⟩,
      ⟨(some (20,true)),(some 25),.bin .neq (.t 24) (.c (.v (.int .i64 11)))⟩,
      ⟨(some (20,true)),(some 26),.aA (.t 25)⟩,
      ⟨(some (26,false)),(some 27),.aA (.t 1)⟩,
      ⟨(some (26,false)),(some 28),.ca (.t 27)⟩,
      ⟨(some (26,false)),(some 29),.aK 1 (.t 28)⟩,
      ⟨(some (26,false)),(some 30),.load none (.t 29)⟩,
      ⟨(some (26,false)),(some 31),.aA (.t 0)⟩,
      ⟨(some (26,false)),(some 32),.ca (.t 31)⟩,
      ⟨(some (26,false)),(some 33),.aK 1 (.t 32)⟩,
      ⟨(some (26,false)),(some 34),.load none (.t 33)⟩,
      ⟨(some (26,false)),(some 35),.bin .lss (.t 30) (.t 34)⟩,
      ⟨(some (20,true)),(some 36),.pick (.t 26) (.c (.v (.bool true))) (.t 35)⟩,
      ⟨none,(some 37),.pick (.t 20) (.t 36) (.c (.v (.bool false)))⟩,
      ⟨none,(some 14),.aA (.t 37)⟩]))
    (.cond (.t 14)
     (.seq (.ar [] (.region none [
       ⟨none,(some 38),.aA (.t 0)⟩,
       ⟨none,(some 39),.aA (.t 1)⟩,
       ⟨none,(some 40),.ca (.t 38)⟩,
       ⟨none,(some 41),.aK 4 (.t 40)⟩,
       ⟨none,none,.store 1 (.t 41) (.t 39)⟩]))
     (.seq (.ar [4] (.region none [
       ⟨none,(some 4),.aA (.c (.v (.bool true)))⟩]))
     (.ret)))
     (.seq (.ar [0,1,42] (.region none [
       ⟨none,(some 43),.aA (.t 1)⟩,
       ⟨none,(some 44),.ca (.t 43)⟩,
       ⟨none,(some 45),.aK 0 (.t 44)⟩,
       ⟨none,(some 46),.load none (.t 45)⟩,
       ⟨none,(some 47),.bin .eql (.t 46) (.c (.v (.int .i64 11)))⟩,
       ⟨none,(some 42),.aA (.t 47)⟩]))
     (.cond (.t 42)
      (.seq (.ar [] (.region none [
        ⟨none,(some 48),.aA (.t 1)⟩,
        ⟨none,(some 49),.aA (.t 0)⟩,
        ⟨none,(some 50),.ca (.t 48)⟩,
        ⟨none,(some 51),.aK 4 (.t 50)⟩,
        ⟨none,none,.store 1 (.t 51) (.t 49)⟩]))
      (.seq (.ar [4] (.region none [
        ⟨none,(some 4),.aA (.c (.v (.bool true)))⟩]))
      (.ret)))
      (.seq (.ar [0,1,52] (.region (some [[],[0],[1],[2],[],[4],[5],[6],[3,7],[8],[9],[10,9],[11,9],[12,9],[9],[14,9],[15,9],[16,9],[13,17,9],[9,18],[19,9],[20],[21,20],[22,20],[23,20],[20],[25,20],[26,20],[27,20],[24,28,20],[20,29],[30,20],[31],[32,31],[33,31],[34,31],[35,31],[31],[37,31],[38,31],[39,31],[40,31],[36,41,31],[31,42],[43,31]]) [
        ⟨none,(some 53),.aA (.t 0)⟩,
        ⟨none,(some 54),.ca (.t 53)⟩,
        ⟨none,(some 55),.aK 0 (.t 54)⟩,
        ⟨none,(some 56),.load none (.t 55)⟩,
        ⟨none,(some 57),.aA (.t 1)⟩,
        ⟨none,(some 58),.ca (.t 57)⟩,
        ⟨none,(some 59),.aK 0 (.t 58)⟩,
        ⟨none,(some 60),.load none (.t 59)⟩,
        ⟨none,(some 61),.bin .neq (.t 56) (.t 60)⟩,
        ⟨none,(some 62),.aA (.t 61)⟩,
        ⟨(some (62,false)),(some 63),.aA (.t 0)⟩,
        ⟨(some (62,false)),(some 64),.ca (.t 63)⟩,
        ⟨(some (62,false)),(some 65),.aK 1 (.t 64)⟩,
        ⟨(some (62,false)),(some 66),.load none (.t 65)⟩,
        ⟨(some (62,false)),(some 67),.aA (.t 1)⟩,
        ⟨(some (62,false)),(some 68),.ca (.t 67)⟩,
        ⟨(some (62,false)),(some 69),.aK 1 (.t 68)⟩,
        ⟨(some (62,false)),(some 70),.load none (.t 69)⟩,
        ⟨(some (62,false)),(some 71),.bin .neq (.t 66) (.t 70)⟩,
        ⟨none,(some 72),.pick (.t 62) (.c (.v (.bool true))) (.t 71)⟩,
        ⟨none,(some 73),.aA (.t 72)⟩,
        ⟨(some (73,false)),(some 74),.aA (.t 0)⟩,
        ⟨(some (73,false)),(some 75),.ca (.t 74)⟩,
        ⟨(some (73,false)),(some 76),.aK 2 (.t 75)⟩,
        ⟨(some (73,false)),(some 77),.load none (.t 76)⟩,
        ⟨(some (73,false)),(some 78),.aA (.t 1)⟩,
        ⟨(some (73,false)),(some 79),.ca (.t 78)⟩,
        ⟨(some (73,false)),(some 80),.aK 2 (.t 79)⟩,
        ⟨(some (73,false)),(some 81),.load none (.t 80)⟩,
        ⟨(some (73,false)),(some 82),.bin .neq (.t 77) (.t 81)⟩,
        ⟨none,(some 83),.pick (.t 73) (.c (.v (.bool true))) (.t 82)⟩,
        ⟨none,(some 84),.aA (.t 83)⟩,
        ⟨(some (84,false)),(some 85),.aA (.t 0)⟩,
        ⟨(some (84,false)),(some 86),.ca (.t 85)⟩,
        ⟨(some (84,false)),(some 87),.aK 3 (.t 86)⟩,
        ⟨(some (84,false)),(some 88),.load none (.t 87)⟩,
        ⟨(some (84,false)),(some 89),.bm (.t 88)⟩,
        ⟨(some (84,false)),(some 90),.aA (.t 1)⟩,
        ⟨(some (84,false)),(some 91),.ca (.t 90)⟩,
        ⟨(some (84,false)),(some 92),.aK 3 (.t 91)⟩,
        ⟨(some (84,false)),(some 93),.load none (.t 92)⟩,
        ⟨(some (84,false)),(some 94),.bm (.t 93)⟩,
        ⟨(some (84,false)),(some 95),.bin .neq (.t 89) (.t 94)⟩,
        ⟨none,(some 96),.pick (.t 84) (.c (.v (.bool true))) (.t 95)⟩,
        ⟨none,(some 52),.aA (.t 96)⟩]))
      (.cond (.t 52)
       (.seq (.ar [4] (.region none [
         ⟨none,(some 4),.aA (.c (.v (.bool false)))⟩]))
       (.ret))
       (.skip))))))))))
  (.seq (.ar [0,1] (.region none [
    ⟨none,(some 97),.aA (.t 0)⟩,
    ⟨none,(some 98),.aA (.t 1)⟩,
    ⟨none,(some 99),.ca (.t 97)⟩,
    ⟨none,(some 100),.aK 4 (.t 99)⟩,
    ⟨none,none,.store 1 (.t 100) (.t 98)⟩]))
  (.seq (.seq (.ar [0,1,105,106] (.region none [
    ⟨none,(some 101),.aA (.t 0)⟩,
    ⟨none,(some 102),.ca (.t 101)⟩,
    ⟨none,(some 103),.aK 3 (.t 102)⟩,
    ⟨none,(some 104),.load none (.t 103)⟩,
    ⟨none,(some 105),.bm (.t 104)⟩,
    ⟨none,(some 106),.aA (.c (.v (.int .i64 0)))⟩]))
  (.block 1 (.loop (.seq (.ar [0,1,105,106,107] (.region none [
     ⟨none,(some 107),.bin .lss (.t 106) (.t 105)⟩]))
    (.seq (.cond (.t 107)
     (.skip)
     (.exit 1))
    (.seq (.block 2 (.seq (.ar [0,1,5,105,106] (.region none [
       ⟨none,(some 108),.aA (.t 106)⟩,
       ⟨none,(some 5),.aA (.t 108)⟩]))
     (.seq (.ar [0,1,105,106,124] (.region (some [[],[0],[1],[2],[],[3,4],[5],[],[7],[8],[9],[],[10,11],[12],[6,13],[14]]) [
       ⟨none,(some 109),.aA (.t 0)⟩,
       ⟨none,(some 110),.ca (.t 109)⟩,
       ⟨none,(some 111),.aK 3 (.t 110)⟩,
       ⟨none,(some 112),.load none (.t 111)⟩,
       ⟨none,(some 113),.aA (.t 5)⟩,
       ⟨none,(some 114),.bJ 1 (.t 112) (.t 113)⟩,
       ⟨none,(some 115),.load none (.t 114)⟩,
       ⟨none,(some 116),.aA (.t 1)⟩,
       ⟨none,(some 117),.ca (.t 116)⟩,
       ⟨none,(some 118),.aK 3 (.t 117)⟩,
       ⟨none,(some 119),.load none (.t 118)⟩,
       ⟨none,(some 120),.aA (.t 5)⟩,
       ⟨none,(some 121),.bJ 1 (.t 119) (.t 120)⟩,
       ⟨none,(some 122),.load none (.t 121)⟩,
       ⟨none,(some 123),.call F.jG [(.t 115),(.t 122)]⟩,
       ⟨none,(some 124),.un .not (.t 123)⟩]))
     (.cond (.t 124)
      (.seq (.ar [4] (.region none [
        ⟨none,(some 4),.aA (.c (.v (.bool false)))⟩]))
      (.ret))
      (.skip)))))
    (.ar [0,1,105,106] (.region none [
      ⟨none,(some 125),.bin .add (.t 106) (.c (.v (.int .i64 1)))⟩,
      ⟨none,(some 106),.aA (.t 125)⟩]))))))))
  (.seq (.ar [4] (.region none [
    ⟨none,(some 4),.aA (.c (.v (.bool true)))⟩]))
  (.ret))))))
theorem A.adA:rj Try.prog F.jG A.jG:=
 ⟨_,_,Try.func43,rfl,by kernel_rfl,rfl,by decide,by kernel_rfl,by kernel_rfl⟩
def A.dR:mo where
 cT:=3
 nt:=48
 res:=[.tmp 6]
 code:= .seq (.ar [1,2,3] (.region none [
    ⟨none,(some 3),.box 29 4 (.t 0)⟩,
    ⟨none,(some 6),.aA (.c (.v (.pointer none)))⟩]))
  (.seq (.seq (.ar [1,2,3,13] (.region none [
    ⟨none,(some 10),.aK 0 (.t 3)⟩,
    ⟨none,(some 11),.load none (.t 10)⟩,
    ⟨none,(some 12),.aA (.t 1)⟩,
    ⟨none,(some 13),.bin .eql (.t 11) (.t 12)⟩]))
  (.cond (.t 13)
   (.seq (.ar [6] (.region none [
     ⟨none,(some 14),.aA (.t 2)⟩,
     ⟨none,(some 15),.aK 1 (.t 3)⟩,
     ⟨none,(some 16),.load none (.t 15)⟩,
     ⟨none,(some 17),.ew (.t 14) [(.t 16)]⟩,
     ⟨none,(some 6),.aA (.t 17)⟩]))
   (.ret))
   (.skip)))
  (.seq (.ar [1,2,3,7] (.region none [
    ⟨none,(some 18),.aK 0 (.t 3)⟩,
    ⟨none,(some 19),.load none (.t 18)⟩,
    ⟨none,(some 20),.aK 1 (.t 3)⟩,
    ⟨none,(some 21),.load none (.t 20)⟩,
    ⟨none,(some 22),.aK 2 (.t 3)⟩,
    ⟨none,(some 23),.load none (.t 22)⟩,
    ⟨none,(some 24),.build [(.v (.int .i64 0)),(.v (.int .i64 0)),(.v (.string ⟨#[]⟩)),.aw,(.v (.pointer none))] [(0,1,(.t 19)),(1,1,(.t 21)),(2,1,(.t 23))]⟩,
    ⟨none,(some 25),.box 66 5 (.t 24)⟩,
    ⟨none,(some 7),.aA (.t 25)⟩]))
  (.seq (.seq (.ar [1,2,7,27,28,29] (.region none [
    ⟨none,(some 26),.aK 3 (.t 3)⟩,
    ⟨none,(some 27),.load none (.t 26)⟩,
    ⟨none,(some 28),.bm (.t 27)⟩,
    ⟨none,(some 29),.aA (.c (.v (.int .i64 0)))⟩]))
  (.block 0 (.loop (.seq (.ar [1,2,7,27,28,29,30] (.region none [
     ⟨none,(some 30),.bin .lss (.t 29) (.t 28)⟩]))
    (.seq (.cond (.t 30)
     (.skip)
     (.exit 0))
    (.seq (.block 1 (.seq (.ar [1,2,7,9,27,28,29] (.region none [
      ⟨none,(some 31),.bJ 4 (.t 27) (.t 29)⟩,
      ⟨none,(some 32),.load (some 4) (.t 31)⟩,
      ⟨none,(some 9),.alloc 29 4 (.agg [(.v (.int .i64 0)),(.v (.int .i64 0)),(.v (.string ⟨#[]⟩)),.aw])⟩,
      ⟨none,none,.store 4 (.t 9) (.t 32)⟩]))
     (.ar [1,2,7,27,28,29] (.region (some [[],[],[1],[2],[3],[],[],[],[5,6,7],[8],[4,9,8],[0,0,1,2,3,4,5,6,7,8,9,10],[11,0,1,2,3,4,5,6,7,8,9,10],[12,10,10,0,1,2,3,4,5,6,7,8,9,10]]) [
       ⟨none,(some 33),.aA (.t 7)⟩,
       ⟨none,(some 34),.aA (.t 7)⟩,
       ⟨none,(some 35),.ca (.t 34)⟩,
       ⟨none,(some 36),.aK 3 (.t 35)⟩,
       ⟨none,(some 37),.load none (.t 36)⟩,
       ⟨none,(some 38),.load (some 4) (.t 9)⟩,
       ⟨none,(some 39),.aA (.t 1)⟩,
       ⟨none,(some 40),.aA (.t 2)⟩,
       ⟨none,(some 41),.call F.dR [(.t 38),(.t 39),(.t 40)]⟩,
       ⟨none,(some 42),.buildSlice 64 1 1 (.v (.pointer none)) [(0,(.t 41))]⟩,
       ⟨none,(some 43),.app 64 1 8 (.t 37) (.t 42)⟩,
       ⟨none,(some 44),.ca (.t 33)⟩,
       ⟨none,(some 45),.aK 3 (.t 44)⟩,
       ⟨none,none,.store 1 (.t 45) (.t 43)⟩]))))
    (.ar [1,2,7,27,28,29] (.region none [
      ⟨none,(some 46),.bin .add (.t 29) (.c (.v (.int .i64 1)))⟩,
      ⟨none,(some 29),.aA (.t 46)⟩]))))))))
  (.seq (.ar [6] (.region none [
    ⟨none,(some 47),.aA (.t 7)⟩,
    ⟨none,(some 6),.aA (.t 47)⟩]))
  (.ret)))))
theorem A.zr:rj Try.prog F.dR A.dR:=
 ⟨_,_,Try.func44,rfl,by kernel_rfl,rfl,by decide,by kernel_rfl,by kernel_rfl⟩
def A.fm:mo where
 cT:=2
 nt:=34
 res:=[.tmp 4]
 code:= .seq (.ar [0,1] (.region none [
    ⟨none,(some 4),.aA (.c (.v (.bool false)))⟩]))
  (.seq (.ar [0,1] (.region none [
    ⟨none,(some 7),.aA (.t 0)⟩,
    ⟨none,(some 8),.call F.fO [(.t 7)]⟩,
    ⟨none,(some 0),.aA (.t 8)⟩]))
  (.seq (.seq (.ar [0,1,12] (.region none [
    ⟨none,(some 9),.aA (.t 1)⟩,
    ⟨none,(some 10),.aA (.t 0)⟩,
    ⟨none,(some 11),.aa2 false (.v (.int .i64 0)) (.t 9) (.t 10)⟩,
    ⟨none,(some 12),.bin .neq (.t 11) (.c (.v (.int .i64 0)))⟩]))
  (.cond (.t 12)
   (.seq (.ar [4] (.region none [
     ⟨none,(some 13),.aA (.t 1)⟩,
     ⟨none,(some 14),.aA (.t 0)⟩,
     ⟨none,(some 15),.aa2 false (.v (.int .i64 0)) (.t 13) (.t 14)⟩,
     ⟨none,(some 16),.bin .eql (.t 15) (.c (.v (.int .i64 1)))⟩,
     ⟨none,(some 4),.aA (.t 16)⟩]))
   (.ret))
   (.skip)))
  (.seq (.ar [0,1] (.region none [
    ⟨none,(some 17),.aA (.t 1)⟩,
    ⟨none,(some 18),.aA (.t 0)⟩,
    ⟨none,none,.kE (.t 17) (.t 18) (.c (.v (.int .i64 1)))⟩]))
  (.seq (.seq (.ar [0,1,22,23,24] (.region none [
    ⟨none,(some 19),.aA (.t 0)⟩,
    ⟨none,(some 20),.ca (.t 19)⟩,
    ⟨none,(some 21),.aK 3 (.t 20)⟩,
    ⟨none,(some 22),.load none (.t 21)⟩,
    ⟨none,(some 23),.bm (.t 22)⟩,
    ⟨none,(some 24),.aA (.c (.v (.int .i64 0)))⟩]))
  (.block 0 (.loop (.seq (.ar [0,1,22,23,24,25] (.region none [
     ⟨none,(some 25),.bin .lss (.t 24) (.t 23)⟩]))
    (.seq (.cond (.t 25)
     (.skip)
     (.exit 0))
    (.seq (.block 1 (.seq (.ar [0,1,6,22,23,24] (.region none [
       ⟨none,(some 26),.bJ 1 (.t 22) (.t 24)⟩,
       ⟨none,(some 27),.load none (.t 26)⟩,
       ⟨none,(some 6),.aA (.t 27)⟩]))
     (.seq (.ar [0,1,22,23,24,30] (.region none [
       ⟨none,(some 28),.aA (.t 6)⟩,
       ⟨none,(some 29),.aA (.t 1)⟩,
       ⟨none,(some 30),.call F.fm [(.t 28),(.t 29)]⟩]))
     (.cond (.t 30)
      (.seq (.ar [4] (.region none [
        ⟨none,(some 4),.aA (.c (.v (.bool true)))⟩]))
      (.ret))
      (.skip)))))
    (.ar [0,1,22,23,24] (.region none [
      ⟨none,(some 31),.bin .add (.t 24) (.c (.v (.int .i64 1)))⟩,
      ⟨none,(some 24),.aA (.t 31)⟩]))))))))
  (.seq (.ar [] (.region none [
    ⟨none,(some 32),.aA (.t 1)⟩,
    ⟨none,(some 33),.aA (.t 0)⟩,
    ⟨none,none,.kE (.t 32) (.t 33) (.c (.v (.int .i64 2)))⟩]))
  (.seq (.ar [4] (.region none [
    ⟨none,(some 4),.aA (.c (.v (.bool false)))⟩]))
  (.ret)))))))
theorem A.wU:rj Try.prog F.fm A.fm:=
 ⟨_,_,Try.func45,rfl,by kernel_rfl,rfl,by decide,by kernel_rfl,by kernel_rfl⟩
def A.eI:mo where
 cT:=2
 nt:=40
 res:=[.tmp 4]
 code:= .seq (.ar [0,1] (.region none [
    ⟨none,(some 4),.aA (.c (.v (.int .i64 0)))⟩]))
  (.seq (.ar [0,1] (.region none [
    ⟨none,(some 10),.aA (.t 0)⟩,
    ⟨none,(some 11),.call F.fO [(.t 10)]⟩,
    ⟨none,(some 0),.aA (.t 11)⟩]))
  (.seq (.seq (.ar [0,1,5,6] (.region none [
    ⟨none,(some 13),.aA (.t 1)⟩,
    ⟨none,(some 14),.aA (.t 0)⟩,
    ⟨none,(some 15),.aa2 true (.v (.int .i64 0)) (.t 13) (.t 14)⟩,
    ⟨none,(some 12),.aA (.t 15)⟩,
    ⟨none,(some 16),.ext (.t 12) 0⟩,
    ⟨none,(some 17),.ext (.t 12) 1⟩,
    ⟨none,(some 5),.aA (.t 16)⟩,
    ⟨none,(some 6),.aA (.t 17)⟩]))
  (.seq (.ar [0,1,5,18] (.region none [
    ⟨none,(some 18),.aA (.t 6)⟩]))
  (.cond (.t 18)
   (.seq (.ar [4] (.region none [
     ⟨none,(some 19),.aA (.t 5)⟩,
     ⟨none,(some 4),.aA (.t 19)⟩]))
   (.ret))
   (.skip))))
  (.seq (.ar [0,1,7] (.region none [
    ⟨none,(some 7),.aA (.c (.v (.int .i64 1)))⟩]))
  (.seq (.seq (.ar [0,1,7,23,24,25] (.region none [
    ⟨none,(some 20),.aA (.t 0)⟩,
    ⟨none,(some 21),.ca (.t 20)⟩,
    ⟨none,(some 22),.aK 3 (.t 21)⟩,
    ⟨none,(some 23),.load none (.t 22)⟩,
    ⟨none,(some 24),.bm (.t 23)⟩,
    ⟨none,(some 25),.aA (.c (.v (.int .i64 0)))⟩]))
  (.block 0 (.loop (.seq (.ar [0,1,7,23,24,25,26] (.region none [
     ⟨none,(some 26),.bin .lss (.t 25) (.t 24)⟩]))
    (.seq (.cond (.t 26)
     (.skip)
     (.exit 0))
    (.seq (.block 1 (.seq (.ar [0,1,7,9,23,24,25] (.region none [
      ⟨none,(some 27),.bJ 1 (.t 23) (.t 25)⟩,
      ⟨none,(some 28),.load none (.t 27)⟩,
      ⟨none,(some 9),.aA (.t 28)⟩]))
     (.ar [0,1,7,23,24,25] (.region none [
       ⟨none,(some 29),.aA (.t 7)⟩,
       ⟨none,(some 30),.aA (.t 9)⟩,
       ⟨none,(some 31),.aA (.t 1)⟩,
       ⟨none,(some 32),.call F.eI [(.t 30),(.t 31)]⟩,
       ⟨none,(some 33),.bin .add (.t 29) (.t 32)⟩,
       ⟨none,(some 34),.pu .min [(.t 33),(.c (.v (.int .i64 201)))]⟩,
       ⟨none,(some 7),.aA (.t 34)⟩]))))
    (.ar [0,1,7,23,24,25] (.region none [
      ⟨none,(some 35),.bin .add (.t 25) (.c (.v (.int .i64 1)))⟩,
      ⟨none,(some 25),.aA (.t 35)⟩]))))))))
  (.seq (.ar [7] (.region none [
    ⟨none,(some 36),.aA (.t 1)⟩,
    ⟨none,(some 37),.aA (.t 0)⟩,
    ⟨none,(some 38),.aA (.t 7)⟩,
    ⟨none,none,.kE (.t 36) (.t 37) (.t 38)⟩]))
  (.seq (.ar [4] (.region none [
    ⟨none,(some 39),.aA (.t 7)⟩,
    ⟨none,(some 4),.aA (.t 39)⟩]))
  (.ret)))))))
theorem A.vd:rj Try.prog F.eI A.eI:=
 ⟨_,_,Try.func46,rfl,by kernel_rfl,rfl,by decide,by kernel_rfl,by kernel_rfl⟩
def A.iE:mo where
 cT:=2
 nt:=50
 res:=[.cell 4 (some 4)]
 code:= .seq (.ar [0,1,4] (.region none [
    ⟨none,(some 4),.alloc 29 4 (.agg [(.v (.int .i64 0)),(.v (.int .i64 0)),(.v (.string ⟨#[]⟩)),.aw])⟩]))
  (.seq (.ar [0,1,4] (.region none [
    ⟨none,(some 8),.aA (.t 0)⟩,
    ⟨none,(some 9),.call F.fO [(.t 8)]⟩,
    ⟨none,(some 0),.aA (.t 9)⟩]))
  (.seq (.seq (.ar [0,1,4,14] (.region none [
    ⟨none,(some 10),.aA (.t 0)⟩,
    ⟨none,(some 11),.ca (.t 10)⟩,
    ⟨none,(some 12),.aK 0 (.t 11)⟩,
    ⟨none,(some 13),.load none (.t 12)⟩,
    ⟨none,(some 14),.call F.cG [(.t 13)]⟩]))
  (.cond (.t 14)
   (.seq (.ar [4] (.region none [
     ⟨none,(some 15),.aA (.t 1)⟩,
     ⟨none,(some 16),.aA (.t 0)⟩,
     ⟨none,(some 17),.ew (.t 15) [(.t 16)]⟩,
     ⟨none,none,.store 4 (.t 4) (.t 17)⟩]))
   (.ret))
   (.skip)))
  (.seq (.ar [0,1,4,5] (.region (some [[],[0],[1],[2],[],[4],[5],[6],[],[8],[9],[10],[3,7,11],[],[13,12,0,1,2,3,4,5,6,7,8,9,10,11,12,13]]) [
    ⟨none,(some 18),.aA (.t 0)⟩,
    ⟨none,(some 19),.ca (.t 18)⟩,
    ⟨none,(some 20),.aK 0 (.t 19)⟩,
    ⟨none,(some 21),.load none (.t 20)⟩,
    ⟨none,(some 22),.aA (.t 0)⟩,
    ⟨none,(some 23),.ca (.t 22)⟩,
    ⟨none,(some 24),.aK 1 (.t 23)⟩,
    ⟨none,(some 25),.load none (.t 24)⟩,
    ⟨none,(some 26),.aA (.t 0)⟩,
    ⟨none,(some 27),.ca (.t 26)⟩,
    ⟨none,(some 28),.aK 2 (.t 27)⟩,
    ⟨none,(some 29),.load none (.t 28)⟩,
    ⟨none,(some 30),.build [(.v (.int .i64 0)),(.v (.int .i64 0)),(.v (.string ⟨#[]⟩)),.aw] [(0,1,(.t 21)),(1,1,(.t 25)),(2,1,(.t 29))]⟩,
    ⟨none,(some 5),.alloc 29 4 (.agg [(.v (.int .i64 0)),(.v (.int .i64 0)),(.v (.string ⟨#[]⟩)),.aw])⟩,
    ⟨none,none,.store 4 (.t 5) (.t 30)⟩]))
  (.seq (.seq (.ar [1,4,5,34,35,36] (.region none [
    ⟨none,(some 31),.aA (.t 0)⟩,
    ⟨none,(some 32),.ca (.t 31)⟩,
    ⟨none,(some 33),.aK 3 (.t 32)⟩,
    ⟨none,(some 34),.load none (.t 33)⟩,
    ⟨none,(some 35),.bm (.t 34)⟩,
    ⟨none,(some 36),.aA (.c (.v (.int .i64 0)))⟩]))
  (.block 0 (.loop (.seq (.ar [1,4,5,34,35,36,37] (.region none [
     ⟨none,(some 37),.bin .lss (.t 36) (.t 35)⟩]))
    (.seq (.cond (.t 37)
     (.skip)
     (.exit 0))
    (.seq (.block 1 (.seq (.ar [1,4,5,7,34,35,36] (.region none [
      ⟨none,(some 38),.bJ 1 (.t 34) (.t 36)⟩,
      ⟨none,(some 39),.load none (.t 38)⟩,
      ⟨none,(some 7),.aA (.t 39)⟩]))
     (.ar [1,4,5,34,35,36] (.region (some [[],[0],[],[],[2,3],[4],[1,5,4],[0,1,2,3,4,5,6],[7,6,6,0,1,2,3,4,5,6]]) [
       ⟨none,(some 40),.aK 3 (.t 5)⟩,
       ⟨none,(some 41),.load none (.t 40)⟩,
       ⟨none,(some 42),.aA (.t 7)⟩,
       ⟨none,(some 43),.aA (.t 1)⟩,
       ⟨none,(some 44),.call F.iE [(.t 42),(.t 43)]⟩,
       ⟨none,(some 45),.buildSlice 29 4 1 (.agg [(.v (.int .i64 0)),(.v (.int .i64 0)),(.v (.string ⟨#[]⟩)),.aw]) [(0,(.t 44))]⟩,
       ⟨none,(some 46),.app 29 4 56 (.t 41) (.t 45)⟩,
       ⟨none,(some 47),.aK 3 (.t 5)⟩,
       ⟨none,none,.store 1 (.t 47) (.t 46)⟩]))))
    (.ar [1,4,5,34,35,36] (.region none [
      ⟨none,(some 48),.bin .add (.t 36) (.c (.v (.int .i64 1)))⟩,
      ⟨none,(some 36),.aA (.t 48)⟩]))))))))
  (.seq (.ar [4] (.region none [
    ⟨none,(some 49),.load (some 4) (.t 5)⟩,
    ⟨none,none,.store 4 (.t 4) (.t 49)⟩]))
  (.ret))))))
theorem A.adu:rj Try.prog F.iE A.iE:=
 ⟨_,_,Try.func47,rfl,by kernel_rfl,rfl,by decide,by kernel_rfl,by kernel_rfl⟩
def A.eG:mo where
 cT:=1
 nt:=12
 res:=[.cell 2 (some 4)]
 code:= .seq (.ar [0,2] (.region none [
   ⟨none,(some 2),.alloc 29 4 (.agg [(.v (.int .i64 0)),(.v (.int .i64 0)),(.v (.string ⟨#[]⟩)),.aw])⟩]))
  (.seq (.ar [2] (.region (some [[],[0],[1],[2],[],[4],[5],[6],[3,7],[8,0,1,2,3,4,5,6,7,8]]) [
    ⟨none,(some 3),.aA (.t 0)⟩,
    ⟨none,(some 4),.ca (.t 3)⟩,
    ⟨none,(some 5),.aK 0 (.t 4)⟩,
    ⟨none,(some 6),.load none (.t 5)⟩,
    ⟨none,(some 7),.aA (.t 0)⟩,
    ⟨none,(some 8),.ca (.t 7)⟩,
    ⟨none,(some 9),.aK 1 (.t 8)⟩,
    ⟨none,(some 10),.load none (.t 9)⟩,
    ⟨none,(some 11),.build [(.v (.int .i64 0)),(.v (.int .i64 0)),(.v (.string ⟨#[]⟩)),.aw] [(0,1,(.t 6)),(1,1,(.t 10))]⟩,
    ⟨none,none,.store 4 (.t 2) (.t 11)⟩]))
  (.ret))
theorem A.wW:rj Try.prog F.eG A.eG:=
 ⟨_,_,Try.func48,rfl,by kernel_rfl,rfl,by decide,by kernel_rfl,by kernel_rfl⟩
def A.bT:mo where
 cT:=2
 nt:=9
 res:=[.tmp 4]
 code:= .seq (.ar [0,1] (.region none [
   ⟨none,(some 4),.aA (.c (.v (.bool false)))⟩]))
  (.seq (.ar [4] (.region none [
    ⟨none,(some 5),.aA (.t 0)⟩,
    ⟨none,(some 6),.aA (.t 1)⟩,
    ⟨none,(some 7),.call F.bQ [(.t 5),(.t 6)]⟩,
    ⟨none,(some 8),.bin .geq (.t 7) (.c (.v (.int .i64 0)))⟩,
    ⟨none,(some 4),.aA (.t 8)⟩]))
  (.ret))
theorem A.kl:rj Try.prog F.bT A.bT:=
 ⟨_,_,Try.func76,rfl,by kernel_rfl,rfl,by decide,by kernel_rfl,by kernel_rfl⟩
def A.fN:mo where
 cT:=2
 nt:=7
 res:=[.tmp 3]
 code:= .seq (.ar [0,1] (.region none [
   ⟨none,(some 3),.aA (.c (.v (.bool false)))⟩]))
  (.seq (.ar [3] (.region none [
    ⟨none,(some 4),.aA (.t 0)⟩,
    ⟨none,(some 5),.load none (.t 1)⟩,
    ⟨none,(some 6),.bin .geq (.t 4) (.t 5)⟩,
    ⟨none,(some 3),.aA (.t 6)⟩]))
  (.ret))
theorem A.tN:rj Try.prog F.fN A.fN:=
 ⟨_,_,Try.func77,rfl,by kernel_rfl,rfl,by decide,by kernel_rfl,by kernel_rfl⟩
def A.fO:mo where
 cT:=1
 nt:=31
 res:=[.tmp 2]
 code:= .seq (.ar [0] (.region none [
   ⟨none,(some 2),.aA (.c (.v (.pointer none)))⟩]))
  (.seq (.block 0 (.loop (.seq (.seq (.ar [0,7] (.region none [
     ⟨none,(some 3),.aA (.t 0)⟩,
     ⟨none,(some 4),.ca (.t 3)⟩,
     ⟨none,(some 5),.aK 4 (.t 4)⟩,
     ⟨none,(some 6),.load none (.t 5)⟩,
     ⟨none,(some 7),.wJ true (.t 6)⟩]))
    (.cond (.t 7)
     (.skip)
     (.exit 0)))
    (.block 1 (.seq (.seq (.ar [0,15] (.region none [
       ⟨none,(some 8),.aA (.t 0)⟩,
       ⟨none,(some 9),.ca (.t 8)⟩,
       ⟨none,(some 10),.aK 4 (.t 9)⟩,
       ⟨none,(some 11),.load none (.t 10)⟩,
       ⟨none,(some 12),.ca (.t 11)⟩,
       ⟨none,(some 13),.aK 4 (.t 12)⟩,
       ⟨none,(some 14),.load none (.t 13)⟩,
       ⟨none,(some 15),.wJ true (.t 14)⟩]))
     (.cond (.t 15)
      (.ar [0] (.region none [
        ⟨none,(some 16),.aA (.t 0)⟩,
        ⟨none,(some 17),.aA (.t 0)⟩,
        ⟨none,(some 18),.ca (.t 17)⟩,
        ⟨none,(some 19),.aK 4 (.t 18)⟩,
        ⟨none,(some 20),.load none (.t 19)⟩,
        ⟨none,(some 21),.ca (.t 20)⟩,
        ⟨none,(some 22),.aK 4 (.t 21)⟩,
        ⟨none,(some 23),.load none (.t 22)⟩,
        ⟨none,(some 24),.ca (.t 16)⟩,
        ⟨none,(some 25),.aK 4 (.t 24)⟩,
        ⟨none,none,.store 1 (.t 25) (.t 23)⟩]))
      (.skip)))
     (.ar [0] (.region none [
       ⟨none,(some 26),.aA (.t 0)⟩,
       ⟨none,(some 27),.ca (.t 26)⟩,
       ⟨none,(some 28),.aK 4 (.t 27)⟩,
       ⟨none,(some 29),.load none (.t 28)⟩,
       ⟨none,(some 0),.aA (.t 29)⟩])))))))
  (.seq (.ar [2] (.region none [
    ⟨none,(some 30),.aA (.t 0)⟩,
    ⟨none,(some 2),.aA (.t 30)⟩]))
  (.ret)))
theorem A.adG:rj Try.prog F.fO A.fO:=
 ⟨_,_,Try.func78,rfl,by kernel_rfl,rfl,by decide,by kernel_rfl,by kernel_rfl⟩
def A.bQ:mo where
 cT:=2
 nt:=19
 res:=[.tmp 4]
 code:= .seq (.ar [0,1] (.region none [
   ⟨none,(some 4),.aA (.c (.v (.int .i64 0)))⟩]))
  (.seq (.seq (.ar [0,1,7,8] (.region none [
    ⟨none,(some 6),.aA (.t 0)⟩,
    ⟨none,(some 7),.bm (.t 6)⟩,
    ⟨none,(some 8),.aA (.c (.v (.int .i64 0)))⟩]))
  (.block 0 (.loop (.seq (.ar [0,1,7,8,9] (.region none [
     ⟨none,(some 9),.bin .lss (.t 8) (.t 7)⟩]))
    (.seq (.cond (.t 9)
     (.skip)
     (.exit 0))
    (.seq (.block 1 (.seq (.ar [0,1,5,7,8] (.region none [
       ⟨none,(some 10),.aA (.t 8)⟩,
       ⟨none,(some 5),.aA (.t 10)⟩]))
     (.seq (.ar [0,1,5,7,8,16] (.region none [
       ⟨none,(some 11),.aA (.t 1)⟩,
       ⟨none,(some 12),.aA (.t 0)⟩,
       ⟨none,(some 13),.aA (.t 5)⟩,
       ⟨none,(some 14),.bJ 1 (.t 12) (.t 13)⟩,
       ⟨none,(some 15),.load none (.t 14)⟩,
       ⟨none,(some 16),.ew (.t 11) [(.t 15)]⟩]))
     (.cond (.t 16)
      (.seq (.ar [4] (.region none [
        ⟨none,(some 17),.aA (.t 5)⟩,
        ⟨none,(some 4),.aA (.t 17)⟩]))
      (.ret))
      (.skip)))))
    (.ar [0,1,7,8] (.region none [
      ⟨none,(some 18),.bin .add (.t 8) (.c (.v (.int .i64 1)))⟩,
      ⟨none,(some 8),.aA (.t 18)⟩]))))))))
  (.seq (.ar [4] (.region none [
    ⟨none,(some 4),.aA (.c (.v (.int .i64 (-1))))⟩]))
  (.ret)))
theorem A.ly:rj Try.prog F.bQ A.bQ:=
 ⟨_,_,Try.func87,rfl,by kernel_rfl,rfl,by decide,by kernel_rfl,by kernel_rfl⟩
end Go.Proofs.Ab
