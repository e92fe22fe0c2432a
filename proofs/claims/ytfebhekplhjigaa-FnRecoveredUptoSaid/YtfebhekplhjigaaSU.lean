/-
  THE ABSTRACT CODE of some of this seat's functions, printed by a program of ours (wip/tool/Gen3.lean) from the translation; each with the theorem that it is that function's.
-/
import Derived.Test.YtfebhekplhjigaaST
set_option linter.unusedVariables false
set_option linter.unusedSimpArgs false
namespace Go.Proofs.Ab
open Go.Ab
set_option maxRecDepth 100000
def A.ja:nT where
 dX:=3
 nt:=97
 res:=[.tmp 6,.tmp 7]
 code:= .seq (.aL [0,1,2] (.region none [
    ⟨none,(some 6),.bc (.c .aw)⟩,
    ⟨none,(some 7),.bc (.c (.v (.int .i64 0)))⟩]))
  (.seq (.seq (.aL [0,1,2,25] (.region none [
    ⟨none,(some 21),.bc (.t 0)⟩,
    ⟨none,(some 22),.bc (.t 1)⟩,
    ⟨none,(some 23),.bc (.t 2)⟩,
    ⟨none,(some 24),.call F.gf [(.t 21),(.t 22),(.t 23)]⟩,
    ⟨none,(some 25),.un .not (.t 24)⟩]))
  (.cond (.t 25)
   (.seq (.aL [6,7] (.region none [
     ⟨none,(some 6),.bc (.c .aw)⟩,
     ⟨none,(some 7),.bc (.c (.v (.int .i64 1)))⟩]))
   (.ret))
   (.skip)))
  (.seq (.aL [1,2,8] (.region none [
    ⟨none,(some 26),.bc (.t 0)⟩,
    ⟨none,(some 27),.mk 64 1 8 (.v (.pointer none)) (.t 26) (.t 26)⟩,
    ⟨none,(some 8),.alloc 63 1 .aw⟩,
    ⟨none,none,.store 1 (.t 8) (.t 27)⟩]))
  (.seq (.seq (.aL [1,2,8,29,30] (.region none [
    ⟨none,(some 28),.load none (.t 8)⟩,
    ⟨none,(some 29),.bM (.t 28)⟩,
    ⟨none,(some 30),.bc (.c (.v (.int .i64 0)))⟩]))
  (.block 0 (.loop (.seq (.aL [1,2,8,29,30,31] (.region none [
     ⟨none,(some 31),.bin .lss (.t 30) (.t 29)⟩]))
    (.seq (.cond (.t 31)
     (.skip)
     (.exit 0))
    (.seq (.block 1 (.seq (.aL [1,2,8,9,29,30] (.region none [
      ⟨none,(some 32),.bc (.t 30)⟩,
      ⟨none,(some 9),.bc (.t 32)⟩]))
     (.aL [1,2,8,29,30] (.region none [
       ⟨none,(some 33),.load none (.t 8)⟩,
       ⟨none,(some 34),.bc (.t 9)⟩,
       ⟨none,(some 35),.bc (.t 9)⟩,
       ⟨none,(some 36),.build [(.v (.int .i64 0)),(.v (.int .i64 0)),(.v (.string ⟨#[]⟩)),.aw,(.v (.pointer none))] [(0,1,(.c (.v (.int .i64 11)))),(1,1,(.t 35))]⟩,
       ⟨none,(some 37),.box 66 5 (.t 36)⟩,
       ⟨none,(some 38),.fS 1 (.t 33) (.t 34)⟩,
       ⟨none,none,.store 1 (.t 38) (.t 37)⟩]))))
    (.aL [1,2,8,29,30] (.region none [
      ⟨none,(some 39),.bin .add (.t 30) (.c (.v (.int .i64 1)))⟩,
      ⟨none,(some 30),.bc (.t 39)⟩]))))))))
  (.seq (.aL [1,2,8,10] (.region none [
    ⟨none,(some 40),.rK F.dK [(.t 8)]⟩,
    ⟨none,(some 10),.bc (.t 40)⟩]))
  (.seq (.aL [1,2,8,10,11] (.region none [
    ⟨none,(some 41),.xF⟩,
    ⟨none,(some 11),.bc (.t 41)⟩]))
  (.seq (.seq (.aL [1,2,8,10,11,43,44] (.region none [
    ⟨none,(some 42),.bc (.t 1)⟩,
    ⟨none,(some 43),.bM (.t 42)⟩,
    ⟨none,(some 44),.bc (.c (.v (.int .i64 0)))⟩]))
  (.block 2 (.loop (.seq (.aL [1,2,8,10,11,43,44,45] (.region none [
     ⟨none,(some 45),.bin .lss (.t 44) (.t 43)⟩]))
    (.seq (.cond (.t 45)
     (.skip)
     (.exit 2))
    (.seq (.block 3 (.seq (.aL [1,2,8,10,11,12,43,44] (.region none [
       ⟨none,(some 46),.bc (.t 44)⟩,
       ⟨none,(some 12),.bc (.t 46)⟩]))
     (.seq (.aL [1,2,8,10,11,43,44,60] (.region (some [[],[],[0,1],[2],[],[3,4],[],[],[6,7],[8],[],[9,10,5],[5,11,11],[12]]) [
       ⟨none,(some 47),.bc (.t 1)⟩,
       ⟨none,(some 48),.bc (.t 12)⟩,
       ⟨none,(some 49),.fS 4 (.t 47) (.t 48)⟩,
       ⟨none,(some 50),.load (some 4) (.t 49)⟩,
       ⟨none,(some 51),.bc (.t 10)⟩,
       ⟨none,(some 52),.call F.dR [(.t 50),(.c (.v (.int .i64 11))),(.t 51)]⟩,
       ⟨none,(some 53),.bc (.t 2)⟩,
       ⟨none,(some 54),.bc (.t 12)⟩,
       ⟨none,(some 55),.fS 4 (.t 53) (.t 54)⟩,
       ⟨none,(some 56),.load (some 4) (.t 55)⟩,
       ⟨none,(some 57),.bc (.t 10)⟩,
       ⟨none,(some 58),.call F.dR [(.t 56),(.c (.v (.int .i64 11))),(.t 57)]⟩,
       ⟨none,(some 59),.call F.jk [(.t 52),(.t 58)]⟩,
       ⟨none,(some 60),.un .not (.t 59)⟩]))
     (.cond (.t 60)
      (.seq (.aL [6,7] (.region none [
        ⟨none,(some 6),.bc (.c .aw)⟩,
        ⟨none,(some 7),.bc (.c (.v (.int .i64 2)))⟩]))
      (.ret))
      (.skip)))))
    (.aL [1,2,8,10,11,43,44] (.region none [
      ⟨none,(some 61),.bin .add (.t 44) (.c (.v (.int .i64 1)))⟩,
      ⟨none,(some 44),.bc (.t 61)⟩]))))))))
  (.seq (.seq (.aL [8,11,62,63,64] (.region none [
    ⟨none,(some 62),.load none (.t 8)⟩,
    ⟨none,(some 63),.bM (.t 62)⟩,
    ⟨none,(some 64),.bc (.c (.v (.int .i64 0)))⟩]))
  (.block 4 (.loop (.seq (.aL [8,11,62,63,64,65] (.region none [
     ⟨none,(some 65),.bin .lss (.t 64) (.t 63)⟩]))
    (.seq (.cond (.t 65)
     (.skip)
     (.exit 4))
    (.seq (.block 5 (.seq (.aL [8,11,14,62,63,64] (.region none [
       ⟨none,(some 66),.fS 1 (.t 62) (.t 64)⟩,
       ⟨none,(some 67),.load none (.t 66)⟩,
       ⟨none,(some 14),.bc (.t 67)⟩]))
     (.seq (.aL [8,11,62,63,64,70] (.region none [
       ⟨none,(some 68),.bc (.t 14)⟩,
       ⟨none,(some 69),.bc (.t 11)⟩,
       ⟨none,(some 70),.call F.fi [(.t 68),(.t 69)]⟩]))
     (.cond (.t 70)
      (.seq (.aL [6,7] (.region none [
        ⟨none,(some 6),.bc (.c .aw)⟩,
        ⟨none,(some 7),.bc (.c (.v (.int .i64 2)))⟩]))
      (.ret))
      (.skip)))))
    (.aL [8,11,62,63,64] (.region none [
      ⟨none,(some 71),.bin .add (.t 64) (.c (.v (.int .i64 1)))⟩,
      ⟨none,(some 64),.bc (.t 71)⟩]))))))))
  (.seq (.aL [8,15] (.region none [
    ⟨none,(some 72),.xF⟩,
    ⟨none,(some 15),.bc (.t 72)⟩]))
  (.seq (.aL [8,15,16] (.region none [
    ⟨none,(some 16),.bc (.c .aw)⟩]))
  (.seq (.seq (.aL [8,15,16,73,74,75] (.region none [
    ⟨none,(some 73),.load none (.t 8)⟩,
    ⟨none,(some 74),.bM (.t 73)⟩,
    ⟨none,(some 75),.bc (.c (.v (.int .i64 0)))⟩]))
  (.block 6 (.loop (.seq (.aL [8,15,16,73,74,75,76] (.region none [
     ⟨none,(some 76),.bin .lss (.t 75) (.t 74)⟩]))
    (.seq (.cond (.t 76)
     (.skip)
     (.exit 6))
    (.seq (.block 7 (.seq (.aL [8,15,16,18,73,74,75] (.region none [
       ⟨none,(some 77),.fS 1 (.t 73) (.t 75)⟩,
       ⟨none,(some 78),.load none (.t 77)⟩,
       ⟨none,(some 18),.bc (.t 78)⟩]))
     (.seq (.aL [8,15,16,73,74,75,82] (.region none [
       ⟨none,(some 79),.bc (.t 18)⟩,
       ⟨none,(some 80),.bc (.t 15)⟩,
       ⟨none,(some 81),.call F.eF [(.t 79),(.t 80)]⟩,
       ⟨none,(some 82),.bin .gtr (.t 81) (.c (.v (.int .i64 200)))⟩]))
     (.cond (.t 82)
      (.seq (.aL [6,7] (.region none [
        ⟨none,(some 6),.bc (.c .aw)⟩,
        ⟨none,(some 7),.bc (.c (.v (.int .i64 3)))⟩]))
      (.ret))
      (.skip)))))
    (.aL [8,15,16,73,74,75] (.region none [
      ⟨none,(some 83),.bin .add (.t 75) (.c (.v (.int .i64 1)))⟩,
      ⟨none,(some 75),.bc (.t 83)⟩]))))))))
  (.seq (.seq (.aL [16,84,85,86] (.region none [
    ⟨none,(some 84),.load none (.t 8)⟩,
    ⟨none,(some 85),.bM (.t 84)⟩,
    ⟨none,(some 86),.bc (.c (.v (.int .i64 0)))⟩]))
  (.block 8 (.loop (.seq (.aL [16,84,85,86,87] (.region none [
     ⟨none,(some 87),.bin .lss (.t 86) (.t 85)⟩]))
    (.seq (.cond (.t 87)
     (.skip)
     (.exit 8))
    (.seq (.block 9 (.seq (.aL [16,20,84,85,86] (.region none [
      ⟨none,(some 88),.fS 1 (.t 84) (.t 86)⟩,
      ⟨none,(some 89),.load none (.t 88)⟩,
      ⟨none,(some 20),.bc (.t 89)⟩]))
     (.aL [16,84,85,86] (.region none [
       ⟨none,(some 90),.bc (.t 16)⟩,
       ⟨none,(some 91),.bc (.t 20)⟩,
       ⟨none,(some 92),.call F.ig [(.t 91),(.c (.fn F.eD []))]⟩,
       ⟨none,(some 93),.buildSlice 29 4 1 (.agg [(.v (.int .i64 0)),(.v (.int .i64 0)),(.v (.string ⟨#[]⟩)),.aw]) [(0,(.t 92))]⟩,
       ⟨none,(some 94),.app 29 4 56 (.t 90) (.t 93)⟩,
       ⟨none,(some 16),.bc (.t 94)⟩]))))
    (.aL [16,84,85,86] (.region none [
      ⟨none,(some 95),.bin .add (.t 86) (.c (.v (.int .i64 1)))⟩,
      ⟨none,(some 86),.bc (.t 95)⟩]))))))))
  (.seq (.aL [6,7] (.region none [
    ⟨none,(some 96),.bc (.t 16)⟩,
    ⟨none,(some 6),.bc (.t 96)⟩,
    ⟨none,(some 7),.bc (.c (.v (.int .i64 0)))⟩]))
  (.ret)))))))))))))
theorem A.zC:vf Try.prog F.ja A.ja:=
 ⟨_,_,Try.func18,rfl,by kernel_rfl,rfl,by decide,by kernel_rfl,by kernel_rfl⟩
def A.gf:nT where
 dX:=3
 nt:=48
 res:=[.tmp 6]
 code:= .seq (.aL [1,2,3] (.region none [
    ⟨none,(some 3),.box 3 1 (.t 0)⟩,
    ⟨none,(some 6),.bc (.c (.v (.bool false)))⟩]))
  (.seq (.seq (.aL [1,2,3,23] (.region none [
    ⟨none,(some 9),.load none (.t 3)⟩,
    ⟨none,(some 10),.call F.fh [(.t 9),(.c (.v (.int .i64 0))),(.c (.v (.int .i64 300)))]⟩,
    ⟨none,(some 11),.un .not (.t 10)⟩,
    ⟨none,(some 12),.bc (.t 11)⟩,
    ⟨(some (12,false)),(some 13),.bc (.t 1)⟩,
    ⟨(some (12,false)),(some 14),.bM (.t 13)⟩,
    ⟨(some (12,false)),(some 15),.bc (.t 2)⟩,
    ⟨(some (12,false)),(some 16),.bM (.t 15)⟩,
    ⟨(some (12,false)),(some 17),.bin .neq (.t 14) (.t 16)⟩,
    ⟨none,(some 18),.pick (.t 12) (.c (.v (.bool true))) (.t 17)⟩,
    ⟨none,(some 19),.bc (.t 18)⟩,
    ⟨(some (19,false)),(some 20),.bc (.t 1)⟩,
    ⟨(some (19,false)),(some 21),.bM (.t 20)⟩,
    ⟨(some (19,false)),(some 22),.bin .gtr (.t 21) (.c (.v (.int .i64 200)))⟩,
    ⟨none,(some 23),.pick (.t 19) (.c (.v (.bool true))) (.t 22)⟩]))
  (.cond (.t 23)
   (.seq (.aL [6] (.region none [
     ⟨none,(some 6),.bc (.c (.v (.bool false)))⟩]))
   (.ret))
   (.skip)))
  (.seq (.seq (.aL [3,27,28,29] (.region none [
    ⟨none,(some 24),.bc (.t 1)⟩,
    ⟨none,(some 25),.bc (.t 2)⟩,
    ⟨none,(some 26),.buildSlice 27 1 2 .aw [(0,(.t 24)),(1,(.t 25))]⟩,
    ⟨none,(some 27),.call F.aV [(.t 26)]⟩,
    ⟨none,(some 28),.bM (.t 27)⟩,
    ⟨none,(some 29),.bc (.c (.v (.int .i64 0)))⟩]))
  (.block 0 (.loop (.seq (.aL [3,27,28,29,30] (.region none [
     ⟨none,(some 30),.bin .lss (.t 29) (.t 28)⟩]))
    (.seq (.cond (.t 30)
     (.skip)
     (.exit 0))
    (.seq (.block 1 (.seq (.aL [3,8,27,28,29] (.region none [
       ⟨none,(some 31),.fS 4 (.t 27) (.t 29)⟩,
       ⟨none,(some 32),.load (some 4) (.t 31)⟩,
       ⟨none,(some 8),.alloc 29 4 (.agg [(.v (.int .i64 0)),(.v (.int .i64 0)),(.v (.string ⟨#[]⟩)),.aw])⟩,
       ⟨none,none,.store 4 (.t 8) (.t 32)⟩]))
     (.seq (.aL [3,27,28,29,46] (.region none [
       ⟨none,(some 33),.load (some 4) (.t 8)⟩,
       ⟨none,(some 34),.call F.gC [(.t 33)]⟩,
       ⟨none,(some 35),.un .not (.t 34)⟩,
       ⟨none,(some 36),.bc (.t 35)⟩,
       ⟨(some (36,false)),(some 37),.load (some 4) (.t 8)⟩,
       ⟨(some (36,false)),(some 38),.call F.fR [(.t 37)]⟩,
       ⟨(some (36,false)),(some 39),.bin .gtr (.t 38) (.c (.v (.int .i64 200)))⟩,
       ⟨none,(some 40),.pick (.t 36) (.c (.v (.bool true))) (.t 39)⟩,
       ⟨none,(some 41),.bc (.t 40)⟩,
       ⟨(some (41,false)),(some 42),.load (some 4) (.t 8)⟩,
       ⟨(some (41,false)),(some 43),.call F.j3 [(.t 42),(.c (.v (.int .i64 11)))]⟩,
       ⟨(some (41,false)),(some 44),.rK F.fG [(.t 3)]⟩,
       ⟨(some (41,false)),(some 45),.call F.bY [(.t 43),(.t 44)]⟩,
       ⟨none,(some 46),.pick (.t 41) (.c (.v (.bool true))) (.t 45)⟩]))
     (.cond (.t 46)
      (.seq (.aL [6] (.region none [
        ⟨none,(some 6),.bc (.c (.v (.bool false)))⟩]))
      (.ret))
      (.skip)))))
    (.aL [3,27,28,29] (.region none [
      ⟨none,(some 47),.bin .add (.t 29) (.c (.v (.int .i64 1)))⟩,
      ⟨none,(some 29),.bc (.t 47)⟩]))))))))
  (.seq (.aL [6] (.region none [
    ⟨none,(some 6),.bc (.c (.v (.bool true)))⟩]))
  (.ret))))
theorem A.vw:vf Try.prog F.gf A.gf:=
 ⟨_,_,Try.func41,rfl,by kernel_rfl,rfl,by decide,by kernel_rfl,by kernel_rfl⟩
def A.dK:nT where
 dX:=2
 nt:=8
 res:=[.tmp 3]
 code:= .seq (.aL [0,1] (.region none [
   ⟨none,(some 3),.bc (.c (.v (.pointer none)))⟩]))
  (.seq (.aL [3] (.region none [
    ⟨none,(some 4),.load none (.t 1)⟩,
    ⟨none,(some 5),.bc (.t 0)⟩,
    ⟨none,(some 6),.fS 1 (.t 4) (.t 5)⟩,
    ⟨none,(some 7),.load none (.t 6)⟩,
    ⟨none,(some 3),.bc (.t 7)⟩]))
  (.ret))
theorem A.vJ:vf Try.prog F.dK A.dK:=
 ⟨_,_,Try.func42,rfl,by kernel_rfl,rfl,by decide,by kernel_rfl,by kernel_rfl⟩
def A.jk:nT where
 dX:=2
 nt:=126
 res:=[.tmp 4]
 code:= .seq (.aL [0,1] (.region none [
    ⟨none,(some 4),.bc (.c (.v (.bool false)))⟩]))
  (.seq (.aL [0,1] (.region none [
    ⟨none,(some 6),.bc (.t 0)⟩,
    ⟨none,(some 7),.call F.fH [(.t 6)]⟩,
    ⟨none,(some 8),.bc (.t 1)⟩,
    ⟨none,(some 9),.call F.fH [(.t 8)]⟩,
    ⟨none,(some 0),.bc (.t 7)⟩,
    ⟨none,(some 1),.bc (.t 9)⟩]))
  (.seq (.block 0 (.seq (.aL [0,1,10] (.region none [
     ⟨none,(some 11),.bc (.t 0)⟩,
     ⟨none,(some 12),.bc (.t 1)⟩,
     ⟨none,(some 13),.peq false (.t 11) (.t 12)⟩,
     ⟨none,(some 10),.bc (.t 13)⟩]))
   (.cond (.t 10)
    (.seq (.aL [4] (.region none [
      ⟨none,(some 4),.bc (.c (.v (.bool true)))⟩]))
    (.ret))
    (.seq (.aL [0,1,14] (.region (some [[],[0],[1],[2],[3],[4],[5],[6,5],[7,5],[8,5],[9,5],[10,5,5],[11],[12,11],[13,11],[14,11],[11],[16,11],[17,11],[18,11],[15,19,11],[11,20,5],[5,21],[22,11]]) [
      ⟨none,(some 15),.bc (.t 0)⟩,
      ⟨none,(some 16),.ef (.t 15)⟩,
      ⟨none,(some 17),.bX 0 (.t 16)⟩,
      ⟨none,(some 18),.load none (.t 17)⟩,
      ⟨none,(some 19),.bin .eql (.t 18) (.c (.v (.int .i64 11)))⟩,
      ⟨none,(some 20),.bc (.t 19)⟩,
      ⟨(some (20,true)),(some 21),.bc (.t 1)⟩,
      ⟨(some (20,true)),(some 22),.ef (.t 21)⟩,
      ⟨(some (20,true)),(some 23),.bX 0 (.t 22)⟩,
      ⟨(some (20,true)),(some 24),.load none (.t 23)⟩,
      ⟨(some (20,true)),(some 25),.bin .neq (.t 24) (.c (.v (.int .i64 11)))⟩,
      ⟨(some (20,true)),(some 26),.bc (.t 25)⟩,
      ⟨(some (26,false)),(some 27),.bc (.t 1)⟩,
      ⟨(some (26,false)),(some 28),.ef (.t 27)⟩,
      ⟨(some (26,false)),(some 29),.bX 1 (.t 28)⟩,
      ⟨(some (26,false)),(some 30),.load none (.t 29)⟩,
      ⟨(some (26,false)),(some 31),.bc (.t 0)⟩,
      ⟨(some (26,false)),(some 32),.ef (.t 31)⟩,
      ⟨(some (26,false)),(some 33),.bX 1 (.t 32)⟩,
      ⟨(some (26,false)),(some 34),.load none (.t 33)⟩,
      ⟨(some (26,false)),(some 35),.bin .lss (.t 30) (.t 34)⟩,
      ⟨(some (20,true)),(some 36),.pick (.t 26) (.c (.v (.bool true))) (.t 35)⟩,
      ⟨none,(some 37),.pick (.t 20) (.t 36) (.c (.v (.bool false)))⟩,
      ⟨none,(some 14),.bc (.t 37)⟩]))
    (.cond (.t 14)
     (.seq (.aL [] (.region none [
       ⟨none,(some 38),.bc (.t 0)⟩,
       ⟨none,(some 39),.bc (.t 1)⟩,
       ⟨none,(some 40),.ef (.t 38)⟩,
       ⟨none,(some 41),.bX 4 (.t 40)⟩,
       ⟨none,none,.store 1 (.t 41) (.t 39)⟩]))
     (.seq (.aL [4] (.region none [
       ⟨none,(some 4),.bc (.c (.v (.bool true)))⟩]))
     (.ret)))
     (.seq (.aL [0,1,42] (.region none [
       ⟨none,(some 43),.bc (.t 1)⟩,
       ⟨none,(some 44),.ef (.t 43)⟩,
       ⟨none,(some 45),.bX 0 (.t 44)⟩,
       ⟨none,(some 46),.load none (.t 45)⟩,
       ⟨none,(some 47),.bin .eql (.t 46) (.c (.v (.int .i64 11)))⟩,
       ⟨none,(some 42),.bc (.t 47)⟩]))
     (.cond (.t 42)
      (.seq (.aL [] (.region none [
        ⟨none,(some 48),.bc (.t 1)⟩,
        ⟨none,(some 49),.bc (.t 0)⟩,
        ⟨none,(some 50),.ef (.t 48)⟩,
        ⟨none,(some 51),.bX 4 (.t 50)⟩,
        ⟨none,none,.store 1 (.t 51) (.t 49)⟩]))
      (.seq (.aL [4] (.region none [
        ⟨none,(some 4),.bc (.c (.v (.bool true)))⟩]))
      (.ret)))
      (.seq (.aL [0,1,52] (.region (some [[],[0],[1],[2],[],[4],[5],[6],[3,7],[8],[9],[10,9],[11,9],[12,9],[9],[14,9],[15,9],[16,9],[13,17,9],[9,18],[19,9],[20],[21,20],[22,20],[23,20],[20],[25,20],[26,20],[27,20],[24,28,20],[20,29],[30,20],[31],[32,31],[33,31],[34,31],[35,31],[31],[37,31],[38,31],[39,31],[40,31],[36,41,31],[31,42],[43,31]]) [
        ⟨none,(some 53),.bc (.t 0)⟩,
        ⟨none,(some 54),.ef (.t 53)⟩,
        ⟨none,(some 55),.bX 0 (.t 54)⟩,
        ⟨none,(some 56),.load none (.t 55)⟩,
        ⟨none,(some 57),.bc (.t 1)⟩,
        ⟨none,(some 58),.ef (.t 57)⟩,
        ⟨none,(some 59),.bX 0 (.t 58)⟩,
        ⟨none,(some 60),.load none (.t 59)⟩,
        ⟨none,(some 61),.bin .neq (.t 56) (.t 60)⟩,
        ⟨none,(some 62),.bc (.t 61)⟩,
        ⟨(some (62,false)),(some 63),.bc (.t 0)⟩,
        ⟨(some (62,false)),(some 64),.ef (.t 63)⟩,
        ⟨(some (62,false)),(some 65),.bX 1 (.t 64)⟩,
        ⟨(some (62,false)),(some 66),.load none (.t 65)⟩,
        ⟨(some (62,false)),(some 67),.bc (.t 1)⟩,
        ⟨(some (62,false)),(some 68),.ef (.t 67)⟩,
        ⟨(some (62,false)),(some 69),.bX 1 (.t 68)⟩,
        ⟨(some (62,false)),(some 70),.load none (.t 69)⟩,
        ⟨(some (62,false)),(some 71),.bin .neq (.t 66) (.t 70)⟩,
        ⟨none,(some 72),.pick (.t 62) (.c (.v (.bool true))) (.t 71)⟩,
        ⟨none,(some 73),.bc (.t 72)⟩,
        ⟨(some (73,false)),(some 74),.bc (.t 0)⟩,
        ⟨(some (73,false)),(some 75),.ef (.t 74)⟩,
        ⟨(some (73,false)),(some 76),.bX 2 (.t 75)⟩,
        ⟨(some (73,false)),(some 77),.load none (.t 76)⟩,
        ⟨(some (73,false)),(some 78),.bc (.t 1)⟩,
        ⟨(some (73,false)),(some 79),.ef (.t 78)⟩,
        ⟨(some (73,false)),(some 80),.bX 2 (.t 79)⟩,
        ⟨(some (73,false)),(some 81),.load none (.t 80)⟩,
        ⟨(some (73,false)),(some 82),.bin .neq (.t 77) (.t 81)⟩,
        ⟨none,(some 83),.pick (.t 73) (.c (.v (.bool true))) (.t 82)⟩,
        ⟨none,(some 84),.bc (.t 83)⟩,
        ⟨(some (84,false)),(some 85),.bc (.t 0)⟩,
        ⟨(some (84,false)),(some 86),.ef (.t 85)⟩,
        ⟨(some (84,false)),(some 87),.bX 3 (.t 86)⟩,
        ⟨(some (84,false)),(some 88),.load none (.t 87)⟩,
        ⟨(some (84,false)),(some 89),.bM (.t 88)⟩,
        ⟨(some (84,false)),(some 90),.bc (.t 1)⟩,
        ⟨(some (84,false)),(some 91),.ef (.t 90)⟩,
        ⟨(some (84,false)),(some 92),.bX 3 (.t 91)⟩,
        ⟨(some (84,false)),(some 93),.load none (.t 92)⟩,
        ⟨(some (84,false)),(some 94),.bM (.t 93)⟩,
        ⟨(some (84,false)),(some 95),.bin .neq (.t 89) (.t 94)⟩,
        ⟨none,(some 96),.pick (.t 84) (.c (.v (.bool true))) (.t 95)⟩,
        ⟨none,(some 52),.bc (.t 96)⟩]))
      (.cond (.t 52)
       (.seq (.aL [4] (.region none [
         ⟨none,(some 4),.bc (.c (.v (.bool false)))⟩]))
       (.ret))
       (.skip))))))))))
  (.seq (.aL [0,1] (.region none [
    ⟨none,(some 97),.bc (.t 0)⟩,
    ⟨none,(some 98),.bc (.t 1)⟩,
    ⟨none,(some 99),.ef (.t 97)⟩,
    ⟨none,(some 100),.bX 4 (.t 99)⟩,
    ⟨none,none,.store 1 (.t 100) (.t 98)⟩]))
  (.seq (.seq (.aL [0,1,105,106] (.region none [
    ⟨none,(some 101),.bc (.t 0)⟩,
    ⟨none,(some 102),.ef (.t 101)⟩,
    ⟨none,(some 103),.bX 3 (.t 102)⟩,
    ⟨none,(some 104),.load none (.t 103)⟩,
    ⟨none,(some 105),.bM (.t 104)⟩,
    ⟨none,(some 106),.bc (.c (.v (.int .i64 0)))⟩]))
  (.block 1 (.loop (.seq (.aL [0,1,105,106,107] (.region none [
     ⟨none,(some 107),.bin .lss (.t 106) (.t 105)⟩]))
    (.seq (.cond (.t 107)
     (.skip)
     (.exit 1))
    (.seq (.block 2 (.seq (.aL [0,1,5,105,106] (.region none [
       ⟨none,(some 108),.bc (.t 106)⟩,
       ⟨none,(some 5),.bc (.t 108)⟩]))
     (.seq (.aL [0,1,105,106,124] (.region (some [[],[0],[1],[2],[],[3,4],[5],[],[7],[8],[9],[],[10,11],[12],[6,13],[14]]) [
       ⟨none,(some 109),.bc (.t 0)⟩,
       ⟨none,(some 110),.ef (.t 109)⟩,
       ⟨none,(some 111),.bX 3 (.t 110)⟩,
       ⟨none,(some 112),.load none (.t 111)⟩,
       ⟨none,(some 113),.bc (.t 5)⟩,
       ⟨none,(some 114),.fS 1 (.t 112) (.t 113)⟩,
       ⟨none,(some 115),.load none (.t 114)⟩,
       ⟨none,(some 116),.bc (.t 1)⟩,
       ⟨none,(some 117),.ef (.t 116)⟩,
       ⟨none,(some 118),.bX 3 (.t 117)⟩,
       ⟨none,(some 119),.load none (.t 118)⟩,
       ⟨none,(some 120),.bc (.t 5)⟩,
       ⟨none,(some 121),.fS 1 (.t 119) (.t 120)⟩,
       ⟨none,(some 122),.load none (.t 121)⟩,
       ⟨none,(some 123),.call F.jk [(.t 115),(.t 122)]⟩,
       ⟨none,(some 124),.un .not (.t 123)⟩]))
     (.cond (.t 124)
      (.seq (.aL [4] (.region none [
        ⟨none,(some 4),.bc (.c (.v (.bool false)))⟩]))
      (.ret))
      (.skip)))))
    (.aL [0,1,105,106] (.region none [
      ⟨none,(some 125),.bin .add (.t 106) (.c (.v (.int .i64 1)))⟩,
      ⟨none,(some 106),.bc (.t 125)⟩]))))))))
  (.seq (.aL [4] (.region none [
    ⟨none,(some 4),.bc (.c (.v (.bool true)))⟩]))
  (.ret))))))
theorem A.abY:vf Try.prog F.jk A.jk:=
 ⟨_,_,Try.func43,rfl,by kernel_rfl,rfl,by decide,by kernel_rfl,by kernel_rfl⟩
def A.dR:nT where
 dX:=3
 nt:=48
 res:=[.tmp 6]
 code:= .seq (.aL [1,2,3] (.region none [
    ⟨none,(some 3),.box 29 4 (.t 0)⟩,
    ⟨none,(some 6),.bc (.c (.v (.pointer none)))⟩]))
  (.seq (.seq (.aL [1,2,3,13] (.region none [
    ⟨none,(some 10),.bX 0 (.t 3)⟩,
    ⟨none,(some 11),.load none (.t 10)⟩,
    ⟨none,(some 12),.bc (.t 1)⟩,
    ⟨none,(some 13),.bin .eql (.t 11) (.t 12)⟩]))
  (.cond (.t 13)
   (.seq (.aL [6] (.region none [
     ⟨none,(some 14),.bc (.t 2)⟩,
     ⟨none,(some 15),.bX 1 (.t 3)⟩,
     ⟨none,(some 16),.load none (.t 15)⟩,
     ⟨none,(some 17),.eu (.t 14) [(.t 16)]⟩,
     ⟨none,(some 6),.bc (.t 17)⟩]))
   (.ret))
   (.skip)))
  (.seq (.aL [1,2,3,7] (.region none [
    ⟨none,(some 18),.bX 0 (.t 3)⟩,
    ⟨none,(some 19),.load none (.t 18)⟩,
    ⟨none,(some 20),.bX 1 (.t 3)⟩,
    ⟨none,(some 21),.load none (.t 20)⟩,
    ⟨none,(some 22),.bX 2 (.t 3)⟩,
    ⟨none,(some 23),.load none (.t 22)⟩,
    ⟨none,(some 24),.build [(.v (.int .i64 0)),(.v (.int .i64 0)),(.v (.string ⟨#[]⟩)),.aw,(.v (.pointer none))] [(0,1,(.t 19)),(1,1,(.t 21)),(2,1,(.t 23))]⟩,
    ⟨none,(some 25),.box 66 5 (.t 24)⟩,
    ⟨none,(some 7),.bc (.t 25)⟩]))
  (.seq (.seq (.aL [1,2,7,27,28,29] (.region none [
    ⟨none,(some 26),.bX 3 (.t 3)⟩,
    ⟨none,(some 27),.load none (.t 26)⟩,
    ⟨none,(some 28),.bM (.t 27)⟩,
    ⟨none,(some 29),.bc (.c (.v (.int .i64 0)))⟩]))
  (.block 0 (.loop (.seq (.aL [1,2,7,27,28,29,30] (.region none [
     ⟨none,(some 30),.bin .lss (.t 29) (.t 28)⟩]))
    (.seq (.cond (.t 30)
     (.skip)
     (.exit 0))
    (.seq (.block 1 (.seq (.aL [1,2,7,9,27,28,29] (.region none [
      ⟨none,(some 31),.fS 4 (.t 27) (.t 29)⟩,
      ⟨none,(some 32),.load (some 4) (.t 31)⟩,
      ⟨none,(some 9),.alloc 29 4 (.agg [(.v (.int .i64 0)),(.v (.int .i64 0)),(.v (.string ⟨#[]⟩)),.aw])⟩,
      ⟨none,none,.store 4 (.t 9) (.t 32)⟩]))
     (.aL [1,2,7,27,28,29] (.region (some [[],[],[1],[2],[3],[],[],[],[5,6,7],[8],[4,9,8],[0,0,1,2,3,4,5,6,7,8,9,10],[11,0,1,2,3,4,5,6,7,8,9,10],[12,10,10,0,1,2,3,4,5,6,7,8,9,10]]) [
       ⟨none,(some 33),.bc (.t 7)⟩,
       ⟨none,(some 34),.bc (.t 7)⟩,
       ⟨none,(some 35),.ef (.t 34)⟩,
       ⟨none,(some 36),.bX 3 (.t 35)⟩,
       ⟨none,(some 37),.load none (.t 36)⟩,
       ⟨none,(some 38),.load (some 4) (.t 9)⟩,
       ⟨none,(some 39),.bc (.t 1)⟩,
       ⟨none,(some 40),.bc (.t 2)⟩,
       ⟨none,(some 41),.call F.dR [(.t 38),(.t 39),(.t 40)]⟩,
       ⟨none,(some 42),.buildSlice 64 1 1 (.v (.pointer none)) [(0,(.t 41))]⟩,
       ⟨none,(some 43),.app 64 1 8 (.t 37) (.t 42)⟩,
       ⟨none,(some 44),.ef (.t 33)⟩,
       ⟨none,(some 45),.bX 3 (.t 44)⟩,
       ⟨none,none,.store 1 (.t 45) (.t 43)⟩]))))
    (.aL [1,2,7,27,28,29] (.region none [
      ⟨none,(some 46),.bin .add (.t 29) (.c (.v (.int .i64 1)))⟩,
      ⟨none,(some 29),.bc (.t 46)⟩]))))))))
  (.seq (.aL [6] (.region none [
    ⟨none,(some 47),.bc (.t 7)⟩,
    ⟨none,(some 6),.bc (.t 47)⟩]))
  (.ret)))))
theorem A.x5:vf Try.prog F.dR A.dR:=
 ⟨_,_,Try.func44,rfl,by kernel_rfl,rfl,by decide,by kernel_rfl,by kernel_rfl⟩
def A.fi:nT where
 dX:=2
 nt:=34
 res:=[.tmp 4]
 code:= .seq (.aL [0,1] (.region none [
    ⟨none,(some 4),.bc (.c (.v (.bool false)))⟩]))
  (.seq (.aL [0,1] (.region none [
    ⟨none,(some 7),.bc (.t 0)⟩,
    ⟨none,(some 8),.call F.fH [(.t 7)]⟩,
    ⟨none,(some 0),.bc (.t 8)⟩]))
  (.seq (.seq (.aL [0,1,12] (.region none [
    ⟨none,(some 9),.bc (.t 1)⟩,
    ⟨none,(some 10),.bc (.t 0)⟩,
    ⟨none,(some 11),.zt false (.v (.int .i64 0)) (.t 9) (.t 10)⟩,
    ⟨none,(some 12),.bin .neq (.t 11) (.c (.v (.int .i64 0)))⟩]))
  (.cond (.t 12)
   (.seq (.aL [4] (.region none [
     ⟨none,(some 13),.bc (.t 1)⟩,
     ⟨none,(some 14),.bc (.t 0)⟩,
     ⟨none,(some 15),.zt false (.v (.int .i64 0)) (.t 13) (.t 14)⟩,
     ⟨none,(some 16),.bin .eql (.t 15) (.c (.v (.int .i64 1)))⟩,
     ⟨none,(some 4),.bc (.t 16)⟩]))
   (.ret))
   (.skip)))
  (.seq (.aL [0,1] (.region none [
    ⟨none,(some 17),.bc (.t 1)⟩,
    ⟨none,(some 18),.bc (.t 0)⟩,
    ⟨none,none,.jY (.t 17) (.t 18) (.c (.v (.int .i64 1)))⟩]))
  (.seq (.seq (.aL [0,1,22,23,24] (.region none [
    ⟨none,(some 19),.bc (.t 0)⟩,
    ⟨none,(some 20),.ef (.t 19)⟩,
    ⟨none,(some 21),.bX 3 (.t 20)⟩,
    ⟨none,(some 22),.load none (.t 21)⟩,
    ⟨none,(some 23),.bM (.t 22)⟩,
    ⟨none,(some 24),.bc (.c (.v (.int .i64 0)))⟩]))
  (.block 0 (.loop (.seq (.aL [0,1,22,23,24,25] (.region none [
     ⟨none,(some 25),.bin .lss (.t 24) (.t 23)⟩]))
    (.seq (.cond (.t 25)
     (.skip)
     (.exit 0))
    (.seq (.block 1 (.seq (.aL [0,1,6,22,23,24] (.region none [
       ⟨none,(some 26),.fS 1 (.t 22) (.t 24)⟩,
       ⟨none,(some 27),.load none (.t 26)⟩,
       ⟨none,(some 6),.bc (.t 27)⟩]))
     (.seq (.aL [0,1,22,23,24,30] (.region none [
       ⟨none,(some 28),.bc (.t 6)⟩,
       ⟨none,(some 29),.bc (.t 1)⟩,
       ⟨none,(some 30),.call F.fi [(.t 28),(.t 29)]⟩]))
     (.cond (.t 30)
      (.seq (.aL [4] (.region none [
        ⟨none,(some 4),.bc (.c (.v (.bool true)))⟩]))
      (.ret))
      (.skip)))))
    (.aL [0,1,22,23,24] (.region none [
      ⟨none,(some 31),.bin .add (.t 24) (.c (.v (.int .i64 1)))⟩,
      ⟨none,(some 24),.bc (.t 31)⟩]))))))))
  (.seq (.aL [] (.region none [
    ⟨none,(some 32),.bc (.t 1)⟩,
    ⟨none,(some 33),.bc (.t 0)⟩,
    ⟨none,none,.jY (.t 32) (.t 33) (.c (.v (.int .i64 2)))⟩]))
  (.seq (.aL [4] (.region none [
    ⟨none,(some 4),.bc (.c (.v (.bool false)))⟩]))
  (.ret)))))))
theorem A.vG:vf Try.prog F.fi A.fi:=
 ⟨_,_,Try.func45,rfl,by kernel_rfl,rfl,by decide,by kernel_rfl,by kernel_rfl⟩
def A.eF:nT where
 dX:=2
 nt:=40
 res:=[.tmp 4]
 code:= .seq (.aL [0,1] (.region none [
    ⟨none,(some 4),.bc (.c (.v (.int .i64 0)))⟩]))
  (.seq (.aL [0,1] (.region none [
    ⟨none,(some 10),.bc (.t 0)⟩,
    ⟨none,(some 11),.call F.fH [(.t 10)]⟩,
    ⟨none,(some 0),.bc (.t 11)⟩]))
  (.seq (.seq (.aL [0,1,5,6] (.region none [
    ⟨none,(some 13),.bc (.t 1)⟩,
    ⟨none,(some 14),.bc (.t 0)⟩,
    ⟨none,(some 15),.zt true (.v (.int .i64 0)) (.t 13) (.t 14)⟩,
    ⟨none,(some 12),.bc (.t 15)⟩,
    ⟨none,(some 16),.ext (.t 12) 0⟩,
    ⟨none,(some 17),.ext (.t 12) 1⟩,
    ⟨none,(some 5),.bc (.t 16)⟩,
    ⟨none,(some 6),.bc (.t 17)⟩]))
  (.seq (.aL [0,1,5,18] (.region none [
    ⟨none,(some 18),.bc (.t 6)⟩]))
  (.cond (.t 18)
   (.seq (.aL [4] (.region none [
     ⟨none,(some 19),.bc (.t 5)⟩,
     ⟨none,(some 4),.bc (.t 19)⟩]))
   (.ret))
   (.skip))))
  (.seq (.aL [0,1,7] (.region none [
    ⟨none,(some 7),.bc (.c (.v (.int .i64 1)))⟩]))
  (.seq (.seq (.aL [0,1,7,23,24,25] (.region none [
    ⟨none,(some 20),.bc (.t 0)⟩,
    ⟨none,(some 21),.ef (.t 20)⟩,
    ⟨none,(some 22),.bX 3 (.t 21)⟩,
    ⟨none,(some 23),.load none (.t 22)⟩,
    ⟨none,(some 24),.bM (.t 23)⟩,
    ⟨none,(some 25),.bc (.c (.v (.int .i64 0)))⟩]))
  (.block 0 (.loop (.seq (.aL [0,1,7,23,24,25,26] (.region none [
     ⟨none,(some 26),.bin .lss (.t 25) (.t 24)⟩]))
    (.seq (.cond (.t 26)
     (.skip)
     (.exit 0))
    (.seq (.block 1 (.seq (.aL [0,1,7,9,23,24,25] (.region none [
      ⟨none,(some 27),.fS 1 (.t 23) (.t 25)⟩,
      ⟨none,(some 28),.load none (.t 27)⟩,
      ⟨none,(some 9),.bc (.t 28)⟩]))
     (.aL [0,1,7,23,24,25] (.region none [
       ⟨none,(some 29),.bc (.t 7)⟩,
       ⟨none,(some 30),.bc (.t 9)⟩,
       ⟨none,(some 31),.bc (.t 1)⟩,
       ⟨none,(some 32),.call F.eF [(.t 30),(.t 31)]⟩,
       ⟨none,(some 33),.bin .add (.t 29) (.t 32)⟩,
       ⟨none,(some 34),.pu .min [(.t 33),(.c (.v (.int .i64 201)))]⟩,
       ⟨none,(some 7),.bc (.t 34)⟩]))))
    (.aL [0,1,7,23,24,25] (.region none [
      ⟨none,(some 35),.bin .add (.t 25) (.c (.v (.int .i64 1)))⟩,
      ⟨none,(some 25),.bc (.t 35)⟩]))))))))
  (.seq (.aL [7] (.region none [
    ⟨none,(some 36),.bc (.t 1)⟩,
    ⟨none,(some 37),.bc (.t 0)⟩,
    ⟨none,(some 38),.bc (.t 7)⟩,
    ⟨none,none,.jY (.t 36) (.t 37) (.t 38)⟩]))
  (.seq (.aL [4] (.region none [
    ⟨none,(some 39),.bc (.t 7)⟩,
    ⟨none,(some 4),.bc (.t 39)⟩]))
  (.ret)))))))
theorem A.tU:vf Try.prog F.eF A.eF:=
 ⟨_,_,Try.func46,rfl,by kernel_rfl,rfl,by decide,by kernel_rfl,by kernel_rfl⟩
def A.ig:nT where
 dX:=2
 nt:=50
 res:=[.cell 4 (some 4)]
 code:= .seq (.aL [0,1,4] (.region none [
    ⟨none,(some 4),.alloc 29 4 (.agg [(.v (.int .i64 0)),(.v (.int .i64 0)),(.v (.string ⟨#[]⟩)),.aw])⟩]))
  (.seq (.aL [0,1,4] (.region none [
    ⟨none,(some 8),.bc (.t 0)⟩,
    ⟨none,(some 9),.call F.fH [(.t 8)]⟩,
    ⟨none,(some 0),.bc (.t 9)⟩]))
  (.seq (.seq (.aL [0,1,4,14] (.region none [
    ⟨none,(some 10),.bc (.t 0)⟩,
    ⟨none,(some 11),.ef (.t 10)⟩,
    ⟨none,(some 12),.bX 0 (.t 11)⟩,
    ⟨none,(some 13),.load none (.t 12)⟩,
    ⟨none,(some 14),.call F.cM [(.t 13)]⟩]))
  (.cond (.t 14)
   (.seq (.aL [4] (.region none [
     ⟨none,(some 15),.bc (.t 1)⟩,
     ⟨none,(some 16),.bc (.t 0)⟩,
     ⟨none,(some 17),.eu (.t 15) [(.t 16)]⟩,
     ⟨none,none,.store 4 (.t 4) (.t 17)⟩]))
   (.ret))
   (.skip)))
  (.seq (.aL [0,1,4,5] (.region (some [[],[0],[1],[2],[],[4],[5],[6],[],[8],[9],[10],[3,7,11],[],[13,12,0,1,2,3,4,5,6,7,8,9,10,11,12,13]]) [
    ⟨none,(some 18),.bc (.t 0)⟩,
    ⟨none,(some 19),.ef (.t 18)⟩,
    ⟨none,(some 20),.bX 0 (.t 19)⟩,
    ⟨none,(some 21),.load none (.t 20)⟩,
    ⟨none,(some 22),.bc (.t 0)⟩,
    ⟨none,(some 23),.ef (.t 22)⟩,
    ⟨none,(some 24),.bX 1 (.t 23)⟩,
    ⟨none,(some 25),.load none (.t 24)⟩,
    ⟨none,(some 26),.bc (.t 0)⟩,
    ⟨none,(some 27),.ef (.t 26)⟩,
    ⟨none,(some 28),.bX 2 (.t 27)⟩,
    ⟨none,(some 29),.load none (.t 28)⟩,
    ⟨none,(some 30),.build [(.v (.int .i64 0)),(.v (.int .i64 0)),(.v (.string ⟨#[]⟩)),.aw] [(0,1,(.t 21)),(1,1,(.t 25)),(2,1,(.t 29))]⟩,
    ⟨none,(some 5),.alloc 29 4 (.agg [(.v (.int .i64 0)),(.v (.int .i64 0)),(.v (.string ⟨#[]⟩)),.aw])⟩,
    ⟨none,none,.store 4 (.t 5) (.t 30)⟩]))
  (.seq (.seq (.aL [1,4,5,34,35,36] (.region none [
    ⟨none,(some 31),.bc (.t 0)⟩,
    ⟨none,(some 32),.ef (.t 31)⟩,
    ⟨none,(some 33),.bX 3 (.t 32)⟩,
    ⟨none,(some 34),.load none (.t 33)⟩,
    ⟨none,(some 35),.bM (.t 34)⟩,
    ⟨none,(some 36),.bc (.c (.v (.int .i64 0)))⟩]))
  (.block 0 (.loop (.seq (.aL [1,4,5,34,35,36,37] (.region none [
     ⟨none,(some 37),.bin .lss (.t 36) (.t 35)⟩]))
    (.seq (.cond (.t 37)
     (.skip)
     (.exit 0))
    (.seq (.block 1 (.seq (.aL [1,4,5,7,34,35,36] (.region none [
      ⟨none,(some 38),.fS 1 (.t 34) (.t 36)⟩,
      ⟨none,(some 39),.load none (.t 38)⟩,
      ⟨none,(some 7),.bc (.t 39)⟩]))
     (.aL [1,4,5,34,35,36] (.region (some [[],[0],[],[],[2,3],[4],[1,5,4],[0,1,2,3,4,5,6],[7,6,6,0,1,2,3,4,5,6]]) [
       ⟨none,(some 40),.bX 3 (.t 5)⟩,
       ⟨none,(some 41),.load none (.t 40)⟩,
       ⟨none,(some 42),.bc (.t 7)⟩,
       ⟨none,(some 43),.bc (.t 1)⟩,
       ⟨none,(some 44),.call F.ig [(.t 42),(.t 43)]⟩,
       ⟨none,(some 45),.buildSlice 29 4 1 (.agg [(.v (.int .i64 0)),(.v (.int .i64 0)),(.v (.string ⟨#[]⟩)),.aw]) [(0,(.t 44))]⟩,
       ⟨none,(some 46),.app 29 4 56 (.t 41) (.t 45)⟩,
       ⟨none,(some 47),.bX 3 (.t 5)⟩,
       ⟨none,none,.store 1 (.t 47) (.t 46)⟩]))))
    (.aL [1,4,5,34,35,36] (.region none [
      ⟨none,(some 48),.bin .add (.t 36) (.c (.v (.int .i64 1)))⟩,
      ⟨none,(some 36),.bc (.t 48)⟩]))))))))
  (.seq (.aL [4] (.region none [
    ⟨none,(some 49),.load (some 4) (.t 5)⟩,
    ⟨none,none,.store 4 (.t 4) (.t 49)⟩]))
  (.ret))))))
theorem A.abS:vf Try.prog F.ig A.ig:=
 ⟨_,_,Try.func47,rfl,by kernel_rfl,rfl,by decide,by kernel_rfl,by kernel_rfl⟩
def A.eD:nT where
 dX:=1
 nt:=12
 res:=[.cell 2 (some 4)]
 code:= .seq (.aL [0,2] (.region none [
   ⟨none,(some 2),.alloc 29 4 (.agg [(.v (.int .i64 0)),(.v (.int .i64 0)),(.v (.string ⟨#[]⟩)),.aw])⟩]))
  (.seq (.aL [2] (.region (some [[],[0],[1],[2],[],[4],[5],[6],[3,7],[8,0,1,2,3,4,5,6,7,8]]) [
    ⟨none,(some 3),.bc (.t 0)⟩,
    ⟨none,(some 4),.ef (.t 3)⟩,
    ⟨none,(some 5),.bX 0 (.t 4)⟩,
    ⟨none,(some 6),.load none (.t 5)⟩,
    ⟨none,(some 7),.bc (.t 0)⟩,
    ⟨none,(some 8),.ef (.t 7)⟩,
    ⟨none,(some 9),.bX 1 (.t 8)⟩,
    ⟨none,(some 10),.load none (.t 9)⟩,
    ⟨none,(some 11),.build [(.v (.int .i64 0)),(.v (.int .i64 0)),(.v (.string ⟨#[]⟩)),.aw] [(0,1,(.t 6)),(1,1,(.t 10))]⟩,
    ⟨none,none,.store 4 (.t 2) (.t 11)⟩]))
  (.ret))
theorem A.vI:vf Try.prog F.eD A.eD:=
 ⟨_,_,Try.func48,rfl,by kernel_rfl,rfl,by decide,by kernel_rfl,by kernel_rfl⟩
def A.bY:nT where
 dX:=2
 nt:=9
 res:=[.tmp 4]
 code:= .seq (.aL [0,1] (.region none [
   ⟨none,(some 4),.bc (.c (.v (.bool false)))⟩]))
  (.seq (.aL [4] (.region none [
    ⟨none,(some 5),.bc (.t 0)⟩,
    ⟨none,(some 6),.bc (.t 1)⟩,
    ⟨none,(some 7),.call F.bV [(.t 5),(.t 6)]⟩,
    ⟨none,(some 8),.bin .geq (.t 7) (.c (.v (.int .i64 0)))⟩,
    ⟨none,(some 4),.bc (.t 8)⟩]))
  (.ret))
theorem A.jN:vf Try.prog F.bY A.bY:=
 ⟨_,_,Try.func76,rfl,by kernel_rfl,rfl,by decide,by kernel_rfl,by kernel_rfl⟩
def A.fG:nT where
 dX:=2
 nt:=7
 res:=[.tmp 3]
 code:= .seq (.aL [0,1] (.region none [
   ⟨none,(some 3),.bc (.c (.v (.bool false)))⟩]))
  (.seq (.aL [3] (.region none [
    ⟨none,(some 4),.bc (.t 0)⟩,
    ⟨none,(some 5),.load none (.t 1)⟩,
    ⟨none,(some 6),.bin .geq (.t 4) (.t 5)⟩,
    ⟨none,(some 3),.bc (.t 6)⟩]))
  (.ret))
theorem A.sN:vf Try.prog F.fG A.fG:=
 ⟨_,_,Try.func77,rfl,by kernel_rfl,rfl,by decide,by kernel_rfl,by kernel_rfl⟩
def A.fH:nT where
 dX:=1
 nt:=31
 res:=[.tmp 2]
 code:= .seq (.aL [0] (.region none [
   ⟨none,(some 2),.bc (.c (.v (.pointer none)))⟩]))
  (.seq (.block 0 (.loop (.seq (.seq (.aL [0,7] (.region none [
     ⟨none,(some 3),.bc (.t 0)⟩,
     ⟨none,(some 4),.ef (.t 3)⟩,
     ⟨none,(some 5),.bX 4 (.t 4)⟩,
     ⟨none,(some 6),.load none (.t 5)⟩,
     ⟨none,(some 7),.vt true (.t 6)⟩]))
    (.cond (.t 7)
     (.skip)
     (.exit 0)))
    (.block 1 (.seq (.seq (.aL [0,15] (.region none [
       ⟨none,(some 8),.bc (.t 0)⟩,
       ⟨none,(some 9),.ef (.t 8)⟩,
       ⟨none,(some 10),.bX 4 (.t 9)⟩,
       ⟨none,(some 11),.load none (.t 10)⟩,
       ⟨none,(some 12),.ef (.t 11)⟩,
       ⟨none,(some 13),.bX 4 (.t 12)⟩,
       ⟨none,(some 14),.load none (.t 13)⟩,
       ⟨none,(some 15),.vt true (.t 14)⟩]))
     (.cond (.t 15)
      (.aL [0] (.region none [
        ⟨none,(some 16),.bc (.t 0)⟩,
        ⟨none,(some 17),.bc (.t 0)⟩,
        ⟨none,(some 18),.ef (.t 17)⟩,
        ⟨none,(some 19),.bX 4 (.t 18)⟩,
        ⟨none,(some 20),.load none (.t 19)⟩,
        ⟨none,(some 21),.ef (.t 20)⟩,
        ⟨none,(some 22),.bX 4 (.t 21)⟩,
        ⟨none,(some 23),.load none (.t 22)⟩,
        ⟨none,(some 24),.ef (.t 16)⟩,
        ⟨none,(some 25),.bX 4 (.t 24)⟩,
        ⟨none,none,.store 1 (.t 25) (.t 23)⟩]))
      (.skip)))
     (.aL [0] (.region none [
       ⟨none,(some 26),.bc (.t 0)⟩,
       ⟨none,(some 27),.ef (.t 26)⟩,
       ⟨none,(some 28),.bX 4 (.t 27)⟩,
       ⟨none,(some 29),.load none (.t 28)⟩,
       ⟨none,(some 0),.bc (.t 29)⟩])))))))
  (.seq (.aL [2] (.region none [
    ⟨none,(some 30),.bc (.t 0)⟩,
    ⟨none,(some 2),.bc (.t 30)⟩]))
  (.ret)))
theorem A.ab4:vf Try.prog F.fH A.fH:=
 ⟨_,_,Try.func78,rfl,by kernel_rfl,rfl,by decide,by kernel_rfl,by kernel_rfl⟩
def A.bV:nT where
 dX:=2
 nt:=19
 res:=[.tmp 4]
 code:= .seq (.aL [0,1] (.region none [
   ⟨none,(some 4),.bc (.c (.v (.int .i64 0)))⟩]))
  (.seq (.seq (.aL [0,1,7,8] (.region none [
    ⟨none,(some 6),.bc (.t 0)⟩,
    ⟨none,(some 7),.bM (.t 6)⟩,
    ⟨none,(some 8),.bc (.c (.v (.int .i64 0)))⟩]))
  (.block 0 (.loop (.seq (.aL [0,1,7,8,9] (.region none [
     ⟨none,(some 9),.bin .lss (.t 8) (.t 7)⟩]))
    (.seq (.cond (.t 9)
     (.skip)
     (.exit 0))
    (.seq (.block 1 (.seq (.aL [0,1,5,7,8] (.region none [
       ⟨none,(some 10),.bc (.t 8)⟩,
       ⟨none,(some 5),.bc (.t 10)⟩]))
     (.seq (.aL [0,1,5,7,8,16] (.region none [
       ⟨none,(some 11),.bc (.t 1)⟩,
       ⟨none,(some 12),.bc (.t 0)⟩,
       ⟨none,(some 13),.bc (.t 5)⟩,
       ⟨none,(some 14),.fS 1 (.t 12) (.t 13)⟩,
       ⟨none,(some 15),.load none (.t 14)⟩,
       ⟨none,(some 16),.eu (.t 11) [(.t 15)]⟩]))
     (.cond (.t 16)
      (.seq (.aL [4] (.region none [
        ⟨none,(some 17),.bc (.t 5)⟩,
        ⟨none,(some 4),.bc (.t 17)⟩]))
      (.ret))
      (.skip)))))
    (.aL [0,1,7,8] (.region none [
      ⟨none,(some 18),.bin .add (.t 8) (.c (.v (.int .i64 1)))⟩,
      ⟨none,(some 8),.bc (.t 18)⟩]))))))))
  (.seq (.aL [4] (.region none [
    ⟨none,(some 4),.bc (.c (.v (.int .i64 (-1))))⟩]))
  (.ret)))
theorem A.kN:vf Try.prog F.bV A.bV:=
 ⟨_,_,Try.func87,rfl,by kernel_rfl,rfl,by decide,by kernel_rfl,by kernel_rfl⟩
end Go.Proofs.Ab
