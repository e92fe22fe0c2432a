/-
  THE ABSTRACT CODE of some of this seat's functions, printed by a program of ours (wip/tool/Gen3.lean) from the translation; each with the theorem that it is that function's.
-/
import Derived.Test.YtdbbmffachgajaaGreatST
set_option maxRecDepth 100000
set_option linter.unusedVariables false
set_option linter.unusedSimpArgs false
namespace Go.Proofs.Ab
open Go.Ab
def A.dR:vw where
 iz:=3
 nt:=108
 res:=[.tmp 6,.tmp 7]
 code:= .seq (.keep [0,1,2] (.region none [
    ⟨none,(some 6),.bD (.c .an)⟩,
    ⟨none,(some 7),.bD (.c (.v (.bool false)))⟩]))
  (.seq (.seq (.keep [0,1,2,20] (.region none [
    ⟨none,(some 18),.bD (.t 1)⟩,
    ⟨none,(some 19),.ch (.t 18)⟩,
    ⟨none,(some 20),.bin .eql (.t 19) (.c (.v (.int .i64 0)))⟩]))
  (.cond (.t 20)
   (.seq (.keep [6,7] (.region none [
     ⟨none,(some 21),.buildSlice 32 8 0 (.agg [(.v (.int .i64 0)),(.v (.int .i64 0)),(.v (.string ⟨#[]⟩)),(.v (.int .i64 0)),(.v (.int .i64 0)),(.v (.string ⟨#[]⟩)),.an,.an]) []⟩,
     ⟨none,(some 22),.bD (.t 2)⟩,
     ⟨none,(some 23),.ch (.t 22)⟩,
     ⟨none,(some 24),.bin .eql (.t 23) (.c (.v (.int .i64 0)))⟩,
     ⟨none,(some 6),.bD (.t 21)⟩,
     ⟨none,(some 7),.bD (.t 24)⟩]))
   (.ret))
   (.skip)))
  (.seq (.keep [0,1,2,8] (.region none [
    ⟨none,(some 8),.bD (.c (.v (.bool true)))⟩]))
  (.seq (.seq (.keep [0,1,2,8,9] (.region none [
    ⟨none,(some 9),.bD (.c (.v (.int .i64 0)))⟩]))
  (.block 0 (.loop (.seq (.seq (.keep [0,1,2,8,9,28] (.region none [
     ⟨none,(some 25),.bD (.t 9)⟩,
     ⟨none,(some 26),.bD (.t 2)⟩,
     ⟨none,(some 27),.ch (.t 26)⟩,
     ⟨none,(some 28),.bin .lss (.t 25) (.t 27)⟩]))
    (.cond (.t 28)
     (.skip)
     (.exit 0)))
    (.seq (.block 1 (.keep [0,1,2,8,9] (.region none [
     ⟨none,(some 31),.bD (.t 8)⟩,
     ⟨none,(some 32),.bD (.t 31)⟩,
     ⟨(some (32,true)),(some 33),.bD (.t 2)⟩,
     ⟨(some (32,true)),(some 34),.bD (.t 9)⟩,
     ⟨(some (32,true)),(some 35),.dO 1 (.t 33) (.t 34)⟩,
     ⟨(some (32,true)),(some 36),.load none (.t 35)⟩,
     ⟨(some (32,true)),(some 37),.dO 8 (.t 36) (.c (.v (.int .i64 0)))⟩,
     ⟨(some (32,true)),(some 38),.load (some 8) (.t 37)⟩,
     ⟨(some (32,true)),(some 39),.call F.l5 [(.t 38)]⟩,
     ⟨none,(some 40),.pick (.t 32) (.t 39) (.c (.v (.bool false)))⟩,
     ⟨none,(some 8),.bD (.t 40)⟩])))
    (.keep [0,1,2,8,9] (.region none [
      ⟨none,(some 29),.bD (.t 9)⟩,
      ⟨none,(some 30),.bin .add (.t 29) (.c (.v (.int .i64 1)))⟩,
      ⟨none,(some 9),.bD (.t 30)⟩])))))))
  (.seq (.seq (.keep [0,1,2,41] (.region none [
    ⟨none,(some 41),.bD (.t 8)⟩]))
  (.cond (.t 41)
   (.seq (.keep [1,10,11] (.region (some [[],[],[1],[],[],[3,4],[0,2,5,5],[6],[7],[7],[8,6,0,1,2,3,4,5,6,7,8],[9,10,0,1,2,3,4,5,6,7,8,9,10]]) [
     ⟨none,(some 43),.bD (.t 0)⟩,
     ⟨none,(some 44),.bD (.t 1)⟩,
     ⟨none,(some 45),.cj 4 (.t 44) (some (.c (.v (.int .i64 1)))) none⟩,
     ⟨none,(some 46),.bD (.t 2)⟩,
     ⟨none,(some 47),.build [(.v (.int .i64 0)),(.v (.int .i64 0)),(.v (.string ⟨#[]⟩)),(.v (.int .i64 0)),(.v (.int .i64 0)),(.v (.string ⟨#[]⟩)),.an,.an] []⟩,
     ⟨none,(some 48),.fA F.gQ [(.t 46),(.t 47)]⟩,
     ⟨none,(some 49),.call F.dR [(.t 43),(.t 45),(.t 48)]⟩,
     ⟨none,(some 42),.bD (.t 49)⟩,
     ⟨none,(some 50),.ext (.t 42) 0⟩,
     ⟨none,(some 51),.ext (.t 42) 1⟩,
     ⟨none,(some 10),.bD (.t 50)⟩,
     ⟨none,(some 11),.bD (.t 51)⟩]))
   (.seq (.keep [6,7] (.region none [
     ⟨none,(some 52),.bD (.t 1)⟩,
     ⟨none,(some 53),.dO 4 (.t 52) (.c (.v (.int .i64 0)))⟩,
     ⟨none,(some 54),.load (some 4) (.t 53)⟩,
     ⟨none,(some 55),.call F.fa [(.t 54)]⟩,
     ⟨none,(some 56),.buildSlice 32 8 1 (.agg [(.v (.int .i64 0)),(.v (.int .i64 0)),(.v (.string ⟨#[]⟩)),(.v (.int .i64 0)),(.v (.int .i64 0)),(.v (.string ⟨#[]⟩)),.an,.an]) [(0,(.t 55))]⟩,
     ⟨none,(some 57),.bD (.t 10)⟩,
     ⟨none,(some 58),.app 32 8 112 (.t 56) (.t 57)⟩,
     ⟨none,(some 59),.bD (.t 11)⟩,
     ⟨none,(some 6),.bD (.t 58)⟩,
     ⟨none,(some 7),.bD (.t 59)⟩]))
   (.ret)))
   (.skip)))
  (.seq (.keep [0,1,2,12] (.region none [
    ⟨none,(some 60),.bD (.t 0)⟩,
    ⟨none,(some 61),.bD (.t 1)⟩,
    ⟨none,(some 62),.dO 4 (.t 61) (.c (.v (.int .i64 0)))⟩,
    ⟨none,(some 63),.load (some 4) (.t 62)⟩,
    ⟨none,(some 64),.bD (.t 2)⟩,
    ⟨none,(some 65),.call F.dV [(.t 60),(.t 63),(.t 64)]⟩,
    ⟨none,(some 12),.bD (.t 65)⟩]))
  (.seq (.seq (.keep [0,1,2,12,13] (.region none [
    ⟨none,(some 13),.bD (.c (.v (.int .i64 0)))⟩]))
  (.block 2 (.loop (.seq (.seq (.keep [0,1,2,12,13,69] (.region none [
     ⟨none,(some 66),.bD (.t 13)⟩,
     ⟨none,(some 67),.bD (.t 12)⟩,
     ⟨none,(some 68),.ch (.t 67)⟩,
     ⟨none,(some 69),.bin .lss (.t 66) (.t 68)⟩]))
    (.cond (.t 69)
     (.skip)
     (.exit 2)))
    (.seq (.block 3 (.seq (.keep [0,1,2,12,13,14] (.region none [
       ⟨none,(some 72),.bD (.t 12)⟩,
       ⟨none,(some 73),.bD (.t 13)⟩,
       ⟨none,(some 74),.dO 8 (.t 72) (.t 73)⟩,
       ⟨none,(some 75),.load (some 8) (.t 74)⟩,
       ⟨none,(some 14),.alloc 32 8 (.agg [(.v (.int .i64 0)),(.v (.int .i64 0)),(.v (.string ⟨#[]⟩)),(.v (.int .i64 0)),(.v (.int .i64 0)),(.v (.string ⟨#[]⟩)),.an,.an])⟩,
       ⟨none,none,.store 8 (.t 14) (.t 75)⟩]))
     (.seq (.keep [0,1,2,12,13,14,15] (.region none [
       ⟨none,(some 76),.bX 7 (.t 14)⟩,
       ⟨none,(some 77),.load none (.t 76)⟩,
       ⟨none,(some 78),.ch (.t 77)⟩,
       ⟨none,(some 15),.bD (.t 78)⟩]))
     (.seq (.keep [0,1,2,12,13,14,15,16,17] (.region (some [[],[],[1],[],[3],[2,4,2],[],[],[6,7,5],[0,5,8,8],[9],[10],[10],[11,9,0,1,2,3,4,5,6,7,8,9,10,11],[12,13,0,1,2,3,4,5,6,7,8,9,10,11,12,13]]) [
       ⟨none,(some 80),.bD (.t 0)⟩,
       ⟨none,(some 81),.load (some 8) (.t 14)⟩,
       ⟨none,(some 82),.fA F.fE [(.t 81)]⟩,
       ⟨none,(some 83),.bD (.t 1)⟩,
       ⟨none,(some 84),.cj 4 (.t 83) (some (.c (.v (.int .i64 1)))) none⟩,
       ⟨none,(some 85),.app 27 4 56 (.t 82) (.t 84)⟩,
       ⟨none,(some 86),.bD (.t 2)⟩,
       ⟨none,(some 87),.load (some 8) (.t 14)⟩,
       ⟨none,(some 88),.fA F.gQ [(.t 86),(.t 87)]⟩,
       ⟨none,(some 89),.call F.dR [(.t 80),(.t 85),(.t 88)]⟩,
       ⟨none,(some 79),.bD (.t 89)⟩,
       ⟨none,(some 90),.ext (.t 79) 0⟩,
       ⟨none,(some 91),.ext (.t 79) 1⟩,
       ⟨none,(some 16),.bD (.t 90)⟩,
       ⟨none,(some 17),.bD (.t 91)⟩]))
     (.seq (.keep [0,1,2,12,13,14,15,16,92] (.region none [
       ⟨none,(some 92),.bD (.t 17)⟩]))
     (.cond (.t 92)
      (.seq (.seq (.keep [14,15,16,94] (.region none [
        ⟨none,(some 93),.bD (.t 15)⟩,
        ⟨none,(some 94),.bin .gtr (.t 93) (.c (.v (.int .i64 0)))⟩]))
      (.cond (.t 94)
       (.keep [14,15,16] (.region none [
         ⟨none,(some 95),.buildSlice 32 8 0 (.agg [(.v (.int .i64 0)),(.v (.int .i64 0)),(.v (.string ⟨#[]⟩)),(.v (.int .i64 0)),(.v (.int .i64 0)),(.v (.string ⟨#[]⟩)),.an,.an]) []⟩,
         ⟨none,(some 96),.bD (.t 16)⟩,
         ⟨none,(some 97),.bD (.t 15)⟩,
         ⟨none,(some 98),.cj 8 (.t 96) none (some (.t 97))⟩,
         ⟨none,(some 99),.app 32 8 112 (.t 95) (.t 98)⟩,
         ⟨none,(some 100),.bX 7 (.t 14)⟩,
         ⟨none,none,.store 1 (.t 100) (.t 99)⟩]))
       (.skip)))
      (.seq (.keep [6,7] (.region (some [[],[0],[],[],[2,3],[1,4],[5,5,0,1,2,3,4,5],[6,0,1,2,3,4,5,6]]) [
        ⟨none,(some 101),.load (some 8) (.t 14)⟩,
        ⟨none,(some 102),.buildSlice 32 8 1 (.agg [(.v (.int .i64 0)),(.v (.int .i64 0)),(.v (.string ⟨#[]⟩)),(.v (.int .i64 0)),(.v (.int .i64 0)),(.v (.string ⟨#[]⟩)),.an,.an]) [(0,(.t 101))]⟩,
        ⟨none,(some 103),.bD (.t 16)⟩,
        ⟨none,(some 104),.bD (.t 15)⟩,
        ⟨none,(some 105),.cj 8 (.t 103) (some (.t 104)) none⟩,
        ⟨none,(some 106),.app 32 8 112 (.t 102) (.t 105)⟩,
        ⟨none,(some 6),.bD (.t 106)⟩,
        ⟨none,(some 7),.bD (.c (.v (.bool true)))⟩]))
      (.ret)))
      (.skip)))))))
    (.keep [0,1,2,12,13] (.region none [
      ⟨none,(some 70),.bD (.t 13)⟩,
      ⟨none,(some 71),.bin .add (.t 70) (.c (.v (.int .i64 1)))⟩,
      ⟨none,(some 13),.bD (.t 71)⟩])))))))
  (.seq (.keep [6,7] (.region none [
    ⟨none,(some 107),.buildSlice 32 8 0 (.agg [(.v (.int .i64 0)),(.v (.int .i64 0)),(.v (.string ⟨#[]⟩)),(.v (.int .i64 0)),(.v (.int .i64 0)),(.v (.string ⟨#[]⟩)),.an,.an]) []⟩,
    ⟨none,(some 6),.bD (.t 107)⟩,
    ⟨none,(some 7),.bD (.c (.v (.bool false)))⟩]))
  (.ret))))))))
theorem A.qL:cFn Tryz.prog F.dR A.dR:=
 ⟨_,_,Tryz.func18,rfl,by kernel_rfl,rfl,by decide,by kernel_rfl,by kernel_rfl⟩
def A.bp:vw where
 iz:=1
 nt:=8
 res:=[.tmp 2]
 code:= .seq (.keep [0] (.region none [
    ⟨none,(some 2),.bD (.c .an)⟩]))
  (.seq (.seq (.keep [0,4] (.region none [
    ⟨none,(some 3),.bD (.t 0)⟩,
    ⟨none,(some 4),.pu (.qk false) [(.t 3)]⟩]))
  (.cond (.t 4)
   (.seq (.keep [2] (.region none [
     ⟨none,(some 2),.bD (.c .an)⟩]))
   (.ret))
   (.skip)))
  (.seq (.keep [2] (.region none [
    ⟨none,(some 5),.buildSlice 28 1 0 .an []⟩,
    ⟨none,(some 6),.bD (.t 0)⟩,
    ⟨none,(some 7),.app 28 1 24 (.t 5) (.t 6)⟩,
    ⟨none,(some 2),.bD (.t 7)⟩]))
  (.ret)))
theorem A.fo:cFn Tryz.prog F.bp A.bp:=
 ⟨_,_,Tryz.func49,rfl,by kernel_rfl,rfl,by decide,by kernel_rfl,by kernel_rfl⟩
def A.l6:vw where
 iz:=3
 nt:=26
 res:=[.cell 6 (some 4)]
 code:= .seq (.keep [2,3,4,6] (.region none [
   ⟨none,(some 3),.box 86 4 (.t 0)⟩,
   ⟨none,(some 4),.box 27 4 (.t 1)⟩,
   ⟨none,(some 6),.alloc 86 4 (.agg [.an,.an,.an,(.v (.int .i64 0))])⟩]))
  (.seq (.mu (.keep [6] (.region (some [[],[0],[],[],[3],[2,4],[],[6],[5,7,5],[],[],[10],[9,11,8],[],[13],[12,14,12],[],[16],[1,8,15,17],[18,15,0,1,2,3,4,5,6,7,8,9,10,11,12,13,14,15,16,17,18]]) [
    ⟨none,(some 7),.bX 0 (.t 3)⟩,
    ⟨none,(some 8),.load none (.t 7)⟩,
    ⟨none,(some 9),.buildSlice 27 4 0 (.agg [(.v (.int .i64 0)),(.v (.int .i64 0)),(.v (.string ⟨#[]⟩)),.an]) []⟩,
    ⟨none,(some 10),.bX 1 (.t 3)⟩,
    ⟨none,(some 11),.load none (.t 10)⟩,
    ⟨none,(some 12),.app 27 4 56 (.t 9) (.t 11)⟩,
    ⟨none,(some 13),.load (some 4) (.t 4)⟩,
    ⟨none,(some 14),.buildSlice 27 4 1 (.agg [(.v (.int .i64 0)),(.v (.int .i64 0)),(.v (.string ⟨#[]⟩)),.an]) [(0,(.t 13))]⟩,
    ⟨none,(some 15),.app 27 4 56 (.t 12) (.t 14)⟩,
    ⟨none,(some 16),.buildSlice 3 1 0 (.v (.int .i64 0)) []⟩,
    ⟨none,(some 17),.bX 2 (.t 3)⟩,
    ⟨none,(some 18),.load none (.t 17)⟩,
    ⟨none,(some 19),.app 3 1 8 (.t 16) (.t 18)⟩,
    ⟨none,(some 20),.bD (.t 2)⟩,
    ⟨none,(some 21),.buildSlice 3 1 1 (.v (.int .i64 0)) [(0,(.t 20))]⟩,
    ⟨none,(some 22),.app 3 1 8 (.t 19) (.t 21)⟩,
    ⟨none,(some 23),.bX 3 (.t 3)⟩,
    ⟨none,(some 24),.load none (.t 23)⟩,
    ⟨none,(some 25),.build [.an,.an,.an,(.v (.int .i64 0))] [(0,1,(.t 8)),(1,1,(.t 15)),(2,1,(.t 22)),(3,1,(.t 24))]⟩,
    ⟨none,none,.store 4 (.t 6) (.t 25)⟩])))
  (.ret))
theorem A.ad5:cFn Tryz.prog F.l6 A.l6:=
 ⟨_,_,Tryz.func84,rfl,by kernel_rfl,rfl,by decide,by kernel_rfl,by kernel_rfl⟩
end Go.Proofs.Ab
