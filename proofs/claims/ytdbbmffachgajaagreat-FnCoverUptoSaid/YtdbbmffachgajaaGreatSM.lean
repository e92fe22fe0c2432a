/- Part of a proof: the functions that the law reaches, walked by the abstract logic of the texts Ab. -/
import Derived.Test.YtdbbmffachgajaaGreatST
set_option maxRecDepth 100000
set_option linter.unusedVariables false
set_option linter.unusedSimpArgs false
namespace Go.Proofs.Ab
open Go.Ab
def A.kQ:vw where
 iz:=3
 nt:=53
 res:=[.tmp 6]
 code:= .seq (.keep [0,2,4] (.region none [
    ⟨none,(some 4),.box 27 4 (.t 1)⟩,
    ⟨none,(some 6),.bD (.c (.v (.bool false)))⟩]))
  (.seq (.keep [2,4,7] (.region none [
    ⟨none,(some 13),.bD (.t 0)⟩,
    ⟨none,(some 14),.build [.an] [(0,1,(.t 13))]⟩,
    ⟨none,(some 15),.box 68 1 (.t 14)⟩,
    ⟨none,(some 7),.bD (.t 15)⟩]))
  (.mu (.seq (.seq (.keep [2,4,7,30] (.region none [
    ⟨none,(some 16),.bD (.t 2)⟩,
    ⟨none,(some 17),.ch (.t 16)⟩,
    ⟨none,(some 18),.call F.iZ [(.t 17),(.c (.v (.int .i64 1))),(.c (.v (.int .i64 30)))]⟩,
    ⟨none,(some 19),.un .not (.t 18)⟩,
    ⟨none,(some 20),.bD (.t 19)⟩,
    ⟨(some (20,false)),(some 21),.load (some 4) (.t 4)⟩,
    ⟨(some (20,false)),(some 22),.call F.mh [(.t 21)]⟩,
    ⟨(some (20,false)),(some 23),.un .not (.t 22)⟩,
    ⟨none,(some 24),.pick (.t 20) (.c (.v (.bool true))) (.t 23)⟩,
    ⟨none,(some 25),.bD (.t 24)⟩,
    ⟨(some (25,false)),(some 26),.bD (.t 7)⟩,
    ⟨(some (25,false)),(some 27),.load (some 4) (.t 4)⟩,
    ⟨(some (25,false)),(some 28),.call F.dp [(.t 26),(.t 27),(.c (.v (.int .i64 1099511627776))),(.c (.v (.int .i64 0)))]⟩,
    ⟨(some (25,false)),(some 29),.un .not (.t 28)⟩,
    ⟨none,(some 30),.pick (.t 25) (.c (.v (.bool true))) (.t 29)⟩]))
  (.cond (.t 30)
   (.seq (.keep [6] (.region none [
     ⟨none,(some 6),.bD (.c (.v (.bool false)))⟩]))
   (.ret))
   (.skip)))
  (.seq (.keep [2,4,7,8] (.region none [
    ⟨none,(some 8),.bD (.c (.v (.int .i64 0)))⟩]))
  (.seq (.seq (.keep [4,7,8,31,32,33] (.region none [
    ⟨none,(some 31),.bD (.t 2)⟩,
    ⟨none,(some 32),.ch (.t 31)⟩,
    ⟨none,(some 33),.bD (.c (.v (.int .i64 0)))⟩]))
  (.block 0 (.loop (.seq (.keep [4,7,8,31,32,33,34] (.region none [
     ⟨none,(some 34),.bin .lss (.t 33) (.t 32)⟩]))
    (.seq (.cond (.t 34)
     (.skip)
     (.exit 0))
    (.seq (.block 1 (.seq (.keep [4,7,8,10,31,32,33] (.region none [
       ⟨none,(some 35),.dO 8 (.t 31) (.t 33)⟩,
       ⟨none,(some 36),.load (some 8) (.t 35)⟩,
       ⟨none,(some 10),.alloc 32 8 (.agg [(.v (.int .i64 0)),(.v (.int .i64 0)),(.v (.string ⟨#[]⟩)),(.v (.int .i64 0)),(.v (.int .i64 0)),(.v (.string ⟨#[]⟩)),.an,.an])⟩,
       ⟨none,none,.store 8 (.t 10) (.t 36)⟩]))
     (.seq (.seq (.keep [4,7,8,10,12,31,32,33] (.region none [
       ⟨none,(some 38),.bD (.t 7)⟩,
       ⟨none,(some 39),.load (some 8) (.t 10)⟩,
       ⟨none,(some 40),.load (some 4) (.t 4)⟩,
       ⟨none,(some 41),.call F.fD [(.t 38),(.t 39),(.t 40),(.c (.v (.int .i64 1099511627776)))]⟩,
       ⟨none,(some 37),.bD (.t 41)⟩,
       ⟨none,(some 42),.ext (.t 37) 0⟩,
       ⟨none,(some 43),.ext (.t 37) 1⟩,
       ⟨none,(some 11),.bD (.t 42)⟩,
       ⟨none,(some 12),.bD (.t 43)⟩]))
     (.seq (.keep [4,7,8,10,31,32,33,45] (.region none [
       ⟨none,(some 44),.bD (.t 12)⟩,
       ⟨none,(some 45),.un .not (.t 44)⟩]))
     (.cond (.t 45)
      (.seq (.keep [6] (.region none [
        ⟨none,(some 6),.bD (.c (.v (.bool false)))⟩]))
      (.ret))
      (.skip))))
     (.keep [4,7,8,31,32,33] (.region none [
       ⟨none,(some 46),.bD (.t 8)⟩,
       ⟨none,(some 47),.load (some 8) (.t 10)⟩,
       ⟨none,(some 48),.call F.jP [(.t 47)]⟩,
       ⟨none,(some 49),.bin .add (.t 46) (.t 48)⟩,
       ⟨none,(some 8),.bD (.t 49)⟩])))))
    (.keep [4,7,8,31,32,33] (.region none [
      ⟨none,(some 50),.bin .add (.t 33) (.c (.v (.int .i64 1)))⟩,
      ⟨none,(some 33),.bD (.t 50)⟩]))))))))
  (.seq (.keep [6] (.region none [
    ⟨none,(some 51),.bD (.t 8)⟩,
    ⟨none,(some 52),.bin .leq (.t 51) (.c (.v (.int .i64 60)))⟩,
    ⟨none,(some 6),.bD (.t 52)⟩]))
  (.ret)))))))
theorem A.acE:cFn Tryz.prog F.kQ A.kQ:=
 ⟨_,_,Tryz.func14,rfl,by kernel_rfl,rfl,by decide,by kernel_rfl,by kernel_rfl⟩
def A.bh:vw where
 iz:=1
 nt:=30
 res:=[.cell 2 (some 4)]
 code:= .seq (.keep [0,2] (.region none [
    ⟨none,(some 2),.alloc 114 4 (.agg [(.v (.int .i64 0)),(.v (.string ⟨#[]⟩)),(.v (.int .i64 0)),.an])⟩]))
  (.seq (.keep [0,2,3] (.region none [
    ⟨none,(some 5),.bD (.t 0)⟩,
    ⟨none,(some 6),.call F.de [(.t 5)]⟩,
    ⟨none,(some 3),.alloc 148 4 (.agg [(.v (.int .i64 0)),(.v (.string ⟨#[]⟩)),(.v (.int .i64 0)),(.v (.int .i64 0))])⟩,
    ⟨none,none,.store 4 (.t 3) (.t 6)⟩]))
  (.seq (.seq (.keep [0,2,3,8] (.region none [
    ⟨none,(some 7),.bD (.t 0)⟩,
    ⟨none,(some 8),.call F.bo [(.t 7),(.c (.v (.string ⟨#[114,101,102]⟩)))]⟩]))
  (.cond (.t 8)
   (.seq (.keep [2] (.region (some [[],[0],[],[2],[3],[1,4],[5,3,0,1,2,3,4,5]]) [
     ⟨none,(some 9),.bX 3 (.t 3)⟩,
     ⟨none,(some 10),.load none (.t 9)⟩,
     ⟨none,(some 11),.bD (.t 0)⟩,
     ⟨none,(some 12),.fA F.ck [(.t 11)]⟩,
     ⟨none,(some 13),.buildSlice 114 4 1 (.agg [(.v (.int .i64 0)),(.v (.string ⟨#[]⟩)),(.v (.int .i64 0)),.an]) [(0,(.t 12))]⟩,
     ⟨none,(some 14),.build [(.v (.int .i64 0)),(.v (.string ⟨#[]⟩)),(.v (.int .i64 0)),.an] [(0,1,(.c (.v (.int .i64 5)))),(2,1,(.t 10)),(3,1,(.t 13))]⟩,
     ⟨none,none,.store 4 (.t 2) (.t 14)⟩]))
   (.ret))
   (.skip)))
  (.seq (.keep [0,2,3,4] (.region none [
    ⟨none,(some 15),.bD (.t 0)⟩,
    ⟨none,(some 16),.call F.ck [(.t 15)]⟩,
    ⟨none,(some 4),.alloc 114 4 (.agg [(.v (.int .i64 0)),(.v (.string ⟨#[]⟩)),(.v (.int .i64 0)),.an])⟩,
    ⟨none,none,.store 4 (.t 4) (.t 16)⟩]))
  (.seq (.seq (.keep [0,2,4,19] (.region none [
    ⟨none,(some 17),.bX 0 (.t 3)⟩,
    ⟨none,(some 18),.load none (.t 17)⟩,
    ⟨none,(some 19),.bin .eql (.t 18) (.c (.v (.int .i64 3)))⟩]))
  (.cond (.t 19)
   (.block 0 (.loop (.seq (.seq (.keep [0,2,4,21] (.region none [
      ⟨none,(some 20),.bD (.t 0)⟩,
      ⟨none,(some 21),.call F.bJ [(.t 20)]⟩]))
     (.cond (.t 21)
      (.skip)
      (.exit 0)))
     (.block 1 (.keep [0,2,4] (.region (some [[],[0],[],[2],[3],[1,4,3],[0,1,2,3,4,5],[6,5,5,0,1,2,3,4,5]]) [
      ⟨none,(some 22),.bX 3 (.t 4)⟩,
      ⟨none,(some 23),.load none (.t 22)⟩,
      ⟨none,(some 24),.bD (.t 0)⟩,
      ⟨none,(some 25),.fA F.ck [(.t 24)]⟩,
      ⟨none,(some 26),.buildSlice 114 4 1 (.agg [(.v (.int .i64 0)),(.v (.string ⟨#[]⟩)),(.v (.int .i64 0)),.an]) [(0,(.t 25))]⟩,
      ⟨none,(some 27),.app 114 4 56 (.t 23) (.t 26)⟩,
      ⟨none,(some 28),.bX 3 (.t 4)⟩,
      ⟨none,none,.store 1 (.t 28) (.t 27)⟩]))))))
   (.skip)))
  (.seq (.keep [2] (.region none [
    ⟨none,(some 29),.load (some 4) (.t 4)⟩,
    ⟨none,none,.store 4 (.t 2) (.t 29)⟩]))
  (.ret))))))
theorem A.nk:cFn Tryz.prog F.bh A.bh:=
 ⟨_,_,Tryz.func178,rfl,by kernel_rfl,rfl,by decide,by kernel_rfl,by kernel_rfl⟩
def A.dV:vw where
 iz:=3
 nt:=201
 res:=[.tmp 6]
 code:= .seq (.keep [0,2,4] (.region none [
    ⟨none,(some 4),.box 27 4 (.t 1)⟩,
    ⟨none,(some 6),.bD (.c .an)⟩]))
  (.seq (.keep [0,2,4,7] (.region none [
    ⟨none,(some 17),.buildSlice 32 8 0 (.agg [(.v (.int .i64 0)),(.v (.int .i64 0)),(.v (.string ⟨#[]⟩)),(.v (.int .i64 0)),(.v (.int .i64 0)),(.v (.string ⟨#[]⟩)),.an,.an]) []⟩,
    ⟨none,(some 7),.bD (.t 17)⟩]))
  (.seq (.seq (.keep [0,2,4,7,19] (.region none [
    ⟨none,(some 18),.bX 0 (.t 4)⟩,
    ⟨none,(some 19),.load none (.t 18)⟩]))
  (.block 0 (.seq (.keep [0,2,4,7,19,20] (.region none [
     ⟨none,(some 21),.bin .eql (.t 19) (.c (.v (.int .i64 6)))⟩,
     ⟨none,(some 20),.bD (.t 21)⟩]))
   (.cond (.t 20)
    (.seq (.keep [4,7,8] (.region none [
      ⟨none,(some 22),.build [(.v (.int .i64 0)),(.v (.int .i64 0)),(.v (.string ⟨#[]⟩)),(.v (.int .i64 0)),(.v (.int .i64 0)),(.v (.string ⟨#[]⟩)),.an,.an] [(0,1,(.c (.v (.int .i64 6))))]⟩,
      ⟨none,(some 8),.alloc 32 8 (.agg [(.v (.int .i64 0)),(.v (.int .i64 0)),(.v (.string ⟨#[]⟩)),(.v (.int .i64 0)),(.v (.int .i64 0)),(.v (.string ⟨#[]⟩)),.an,.an])⟩,
      ⟨none,none,.store 8 (.t 8) (.t 22)⟩]))
    (.seq (.seq (.keep [4,7,8,9] (.region none [
      ⟨none,(some 9),.bD (.c (.v (.int .i64 0)))⟩]))
    (.block 1 (.loop (.seq (.seq (.keep [4,7,8,9,27] (.region none [
       ⟨none,(some 23),.bD (.t 9)⟩,
       ⟨none,(some 24),.bX 3 (.t 4)⟩,
       ⟨none,(some 25),.load none (.t 24)⟩,
       ⟨none,(some 26),.ch (.t 25)⟩,
       ⟨none,(some 27),.bin .lss (.t 23) (.t 26)⟩]))
      (.cond (.t 27)
       (.skip)
       (.exit 1)))
      (.seq (.block 2 (.keep [4,7,8,9] (.region (some [[],[0],[],[2],[],[3,4],[5],[6],[7],[1,8,7],[0,1,2,3,4,5,6,7,8,9],[10,9,9,0,1,2,3,4,5,6,7,8,9]]) [
       ⟨none,(some 30),.bX 7 (.t 8)⟩,
       ⟨none,(some 31),.load none (.t 30)⟩,
       ⟨none,(some 32),.bX 3 (.t 4)⟩,
       ⟨none,(some 33),.load none (.t 32)⟩,
       ⟨none,(some 34),.bD (.t 9)⟩,
       ⟨none,(some 35),.dO 4 (.t 33) (.t 34)⟩,
       ⟨none,(some 36),.load (some 4) (.t 35)⟩,
       ⟨none,(some 37),.fA F.fa [(.t 36)]⟩,
       ⟨none,(some 38),.buildSlice 32 8 1 (.agg [(.v (.int .i64 0)),(.v (.int .i64 0)),(.v (.string ⟨#[]⟩)),(.v (.int .i64 0)),(.v (.int .i64 0)),(.v (.string ⟨#[]⟩)),.an,.an]) [(0,(.t 37))]⟩,
       ⟨none,(some 39),.app 32 8 112 (.t 31) (.t 38)⟩,
       ⟨none,(some 40),.bX 7 (.t 8)⟩,
       ⟨none,none,.store 1 (.t 40) (.t 39)⟩])))
      (.keep [4,7,8,9] (.region none [
        ⟨none,(some 28),.bD (.t 9)⟩,
        ⟨none,(some 29),.bin .add (.t 28) (.c (.v (.int .i64 1)))⟩,
        ⟨none,(some 9),.bD (.t 29)⟩])))))))
    (.seq (.keep [6] (.region none [
      ⟨none,(some 41),.bD (.t 7)⟩,
      ⟨none,(some 42),.load (some 8) (.t 8)⟩,
      ⟨none,(some 43),.buildSlice 32 8 1 (.agg [(.v (.int .i64 0)),(.v (.int .i64 0)),(.v (.string ⟨#[]⟩)),(.v (.int .i64 0)),(.v (.int .i64 0)),(.v (.string ⟨#[]⟩)),.an,.an]) [(0,(.t 42))]⟩,
      ⟨none,(some 44),.app 32 8 112 (.t 41) (.t 43)⟩,
      ⟨none,(some 6),.bD (.t 44)⟩]))
    (.ret))))
    (.seq (.keep [0,2,4,7,19,45] (.region none [
      ⟨none,(some 46),.bin .eql (.t 19) (.c (.v (.int .i64 3)))⟩,
      ⟨none,(some 45),.bD (.t 46)⟩]))
    (.cond (.t 45)
     (.seq (.keep [6] (.region none [
       ⟨none,(some 47),.bD (.t 7)⟩,
       ⟨none,(some 48),.build [(.v (.int .i64 0)),(.v (.int .i64 0)),(.v (.string ⟨#[]⟩)),(.v (.int .i64 0)),(.v (.int .i64 0)),(.v (.string ⟨#[]⟩)),.an,.an] [(0,1,(.c (.v (.int .i64 5))))]⟩,
       ⟨none,(some 49),.buildSlice 32 8 1 (.agg [(.v (.int .i64 0)),(.v (.int .i64 0)),(.v (.string ⟨#[]⟩)),(.v (.int .i64 0)),(.v (.int .i64 0)),(.v (.string ⟨#[]⟩)),.an,.an]) [(0,(.t 48))]⟩,
       ⟨none,(some 50),.app 32 8 112 (.t 47) (.t 49)⟩,
       ⟨none,(some 6),.bD (.t 50)⟩]))
     (.ret))
     (.seq (.keep [0,2,4,7,19,51] (.region none [
       ⟨none,(some 52),.bin .eql (.t 19) (.c (.v (.int .i64 2)))⟩,
       ⟨none,(some 51),.bD (.t 52)⟩]))
     (.cond (.t 51)
      (.seq (.keep [6] (.region none [
        ⟨none,(some 53),.bD (.t 7)⟩,
        ⟨none,(some 54),.build [(.v (.int .i64 0)),(.v (.int .i64 0)),(.v (.string ⟨#[]⟩)),(.v (.int .i64 0)),(.v (.int .i64 0)),(.v (.string ⟨#[]⟩)),.an,.an] [(0,1,(.c (.v (.int .i64 4))))]⟩,
        ⟨none,(some 55),.build [(.v (.int .i64 0)),(.v (.int .i64 0)),(.v (.string ⟨#[]⟩)),(.v (.int .i64 0)),(.v (.int .i64 0)),(.v (.string ⟨#[]⟩)),.an,.an] [(0,1,(.c (.v (.int .i64 4)))),(1,1,(.c (.v (.int .i64 1))))]⟩,
        ⟨none,(some 56),.buildSlice 32 8 2 (.agg [(.v (.int .i64 0)),(.v (.int .i64 0)),(.v (.string ⟨#[]⟩)),(.v (.int .i64 0)),(.v (.int .i64 0)),(.v (.string ⟨#[]⟩)),.an,.an]) [(0,(.t 54)),(1,(.t 55))]⟩,
        ⟨none,(some 57),.app 32 8 112 (.t 53) (.t 56)⟩,
        ⟨none,(some 6),.bD (.t 57)⟩]))
      (.ret))
      (.seq (.keep [0,2,4,7,58] (.region none [
        ⟨none,(some 59),.bin .eql (.t 19) (.c (.v (.int .i64 7)))⟩,
        ⟨none,(some 58),.bD (.t 59)⟩]))
      (.cond (.t 58)
       (.seq (.keep [4,7,10] (.region none [
         ⟨none,(some 60),.bD (.t 0)⟩,
         ⟨none,(some 61),.bD (.t 0)⟩,
         ⟨none,(some 62),.bX 2 (.t 4)⟩,
         ⟨none,(some 63),.load none (.t 62)⟩,
         ⟨none,(some 64),.call F.iY [(.t 61),(.t 63)]⟩,
         ⟨none,(some 65),.dO 3 (.t 60) (.t 64)⟩,
         ⟨none,(some 66),.load (some 3) (.t 65)⟩,
         ⟨none,(some 10),.alloc 111 3 (.agg [(.v (.string ⟨#[]⟩)),(.v (.int .i64 0)),.an])⟩,
         ⟨none,none,.store 3 (.t 10) (.t 66)⟩]))
       (.seq (.seq (.keep [4,7,10,11] (.region none [
         ⟨none,(some 11),.bD (.c (.v (.int .i64 0)))⟩]))
       (.block 3 (.loop (.seq (.seq (.keep [4,7,10,11,71] (.region none [
          ⟨none,(some 67),.bD (.t 11)⟩,
          ⟨none,(some 68),.bX 2 (.t 10)⟩,
          ⟨none,(some 69),.load none (.t 68)⟩,
          ⟨none,(some 70),.ch (.t 69)⟩,
          ⟨none,(some 71),.bin .lss (.t 67) (.t 70)⟩]))
         (.cond (.t 71)
          (.skip)
          (.exit 3)))
         (.seq (.block 4 (.seq (.keep [4,7,10,11,12] (.region (some [[],[0],[],[1,2],[3],[4],[],[6],[5,7],[],[9,8,7,0,1,2,3,4,5,6,7,8,9]]) [
            ⟨none,(some 74),.bX 2 (.t 10)⟩,
            ⟨none,(some 75),.load none (.t 74)⟩,
            ⟨none,(some 76),.bD (.t 11)⟩,
            ⟨none,(some 77),.dO 6 (.t 75) (.t 76)⟩,
            ⟨none,(some 78),.bX 0 (.t 77)⟩,
            ⟨none,(some 79),.load none (.t 78)⟩,
            ⟨none,(some 80),.load (some 4) (.t 4)⟩,
            ⟨none,(some 81),.fA F.eO [(.t 80)]⟩,
            ⟨none,(some 82),.build [(.v (.int .i64 0)),(.v (.int .i64 0)),(.v (.string ⟨#[]⟩)),(.v (.int .i64 0)),(.v (.int .i64 0)),(.v (.string ⟨#[]⟩)),.an,.an] [(0,1,(.c (.v (.int .i64 7)))),(2,1,(.t 79)),(3,4,(.t 81))]⟩,
            ⟨none,(some 12),.alloc 32 8 (.agg [(.v (.int .i64 0)),(.v (.int .i64 0)),(.v (.string ⟨#[]⟩)),(.v (.int .i64 0)),(.v (.int .i64 0)),(.v (.string ⟨#[]⟩)),.an,.an])⟩,
            ⟨none,none,.store 8 (.t 12) (.t 82)⟩]))
          (.seq (.seq (.keep [4,7,10,11,12,88] (.region none [
            ⟨none,(some 83),.bX 2 (.t 10)⟩,
            ⟨none,(some 84),.load none (.t 83)⟩,
            ⟨none,(some 85),.bD (.t 11)⟩,
            ⟨none,(some 86),.dO 6 (.t 84) (.t 85)⟩,
            ⟨none,(some 87),.bX 1 (.t 86)⟩,
            ⟨none,(some 88),.load none (.t 87)⟩]))
          (.cond (.t 88)
           (.keep [4,7,10,11,12] (.region (some [[],[0],[],[1,2],[3],[4],[],[6],[5,7],[8,8],[9],[0,1,2,3,4,5,6,7,8,9,10],[11,10,9,0,1,2,3,4,5,6,7,8,9,10]]) [
             ⟨none,(some 89),.bX 2 (.t 10)⟩,
             ⟨none,(some 90),.load none (.t 89)⟩,
             ⟨none,(some 91),.bD (.t 11)⟩,
             ⟨none,(some 92),.dO 6 (.t 90) (.t 91)⟩,
             ⟨none,(some 93),.bX 2 (.t 92)⟩,
             ⟨none,(some 94),.load (some 4) (.t 93)⟩,
             ⟨none,(some 95),.bX 3 (.t 4)⟩,
             ⟨none,(some 96),.load none (.t 95)⟩,
             ⟨none,(some 97),.fA F.kb [(.t 94),(.c (.v (.int .i64 10))),(.t 96)]⟩,
             ⟨none,(some 98),.fA F.fa [(.t 97)]⟩,
             ⟨none,(some 99),.buildSlice 32 8 1 (.agg [(.v (.int .i64 0)),(.v (.int .i64 0)),(.v (.string ⟨#[]⟩)),(.v (.int .i64 0)),(.v (.int .i64 0)),(.v (.string ⟨#[]⟩)),.an,.an]) [(0,(.t 98))]⟩,
             ⟨none,(some 100),.bX 7 (.t 12)⟩,
             ⟨none,none,.store 1 (.t 100) (.t 99)⟩]))
           (.skip)))
          (.keep [4,7,10,11] (.region none [
            ⟨none,(some 101),.bD (.t 7)⟩,
            ⟨none,(some 102),.load (some 8) (.t 12)⟩,
            ⟨none,(some 103),.buildSlice 32 8 1 (.agg [(.v (.int .i64 0)),(.v (.int .i64 0)),(.v (.string ⟨#[]⟩)),(.v (.int .i64 0)),(.v (.int .i64 0)),(.v (.string ⟨#[]⟩)),.an,.an]) [(0,(.t 102))]⟩,
            ⟨none,(some 104),.app 32 8 112 (.t 101) (.t 103)⟩,
            ⟨none,(some 7),.bD (.t 104)⟩])))))
         (.keep [4,7,10,11] (.region none [
           ⟨none,(some 72),.bD (.t 11)⟩,
           ⟨none,(some 73),.bin .add (.t 72) (.c (.v (.int .i64 1)))⟩,
           ⟨none,(some 11),.bD (.t 73)⟩])))))))
       (.seq (.keep [6] (.region none [
         ⟨none,(some 105),.bD (.t 7)⟩,
         ⟨none,(some 6),.bD (.t 105)⟩]))
       (.ret))))
       (.skip)))))))))))
  (.seq (.keep [2,4,7,13] (.region none [
    ⟨none,(some 106),.buildSlice 3 1 0 (.v (.int .i64 0)) []⟩,
    ⟨none,(some 13),.bD (.t 106)⟩]))
  (.seq (.seq (.keep [2,4,7,13,14] (.region none [
    ⟨none,(some 14),.bD (.c (.v (.int .i64 0)))⟩]))
  (.block 5 (.loop (.seq (.seq (.keep [2,4,7,13,14,110] (.region none [
     ⟨none,(some 107),.bD (.t 14)⟩,
     ⟨none,(some 108),.bD (.t 2)⟩,
     ⟨none,(some 109),.ch (.t 108)⟩,
     ⟨none,(some 110),.bin .lss (.t 107) (.t 109)⟩]))
    (.cond (.t 110)
     (.skip)
     (.exit 5)))
    (.seq (.block 6 (.seq (.keep [2,4,7,13,14,132] (.region none [
       ⟨none,(some 113),.bD (.t 2)⟩,
       ⟨none,(some 114),.bD (.t 14)⟩,
       ⟨none,(some 115),.dO 1 (.t 113) (.t 114)⟩,
       ⟨none,(some 116),.load none (.t 115)⟩,
       ⟨none,(some 117),.dO 8 (.t 116) (.c (.v (.int .i64 0)))⟩,
       ⟨none,(some 118),.bX 0 (.t 117)⟩,
       ⟨none,(some 119),.load none (.t 118)⟩,
       ⟨none,(some 120),.bin .eql (.t 119) (.c (.v (.int .i64 3)))⟩,
       ⟨none,(some 121),.bD (.t 120)⟩,
       ⟨(some (121,true)),(some 122),.bD (.t 13)⟩,
       ⟨(some (121,true)),(some 123),.bD (.t 2)⟩,
       ⟨(some (121,true)),(some 124),.bD (.t 14)⟩,
       ⟨(some (121,true)),(some 125),.dO 1 (.t 123) (.t 124)⟩,
       ⟨(some (121,true)),(some 126),.load none (.t 125)⟩,
       ⟨(some (121,true)),(some 127),.dO 8 (.t 126) (.c (.v (.int .i64 0)))⟩,
       ⟨(some (121,true)),(some 128),.bX 1 (.t 127)⟩,
       ⟨(some (121,true)),(some 129),.load none (.t 128)⟩,
       ⟨(some (121,true)),(some 130),.call F.kc [(.t 122),(.t 129)]⟩,
       ⟨(some (121,true)),(some 131),.un .not (.t 130)⟩,
       ⟨none,(some 132),.pick (.t 121) (.t 131) (.c (.v (.bool false)))⟩]))
     (.cond (.t 132)
      (.seq (.keep [2,4,7,13,14,15] (.region none [
        ⟨none,(some 133),.bD (.t 13)⟩,
        ⟨none,(some 134),.ch (.t 133)⟩,
        ⟨none,(some 15),.bD (.t 134)⟩]))
      (.seq (.keep [2,4,7,13,14,15] (.region none [
        ⟨none,(some 135),.bD (.t 13)⟩,
        ⟨none,(some 136),.bD (.t 2)⟩,
        ⟨none,(some 137),.bD (.t 14)⟩,
        ⟨none,(some 138),.dO 1 (.t 136) (.t 137)⟩,
        ⟨none,(some 139),.load none (.t 138)⟩,
        ⟨none,(some 140),.dO 8 (.t 139) (.c (.v (.int .i64 0)))⟩,
        ⟨none,(some 141),.bX 1 (.t 140)⟩,
        ⟨none,(some 142),.load none (.t 141)⟩,
        ⟨none,(some 143),.buildSlice 3 1 1 (.v (.int .i64 0)) [(0,(.t 142))]⟩,
        ⟨none,(some 144),.app 3 1 8 (.t 135) (.t 143)⟩,
        ⟨none,(some 13),.bD (.t 144)⟩]))
      (.seq (.block 7 (.loop (.seq (.seq (.keep [2,4,7,13,14,15,161] (.region (some [[],[0],[1],[2],[2],[4,2],[3,5,2],[6,2],[2],[2],[8,9,2],[10,2],[11,2],[12,2],[13,2],[7,14,2],[2,15]]) [
         ⟨none,(some 145),.bD (.t 15)⟩,
         ⟨none,(some 146),.bin .gtr (.t 145) (.c (.v (.int .i64 0)))⟩,
         ⟨none,(some 147),.bD (.t 146)⟩,
         ⟨(some (147,true)),(some 148),.bD (.t 13)⟩,
         ⟨(some (147,true)),(some 149),.bD (.t 15)⟩,
         ⟨(some (147,true)),(some 150),.bin .sub (.t 149) (.c (.v (.int .i64 1)))⟩,
         ⟨(some (147,true)),(some 151),.dO 1 (.t 148) (.t 150)⟩,
         ⟨(some (147,true)),(some 152),.load none (.t 151)⟩,
         ⟨(some (147,true)),(some 153),.bD (.t 2)⟩,
         ⟨(some (147,true)),(some 154),.bD (.t 14)⟩,
         ⟨(some (147,true)),(some 155),.dO 1 (.t 153) (.t 154)⟩,
         ⟨(some (147,true)),(some 156),.load none (.t 155)⟩,
         ⟨(some (147,true)),(some 157),.dO 8 (.t 156) (.c (.v (.int .i64 0)))⟩,
         ⟨(some (147,true)),(some 158),.bX 1 (.t 157)⟩,
         ⟨(some (147,true)),(some 159),.load none (.t 158)⟩,
         ⟨(some (147,true)),(some 160),.bin .gtr (.t 152) (.t 159)⟩,
         ⟨none,(some 161),.pick (.t 147) (.t 160) (.c (.v (.bool false)))⟩]))
        (.cond (.t 161)
         (.skip)
         (.exit 7)))
        (.block 8 (.seq (.keep [2,4,7,13,14,15] (.region none [
          ⟨none,(some 162),.bD (.t 13)⟩,
          ⟨none,(some 163),.bD (.t 15)⟩,
          ⟨none,(some 164),.bD (.t 13)⟩,
          ⟨none,(some 165),.bD (.t 15)⟩,
          ⟨none,(some 166),.bin .sub (.t 165) (.c (.v (.int .i64 1)))⟩,
          ⟨none,(some 167),.dO 1 (.t 164) (.t 166)⟩,
          ⟨none,(some 168),.load none (.t 167)⟩,
          ⟨none,(some 169),.dO 1 (.t 162) (.t 163)⟩,
          ⟨none,none,.store 1 (.t 169) (.t 168)⟩]))
         (.keep [2,4,7,13,14,15] (.region none [
           ⟨none,(some 170),.bD (.t 15)⟩,
           ⟨none,(some 171),.bin .sub (.t 170) (.c (.v (.int .i64 1)))⟩,
           ⟨none,(some 15),.bD (.t 171)⟩])))))))
      (.keep [2,4,7,13,14] (.region none [
        ⟨none,(some 172),.bD (.t 13)⟩,
        ⟨none,(some 173),.bD (.t 15)⟩,
        ⟨none,(some 174),.bD (.t 2)⟩,
        ⟨none,(some 175),.bD (.t 14)⟩,
        ⟨none,(some 176),.dO 1 (.t 174) (.t 175)⟩,
        ⟨none,(some 177),.load none (.t 176)⟩,
        ⟨none,(some 178),.dO 8 (.t 177) (.c (.v (.int .i64 0)))⟩,
        ⟨none,(some 179),.bX 1 (.t 178)⟩,
        ⟨none,(some 180),.load none (.t 179)⟩,
        ⟨none,(some 181),.dO 1 (.t 172) (.t 173)⟩,
        ⟨none,none,.store 1 (.t 181) (.t 180)⟩])))))
      (.skip))))
    (.keep [2,4,7,13,14] (.region none [
      ⟨none,(some 111),.bD (.t 14)⟩,
      ⟨none,(some 112),.bin .add (.t 111) (.c (.v (.int .i64 1)))⟩,
      ⟨none,(some 14),.bD (.t 112)⟩])))))))
  (.seq (.seq (.keep [4,7,13,16] (.region none [
    ⟨none,(some 16),.bD (.c (.v (.int .i64 0)))⟩]))
  (.block 9 (.loop (.seq (.seq (.keep [4,7,13,16,185] (.region none [
     ⟨none,(some 182),.bD (.t 16)⟩,
     ⟨none,(some 183),.bD (.t 13)⟩,
     ⟨none,(some 184),.ch (.t 183)⟩,
     ⟨none,(some 185),.bin .lss (.t 182) (.t 184)⟩]))
    (.cond (.t 185)
     (.skip)
     (.exit 9)))
    (.seq (.block 10 (.keep [4,7,13,16] (.region none [
     ⟨none,(some 188),.bD (.t 7)⟩,
     ⟨none,(some 189),.bD (.t 13)⟩,
     ⟨none,(some 190),.bD (.t 16)⟩,
     ⟨none,(some 191),.dO 1 (.t 189) (.t 190)⟩,
     ⟨none,(some 192),.load none (.t 191)⟩,
     ⟨none,(some 193),.build [(.v (.int .i64 0)),(.v (.int .i64 0)),(.v (.string ⟨#[]⟩)),(.v (.int .i64 0)),(.v (.int .i64 0)),(.v (.string ⟨#[]⟩)),.an,.an] [(0,1,(.c (.v (.int .i64 3)))),(1,1,(.t 192))]⟩,
     ⟨none,(some 194),.buildSlice 32 8 1 (.agg [(.v (.int .i64 0)),(.v (.int .i64 0)),(.v (.string ⟨#[]⟩)),(.v (.int .i64 0)),(.v (.int .i64 0)),(.v (.string ⟨#[]⟩)),.an,.an]) [(0,(.t 193))]⟩,
     ⟨none,(some 195),.app 32 8 112 (.t 188) (.t 194)⟩,
     ⟨none,(some 7),.bD (.t 195)⟩])))
    (.keep [4,7,13,16] (.region none [
      ⟨none,(some 186),.bD (.t 16)⟩,
      ⟨none,(some 187),.bin .add (.t 186) (.c (.v (.int .i64 1)))⟩,
      ⟨none,(some 16),.bD (.t 187)⟩])))))))
  (.seq (.keep [6] (.region none [
    ⟨none,(some 196),.bD (.t 7)⟩,
    ⟨none,(some 197),.load (some 4) (.t 4)⟩,
    ⟨none,(some 198),.call F.fa [(.t 197)]⟩,
    ⟨none,(some 199),.buildSlice 32 8 1 (.agg [(.v (.int .i64 0)),(.v (.int .i64 0)),(.v (.string ⟨#[]⟩)),(.v (.int .i64 0)),(.v (.int .i64 0)),(.v (.string ⟨#[]⟩)),.an,.an]) [(0,(.t 198))]⟩,
    ⟨none,(some 200),.app 32 8 112 (.t 196) (.t 199)⟩,
    ⟨none,(some 6),.bD (.t 200)⟩]))
  (.ret)))))))
theorem A.ab7:cFn Tryz.prog F.dV A.dV:=
 ⟨_,_,Tryz.func46,rfl,by kernel_rfl,rfl,by decide,by kernel_rfl,by kernel_rfl⟩
def AW.bx:vw where
 iz:=4
 nt:=62
 res:=[.cell 8 (some 8)]
 code:= .seq (.keep [0,1,3,6,8] (.region none [
    ⟨none,(some 6),.box 27 4 (.t 2)⟩,
    ⟨none,(some 8),.alloc 32 8 (.agg [(.v (.int .i64 0)),(.v (.int .i64 0)),(.v (.string ⟨#[]⟩)),(.v (.int .i64 0)),(.v (.int .i64 0)),(.v (.string ⟨#[]⟩)),.an,.an])⟩]))
  (.seq (.seq (.keep [0,1,3,6,8,17] (.region none [
    ⟨none,(some 12),.bD (.t 3)⟩,
    ⟨none,(some 13),.bin .leq (.t 12) (.c (.v (.int .i64 0)))⟩,
    ⟨none,(some 14),.bD (.t 13)⟩,
    ⟨(some (14,false)),(some 15),.bD (.t 0)⟩,
    ⟨(some (14,false)),(some 16),.call F.cY [(.t 15),(.c (.v (.int .i64 3)))]⟩,
    ⟨none,(some 17),.pick (.t 14) (.c (.v (.bool true))) (.t 16)⟩]))
  (.cond (.t 17)
   (.seq (.keep [8] (.region (some [[],[0],[1],[],[3,1],[2,4],[5,4,0,1,2,3,4,5]]) [
     ⟨none,(some 18),.bD (.t 0)⟩,
     ⟨none,(some 19),.fA F.aH [(.t 18),(.c (.v (.int .i64 2)))]⟩,
     ⟨none,(some 20),.bin .add (.c (.v (.int .i64 1))) (.t 19)⟩,
     ⟨none,(some 21),.load (some 4) (.t 6)⟩,
     ⟨none,(some 22),.fA F.eO [(.t 21)]⟩,
     ⟨none,(some 23),.build [(.v (.int .i64 0)),(.v (.int .i64 0)),(.v (.string ⟨#[]⟩)),(.v (.int .i64 0)),(.v (.int .i64 0)),(.v (.string ⟨#[]⟩)),.an,.an] [(0,1,(.t 20)),(3,4,(.t 22))]⟩,
     ⟨none,none,.store 8 (.t 8) (.t 23)⟩]))
   (.ret))
   (.skip)))
  (.seq (.keep [0,1,3,8,9] (.region (some [[],[],[],[2],[3],[4],[5],[0,1,6,3],[7,7,0,1,2,3,4,5,6,7]]) [
    ⟨none,(some 24),.bD (.t 1)⟩,
    ⟨none,(some 25),.load (some 4) (.t 6)⟩,
    ⟨none,(some 26),.bD (.t 0)⟩,
    ⟨none,(some 27),.fA F.aH [(.t 26),(.c (.v (.int .i64 3)))]⟩,
    ⟨none,(some 28),.build [(.v (.int .i64 0)),(.v (.int .i64 0)),(.v (.string ⟨#[]⟩)),(.v (.int .i64 0)),(.v (.int .i64 0)),(.v (.string ⟨#[]⟩)),.an,.an] [(0,1,(.c (.v (.int .i64 3)))),(1,1,(.t 27))]⟩,
    ⟨none,(some 29),.buildSlice 32 8 1 (.agg [(.v (.int .i64 0)),(.v (.int .i64 0)),(.v (.string ⟨#[]⟩)),(.v (.int .i64 0)),(.v (.int .i64 0)),(.v (.string ⟨#[]⟩)),.an,.an]) [(0,(.t 28))]⟩,
    ⟨none,(some 30),.buildSlice 28 1 1 .an [(0,(.t 29))]⟩,
    ⟨none,(some 31),.fA F.dV [(.t 24),(.t 25),(.t 30)]⟩,
    ⟨none,(some 9),.bD (.t 31)⟩]))
  (.seq (.keep [0,1,3,8,10] (.region none [
    ⟨none,(some 32),.bD (.t 9)⟩,
    ⟨none,(some 33),.bD (.t 0)⟩,
    ⟨none,(some 34),.bD (.t 9)⟩,
    ⟨none,(some 35),.ch (.t 34)⟩,
    ⟨none,(some 36),.call F.aH [(.t 33),(.t 35)]⟩,
    ⟨none,(some 37),.dO 8 (.t 32) (.t 36)⟩,
    ⟨none,(some 38),.load (some 8) (.t 37)⟩,
    ⟨none,(some 10),.alloc 32 8 (.agg [(.v (.int .i64 0)),(.v (.int .i64 0)),(.v (.string ⟨#[]⟩)),(.v (.int .i64 0)),(.v (.int .i64 0)),(.v (.string ⟨#[]⟩)),.an,.an])⟩,
    ⟨none,none,.store 8 (.t 10) (.t 38)⟩]))
  (.mu (.seq (.seq (.keep [0,1,3,8,10,11] (.region none [
    ⟨none,(some 11),.bD (.c (.v (.int .i64 0)))⟩]))
  (.block 0 (.loop (.seq (.seq (.keep [0,1,3,8,10,11,43] (.region none [
     ⟨none,(some 39),.bD (.t 11)⟩,
     ⟨none,(some 40),.bX 7 (.t 10)⟩,
     ⟨none,(some 41),.load none (.t 40)⟩,
     ⟨none,(some 42),.ch (.t 41)⟩,
     ⟨none,(some 43),.bin .lss (.t 39) (.t 42)⟩]))
    (.cond (.t 43)
     (.skip)
     (.exit 0)))
    (.seq (.block 1 (.keep [0,1,3,8,10,11] (.region (some [[],[0],[],[],[],[],[5],[],[6,7],[8],[9],[],[11],[3,4,10,12],[1,2,0,1,2,3,4,5,6,7,8,9,10,11,12,13],[14,13,13,0,1,2,3,4,5,6,7,8,9,10,11,12,13]]) [
     ⟨none,(some 46),.bX 7 (.t 10)⟩,
     ⟨none,(some 47),.load none (.t 46)⟩,
     ⟨none,(some 48),.bD (.t 11)⟩,
     ⟨none,(some 49),.bD (.t 0)⟩,
     ⟨none,(some 50),.bD (.t 1)⟩,
     ⟨none,(some 51),.bX 7 (.t 10)⟩,
     ⟨none,(some 52),.load none (.t 51)⟩,
     ⟨none,(some 53),.bD (.t 11)⟩,
     ⟨none,(some 54),.dO 8 (.t 52) (.t 53)⟩,
     ⟨none,(some 55),.bX 3 (.t 54)⟩,
     ⟨none,(some 56),.load (some 4) (.t 55)⟩,
     ⟨none,(some 57),.bD (.t 3)⟩,
     ⟨none,(some 58),.bin .sub (.t 57) (.c (.v (.int .i64 1)))⟩,
     ⟨none,(some 59),.call F.bx [(.t 49),(.t 50),(.t 56),(.t 58)]⟩,
     ⟨none,(some 60),.dO 8 (.t 47) (.t 48)⟩,
     ⟨none,none,.store 8 (.t 60) (.t 59)⟩])))
    (.keep [0,1,3,8,10,11] (.region none [
      ⟨none,(some 44),.bD (.t 11)⟩,
      ⟨none,(some 45),.bin .add (.t 44) (.c (.v (.int .i64 1)))⟩,
      ⟨none,(some 11),.bD (.t 45)⟩])))))))
  (.seq (.keep [8] (.region none [
    ⟨none,(some 61),.load (some 8) (.t 10)⟩,
    ⟨none,none,.store 8 (.t 8) (.t 61)⟩]))
  (.ret)))))))
theorem AW.yt:cFn Tryz.prog F.bx AW.bx:=
 ⟨_,_,Tryz.func25,rfl,by kernel_rfl,rfl,by decide,by kernel_rfl,by kernel_rfl⟩
end Go.Proofs.Ab
