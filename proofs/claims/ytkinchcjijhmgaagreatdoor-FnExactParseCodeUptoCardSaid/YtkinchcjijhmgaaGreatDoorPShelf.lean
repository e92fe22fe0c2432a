/-
  THE LIBRARY FUNCTIONS THAT ARE CALLED, by the contracts of the shelf, laid for this program by its tools.
-/
import Derived.Test.YtkinchcjijhmgaaGreatDoorPShelfC
import Derived.Shelf.Strconv.Atoi
import Derived.Shelf.Strconv.Itoa0
import Derived.Shelf.Strconv.Itoa1
import Derived.Shelf.Strconv.Itoa2
import Derived.Shelf.Strconv.Itoa3
import Derived.Shelf.Strconv.AtoiErrFast
import Derived.Shelf.Strconv.ParseIntEmpty
import Derived.Shelf.Strconv.AtoiFail
import Derived.Shelf.Strconv.Clone
import Derived.Shelf.Strconv.SyntaxError
import Derived.Shelf.LaysC
import Derived.Shelf.Strconv.ToError
import Derived.Shelf.Strconv.Lower
import Derived.Shelf.Strconv.ParseUint10
import Derived.Shelf.Strconv.ParseUint10Empty
import Derived.Shelf.Strconv.ParseUint10Any
import Derived.Shelf.Strconv.ParseInt10
import Derived.Shelf.Strconv.AtoiLong
import Derived.Shelf.Strconv.AtoiInnerAll
import Derived.Shelf.Strconv.RangeError
import Derived.Shelf.Strconv.ToErrorRange
import Derived.Shelf.Strconv.AtoiAll
import Derived.Shelf.Strconv.ErrVarAll
import Derived.Shelf.Strings.Cut
import Derived.Shelf.Strings.Count
import Derived.Shelf.Strings.Split
import Derived.Shelf.Unicode.DecodeSlow
import Derived.Test.YtkinchcjijhmgaaGreatDoorProg
import Derived.Shelf.LaysM
set_option linter.unusedVariables false
set_option linter.unusedSimpArgs false
namespace Go.Proofs
open Go.Shelf
def Tryz.ac4:Go.Shelf.Ren:=⟨λ|172=>55|244=>74|245=>75|247=>84|279=>85|280=>86|281=>87|282=>88|287=>93|316=>94|171=>56|205=>95|321=>100|322=>101|243=>76|246=>89|283=>96|284=>97|285=>98|286=>99|129=>103|317=>102|318=>104|319=>105|320=>106|337=>107|338=>108|n=>n,λ|9=>9|3=>3|75=>79|76=>80|4=>4|5=>5|167=>103|37=>74|0=>0|85=>104|2=>2|168=>106|53=>93|175=>117|46=>102|210=>120|127=>128|145=>131|143=>129|21=>21|171=>122|173=>125|212=>133|51=>114|20=>20|213=>134|232=>137|233=>138|80=>139|n=>n,λ|15=>3|16=>4|17=>5|18=>6|19=>7|n=>n⟩
theorem Tryz.abf:Go.Proofs.LaysC.n172 Tryz.prog Tryz.ac4:={
 mixed:=by kernel_rfl
 f129:=Tryz.func103.trans (congrArg some (by kernel_rfl))
 f171:=Tryz.func56.trans (congrArg some (by kernel_rfl))
 f172:=Tryz.func55.trans (congrArg some (by kernel_rfl))
 f205:=Tryz.func95.trans (congrArg some (by kernel_rfl))
 f243:=Tryz.func76.trans (congrArg some (by kernel_rfl))
 f244:=Tryz.func74.trans (congrArg some (by kernel_rfl))
 f245:=Tryz.func75.trans (congrArg some (by kernel_rfl))
 f246:=Tryz.func89.trans (congrArg some (by kernel_rfl))
 f247:=Tryz.func84.trans (congrArg some (by kernel_rfl))
 f279:=Tryz.func85.trans (congrArg some (by kernel_rfl))
 f280:=Tryz.func86.trans (congrArg some (by kernel_rfl))
 f281:=Tryz.func87.trans (congrArg some (by kernel_rfl))
 f282:=Tryz.func88.trans (congrArg some (by kernel_rfl))
 f283:=Tryz.func96.trans (congrArg some (by kernel_rfl))
 f284:=Tryz.func97.trans (congrArg some (by kernel_rfl))
 f285:=Tryz.func98.trans (congrArg some (by kernel_rfl))
 f286:=Tryz.func99.trans (congrArg some (by kernel_rfl))
 f287:=Tryz.func93.trans (congrArg some (by kernel_rfl))
 f316:=Tryz.func94.trans (congrArg some (by kernel_rfl))
 f317:=Tryz.func102.trans (congrArg some (by kernel_rfl))
 f318:=Tryz.func104.trans (congrArg some (by kernel_rfl))
 f319:=Tryz.func105.trans (congrArg some (by kernel_rfl))
 f320:=Tryz.func106.trans (congrArg some (by kernel_rfl))
 f321:=Tryz.func100.trans (congrArg some (by kernel_rfl))
 f322:=Tryz.func101.trans (congrArg some (by kernel_rfl))
 f337:=Tryz.func107.trans (congrArg some (by kernel_rfl))
 f338:=Tryz.func108.trans (congrArg some (by kernel_rfl))
 t0:=Tryz.underlying0
 a0:=Tryz.isAgg0
 z0:=Tryz.sizeOf0
 v0:=Tryz.zeroValue0
 t2:=Tryz.underlying2
 a2:=Tryz.isAgg2
 z2:=Tryz.sizeOf2
 v2:=Tryz.zeroValue2
 t3:=Tryz.underlying3
 a3:=Tryz.isAgg3
 z3:=Tryz.sizeOf3
 v3:=Tryz.zeroValue3
 t4:=Tryz.underlying4
 a4:=Tryz.isAgg4
 z4:=Tryz.sizeOf4
 v4:=Tryz.zeroValue4
 t5:=Tryz.underlying5
 a5:=Tryz.isAgg5
 z5:=Tryz.sizeOf5
 v5:=Tryz.zeroValue5
 t9:=Tryz.underlying9
 a9:=Tryz.isAgg9
 z9:=Tryz.sizeOf9
 v9:=Tryz.zeroValue9
 t20:=Tryz.underlying20
 a20:=Tryz.isAgg20
 z20:=Tryz.sizeOf20
 v20:=Tryz.zeroValue20
 t21:=Tryz.underlying21
 a21:=Tryz.isAgg21
 z21:=Tryz.sizeOf21
 v21:=Tryz.zeroValue21
 t37:=Tryz.underlying74
 a37:=Tryz.isAgg74
 z37:=Tryz.sizeOf74
 v37:=Tryz.zeroValue74
 t46:=Tryz.underlying102
 a46:=Tryz.isAgg102
 z46:=Tryz.sizeOf102
 v46:=Tryz.zeroValue102
 t51:=Tryz.underlying114
 a51:=Tryz.isAgg114
 z51:=Tryz.sizeOf114
 v51:=Tryz.zeroValue114
 t53:=Tryz.underlying93
 a53:=Tryz.isAgg93
 z53:=Tryz.sizeOf93
 v53:=Tryz.zeroValue93
 t75:=Tryz.underlying79
 a75:=Tryz.isAgg79
 z75:=Tryz.sizeOf79
 v75:=Tryz.zeroValue79
 t76:=Tryz.underlying80
 a76:=Tryz.isAgg80
 z76:=Tryz.sizeOf80
 v76:=Tryz.zeroValue80
 t85:=Tryz.underlying104
 a85:=Tryz.isAgg104
 z85:=Tryz.sizeOf104
 v85:=Tryz.zeroValue104
 t127:=Tryz.underlying128
 a127:=Tryz.isAgg128
 z127:=Tryz.sizeOf128
 v127:=Tryz.zeroValue128
 t143:=Tryz.underlying129
 a143:=Tryz.isAgg129
 z143:=Tryz.sizeOf129
 v143:=Tryz.zeroValue129
 t145:=Tryz.underlying131
 a145:=Tryz.isAgg131
 z145:=Tryz.sizeOf131
 v145:=Tryz.zeroValue131
 t167:=Tryz.underlying103
 a167:=Tryz.isAgg103
 z167:=Tryz.sizeOf103
 v167:=Tryz.zeroValue103
 t168:=Tryz.underlying106
 a168:=Tryz.isAgg106
 z168:=Tryz.sizeOf106
 v168:=Tryz.zeroValue106
 t171:=Tryz.underlying122
 a171:=Tryz.isAgg122
 z171:=Tryz.sizeOf122
 v171:=Tryz.zeroValue122
 t173:=Tryz.underlying125
 a173:=Tryz.isAgg125
 z173:=Tryz.sizeOf125
 v173:=Tryz.zeroValue125
 t175:=Tryz.underlying117
 a175:=Tryz.isAgg117
 z175:=Tryz.sizeOf117
 v175:=Tryz.zeroValue117
 t210:=Tryz.underlying120
 a210:=Tryz.isAgg120
 z210:=Tryz.sizeOf120
 v210:=Tryz.zeroValue120
 t212:=Tryz.underlying133
 a212:=Tryz.isAgg133
 z212:=Tryz.sizeOf133
 v212:=Tryz.zeroValue133
 t213:=Tryz.underlying134
 a213:=Tryz.isAgg134
 z213:=Tryz.sizeOf134
 t232:=Tryz.underlying137
 a232:=Tryz.isAgg137
 z232:=Tryz.sizeOf137
 v232:=Tryz.zeroValue137
 t233:=Tryz.underlying138
 a233:=Tryz.isAgg138
 z233:=Tryz.sizeOf138
 v233:=Tryz.zeroValue138
 g15:=by kernel_rfl
 g16:=by kernel_rfl
 g17:=by kernel_rfl
 g18:=by kernel_rfl
 g19:=by kernel_rfl
 t80:=Tryz.underlying139
 a80:=Tryz.isAgg139
 z80:=Tryz.sizeOf139
 v80:=Tryz.zeroValue139
 i0:=by kernel_rfl
 i2:=by kernel_rfl
 i3:=by kernel_rfl
 i4:=by kernel_rfl
 i5:=by kernel_rfl
 i9:=by kernel_rfl
 i20:=by kernel_rfl
 i21:=by kernel_rfl
 i37:=by kernel_rfl
 i46:=by kernel_rfl
 i51:=by kernel_rfl
 i53:=by kernel_rfl
 i75:=by kernel_rfl
 i76:=by kernel_rfl
 i80:=by kernel_rfl
 i85:=by kernel_rfl
 i127:=by kernel_rfl
 i143:=by kernel_rfl
 i145:=by kernel_rfl
 i167:=by kernel_rfl
 i168:=by kernel_rfl
 i171:=by kernel_rfl
 i173:=by kernel_rfl
 i175:=by kernel_rfl
 i210:=by kernel_rfl
 i212:=by kernel_rfl
 i232:=by kernel_rfl
 i233:=by kernel_rfl
 m15:=by kernel_rfl
 m16:=by kernel_rfl
 m17:=by kernel_rfl
 m18:=by kernel_rfl
 m19:=by kernel_rfl
 c0:=by kernel_rfl
 c2:=by kernel_rfl
 c3:=by kernel_rfl
 c4:=by kernel_rfl
 c5:=by kernel_rfl
 c9:=by kernel_rfl
 c20:=by kernel_rfl
 c21:=by kernel_rfl
 c37:=by kernel_rfl
 c46:=by kernel_rfl
 c51:=by kernel_rfl
 c53:=by kernel_rfl
 c75:=by kernel_rfl
 c76:=by kernel_rfl
 c80:=by kernel_rfl
 c85:=by kernel_rfl
 c127:=by kernel_rfl
 c143:=by kernel_rfl
 c145:=by kernel_rfl
 c167:=by kernel_rfl
 c168:=by kernel_rfl
 c171:=by kernel_rfl
 c173:=by kernel_rfl
 c175:=by kernel_rfl
 c210:=by kernel_rfl
 c212:=by kernel_rfl
 c213:=by kernel_rfl
 c232:=by kernel_rfl
 c233:=by kernel_rfl}
def Tryz.abe:Go.Shelf.Ren:=⟨λ|171=>56|243=>76|246=>89|283=>96|284=>97|285=>98|286=>99|129=>103|317=>102|318=>104|319=>105|320=>106|337=>107|338=>108|n=>n,λ|3=>3|9=>9|2=>2|4=>4|171=>122|0=>0|53=>93|37=>74|5=>5|173=>125|212=>133|51=>114|20=>20|213=>134|46=>102|232=>137|233=>138|n=>n,λ|17=>5|18=>6|19=>7|n=>n⟩
theorem Tryz.akW:Go.Proofs.LaysM.n171 Tryz.prog Tryz.abe:={
 mixed:=by kernel_rfl
 f129:=Tryz.func103.trans (congrArg some (by kernel_rfl))
 f171:=Tryz.func56.trans (congrArg some (by kernel_rfl))
 f243:=Tryz.func76.trans (congrArg some (by kernel_rfl))
 f246:=Tryz.func89.trans (congrArg some (by kernel_rfl))
 f283:=Tryz.func96.trans (congrArg some (by kernel_rfl))
 f284:=Tryz.func97.trans (congrArg some (by kernel_rfl))
 f285:=Tryz.func98.trans (congrArg some (by kernel_rfl))
 f286:=Tryz.func99.trans (congrArg some (by kernel_rfl))
 f317:=Tryz.func102.trans (congrArg some (by kernel_rfl))
 f318:=Tryz.func104.trans (congrArg some (by kernel_rfl))
 f319:=Tryz.func105.trans (congrArg some (by kernel_rfl))
 f320:=Tryz.func106.trans (congrArg some (by kernel_rfl))
 f337:=Tryz.func107.trans (congrArg some (by kernel_rfl))
 f338:=Tryz.func108.trans (congrArg some (by kernel_rfl))
 t0:=Tryz.underlying0
 a0:=Tryz.isAgg0
 z0:=Tryz.sizeOf0
 v0:=Tryz.zeroValue0
 t2:=Tryz.underlying2
 a2:=Tryz.isAgg2
 z2:=Tryz.sizeOf2
 v2:=Tryz.zeroValue2
 t3:=Tryz.underlying3
 a3:=Tryz.isAgg3
 z3:=Tryz.sizeOf3
 v3:=Tryz.zeroValue3
 t4:=Tryz.underlying4
 a4:=Tryz.isAgg4
 z4:=Tryz.sizeOf4
 v4:=Tryz.zeroValue4
 t5:=Tryz.underlying5
 a5:=Tryz.isAgg5
 z5:=Tryz.sizeOf5
 v5:=Tryz.zeroValue5
 t9:=Tryz.underlying9
 a9:=Tryz.isAgg9
 z9:=Tryz.sizeOf9
 v9:=Tryz.zeroValue9
 t20:=Tryz.underlying20
 a20:=Tryz.isAgg20
 z20:=Tryz.sizeOf20
 v20:=Tryz.zeroValue20
 t37:=Tryz.underlying74
 a37:=Tryz.isAgg74
 z37:=Tryz.sizeOf74
 v37:=Tryz.zeroValue74
 t46:=Tryz.underlying102
 a46:=Tryz.isAgg102
 z46:=Tryz.sizeOf102
 v46:=Tryz.zeroValue102
 t51:=Tryz.underlying114
 a51:=Tryz.isAgg114
 z51:=Tryz.sizeOf114
 v51:=Tryz.zeroValue114
 t53:=Tryz.underlying93
 a53:=Tryz.isAgg93
 z53:=Tryz.sizeOf93
 v53:=Tryz.zeroValue93
 t171:=Tryz.underlying122
 a171:=Tryz.isAgg122
 z171:=Tryz.sizeOf122
 v171:=Tryz.zeroValue122
 t173:=Tryz.underlying125
 a173:=Tryz.isAgg125
 z173:=Tryz.sizeOf125
 v173:=Tryz.zeroValue125
 t212:=Tryz.underlying133
 a212:=Tryz.isAgg133
 z212:=Tryz.sizeOf133
 v212:=Tryz.zeroValue133
 t213:=Tryz.underlying134
 a213:=Tryz.isAgg134
 z213:=Tryz.sizeOf134
 t232:=Tryz.underlying137
 a232:=Tryz.isAgg137
 z232:=Tryz.sizeOf137
 v232:=Tryz.zeroValue137
 t233:=Tryz.underlying138
 a233:=Tryz.isAgg138
 z233:=Tryz.sizeOf138
 v233:=Tryz.zeroValue138
 g17:=by kernel_rfl
 g18:=by kernel_rfl
 g19:=by kernel_rfl
 i0:=by kernel_rfl
 i2:=by kernel_rfl
 i3:=by kernel_rfl
 i4:=by kernel_rfl
 i5:=by kernel_rfl
 i9:=by kernel_rfl
 i20:=by kernel_rfl
 i37:=by kernel_rfl
 i46:=by kernel_rfl
 i51:=by kernel_rfl
 i53:=by kernel_rfl
 i171:=by kernel_rfl
 i173:=by kernel_rfl
 i212:=by kernel_rfl
 i232:=by kernel_rfl
 i233:=by kernel_rfl
 m17:=by kernel_rfl
 m18:=by kernel_rfl
 m19:=by kernel_rfl}
open Go.RowKit Go.Sort Go.Lib in
theorem Tryz.strconv_Itoa(n:Int)(h0: -9223372036854775808<=n)(h1:n<=9223372036854775807)(w:World)(axw:Lib.TabIs Tryz.prog w "internal/strconv.uint64pow10" .u64 Lib.pow10Tab):
 Calls Tryz.prog 56 #[.int .i64 n] w λ e w'=>e= .returned (.string ⟨(Lib.itoa n).toArray⟩)/\∃k os,w'=grow (w.drewN k) os:=Any.strconv_Itoa Tryz.akW n h0 h1 w axw
end Go.Proofs
