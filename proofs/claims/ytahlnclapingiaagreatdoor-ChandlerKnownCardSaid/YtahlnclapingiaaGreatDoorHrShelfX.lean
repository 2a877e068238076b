/-
  THE LIBRARY'S CONTRACTS AT THIS PROGRAM: what they ask of its bodies and types, written by
  CONTRACTS: numbers as texts and back, a byte sought in a text, counted: by the library's o
  CONTRACTS: texts as lists of bytes; strings.Cut, TrimSuffix at one byte. No conditions but
  CONTRACTS: strings.Split at one byte; the reference's Split and Digits. No conditions but 
-/
import Derived.Shelf.LaysM
import Derived.Shelf.LaysC
import Derived.Shelf.Strconv.Itoa3
import Derived.Shelf.Strconv.AtoiAll
import Derived.Shelf.Strconv.ErrVarAll
import Derived.Shelf.Strings.Search3
import Derived.Shelf.Strings.Count
import Derived.Test.YtahlnclapingiaaGreatDoorProg
import Derived.Test.YtahlnclapingiaaGreatDoorSeatTy
import Derived.Test.YtahlnclapingiaaGreatDoorAbsKill
import Derived.Lib.AppendIntMem
import Derived.Lib.AtoiErrMem
import Derived.Test.YtahlnclapingiaaGreatDoorChEnd0X
import Derived.Test.YtahlnclapingiaaGreatDoorLibNameX
set_option linter.unusedSimpArgs false
set_option linter.unusedVariables false
namespace Go.Proofs.YtahlnclapingiaaGreatDoor
open Go.Shelf
def Tryz.laysM171_ren:Go.Shelf.Ren:=⟨fun | 171=>25 | 243=>50 | 246=>82 | 283=>157 | 284=>158 | 285=>159 | 286=>160 | 129=>246 | 317=>245 | 318=>247 | 319=>248 | 320=>249 | 337=>330 | 338=>331 | n=>n,fun | 3=>3 | 9=>9 | 2=>2 | 4=>4 | 171=>227 | 0=>0 | 53=>228 | 37=>67 | 5=>5 | 173=>231 | 212=>300 | 51=>296 | 20=>20 | 213=>301 | 46=>226 | 232=>443 | 233=>444 | n=>n,fun | 17=>1 | 18=>6 | 19=>7 | n=>n⟩
theorem Tryz.laysM171:Go.Proofs.LaysM.n171 Tryz.prog Tryz.laysM171_ren:={
 mixed:=by kernel_rfl
 f129:=Tryz.func246.trans (congrArg some (by kernel_rfl))
 f171:=Tryz.func25.trans (congrArg some (by kernel_rfl))
 f243:=Tryz.func50.trans (congrArg some (by kernel_rfl))
 f246:=Tryz.func82.trans (congrArg some (by kernel_rfl))
 f283:=Tryz.func157.trans (congrArg some (by kernel_rfl))
 f284:=Tryz.func158.trans (congrArg some (by kernel_rfl))
 f285:=Tryz.func159.trans (congrArg some (by kernel_rfl))
 f286:=Tryz.func160.trans (congrArg some (by kernel_rfl))
 f317:=Tryz.func245.trans (congrArg some (by kernel_rfl))
 f318:=Tryz.func247.trans (congrArg some (by kernel_rfl))
 f319:=Tryz.func248.trans (congrArg some (by kernel_rfl))
 f320:=Tryz.func249.trans (congrArg some (by kernel_rfl))
 f337:=Tryz.func330.trans (congrArg some (by kernel_rfl))
 f338:=Tryz.func331.trans (congrArg some (by kernel_rfl))
 t0:=Tryz.underlying0
 a0:=Tryz.isAgg0
 z0:=Tryz.sizeOf0
 v0:=Tryz.zeroValue0
 t2:=Tryz.underlying2
 a2:=Tryz.isAgg2
 z2:=Tryz.sizeOf2
 v2:=Tryz.zeroValue2
 t3:=Tryz.underlying3
 a3:=Tryz.isAgg3
 z3:=Tryz.sizeOf3
 v3:=Tryz.zeroValue3
 t4:=Tryz.underlying4
 a4:=Tryz.isAgg4
 z4:=Tryz.sizeOf4
 v4:=Tryz.zeroValue4
 t5:=Tryz.underlying5
 a5:=Tryz.isAgg5
 z5:=Tryz.sizeOf5
 v5:=Tryz.zeroValue5
 t9:=Tryz.underlying9
 a9:=Tryz.isAgg9
 z9:=Tryz.sizeOf9
 v9:=Tryz.zeroValue9
 t20:=Tryz.underlying20
 a20:=Tryz.isAgg20
 z20:=Tryz.sizeOf20
 v20:=Tryz.zeroValue20
 t37:=Tryz.underlying67
 a37:=Tryz.isAgg67
 z37:=Tryz.sizeOf67
 v37:=Tryz.zeroValue67
 t46:=Tryz.underlying226
 a46:=Tryz.isAgg226
 z46:=Tryz.sizeOf226
 v46:=Tryz.zeroValue226
 t51:=Tryz.underlying296
 a51:=Tryz.isAgg296
 z51:=Tryz.sizeOf296
 v51:=Tryz.zeroValue296
 t53:=Tryz.underlying228
 a53:=Tryz.isAgg228
 z53:=Tryz.sizeOf228
 v53:=Tryz.zeroValue228
 t171:=Tryz.underlying227
 a171:=Tryz.isAgg227
 z171:=Tryz.sizeOf227
 v171:=Tryz.zeroValue227
 t173:=Tryz.underlying231
 a173:=Tryz.isAgg231
 z173:=Tryz.sizeOf231
 v173:=Tryz.zeroValue231
 t212:=Tryz.underlying300
 a212:=Tryz.isAgg300
 z212:=Tryz.sizeOf300
 v212:=Tryz.zeroValue300
 t213:=Tryz.underlying301
 a213:=Tryz.isAgg301
 z213:=Tryz.sizeOf301
 t232:=Tryz.underlying443
 a232:=Tryz.isAgg443
 z232:=Tryz.sizeOf443
 v232:=Tryz.zeroValue443
 t233:=Tryz.underlying444
 a233:=Tryz.isAgg444
 z233:=Tryz.sizeOf444
 v233:=Tryz.zeroValue444
 g17:=by kernel_rfl
 g18:=by kernel_rfl
 g19:=by kernel_rfl
 i0:=by kernel_rfl
 i2:=by kernel_rfl
 i3:=by kernel_rfl
 i4:=by kernel_rfl
 i5:=by kernel_rfl
 i9:=by kernel_rfl
 i20:=by kernel_rfl
 i37:=by kernel_rfl
 i46:=by kernel_rfl
 i51:=by kernel_rfl
 i53:=by kernel_rfl
 i171:=by kernel_rfl
 i173:=by kernel_rfl
 i212:=by kernel_rfl
 i232:=by kernel_rfl
 i233:=by kernel_rfl
 m17:=by kernel_rfl
 m18:=by kernel_rfl
 m19:=by kernel_rfl }
def Tryz.laysC172_ren:Go.Shelf.Ren:=⟨fun | 172=>101 | 244=>198 | 245=>199 | 247=>288 | 279=>289 | 280=>290 | 281=>291 | 282=>292 | 287=>343 | 316=>344 | 171=>25 | 205=>345 | 321=>372 | 322=>373 | 243=>50 | 246=>82 | 283=>157 | 284=>158 | 285=>159 | 286=>160 | 129=>246 | 317=>245 | 318=>247 | 319=>248 | 320=>249 | 337=>330 | 338=>331 | n=>n,fun | 9=>9 | 3=>3 | 75=>74 | 76=>75 | 4=>4 | 5=>5 | 167=>335 | 37=>67 | 0=>0 | 85=>336 | 2=>2 | 168=>338 | 53=>228 | 175=>403 | 46=>226 | 210=>406 | 127=>122 | 145=>449 | 143=>447 | 21=>21 | 171=>227 | 173=>231 | 212=>300 | 51=>296 | 20=>20 | 213=>301 | 232=>443 | 233=>444 | 80=>77 | n=>n,fun | 15=>4 | 16=>5 | 17=>1 | 18=>6 | 19=>7 | n=>n⟩
theorem Tryz.laysC172:Go.Proofs.LaysC.n172 Tryz.prog Tryz.laysC172_ren:={
 mixed:=by kernel_rfl
 f129:=Tryz.func246.trans (congrArg some (by kernel_rfl))
 f171:=Tryz.func25.trans (congrArg some (by kernel_rfl))
 f172:=Tryz.func101.trans (congrArg some (by kernel_rfl))
 f205:=Tryz.func345.trans (congrArg some (by kernel_rfl))
 f243:=Tryz.func50.trans (congrArg some (by kernel_rfl))
 f244:=Tryz.func198.trans (congrArg some (by kernel_rfl))
 f245:=Tryz.func199.trans (congrArg some (by kernel_rfl))
 f246:=Tryz.func82.trans (congrArg some (by kernel_rfl))
 f247:=Tryz.func288.trans (congrArg some (by kernel_rfl))
 f279:=Tryz.func289.trans (congrArg some (by kernel_rfl))
 f280:=Tryz.func290.trans (congrArg some (by kernel_rfl))
 f281:=Tryz.func291.trans (congrArg some (by kernel_rfl))
 f282:=Tryz.func292.trans (congrArg some (by kernel_rfl))
 f283:=Tryz.func157.trans (congrArg some (by kernel_rfl))
 f284:=Tryz.func158.trans (congrArg some (by kernel_rfl))
 f285:=Tryz.func159.trans (congrArg some (by kernel_rfl))
 f286:=Tryz.func160.trans (congrArg some (by kernel_rfl))
 f287:=Tryz.func343.trans (congrArg some (by kernel_rfl))
 f316:=Tryz.func344.trans (congrArg some (by kernel_rfl))
 f317:=Tryz.func245.trans (congrArg some (by kernel_rfl))
 f318:=Tryz.func247.trans (congrArg some (by kernel_rfl))
 f319:=Tryz.func248.trans (congrArg some (by kernel_rfl))
 f320:=Tryz.func249.trans (congrArg some (by kernel_rfl))
 f321:=Tryz.func372.trans (congrArg some (by kernel_rfl))
 f322:=Tryz.func373.trans (congrArg some (by kernel_rfl))
 f337:=Tryz.func330.trans (congrArg some (by kernel_rfl))
 f338:=Tryz.func331.trans (congrArg some (by kernel_rfl))
 t0:=Tryz.underlying0
 a0:=Tryz.isAgg0
 z0:=Tryz.sizeOf0
 v0:=Tryz.zeroValue0
 t2:=Tryz.underlying2
 a2:=Tryz.isAgg2
 z2:=Tryz.sizeOf2
 v2:=Tryz.zeroValue2
 t3:=Tryz.underlying3
 a3:=Tryz.isAgg3
 z3:=Tryz.sizeOf3
 v3:=Tryz.zeroValue3
 t4:=Tryz.underlying4
 a4:=Tryz.isAgg4
 z4:=Tryz.sizeOf4
 v4:=Tryz.zeroValue4
 t5:=Tryz.underlying5
 a5:=Tryz.isAgg5
 z5:=Tryz.sizeOf5
 v5:=Tryz.zeroValue5
 t9:=Tryz.underlying9
 a9:=Tryz.isAgg9
 z9:=Tryz.sizeOf9
 v9:=Tryz.zeroValue9
 t20:=Tryz.underlying20
 a20:=Tryz.isAgg20
 z20:=Tryz.sizeOf20
 v20:=Tryz.zeroValue20
 t21:=Tryz.underlying21
 a21:=Tryz.isAgg21
 z21:=Tryz.sizeOf21
 v21:=Tryz.zeroValue21
 t37:=Tryz.underlying67
 a37:=Tryz.isAgg67
 z37:=Tryz.sizeOf67
 v37:=Tryz.zeroValue67
 t46:=Tryz.underlying226
 a46:=Tryz.isAgg226
 z46:=Tryz.sizeOf226
 v46:=Tryz.zeroValue226
 t51:=Tryz.underlying296
 a51:=Tryz.isAgg296
 z51:=Tryz.sizeOf296
 v51:=Tryz.zeroValue296
 t53:=Tryz.underlying228
 a53:=Tryz.isAgg228
 z53:=Tryz.sizeOf228
 v53:=Tryz.zeroValue228
 t75:=Tryz.underlying74
 a75:=Tryz.isAgg74
 z75:=Tryz.sizeOf74
 v75:=Tryz.zeroValue74
 t76:=Tryz.underlying75
 a76:=Tryz.isAgg75
 z76:=Tryz.sizeOf75
 v76:=Tryz.zeroValue75
 t85:=Tryz.underlying336
 a85:=Tryz.isAgg336
 z85:=Tryz.sizeOf336
 v85:=Tryz.zeroValue336
 t127:=Tryz.underlying122
 a127:=Tryz.isAgg122
 z127:=Tryz.sizeOf122
 v127:=Tryz.zeroValue122
 t143:=Tryz.underlying447
 a143:=Tryz.isAgg447
 z143:=Tryz.sizeOf447
 v143:=Tryz.zeroValue447
 t145:=Tryz.underlying449
 a145:=Tryz.isAgg449
 z145:=Tryz.sizeOf449
 v145:=Tryz.zeroValue449
 t167:=Tryz.underlying335
 a167:=Tryz.isAgg335
 z167:=Tryz.sizeOf335
 v167:=Tryz.zeroValue335
 t168:=Tryz.underlying338
 a168:=Tryz.isAgg338
 z168:=Tryz.sizeOf338
 v168:=Tryz.zeroValue338
 t171:=Tryz.underlying227
 a171:=Tryz.isAgg227
 z171:=Tryz.sizeOf227
 v171:=Tryz.zeroValue227
 t173:=Tryz.underlying231
 a173:=Tryz.isAgg231
 z173:=Tryz.sizeOf231
 v173:=Tryz.zeroValue231
 t175:=Tryz.underlying403
 a175:=Tryz.isAgg403
 z175:=Tryz.sizeOf403
 v175:=Tryz.zeroValue403
 t210:=Tryz.underlying406
 a210:=Tryz.isAgg406
 z210:=Tryz.sizeOf406
 v210:=Tryz.zeroValue406
 t212:=Tryz.underlying300
 a212:=Tryz.isAgg300
 z212:=Tryz.sizeOf300
 v212:=Tryz.zeroValue300
 t213:=Tryz.underlying301
 a213:=Tryz.isAgg301
 z213:=Tryz.sizeOf301
 t232:=Tryz.underlying443
 a232:=Tryz.isAgg443
 z232:=Tryz.sizeOf443
 v232:=Tryz.zeroValue443
 t233:=Tryz.underlying444
 a233:=Tryz.isAgg444
 z233:=Tryz.sizeOf444
 v233:=Tryz.zeroValue444
 g15:=by kernel_rfl
 g16:=by kernel_rfl
 g17:=by kernel_rfl
 g18:=by kernel_rfl
 g19:=by kernel_rfl
 t80:=Tryz.underlying77
 a80:=Tryz.isAgg77
 z80:=Tryz.sizeOf77
 v80:=Tryz.zeroValue77
 i0:=by kernel_rfl
 i2:=by kernel_rfl
 i3:=by kernel_rfl
 i4:=by kernel_rfl
 i5:=by kernel_rfl
 i9:=by kernel_rfl
 i20:=by kernel_rfl
 i21:=by kernel_rfl
 i37:=by kernel_rfl
 i46:=by kernel_rfl
 i51:=by kernel_rfl
 i53:=by kernel_rfl
 i75:=by kernel_rfl
 i76:=by kernel_rfl
 i80:=by kernel_rfl
 i85:=by kernel_rfl
 i127:=by kernel_rfl
 i143:=by kernel_rfl
 i145:=by kernel_rfl
 i167:=by kernel_rfl
 i168:=by kernel_rfl
 i171:=by kernel_rfl
 i173:=by kernel_rfl
 i175:=by kernel_rfl
 i210:=by kernel_rfl
 i212:=by kernel_rfl
 i232:=by kernel_rfl
 i233:=by kernel_rfl
 m15:=by kernel_rfl
 m16:=by kernel_rfl
 m17:=by kernel_rfl
 m18:=by kernel_rfl
 m19:=by kernel_rfl
 c0:=by kernel_rfl
 c2:=by kernel_rfl
 c3:=by kernel_rfl
 c4:=by kernel_rfl
 c5:=by kernel_rfl
 c9:=by kernel_rfl
 c20:=by kernel_rfl
 c21:=by kernel_rfl
 c37:=by kernel_rfl
 c46:=by kernel_rfl
 c51:=by kernel_rfl
 c53:=by kernel_rfl
 c75:=by kernel_rfl
 c76:=by kernel_rfl
 c80:=by kernel_rfl
 c85:=by kernel_rfl
 c127:=by kernel_rfl
 c143:=by kernel_rfl
 c145:=by kernel_rfl
 c167:=by kernel_rfl
 c168:=by kernel_rfl
 c171:=by kernel_rfl
 c173:=by kernel_rfl
 c175:=by kernel_rfl
 c210:=by kernel_rfl
 c212:=by kernel_rfl
 c213:=by kernel_rfl
 c232:=by kernel_rfl
 c233:=by kernel_rfl }
def Tryz.lays219_ren:Go.Shelf.Ren:=⟨fun | 219=>81 | 217=>153 | 225=>154 | 224=>155 | 267=>156 | 266=>243 | 314=>244 | n=>n,fun | 9=>9 | 3=>3 | 4=>4 | 5=>5 | 46=>226 | 146=>297 | 51=>296 | n=>n,fun | 1=>0 | n=>n⟩
theorem Tryz.lays219:Go.Proofs.Lays.n219 Tryz.prog Tryz.lays219_ren:={
 mixed:=by kernel_rfl
 f217:=Tryz.func153.trans (congrArg some (by kernel_rfl))
 f219:=Tryz.func81.trans (congrArg some (by kernel_rfl))
 f224:=Tryz.func155.trans (congrArg some (by kernel_rfl))
 f225:=Tryz.func154.trans (congrArg some (by kernel_rfl))
 f266:=Tryz.func243.trans (congrArg some (by kernel_rfl))
 f267:=Tryz.func156.trans (congrArg some (by kernel_rfl))
 f314:=Tryz.func244.trans (congrArg some (by kernel_rfl))
 t3:=Tryz.underlying3
 a3:=Tryz.isAgg3
 z3:=Tryz.sizeOf3
 v3:=Tryz.zeroValue3
 t4:=Tryz.underlying4
 a4:=Tryz.isAgg4
 z4:=Tryz.sizeOf4
 v4:=Tryz.zeroValue4
 t5:=Tryz.underlying5
 a5:=Tryz.isAgg5
 z5:=Tryz.sizeOf5
 v5:=Tryz.zeroValue5
 t9:=Tryz.underlying9
 a9:=Tryz.isAgg9
 z9:=Tryz.sizeOf9
 v9:=Tryz.zeroValue9
 t46:=Tryz.underlying226
 a46:=Tryz.isAgg226
 z46:=Tryz.sizeOf226
 v46:=Tryz.zeroValue226
 t51:=Tryz.underlying296
 a51:=Tryz.isAgg296
 z51:=Tryz.sizeOf296
 v51:=Tryz.zeroValue296
 t146:=Tryz.underlying297
 a146:=Tryz.isAgg297
 z146:=Tryz.sizeOf297
 v146:=Tryz.zeroValue297
 g1:=by kernel_rfl }
def Tryz.lays143_ren:Go.Shelf.Ren:=⟨fun | 143=>85 | 219=>81 | 217=>153 | 225=>154 | 224=>155 | 267=>156 | 266=>243 | 314=>244 | n=>n,fun | 9=>9 | 3=>3 | 4=>4 | 5=>5 | 46=>226 | 146=>297 | 51=>296 | n=>n,fun | 1=>0 | n=>n⟩
theorem Tryz.lays143:Go.Proofs.Lays.n143 Tryz.prog Tryz.lays143_ren:={
 mixed:=by kernel_rfl
 f143:=Tryz.func85.trans (congrArg some (by kernel_rfl))
 f217:=Tryz.func153.trans (congrArg some (by kernel_rfl))
 f219:=Tryz.func81.trans (congrArg some (by kernel_rfl))
 f224:=Tryz.func155.trans (congrArg some (by kernel_rfl))
 f225:=Tryz.func154.trans (congrArg some (by kernel_rfl))
 f266:=Tryz.func243.trans (congrArg some (by kernel_rfl))
 f267:=Tryz.func156.trans (congrArg some (by kernel_rfl))
 f314:=Tryz.func244.trans (congrArg some (by kernel_rfl))
 t3:=Tryz.underlying3
 a3:=Tryz.isAgg3
 z3:=Tryz.sizeOf3
 v3:=Tryz.zeroValue3
 t4:=Tryz.underlying4
 a4:=Tryz.isAgg4
 z4:=Tryz.sizeOf4
 v4:=Tryz.zeroValue4
 t5:=Tryz.underlying5
 a5:=Tryz.isAgg5
 z5:=Tryz.sizeOf5
 v5:=Tryz.zeroValue5
 t9:=Tryz.underlying9
 a9:=Tryz.isAgg9
 z9:=Tryz.sizeOf9
 v9:=Tryz.zeroValue9
 t46:=Tryz.underlying226
 a46:=Tryz.isAgg226
 z46:=Tryz.sizeOf226
 v46:=Tryz.zeroValue226
 t51:=Tryz.underlying296
 a51:=Tryz.isAgg296
 z51:=Tryz.sizeOf296
 v51:=Tryz.zeroValue296
 t146:=Tryz.underlying297
 a146:=Tryz.isAgg297
 z146:=Tryz.sizeOf297
 v146:=Tryz.zeroValue297
 g1:=by kernel_rfl }
def Tryz.lays138_ren:Go.Shelf.Ren:=⟨fun | 138=>83 | 195=>161 | 218=>162 | 143=>85 | 219=>81 | 217=>153 | 225=>154 | 224=>155 | 267=>156 | 266=>243 | 314=>244 | n=>n,fun | 9=>9 | 3=>3 | 4=>4 | 5=>5 | 0=>0 | 46=>226 | 146=>297 | 51=>296 | n=>n,fun | 1=>0 | n=>n⟩
theorem Tryz.lays138:Go.Proofs.Lays.n138 Tryz.prog Tryz.lays138_ren:={
 mixed:=by kernel_rfl
 f138:=Tryz.func83.trans (congrArg some (by kernel_rfl))
 f143:=Tryz.func85.trans (congrArg some (by kernel_rfl))
 f195:=Tryz.func161.trans (congrArg some (by kernel_rfl))
 f217:=Tryz.func153.trans (congrArg some (by kernel_rfl))
 f218:=Tryz.func162.trans (congrArg some (by kernel_rfl))
 f219:=Tryz.func81.trans (congrArg some (by kernel_rfl))
 f224:=Tryz.func155.trans (congrArg some (by kernel_rfl))
 f225:=Tryz.func154.trans (congrArg some (by kernel_rfl))
 f266:=Tryz.func243.trans (congrArg some (by kernel_rfl))
 f267:=Tryz.func156.trans (congrArg some (by kernel_rfl))
 f314:=Tryz.func244.trans (congrArg some (by kernel_rfl))
 t0:=Tryz.underlying0
 a0:=Tryz.isAgg0
 z0:=Tryz.sizeOf0
 v0:=Tryz.zeroValue0
 t3:=Tryz.underlying3
 a3:=Tryz.isAgg3
 z3:=Tryz.sizeOf3
 v3:=Tryz.zeroValue3
 t4:=Tryz.underlying4
 a4:=Tryz.isAgg4
 z4:=Tryz.sizeOf4
 v4:=Tryz.zeroValue4
 t5:=Tryz.underlying5
 a5:=Tryz.isAgg5
 z5:=Tryz.sizeOf5
 v5:=Tryz.zeroValue5
 t9:=Tryz.underlying9
 a9:=Tryz.isAgg9
 z9:=Tryz.sizeOf9
 v9:=Tryz.zeroValue9
 t46:=Tryz.underlying226
 a46:=Tryz.isAgg226
 z46:=Tryz.sizeOf226
 v46:=Tryz.zeroValue226
 t51:=Tryz.underlying296
 a51:=Tryz.isAgg296
 z51:=Tryz.sizeOf296
 v51:=Tryz.zeroValue296
 t146:=Tryz.underlying297
 a146:=Tryz.isAgg297
 z146:=Tryz.sizeOf297
 v146:=Tryz.zeroValue297
 g1:=by kernel_rfl }
end Go.Proofs.YtahlnclapingiaaGreatDoor
namespace Go.Proofs.YtahlnclapingiaaGreatDoor
namespace Abs
open Go.RowKit Go.Sort
theorem zgP {w w':World} (h:Below w.heap.size w w'):Fr [] w w' :=
 ⟨h.os,h.tape,h.output,h.size,fun b hb _=>h.block b hb,fun b hb=>by simp only [World.shape?,h.block b hb]⟩
theorem zyZ {M:Nat→Prop} {w:World} {cargs:Array Value} {q:PV} (h:zjr M w cargs [q]):∃ v,cargs=#[v]∧RepP M w v q:=by
 have hn:=h.1
 refine ⟨cargs.getD 0 undef,?_,h.2 0 q rfl⟩
 apply Array.ext
 ·simpa using hn
 ·intro i h1 h2
  have:i=0:=by simp at h2;omega
  subst this
  simp [h1]
theorem zpi {M:Nat→Prop} {w:World} {cargs:Array Value} {p q:PV} (h:zjr M w cargs [p,q]):∃ u v,cargs=#[u,v]∧RepP M w u p∧RepP M w v q:=by
 have hn:=h.1
 refine ⟨cargs.getD 0 undef,cargs.getD 1 undef,?_,h.2 0 p rfl,h.2 1 q rfl⟩
 apply Array.ext
 ·simpa using hn
 ·intro i h1 h2
  have:i=0∨i=1:=by simp at h2;omega
  rcases this with rfl | rfl<;>simp [h1]
def zpC (n:Int):ByteArray:=⟨(Lib.itoa n).toArray⟩
theorem znP (n:Int) (h0:-9223372036854775808≤n) (h1:n≤9223372036854775807):zae Tryz.prog 25 [.int .i64 n] (.str (zpC n)):=by
 intro M0 w cargs hM hg ha
 obtain ⟨v,rfl,hv⟩:=zyZ ha
 cases hv
 refine ⟨(fun w'=>zeP Tryz.func25 zNg _ w'),?_⟩
 have hn:(Tryz.prog.globalNamed "internal/strconv.uint64pow10").isSome=true:=by kernel_rfl
 obtain ⟨b,hb⟩:=Option.isSome_iff_exists.1 hn
 refine (Any.strconv_Itoa Tryz.laysM171 n h0 h1 w (hg.1 b hb)).mono ?_
 rintro e w' ⟨rfl,k,os,rfl⟩
 exact ⟨_,rfl,.str _,zgP (Lib.below_grow _ _ (Nat.le_refl _) _ _)⟩
def zfJ (s:ByteArray):PV :=
 match Lib.atoiAll s.data.toList with
 |.ok v=>.tuple [.int .i64 v,.niliface]
 |.range=>.tuple [.int .i64 (Lib.atoiSat s.data.toList),.iface 338 .any]
 |_=>.tuple [.int .i64 0,.iface 338 .any]
theorem znv {M:Nat→Prop} {w:World} {a b:Value} {p q:PV} (h1:RepP M w a p) (h2:RepP M w b q):RepP M w (.tuple #[a,b]) (.tuple [p,q]) :=
 .tuple rfl fun i c hi=>by
  match i,hi with
  |0,hi=>cases hi;exact h1
  |1,hi=>cases hi;exact h2
theorem zsz (s:ByteArray) (hs:s.size≤281474976710656):zae Tryz.prog 101 [.str s] (zfJ s):=by
 intro M0 w cargs hM hg ha
 obtain ⟨v,rfl,hv⟩:=zyZ ha
 cases hv
 refine ⟨(fun w'=>zeP Tryz.func101 zKD _ w'),?_⟩
 unfold zfJ
 cases hr:Lib.atoiAll s.data.toList with
 |ok v =>
  refine (Any.strconv_Atoi_ok Tryz.laysC172 s (by omega) v hr w).mono ?_
  rintro e w' ⟨rfl,h⟩
  refine ⟨_,rfl,znv (.int _ _) .niliface,?_⟩
  rcases h with rfl | ⟨t,rfl⟩
  ·exact Fr.refl _ _
  ·exact zgP (Lib.bytesWorld_below _ _ _)
 |range =>
  have hn:(Tryz.prog.globalNamed "strconv.ErrRange").isSome=true:=by kernel_rfl
  obtain ⟨b,hb⟩:=Option.isSome_iff_exists.1 hn
  obtain ⟨tp,p,hvar⟩:=hg.2.2 b hb
  refine (Any.strconv_Atoi_range_var Tryz.laysC172 s hs hr tp p w hvar).mono ?_
  rintro e w' ⟨N,rfl,_,_,hbl⟩
  exact ⟨_,rfl,znv (.int _ _) (.iface .any),zgP hbl⟩
 |_ =>
  have hn:(Tryz.prog.globalNamed "strconv.ErrSyntax").isSome=true:=by kernel_rfl
  obtain ⟨b,hb⟩:=Option.isSome_iff_exists.1 hn
  obtain ⟨tp,p,hvar⟩:=hg.2.1 b hb
  refine (Any.strconv_Atoi_syntax_var Tryz.laysC172 s hs hr tp p w hvar).mono ?_
  rintro e w' ⟨N,rfl,_,_,hbl⟩
  exact ⟨_,rfl,znv (.int _ _) (.iface .any),zgP hbl⟩
theorem zxR (s:ByteArray) (c:UInt8):zae Tryz.prog 81 [.str s,.str ⟨#[c]⟩] (.int .i64 (Lib.indexByte s.data.toList c)):=by
 intro M0 w cargs hM hg ha
 obtain ⟨u,v,rfl,hu,hv⟩:=zpi ha
 cases hu;cases hv
 refine ⟨(fun w'=>zeP Tryz.func81 zMV _ w'),?_⟩
 refine (Any.stringslite_Index_one Tryz.lays219 s c w).mono ?_
 rintro e w' ⟨rfl,rfl⟩
 exact ⟨_,rfl,.int _ _,Fr.refl _ _⟩
theorem zt8 (s:ByteArray) (c:UInt8):zae Tryz.prog 85 [.str s,.str ⟨#[c]⟩] (.int .i64 (Lib.indexByte s.data.toList c)):=by
 intro M0 w cargs hM hg ha
 obtain ⟨u,v,rfl,hu,hv⟩:=zpi ha
 cases hu;cases hv
 refine ⟨(fun w'=>zeP Tryz.func85 zMT _ w'),?_⟩
 refine (Any.strings_Index_one Tryz.lays143 s c w).mono ?_
 rintro e w' ⟨rfl,rfl⟩
 exact ⟨_,rfl,.int _ _,Fr.refl _ _⟩
theorem zzV (s:ByteArray) (c:UInt8):zae Tryz.prog 83 [.str s,.str ⟨#[c]⟩] (.int .i64 (Lib.countByte s.data.toList c)):=by
 intro M0 w cargs hM hg ha
 obtain ⟨u,v,rfl,hu,hv⟩:=zpi ha
 cases hu;cases hv
 refine ⟨(fun w'=>zeP Tryz.func83 zMU _ w'),?_⟩
 refine (Any.strings_Count_one Tryz.lays138 s c w).mono ?_
 rintro e w' ⟨rfl,rfl⟩
 exact ⟨_,rfl,.int _ _,Fr.refl _ _⟩
end Abs
end Go.Proofs.YtahlnclapingiaaGreatDoor
namespace Go.Proofs.YtahlnclapingiaaGreatDoor
namespace Abs
set_option maxRecDepth 4000
def bs (l:List UInt8):ByteArray:=⟨l.toArray⟩
theorem zdr (l:List UInt8):(bs l).data.toList=l:=rfl
theorem zao (l:List UInt8):(bs l).size=l.length:=by simp [bs,ByteArray.size]
theorem zp5 (s:ByteArray):bs s.data.toList=s:=by cases s;rfl
theorem zcN (l:List UInt8) (i j:Nat):(bs l).extract i j=bs ((l.take j).drop i):=by
 apply ByteArray.ext
 rw [ByteArray.data_extract]
 simp [bs,List.drop_take]
theorem zdI (a b:List UInt8):bs a++bs b=bs (a++b):=by
 apply ByteArray.ext
 simp [bs]
theorem zGT {a b:List UInt8}:bs a=bs b↔a=b :=
 ⟨fun h=>by have:=congrArg (fun s:ByteArray=>s.data.toList) h;simpa [zdr] using this,fun h=>h▸rfl⟩
theorem zks (x y:ByteArray):(x==y)=true↔x=y:=by
 cases x with
 |mk a =>
  cases y with
  |mk b =>
   show (a==b)=true↔_
   rw [beq_iff_eq]
   exact ⟨fun h=>h▸rfl,fun h=>by cases h;rfl⟩
theorem zbZ (a b:List UInt8):(bs a==bs b)=(a==b):=by
 rw [Bool.eq_iff_iff,zks,beq_iff_eq,zGT]
def zav (c:UInt8):List UInt8→List UInt8×Option (List UInt8)
 |[]=>([],none)
 |x::r=>if x=c then ([],some r) else (x::(zav c r).1,(zav c r).2)
theorem zgu (c:UInt8):∀ l:List UInt8,((zav c l).2=none∧(zav c l).1=l∧Lib.indexByte l c=-1) ∨
  ∃ r,(zav c l).2=some r∧Lib.indexByte l c=((zav c l).1.length:Int)∧l=(zav c l).1++c::r
 |[]=>.inl ⟨rfl,rfl,rfl⟩
 |x::l=>by
  unfold zav Lib.indexByte
  by_cases hx:x=c
  ·subst hx
   simp
  ·have hb:(x==c)=false:=by simpa using hx
   rw [if_neg hx,hb]
   simp only [Bool.false_eq_true,if_false]
   rcases zgu c l with ⟨h1,h2,h3⟩ | ⟨r,h1,h2,h3⟩
   ·exact .inl ⟨h1,by simp [h2],by simp [h3]⟩
   ·refine .inr ⟨r,h1,?_,?_⟩
    ·rw [h2]
     have:¬ ((((zav c l).1.length:Int)==-1)=true):=by simp
     rw [if_neg this]
     simp
    ·simp [←h3]
theorem zl5 (c:UInt8):∀ (l r:List UInt8),(zav c l).2=some r→r.length<l.length:=by
 intro l r h
 rcases zgu c l with ⟨h1,_⟩ | ⟨r',h1,_,h3⟩
 ·rw [h1] at h;cases h
 ·rw [h1] at h;cases h
  have:=congrArg List.length h3
  simp at this;omega
theorem zBG (l:List UInt8) (c:UInt8) (hl:l.length<1000000000):zae Tryz.prog 49 [.str (bs l),.str (bs [c])] (.tuple [.str (bs (zav c l).1),.str (bs ((zav c l).2.getD [])),.bool (zav c l).2.isSome]):=by
 refine zaa zad (fn:=Tryz.f49) (n:=23) (rs:=[.tmp 4,.tmp 5,.tmp 6]) (by kernel_rfl) rfl rfl rfl zM4 (Nat.le_of_ble_eq_true rfl) ?_
 simp only [go_sem,simprocAttr]
 refine zab (zxR (bs l) c) rfl ?_
 rw [zdr]
 rcases zgu c l with ⟨h1,h2,h3⟩ | ⟨r,h1,h2,h3⟩
 ·simp only [h1,h2,h3,go_sem,simprocAttr]
  exact ⟨rfl,rfl⟩
 ·have hlen:=congrArg List.length h3
  simp only [List.length_append,List.length_cons] at hlen
  have e0:decide ((0:Int)≤((zav c l).1.length:Int))=true:=by simp
  have e1:(((zav c l).1.length:Int)≤((bs l).size:Int)):=by rw [zao];omega
  have e2:IntKind.i64.wrap (((zav c l).1.length:Int)+(((bs [c]).size:Nat):Int))=(((zav c l).1.length+1:Nat):Int):=by
   rw [zao]
   exact za9 (by omega) (by simp [zar];omega) (by simp)
  have e3:((((zav c l).1.length+1:Nat):Int)≤((bs l).size:Int)):=by rw [zao];omega
  have e4:(bs l).extract 0 (zav c l).1.length=bs (zav c l).1:=by
   rw [zcN,List.drop_zero]
   congr 1
   have:=congrArg (List.take (zav c l).1.length) h3
   rw [List.take_left'] at this
   ·exact this
   ·rfl
  have e5:(bs l).extract ((zav c l).1.length+1) (bs l).size=bs r:=by
   rw [zcN,zao,List.take_length]
   congr 1
   have:=congrArg (List.drop ((zav c l).1.length+1)) h3
   rw [this]
   simp
  simp only [h1,h2,e0,e1,e2,e3,e4,e5,go_sem,simprocAttr]
  try exact ⟨rfl,rfl⟩
theorem zk8 (l:List UInt8) (c:UInt8) (hl:l.length<1000000000):zae Tryz.prog 24 [.str (bs l),.str (bs [c])] (.tuple [.str (bs (zav c l).1),.str (bs ((zav c l).2.getD [])),.bool (zav c l).2.isSome]):=by
 refine zaa zad (fn:=Tryz.f24) (n:=13) (rs:=[.tmp 4,.tmp 5,.tmp 6]) (by kernel_rfl) rfl rfl rfl zNh (Nat.le_of_ble_eq_true rfl) ?_
 simp only [go_sem,simprocAttr]
 refine zab (zBG l c hl) rfl ?_
 simp only [go_sem,simprocAttr]
def zir (c:UInt8) (l:List UInt8):List UInt8:=if l.getLast?=some c then l.dropLast else l
theorem zxS (l:List UInt8) (c:UInt8) (hl:l.length<1000000000):zae Tryz.prog 370 [.str (bs l),.str (bs [c])] (.bool (decide (l.getLast?=some c))):=by
 refine zaa zad (fn:=Tryz.f370) (n:=21) (rs:=[.tmp 4]) (by kernel_rfl) rfl rfl rfl zIg (Nat.le_of_ble_eq_true rfl) ?_
 rcases List.eq_nil_or_concat l with rfl | ⟨a,x,rfl⟩
 ·have e1:decide ((((bs [c]).size:Nat):Int)≤(((bs []).size:Nat):Int))=false:=by rw [zao,zao];simp
  simp only [e1,go_sem,simprocAttr]
  simp
 ·rw [List.concat_eq_append] at hl ⊢
  have e1:decide ((((bs [c]).size:Nat):Int)≤(((bs (a++[x])).size:Nat):Int))=true:=by rw [zao,zao];simp<;>omega
  have e2:IntKind.i64.wrap ((((bs (a++[x])).size:Nat):Int)-(((bs [c]).size:Nat):Int))=((a.length:Nat):Int):=by
   rw [zao,zao,zb3 (by simp) (by simp [zar] at hl ⊢;omega)]
   simp
  have e3:((a.length:Nat):Int)≤(((bs (a++[x])).size:Nat):Int):=by rw [zao];simp<;>omega
  have e4:(bs (a++[x])).extract a.length (bs (a++[x])).size=bs [x]:=by
   rw [zcN,zao,List.take_length]
   simp
  have e5:(bs [x]==bs [c])=decide ((a++[x]).getLast?=some c):=by
   rw [zbZ,List.getLast?_concat,Bool.eq_iff_iff]
   simp
  simp only [e1,e2,e3,e4,e5,go_sem,simprocAttr]
theorem zzP (l:List UInt8) (c:UInt8) (hl:l.length<1000000000):zae Tryz.prog 337 [.str (bs l),.str (bs [c])] (.str (bs (zir c l))):=by
 refine zaa zad (fn:=Tryz.f337) (n:=16) (rs:=[.tmp 4]) (by kernel_rfl) rfl rfl rfl zIz (Nat.le_of_ble_eq_true rfl) ?_
 simp only [go_sem,simprocAttr]
 refine zab (zxS l c hl) rfl ?_
 by_cases h:l.getLast?=some c
 ·have e1:IntKind.i64.wrap ((((bs l).size:Nat):Int)-(((bs [c]).size:Nat):Int))=((l.length-1:Nat):Int):=by
   have:l≠[]:=by rintro rfl;simp at h
   have:0<l.length:=List.length_pos_iff.2 this
   rw [zao,zao,zb3 (by simp;omega) (by simp [zar];omega)]
   simp;omega
  have e2:((l.length-1:Nat):Int)≤(((bs l).size:Nat):Int):=by rw [zao];omega
  have e3:(bs l).extract 0 (l.length-1)=bs l.dropLast:=by rw [zcN,List.drop_zero,List.dropLast_eq_take]
  simp only [h,e1,e2,e3,zir,if_pos h,go_sem,simprocAttr]
 ·simp only [h,zir,if_neg h,go_sem,simprocAttr]
theorem zvs (l:List UInt8) (c:UInt8) (hl:l.length<1000000000):zae Tryz.prog 281 [.str (bs l),.str (bs [c])] (.str (bs (zir c l))):=by
 refine zaa zad (fn:=Tryz.f281) (n:=8) (rs:=[.tmp 4]) (by kernel_rfl) rfl rfl rfl zI6 (Nat.le_of_ble_eq_true rfl) ?_
 simp only [go_sem,simprocAttr]
 refine zab (zzP l c hl) rfl ?_
 simp only [go_sem,simprocAttr]
end Abs
end Go.Proofs.YtahlnclapingiaaGreatDoor
namespace Go.Proofs.YtahlnclapingiaaGreatDoor
namespace Abs
set_option maxRecDepth 4000
def zaC (c:UInt8):List UInt8→List (List UInt8)
 |[]=>[[]]
 |x::r=>if x=c then []::zaC c r else match zaC c r with | []=>[[x]] | a::t=>(x::a)::t
theorem zgp (c:UInt8):∀ l:List UInt8,zaC c l=(zav c l).1::(match (zav c l).2 with | none=>[] | some r=>zaC c r)
 |[]=>rfl
 |x::r=>by
  by_cases hx:x=c
  ·simp only [zaC,zav,if_pos hx]
  ·simp only [zaC,zav,if_neg hx]
   rw [zgp c r]
theorem zgI {c:UInt8} {l:List UInt8} (h:(zav c l).2=none):zaC c l=[l]:=by
 rcases zgu c l with ⟨h1,h2,h3⟩ | ⟨r,h1,_⟩
 ·rw [zgp,h1,h2]
 ·rw [h1] at h;cases h
theorem zgH {c:UInt8} {l r:List UInt8} (h:(zav c l).2=some r):zaC c l=(zav c l).1::zaC c r:=by
 rw [zgp,h]
theorem zhs (c:UInt8):∀ l:List UInt8,(zaC c l).length=l.count c+1
 |[]=>rfl
 |x::r=>by
  have ih:=zhs c r
  unfold zaC
  by_cases hx:x=c
  ·subst hx
   simp [ih]
  ·rw [if_neg hx,List.count_cons_of_ne hx]
   cases hs:zaC c r with
   |nil=>rw [hs] at ih;simp at ih
   |cons a t=>rw [hs] at ih;simpa using ih
theorem zhr (c:UInt8) (l:List UInt8):0<(zaC c l).length:=by rw [zhs];omega
theorem zkf (c:UInt8) (l:List UInt8):(zaC c l).length≤l.length+1:=by rw [zhs];have:=List.count_le_length (a:=c) (l:=l);omega
def zaE (l:List (List UInt8)):PV:=.slice 1 (l.map fun x=>.str (bs x)) false
def zc9 (N:Nat) (done:List (List UInt8)):List AV:=(done.map fun x=>AV.p (.str (bs x)))++List.replicate (N-done.length) (AV.p (.str ⟨#[]⟩))
theorem zsP {N:Nat} {done:List (List UInt8)} (h:done.length≤N):(zc9 N done).length=N:=by simp [zc9];omega
theorem zuX {N:Nat} {done:List (List UInt8)} (h:done.length<N):(zc9 N done)[done.length]?=some (AV.p (.str ⟨#[]⟩)):=by
 unfold zc9
 rw [List.getElem?_append_right (by simp),List.getElem?_replicate]
 simp;omega
theorem zmv {N:Nat} {done:List (List UInt8)} (x:List UInt8) (h:done.length<N):(zc9 N done).set done.length (AV.p (.str (bs x)))=zc9 N (done++[x]):=by
 unfold zc9
 rw [List.set_append_right _ _ (by simp)]
 obtain ⟨k,hk⟩:∃ k,N-done.length=k+1:=⟨N-done.length-1,by omega⟩
 have hk2:N-(done++[x]).length=k:=by simp;omega
 rw [hk,hk2]
 simp [List.replicate_succ]
theorem zsQ {N:Nat} {done:List (List UInt8)} (h:done.length=N):zc9 N done=done.map fun x=>AV.p (.str (bs x)):=by
 unfold zc9
 rw [h];simp
theorem zqn (n N:Nat) (done:List (List UInt8)):∀ x,x∈zc9 N done→below n x:=by
 intro x hx
 simp only [zc9,List.mem_append,List.mem_map,List.mem_replicate] at hx
 rcases hx with ⟨_,_,rfl⟩ | ⟨_,rfl⟩<;>exact trivial
theorem zzS (l:List UInt8) (c:UInt8) (hl:l.length<1000000000):zae Tryz.prog 197 [.str (bs l),.str (bs [c]),.int .i64 0,.int .i64 (-1)] (zaE (zaC c l)):=by
 refine zbT zad (fn:=Tryz.f197) (n:=66) (rs:=[.tmp 8]) (by kernel_rfl) rfl rfl rfl zJO (Nat.le_of_ble_eq_true rfl) ?_
 have hsep:(bs [c]==(⟨#[]⟩:ByteArray))=false:=by
  rw [show (⟨#[]⟩:ByteArray)=bs [] from rfl,zbZ];rfl
 obtain ⟨N,hN⟩:∃ N,N=(zaC c l).length:=⟨_,rfl⟩
 have hN1:0<N:=hN▸zhr c l
 have hNl:N≤l.length+1:=hN▸zkf c l
 have hcnt:IntKind.i64.wrap ((Lib.countByte (bs l).data.toList c:Int)+1)=(N:Int):=by
  refine za9 (by omega) (by simp [zar];omega) ?_
  rw [zdr]
  unfold Lib.countByte
  rw [hN,zhs];rfl
 simp only [hsep,go_sem,simprocAttr]
 refine zab (zzV (bs l) c) rfl ?_
 have hw:IntKind.i64.wrap ((((bs l).size:Nat):Int)+1)=((l.length+1:Nat):Int):=by
  rw [zao];exact za9 (by omega) (by simp [zar];omega) (by simp)
 have hmin:¬ (((l.length+1:Nat):Int)<(N:Int)):=by omega
 have hroom:((N:Int)≤((zar:Nat):Int)):=by simp [zar];omega
 have hN2:IntKind.i64.wrap ((N:Int)-1)=((N-1:Nat):Int):=by rw [zb3 (by omega) (by simp [zar];omega)];omega
 simp only [hcnt,hw,hmin,hroom,hN2,go_sem,simprocAttr]
 refine zfc [1,2,3,9] (σ:=List (List UInt8)×List UInt8) (fun q=>zaC c l=q.1++zaC c q.2∧q.2.length≤l.length) (fun q=>q.2.length)
  (fun q=>[(0,.p (.str (bs q.2))),(10,.p (.int .i64 q.1.length))]) (fun q=>[.row 1 (zc9 N q.1)]) ([],l) ⟨rfl,Nat.le_refl _⟩ ?_ ?_
 ·simp only [zc9,go_sem,simprocAttr]
  all_goals first | (simp;done) | (simp;intro _;trivial)
 rintro ⟨done,r⟩ ⟨e1,e2⟩
 dsimp only at e1 e2
 have hlen:=congrArg List.length e1
 rw [←hN,List.length_append] at hlen
 have hlt0:done.length<N:=by have:=zhr c r;omega
 have hrl:=zsP (Nat.le_of_lt hlt0)
 have hat:=zuX hlt0
 have hi0:(done.length:Int)<(N:Int):=by omega
 rcases zgu c r with ⟨h1,h2,h3⟩ | ⟨r',h1,h2,h3⟩
 ·have hs:=zgI h1
  rw [hs,List.length_singleton] at hlen
  have hge:decide ((done.length:Int)<((N-1:Nat):Int))=false:=by simp;omega
  have hset:=zmv r hlt0
  have hall:zc9 N (done++[r])=(zaC c l).map fun x=>AV.p (.str (bs x)):=by rw [zsQ (by simp;omega),e1,hs]
  have hw2:IntKind.i64.wrap ((done.length:Int)+1)=(N:Int):=za9 (by omega) (by simp [zar];omega) (by omega)
  have hN3:(zaC c l).length=N:=hN.symm
  simp only [hge,hrl,hat,hi0,hset,hall,hw2,hN3,go_sem,simprocAttr]
  rw [zaE,Nat.sub_zero,List.take_of_length_le (by simp [hN3])]
 ·have hs:=zgH h1
  have hlt:decide ((done.length:Int)<((N-1:Nat):Int))=true:=by
   have:=zhr c r'
   have:=congrArg List.length hs
   simp at this ⊢;omega
  have hset:=zmv (zav c r).1 hlt0
  have hrlen:=congrArg List.length h3
  simp only [List.length_append,List.length_cons] at hrlen
  simp only [hlt,go_sem,simprocAttr]
  refine zab (zt8 (bs r) c) rfl ?_
  have hd:Lib.indexByte (bs r).data.toList c=((zav c r).1.length:Int):=h2
  have f0:decide (((zav c r).1.length:Int)<0)=false:=by simp
  have f1:IntKind.i64.wrap (((zav c r).1.length:Int)+0)=((zav c r).1.length:Int):=za9 (by omega) (by simp [zar];omega) (by simp)
  have f2:(((zav c r).1.length:Int)≤((bs r).size:Int)):=by rw [zao];omega
  have f3:(bs r).extract 0 (zav c r).1.length=bs (zav c r).1:=by
   rw [zcN,List.drop_zero]
   congr 1
   have:=congrArg (List.take (zav c r).1.length) h3
   rw [List.take_left'] at this
   ·exact this
   ·rfl
  have f4:IntKind.i64.wrap (((zav c r).1.length:Int)+(((bs [c]).size:Nat):Int))=(((zav c r).1.length+1:Nat):Int):=by
   rw [zao]
   exact za9 (by omega) (by simp [zar];omega) (by simp)
  have f5:((((zav c r).1.length+1:Nat):Int)≤((bs r).size:Int)):=by rw [zao];omega
  have f6:(bs r).extract ((zav c r).1.length+1) (bs r).size=bs r':=by
   rw [zcN,zao,List.take_length]
   congr 1
   have:=congrArg (List.drop ((zav c r).1.length+1)) h3
   rw [this]
   simp
  have hnx:IntKind.i64.wrap ((done.length:Int)+1)=(((done++[(zav c r).1]).length:Nat):Int):=za9 (by omega) (by simp [zar];omega) (by simp)
  simp only [hd,f0,f1,f2,f3,f4,f5,f6,hrl,hat,hi0,hset,go_sem,simprocAttr]
  refine zb5 (done++[(zav c r).1],r') ⟨by rw [e1,hs];simp,by show r'.length≤l.length;omega⟩ (by show r'.length<r.length;omega) ?_
  simp only [hnx,go_sem,simprocAttr]
  exact zqn _ _ _
theorem zrM (l:List UInt8) (c:UInt8) (hl:l.length<1000000000):zae Tryz.prog 96 [.str (bs l),.str (bs [c])] (zaE (zaC c l)):=by
 refine zaa zad (fn:=Tryz.f96) (n:=8) (rs:=[.tmp 4]) (by kernel_rfl) rfl rfl rfl zMK (Nat.le_of_ble_eq_true rfl) ?_
 simp only [go_sem,simprocAttr]
 refine zab (zzS l c hl) rfl ?_
 simp only [go_sem,simprocAttr]
theorem zrd (c:UInt8) (l:List UInt8):zaC c l≠[]:=fun h=>by have:=zhr c l;rw [h] at this;simp at this
end Abs
end Go.Proofs.YtahlnclapingiaaGreatDoor
