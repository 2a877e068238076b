/-
  THE LIBRARY'S CONTRACTS AT THIS PROGRAM: what they ask of its bodies and types, written by
  CONTRACTS: numbers as texts and back, a byte sought in a text, counted: by the library's o
  CONTRACTS: texts as lists of bytes; strings.Cut, TrimSuffix at one byte. No conditions but
  CONTRACTS: strings.Split at one byte; the reference's Split and Digits. No conditions but 
-/
import Derived.Shelf.LaysM
import Derived.Shelf.LaysC
import Derived.Shelf.Strconv.Itoa3
import Derived.Shelf.Strconv.AtoiAll
import Derived.Shelf.Strconv.ErrVarAll
import Derived.Shelf.Strings.Search3
import Derived.Shelf.Strings.Count
import Derived.Test.YtfafnkpfamgbbaaGreatDoorProg
import Derived.Test.YtfafnkpfamgbbaaGreatDoorSeatTy
import Derived.Test.YtfafnkpfamgbbaaGreatDoorAbsKill
import Derived.Lib.AppendIntMem
import Derived.Lib.AtoiErrMem
import Derived.Test.YtfafnkpfamgbbaaGreatDoorAbsCutX
import Derived.Test.YtfafnkpfamgbbaaGreatDoorLibGo
import Derived.Test.YtfafnkpfamgbbaaGreatDoorLibNameX
set_option linter.unusedSimpArgs false
set_option linter.unusedVariables false
open Go.Proofs.Tryz renaming prog->TP
namespace Go.Proofs.YtfafnkpfamgbbaaGreatDoor
open Go.Shelf
def Tryz.laysM171_ren:Go.Shelf.Ren:=⟨λ| 171=>32 | 243=>54 | 246=>84 | 283=>129 | 284=>130 | 285=>131 | 286=>132 | 129=>199 | 317=>198 | 318=>200 | 319=>201 | 320=>202 | 337=>271 | 338=>272 | n=>n,λ| 3=>3 | 9=>9 | 2=>2 | 4=>4 | 171=>198 | 0=>0 | 53=>199 | 37=>82 | 5=>5 | 173=>202 | 212=>268 | 51=>264 | 20=>20 | 213=>269 | 46=>197 | 232=>397 | 233=>398 | n=>n,λ| 17=>1 | 18=>6 | 19=>7 | n=>n⟩
theorem Tryz.laysM171:Go.Proofs.LaysM.n171 TP Tryz.laysM171_ren:={
 mixed:=by kernel_rfl
 f129:=Tryz.func199.trans (congrArg some (by kernel_rfl))
 f171:=Tryz.func32.trans (congrArg some (by kernel_rfl))
 f243:=Tryz.func54.trans (congrArg some (by kernel_rfl))
 f246:=Tryz.func84.trans (congrArg some (by kernel_rfl))
 f283:=Tryz.func129.trans (congrArg some (by kernel_rfl))
 f284:=Tryz.func130.trans (congrArg some (by kernel_rfl))
 f285:=Tryz.func131.trans (congrArg some (by kernel_rfl))
 f286:=Tryz.func132.trans (congrArg some (by kernel_rfl))
 f317:=Tryz.func198.trans (congrArg some (by kernel_rfl))
 f318:=Tryz.func200.trans (congrArg some (by kernel_rfl))
 f319:=Tryz.func201.trans (congrArg some (by kernel_rfl))
 f320:=Tryz.func202.trans (congrArg some (by kernel_rfl))
 f337:=Tryz.func271.trans (congrArg some (by kernel_rfl))
 f338:=Tryz.func272.trans (congrArg some (by kernel_rfl))
 t0:=Tryz.underlying0
 a0:=Tryz.isAgg0
 z0:=Tryz.sizeOf0
 v0:=Tryz.zeroValue0
 t2:=Tryz.underlying2
 a2:=Tryz.isAgg2
 z2:=Tryz.sizeOf2
 v2:=Tryz.zeroValue2
 t3:=Tryz.underlying3
 a3:=Tryz.isAgg3
 z3:=Tryz.sizeOf3
 v3:=Tryz.zeroValue3
 t4:=Tryz.underlying4
 a4:=Tryz.isAgg4
 z4:=Tryz.sizeOf4
 v4:=Tryz.zeroValue4
 t5:=Tryz.underlying5
 a5:=Tryz.isAgg5
 z5:=Tryz.sizeOf5
 v5:=Tryz.zeroValue5
 t9:=Tryz.underlying9
 a9:=Tryz.isAgg9
 z9:=Tryz.sizeOf9
 v9:=Tryz.zeroValue9
 t20:=Tryz.underlying20
 a20:=Tryz.isAgg20
 z20:=Tryz.sizeOf20
 v20:=Tryz.zeroValue20
 t37:=Tryz.underlying82
 a37:=Tryz.isAgg82
 z37:=Tryz.sizeOf82
 v37:=Tryz.zeroValue82
 t46:=Tryz.underlying197
 a46:=Tryz.isAgg197
 z46:=Tryz.sizeOf197
 v46:=Tryz.zeroValue197
 t51:=Tryz.underlying264
 a51:=Tryz.isAgg264
 z51:=Tryz.sizeOf264
 v51:=Tryz.zeroValue264
 t53:=Tryz.underlying199
 a53:=Tryz.isAgg199
 z53:=Tryz.sizeOf199
 v53:=Tryz.zeroValue199
 t171:=Tryz.underlying198
 a171:=Tryz.isAgg198
 z171:=Tryz.sizeOf198
 v171:=Tryz.zeroValue198
 t173:=Tryz.underlying202
 a173:=Tryz.isAgg202
 z173:=Tryz.sizeOf202
 v173:=Tryz.zeroValue202
 t212:=Tryz.underlying268
 a212:=Tryz.isAgg268
 z212:=Tryz.sizeOf268
 v212:=Tryz.zeroValue268
 t213:=Tryz.underlying269
 a213:=Tryz.isAgg269
 z213:=Tryz.sizeOf269
 t232:=Tryz.underlying397
 a232:=Tryz.isAgg397
 z232:=Tryz.sizeOf397
 v232:=Tryz.zeroValue397
 t233:=Tryz.underlying398
 a233:=Tryz.isAgg398
 z233:=Tryz.sizeOf398
 v233:=Tryz.zeroValue398
 g17:=by kernel_rfl
 g18:=by kernel_rfl
 g19:=by kernel_rfl
 i0:=by kernel_rfl
 i2:=by kernel_rfl
 i3:=by kernel_rfl
 i4:=by kernel_rfl
 i5:=by kernel_rfl
 i9:=by kernel_rfl
 i20:=by kernel_rfl
 i37:=by kernel_rfl
 i46:=by kernel_rfl
 i51:=by kernel_rfl
 i53:=by kernel_rfl
 i171:=by kernel_rfl
 i173:=by kernel_rfl
 i212:=by kernel_rfl
 i232:=by kernel_rfl
 i233:=by kernel_rfl
 m17:=by kernel_rfl
 m18:=by kernel_rfl
 m19:=by kernel_rfl }
def Tryz.laysC172_ren:Go.Shelf.Ren:=⟨λ| 172=>103 | 244=>170 | 245=>171 | 247=>241 | 279=>242 | 280=>243 | 281=>244 | 282=>245 | 287=>284 | 316=>285 | 171=>32 | 205=>286 | 321=>305 | 322=>306 | 243=>54 | 246=>84 | 283=>129 | 284=>130 | 285=>131 | 286=>132 | 129=>199 | 317=>198 | 318=>200 | 319=>201 | 320=>202 | 337=>271 | 338=>272 | n=>n,λ| 9=>9 | 3=>3 | 75=>89 | 76=>90 | 4=>4 | 5=>5 | 167=>306 | 37=>82 | 0=>0 | 85=>307 | 2=>2 | 168=>309 | 53=>199 | 175=>368 | 46=>197 | 210=>371 | 127=>121 | 145=>403 | 143=>401 | 21=>21 | 171=>198 | 173=>202 | 212=>268 | 51=>264 | 20=>20 | 213=>269 | 232=>397 | 233=>398 | 80=>92 | n=>n,λ| 15=>4 | 16=>5 | 17=>1 | 18=>6 | 19=>7 | n=>n⟩
theorem Tryz.laysC172:Go.Proofs.LaysC.n172 TP Tryz.laysC172_ren:={
 mixed:=by kernel_rfl
 f129:=Tryz.func199.trans (congrArg some (by kernel_rfl))
 f171:=Tryz.func32.trans (congrArg some (by kernel_rfl))
 f172:=Tryz.func103.trans (congrArg some (by kernel_rfl))
 f205:=Tryz.func286.trans (congrArg some (by kernel_rfl))
 f243:=Tryz.func54.trans (congrArg some (by kernel_rfl))
 f244:=Tryz.func170.trans (congrArg some (by kernel_rfl))
 f245:=Tryz.func171.trans (congrArg some (by kernel_rfl))
 f246:=Tryz.func84.trans (congrArg some (by kernel_rfl))
 f247:=Tryz.func241.trans (congrArg some (by kernel_rfl))
 f279:=Tryz.func242.trans (congrArg some (by kernel_rfl))
 f280:=Tryz.func243.trans (congrArg some (by kernel_rfl))
 f281:=Tryz.func244.trans (congrArg some (by kernel_rfl))
 f282:=Tryz.func245.trans (congrArg some (by kernel_rfl))
 f283:=Tryz.func129.trans (congrArg some (by kernel_rfl))
 f284:=Tryz.func130.trans (congrArg some (by kernel_rfl))
 f285:=Tryz.func131.trans (congrArg some (by kernel_rfl))
 f286:=Tryz.func132.trans (congrArg some (by kernel_rfl))
 f287:=Tryz.func284.trans (congrArg some (by kernel_rfl))
 f316:=Tryz.func285.trans (congrArg some (by kernel_rfl))
 f317:=Tryz.func198.trans (congrArg some (by kernel_rfl))
 f318:=Tryz.func200.trans (congrArg some (by kernel_rfl))
 f319:=Tryz.func201.trans (congrArg some (by kernel_rfl))
 f320:=Tryz.func202.trans (congrArg some (by kernel_rfl))
 f321:=Tryz.func305.trans (congrArg some (by kernel_rfl))
 f322:=Tryz.func306.trans (congrArg some (by kernel_rfl))
 f337:=Tryz.func271.trans (congrArg some (by kernel_rfl))
 f338:=Tryz.func272.trans (congrArg some (by kernel_rfl))
 t0:=Tryz.underlying0
 a0:=Tryz.isAgg0
 z0:=Tryz.sizeOf0
 v0:=Tryz.zeroValue0
 t2:=Tryz.underlying2
 a2:=Tryz.isAgg2
 z2:=Tryz.sizeOf2
 v2:=Tryz.zeroValue2
 t3:=Tryz.underlying3
 a3:=Tryz.isAgg3
 z3:=Tryz.sizeOf3
 v3:=Tryz.zeroValue3
 t4:=Tryz.underlying4
 a4:=Tryz.isAgg4
 z4:=Tryz.sizeOf4
 v4:=Tryz.zeroValue4
 t5:=Tryz.underlying5
 a5:=Tryz.isAgg5
 z5:=Tryz.sizeOf5
 v5:=Tryz.zeroValue5
 t9:=Tryz.underlying9
 a9:=Tryz.isAgg9
 z9:=Tryz.sizeOf9
 v9:=Tryz.zeroValue9
 t20:=Tryz.underlying20
 a20:=Tryz.isAgg20
 z20:=Tryz.sizeOf20
 v20:=Tryz.zeroValue20
 t21:=Tryz.underlying21
 a21:=Tryz.isAgg21
 z21:=Tryz.sizeOf21
 v21:=Tryz.zeroValue21
 t37:=Tryz.underlying82
 a37:=Tryz.isAgg82
 z37:=Tryz.sizeOf82
 v37:=Tryz.zeroValue82
 t46:=Tryz.underlying197
 a46:=Tryz.isAgg197
 z46:=Tryz.sizeOf197
 v46:=Tryz.zeroValue197
 t51:=Tryz.underlying264
 a51:=Tryz.isAgg264
 z51:=Tryz.sizeOf264
 v51:=Tryz.zeroValue264
 t53:=Tryz.underlying199
 a53:=Tryz.isAgg199
 z53:=Tryz.sizeOf199
 v53:=Tryz.zeroValue199
 t75:=Tryz.underlying89
 a75:=Tryz.isAgg89
 z75:=Tryz.sizeOf89
 v75:=Tryz.zeroValue89
 t76:=Tryz.underlying90
 a76:=Tryz.isAgg90
 z76:=Tryz.sizeOf90
 v76:=Tryz.zeroValue90
 t85:=Tryz.underlying307
 a85:=Tryz.isAgg307
 z85:=Tryz.sizeOf307
 v85:=Tryz.zeroValue307
 t127:=Tryz.underlying121
 a127:=Tryz.isAgg121
 z127:=Tryz.sizeOf121
 v127:=Tryz.zeroValue121
 t143:=Tryz.underlying401
 a143:=Tryz.isAgg401
 z143:=Tryz.sizeOf401
 v143:=Tryz.zeroValue401
 t145:=Tryz.underlying403
 a145:=Tryz.isAgg403
 z145:=Tryz.sizeOf403
 v145:=Tryz.zeroValue403
 t167:=Tryz.underlying306
 a167:=Tryz.isAgg306
 z167:=Tryz.sizeOf306
 v167:=Tryz.zeroValue306
 t168:=Tryz.underlying309
 a168:=Tryz.isAgg309
 z168:=Tryz.sizeOf309
 v168:=Tryz.zeroValue309
 t171:=Tryz.underlying198
 a171:=Tryz.isAgg198
 z171:=Tryz.sizeOf198
 v171:=Tryz.zeroValue198
 t173:=Tryz.underlying202
 a173:=Tryz.isAgg202
 z173:=Tryz.sizeOf202
 v173:=Tryz.zeroValue202
 t175:=Tryz.underlying368
 a175:=Tryz.isAgg368
 z175:=Tryz.sizeOf368
 v175:=Tryz.zeroValue368
 t210:=Tryz.underlying371
 a210:=Tryz.isAgg371
 z210:=Tryz.sizeOf371
 v210:=Tryz.zeroValue371
 t212:=Tryz.underlying268
 a212:=Tryz.isAgg268
 z212:=Tryz.sizeOf268
 v212:=Tryz.zeroValue268
 t213:=Tryz.underlying269
 a213:=Tryz.isAgg269
 z213:=Tryz.sizeOf269
 t232:=Tryz.underlying397
 a232:=Tryz.isAgg397
 z232:=Tryz.sizeOf397
 v232:=Tryz.zeroValue397
 t233:=Tryz.underlying398
 a233:=Tryz.isAgg398
 z233:=Tryz.sizeOf398
 v233:=Tryz.zeroValue398
 g15:=by kernel_rfl
 g16:=by kernel_rfl
 g17:=by kernel_rfl
 g18:=by kernel_rfl
 g19:=by kernel_rfl
 t80:=Tryz.underlying92
 a80:=Tryz.isAgg92
 z80:=Tryz.sizeOf92
 v80:=Tryz.zeroValue92
 i0:=by kernel_rfl
 i2:=by kernel_rfl
 i3:=by kernel_rfl
 i4:=by kernel_rfl
 i5:=by kernel_rfl
 i9:=by kernel_rfl
 i20:=by kernel_rfl
 i21:=by kernel_rfl
 i37:=by kernel_rfl
 i46:=by kernel_rfl
 i51:=by kernel_rfl
 i53:=by kernel_rfl
 i75:=by kernel_rfl
 i76:=by kernel_rfl
 i80:=by kernel_rfl
 i85:=by kernel_rfl
 i127:=by kernel_rfl
 i143:=by kernel_rfl
 i145:=by kernel_rfl
 i167:=by kernel_rfl
 i168:=by kernel_rfl
 i171:=by kernel_rfl
 i173:=by kernel_rfl
 i175:=by kernel_rfl
 i210:=by kernel_rfl
 i212:=by kernel_rfl
 i232:=by kernel_rfl
 i233:=by kernel_rfl
 m15:=by kernel_rfl
 m16:=by kernel_rfl
 m17:=by kernel_rfl
 m18:=by kernel_rfl
 m19:=by kernel_rfl
 c0:=by kernel_rfl
 c2:=by kernel_rfl
 c3:=by kernel_rfl
 c4:=by kernel_rfl
 c5:=by kernel_rfl
 c9:=by kernel_rfl
 c20:=by kernel_rfl
 c21:=by kernel_rfl
 c37:=by kernel_rfl
 c46:=by kernel_rfl
 c51:=by kernel_rfl
 c53:=by kernel_rfl
 c75:=by kernel_rfl
 c76:=by kernel_rfl
 c80:=by kernel_rfl
 c85:=by kernel_rfl
 c127:=by kernel_rfl
 c143:=by kernel_rfl
 c145:=by kernel_rfl
 c167:=by kernel_rfl
 c168:=by kernel_rfl
 c171:=by kernel_rfl
 c173:=by kernel_rfl
 c175:=by kernel_rfl
 c210:=by kernel_rfl
 c212:=by kernel_rfl
 c213:=by kernel_rfl
 c232:=by kernel_rfl
 c233:=by kernel_rfl }
def Tryz.lays219_ren:Go.Shelf.Ren:=⟨λ| 219=>83 | 217=>125 | 225=>126 | 224=>127 | 267=>128 | 266=>196 | 314=>197 | n=>n,λ| 9=>9 | 3=>3 | 4=>4 | 5=>5 | 46=>197 | 146=>265 | 51=>264 | n=>n,λ| 1=>0 | n=>n⟩
theorem Tryz.lays219:Go.Proofs.Lays.n219 TP Tryz.lays219_ren:={
 mixed:=by kernel_rfl
 f217:=Tryz.func125.trans (congrArg some (by kernel_rfl))
 f219:=Tryz.func83.trans (congrArg some (by kernel_rfl))
 f224:=Tryz.func127.trans (congrArg some (by kernel_rfl))
 f225:=Tryz.func126.trans (congrArg some (by kernel_rfl))
 f266:=Tryz.func196.trans (congrArg some (by kernel_rfl))
 f267:=Tryz.func128.trans (congrArg some (by kernel_rfl))
 f314:=Tryz.func197.trans (congrArg some (by kernel_rfl))
 t3:=Tryz.underlying3
 a3:=Tryz.isAgg3
 z3:=Tryz.sizeOf3
 v3:=Tryz.zeroValue3
 t4:=Tryz.underlying4
 a4:=Tryz.isAgg4
 z4:=Tryz.sizeOf4
 v4:=Tryz.zeroValue4
 t5:=Tryz.underlying5
 a5:=Tryz.isAgg5
 z5:=Tryz.sizeOf5
 v5:=Tryz.zeroValue5
 t9:=Tryz.underlying9
 a9:=Tryz.isAgg9
 z9:=Tryz.sizeOf9
 v9:=Tryz.zeroValue9
 t46:=Tryz.underlying197
 a46:=Tryz.isAgg197
 z46:=Tryz.sizeOf197
 v46:=Tryz.zeroValue197
 t51:=Tryz.underlying264
 a51:=Tryz.isAgg264
 z51:=Tryz.sizeOf264
 v51:=Tryz.zeroValue264
 t146:=Tryz.underlying265
 a146:=Tryz.isAgg265
 z146:=Tryz.sizeOf265
 v146:=Tryz.zeroValue265
 g1:=by kernel_rfl }
def Tryz.lays143_ren:Go.Shelf.Ren:=⟨λ| 143=>87 | 219=>83 | 217=>125 | 225=>126 | 224=>127 | 267=>128 | 266=>196 | 314=>197 | n=>n,λ| 9=>9 | 3=>3 | 4=>4 | 5=>5 | 46=>197 | 146=>265 | 51=>264 | n=>n,λ| 1=>0 | n=>n⟩
theorem Tryz.lays143:Go.Proofs.Lays.n143 TP Tryz.lays143_ren:={
 mixed:=by kernel_rfl
 f143:=Tryz.func87.trans (congrArg some (by kernel_rfl))
 f217:=Tryz.func125.trans (congrArg some (by kernel_rfl))
 f219:=Tryz.func83.trans (congrArg some (by kernel_rfl))
 f224:=Tryz.func127.trans (congrArg some (by kernel_rfl))
 f225:=Tryz.func126.trans (congrArg some (by kernel_rfl))
 f266:=Tryz.func196.trans (congrArg some (by kernel_rfl))
 f267:=Tryz.func128.trans (congrArg some (by kernel_rfl))
 f314:=Tryz.func197.trans (congrArg some (by kernel_rfl))
 t3:=Tryz.underlying3
 a3:=Tryz.isAgg3
 z3:=Tryz.sizeOf3
 v3:=Tryz.zeroValue3
 t4:=Tryz.underlying4
 a4:=Tryz.isAgg4
 z4:=Tryz.sizeOf4
 v4:=Tryz.zeroValue4
 t5:=Tryz.underlying5
 a5:=Tryz.isAgg5
 z5:=Tryz.sizeOf5
 v5:=Tryz.zeroValue5
 t9:=Tryz.underlying9
 a9:=Tryz.isAgg9
 z9:=Tryz.sizeOf9
 v9:=Tryz.zeroValue9
 t46:=Tryz.underlying197
 a46:=Tryz.isAgg197
 z46:=Tryz.sizeOf197
 v46:=Tryz.zeroValue197
 t51:=Tryz.underlying264
 a51:=Tryz.isAgg264
 z51:=Tryz.sizeOf264
 v51:=Tryz.zeroValue264
 t146:=Tryz.underlying265
 a146:=Tryz.isAgg265
 z146:=Tryz.sizeOf265
 v146:=Tryz.zeroValue265
 g1:=by kernel_rfl }
def Tryz.lays138_ren:Go.Shelf.Ren:=⟨λ| 138=>85 | 195=>133 | 218=>134 | 143=>87 | 219=>83 | 217=>125 | 225=>126 | 224=>127 | 267=>128 | 266=>196 | 314=>197 | n=>n,λ| 9=>9 | 3=>3 | 4=>4 | 5=>5 | 0=>0 | 46=>197 | 146=>265 | 51=>264 | n=>n,λ| 1=>0 | n=>n⟩
theorem Tryz.lays138:Go.Proofs.Lays.n138 TP Tryz.lays138_ren:={
 mixed:=by kernel_rfl
 f138:=Tryz.func85.trans (congrArg some (by kernel_rfl))
 f143:=Tryz.func87.trans (congrArg some (by kernel_rfl))
 f195:=Tryz.func133.trans (congrArg some (by kernel_rfl))
 f217:=Tryz.func125.trans (congrArg some (by kernel_rfl))
 f218:=Tryz.func134.trans (congrArg some (by kernel_rfl))
 f219:=Tryz.func83.trans (congrArg some (by kernel_rfl))
 f224:=Tryz.func127.trans (congrArg some (by kernel_rfl))
 f225:=Tryz.func126.trans (congrArg some (by kernel_rfl))
 f266:=Tryz.func196.trans (congrArg some (by kernel_rfl))
 f267:=Tryz.func128.trans (congrArg some (by kernel_rfl))
 f314:=Tryz.func197.trans (congrArg some (by kernel_rfl))
 t0:=Tryz.underlying0
 a0:=Tryz.isAgg0
 z0:=Tryz.sizeOf0
 v0:=Tryz.zeroValue0
 t3:=Tryz.underlying3
 a3:=Tryz.isAgg3
 z3:=Tryz.sizeOf3
 v3:=Tryz.zeroValue3
 t4:=Tryz.underlying4
 a4:=Tryz.isAgg4
 z4:=Tryz.sizeOf4
 v4:=Tryz.zeroValue4
 t5:=Tryz.underlying5
 a5:=Tryz.isAgg5
 z5:=Tryz.sizeOf5
 v5:=Tryz.zeroValue5
 t9:=Tryz.underlying9
 a9:=Tryz.isAgg9
 z9:=Tryz.sizeOf9
 v9:=Tryz.zeroValue9
 t46:=Tryz.underlying197
 a46:=Tryz.isAgg197
 z46:=Tryz.sizeOf197
 v46:=Tryz.zeroValue197
 t51:=Tryz.underlying264
 a51:=Tryz.isAgg264
 z51:=Tryz.sizeOf264
 v51:=Tryz.zeroValue264
 t146:=Tryz.underlying265
 a146:=Tryz.isAgg265
 z146:=Tryz.sizeOf265
 v146:=Tryz.zeroValue265
 g1:=by kernel_rfl }
namespace Abs
open Go.RowKit Go.Sort
theorem la {w w'} (h:Below w.heap.size w w'):Fr [] w w' :=
 ⟨h.os,h.tape,h.output,h.size,λb hb _=>h.block b hb,λb hb=>by simp only [World.shape?,h.block b hb]⟩
theorem Jj {M} {w} {cargs} {q} (h:pk M w cargs [q]):∃ v,cargs=#[v]/\RepP M w v q:=by
 have hn:=h.1;refine ⟨cargs.getD 0 undef,?_,h.2 0 q rfl⟩;apply lA
 .simpa using hn
 .intro i h1 h2;have:i=0:=by simp at h2;omega
  subst this;simp [h1]
theorem xQ {M} {w} {cargs} {p q} (h:pk M w cargs [p,q]):∃ u v,cargs=#[u,v]/\RepP M w u p/\RepP M w v q:=by
 have hn:=h.1;refine ⟨cargs.getD 0 undef,cargs.getD 1 undef,?_,h.2 0 p rfl,h.2 1 q rfl⟩;apply lA
 .simpa using hn
 .intro i h1 h2;have:i=0\/i=1:=by simp at h2;omega
  rcases this with rfl | rfl<;>simp [h1]
def yj (n:Int):ByteArray:=⟨(Lib.itoa n).toArray⟩
theorem vH (n) (h0:-9223372036854775808<=n) (h1:n<=9223372036854775807):ah TP 32 [.int .i64 n] (.str (yj n)):=by
 intro M0 w cargs hM hg ha;obtain ⟨v,rfl,hv⟩:=Jj ha;cases hv;refine ⟨(λw'=>iz Tryz.func32 YZ _ w'),?_⟩;have hn:(TP.globalNamed "internal/strconv.uint64pow10").isSome=true:=by kernel_rfl
 obtain ⟨b,hb⟩:=fQ.1 hn;refine (Any.strconv_Itoa Tryz.laysM171 n h0 h1 w (hg.1 b hb)).mono ?_
 rintro e w' ⟨rfl,k,os,rfl⟩
 exact ⟨_,rfl,.str _,la (Lib.below_grow _ _ (bR _) _ _)⟩
def jI (s:ByteArray):PV :=
 match Lib.atoiAll s.data.toList with
 |.ok v=>.tuple [.int .i64 v,.niliface]
 |.range=>.tuple [.int .i64 (Lib.atoiSat s.data.toList),.iface 309 .any]
 |_=>.tuple [.int .i64 0,.iface 309 .any]
theorem vg {M} {w} {a b} {p q} (h1:RepP M w a p) (h2:RepP M w b q):RepP M w (.tuple #[a,b]) (.tuple [p,q]) :=
 .tuple rfl λi c hi=>by
  match i,hi with
  |0,hi=>cases hi;exact h1
  |1,hi=>cases hi;exact h2
theorem B0 (s) (hs:s.size<=281474976710656):ah TP 103 [.str s] (jI s):=by
 intro M0 w cargs hM hg ha;obtain ⟨v,rfl,hv⟩:=Jj ha;cases hv;refine ⟨(λw'=>iz Tryz.func103 V3 _ w'),?_⟩;unfold jI
 cases hr:Lib.atoiAll s.data.toList with
 |ok v =>
  refine (Any.strconv_Atoi_ok Tryz.laysC172 s (by omega) v hr w).mono ?_
  rintro e w' ⟨rfl,h⟩
  refine ⟨_,rfl,vg (.int _ _) .niliface,?_⟩;rcases h with rfl | ⟨t,rfl⟩
  .exact Fr.refl _ _
  .exact la (Lib.bytesWorld_below _ _ _)
 |range =>
  have hn:(TP.globalNamed "strconv.ErrRange").isSome=true:=by kernel_rfl
  obtain ⟨b,hb⟩:=fQ.1 hn;obtain ⟨tp,p,hvar⟩:=hg.2.2 b hb;refine (Any.strconv_Atoi_range_var Tryz.laysC172 s hs hr tp p w hvar).mono ?_
  rintro e w' ⟨N,rfl,_,_,hbl⟩
  exact ⟨_,rfl,vg (.int _ _) (.iface .any),la hbl⟩
 |_ =>
  have hn:(TP.globalNamed "strconv.ErrSyntax").isSome=true:=by kernel_rfl
  obtain ⟨b,hb⟩:=fQ.1 hn;obtain ⟨tp,p,hvar⟩:=hg.2.1 b hb;refine (Any.strconv_Atoi_syntax_var Tryz.laysC172 s hs hr tp p w hvar).mono ?_
  rintro e w' ⟨N,rfl,_,_,hbl⟩
  exact ⟨_,rfl,vg (.int _ _) (.iface .any),la hbl⟩
theorem Ib (s) (c):ah TP 83 [.str s,.str ⟨#[c]⟩] (.int .i64 (Lib.indexByte s.data.toList c)):=by
 intro M0 w cargs hM hg ha;obtain ⟨u,v,rfl,hu,hv⟩:=xQ ha;cases hu;cases hv;refine ⟨(λw'=>iz Tryz.func83 YE _ w'),?_⟩;refine (Any.stringslite_Index_one Tryz.lays219 s c w).mono ?_
 rintro e w' ⟨rfl,rfl⟩
 exact ⟨_,rfl,.int _ _,Fr.refl _ _⟩
theorem DQ (s) (c):ah TP 87 [.str s,.str ⟨#[c]⟩] (.int .i64 (Lib.indexByte s.data.toList c)):=by
 intro M0 w cargs hM hg ha;obtain ⟨u,v,rfl,hu,hv⟩:=xQ ha;cases hu;cases hv;refine ⟨(λw'=>iz Tryz.func87 YC _ w'),?_⟩;refine (Any.strings_Index_one Tryz.lays143 s c w).mono ?_
 rintro e w' ⟨rfl,rfl⟩
 exact ⟨_,rfl,.int _ _,Fr.refl _ _⟩
theorem Kn (s) (c):ah TP 85 [.str s,.str ⟨#[c]⟩] (.int .i64 (Lib.countByte s.data.toList c)):=by
 intro M0 w cargs hM hg ha;obtain ⟨u,v,rfl,hu,hv⟩:=xQ ha;cases hu;cases hv;refine ⟨(λw'=>iz Tryz.func85 YD _ w'),?_⟩;refine (Any.strings_Count_one Tryz.lays138 s c w).mono ?_
 rintro e w' ⟨rfl,rfl⟩
 exact ⟨_,rfl,.int _ _,Fr.refl _ _⟩
set_option maxRecDepth 4000
def bs (l:List UInt8):ByteArray:=⟨l.toArray⟩
theorem fp (l):(bs l).data.toList=l:=rfl
theorem aw (l):(bs l).size=l.length:=by simp [bs,ByteArray.size]
theorem uH (s):bs s.data.toList=s:=by cases s;rfl
theorem eo (l) (i j):(bs l).extract i j=bs ((l.take j).drop i):=by
 apply ByteArray.ext;rw [ByteArray.data_extract];simp [bs,List.drop_take]
theorem fK (a b):bs a++bs b=bs (a++b):=by
 apply ByteArray.ext;simp [bs]
theorem R2 {a b}:bs a=bs b↔a=b :=
 ⟨λh=>by have:=congrArg (λs:ByteArray=>s.data.toList) h;simpa [fp] using this,λh=>h▸rfl⟩
theorem qG (x y:ByteArray):(x==y)=true↔x=y:=by
 cases x with
 |mk a =>
  cases y with
  |mk b =>
   show (a==b)=true↔_;rw [beq_iff_eq];exact ⟨λh=>h▸rfl,λh=>by cases h;rfl⟩
theorem dd (a b):(bs a==bs b)=(a==b):=by
 rw [rW,qG,beq_iff_eq,R2]
def aF (c:UInt8):List UInt8->List UInt8×Option (List UInt8)
 |[]=>([],none)
 |x::r=>if x=c then ([],some r) else (x::(aF c r).1,(aF c r).2)
theorem kH (c):∀ l,((aF c l).2=none/\(aF c l).1=l/\Lib.indexByte l c=-1) \/
  ∃ r,(aF c l).2=some r/\Lib.indexByte l c=((aF c l).1.length:Int)/\l=(aF c l).1++c::r
 |[]=>.inl ⟨rfl,rfl,rfl⟩
 |x::l=>by
  unfold aF Lib.indexByte;by_cases hx:x=c
  .subst hx;simp
  .have hb:(x==c)=false:=by simpa using hx
   rw [if_neg hx,hb];simp only [fa,if_false];rcases kH c l with ⟨h1,h2,h3⟩ | ⟨r,h1,h2,h3⟩
   .exact .inl ⟨h1,by simp [h2],by simp [h3]⟩
   .refine .inr ⟨r,h1,?_,?_⟩
    .rw [h2];have:¬ ((((aF c l).1.length:Int)==-1)=true):=by simp
     rw [if_neg this];simp
    .simp [<-h3]
theorem s5 (c):∀ (l r),(aF c l).2=some r->r.length<l.length:=by
 intro l r h;rcases kH c l with ⟨h1,_⟩ | ⟨r',h1,_,h3⟩
 .rw [h1] at h;cases h
 .rw [h1] at h;cases h;have:=congrArg List.length h3;simp at this;omega
theorem Ms (l) (c) (hl:l.length<1000000000):ah TP 53 [.str (bs l),.str (bs [c])] (.tuple [.str (bs (aF c l).1),.str (bs ((aF c l).2.getD [])),.bool (aF c l).2.isSome]):=by
 refine aa (ai (by kernel_rfl) rfl YO) rfl ?_;simp only [go_sem,simprocAttr];refine ae (Ib (bs l) c) rfl ?_;rw [fp];rcases kH c l with ⟨h1,h2,h3⟩ | ⟨r,h1,h2,h3⟩
 .simp only [h1,h2,h3,go_sem,simprocAttr];exact ⟨rfl,rfl⟩
 .have hlen:=congrArg List.length h3;simp only [aP,e9] at hlen;have e0:decide ((0:Int)<=((aF c l).1.length:Int))=true:=by simp
  have e1:(((aF c l).1.length:Int)<=((bs l).size:Int)):=by rw [aw];omega
  have e2:IntKind.i64.wrap (((aF c l).1.length:Int)+(((bs [c]).size:Nat):Int))=(((aF c l).1.length+1:Nat):Int):=by
   rw [aw];exact bI (by omega) (by simp [aB];omega) (by simp)
  have e3:((((aF c l).1.length+1:Nat):Int)<=((bs l).size:Int)):=by rw [aw];omega
  have e4:(bs l).extract 0 (aF c l).1.length=bs (aF c l).1:=by
   rw [eo,qM]
   congr 1
   have:=congrArg (List.take (aF c l).1.length) h3;rw [fD] at this
   .exact this
   .rfl
  have e5:(bs l).extract ((aF c l).1.length+1) (bs l).size=bs r:=by
   rw [eo,aw,oN]
   congr 1
   have:=congrArg (List.drop ((aF c l).1.length+1)) h3;rw [this];simp
  simp only [h1,h2,e1,e2,e3,e4,e5,go_sem,simprocAttr];try exact ⟨rfl,rfl⟩
theorem rH (l) (c) (hl:l.length<1000000000):ah TP 31 [.str (bs l),.str (bs [c])] (.tuple [.str (bs (aF c l).1),.str (bs ((aF c l).2.getD [])),.bool (aF c l).2.isSome]):=by
 refine aa (ai (by kernel_rfl) rfl Y0) rfl ?_;simp only [go_sem,simprocAttr];refine ae (Ms l c hl) rfl ?_;simp only [go_sem,simprocAttr]
def nB (c:UInt8) (l:List UInt8):List UInt8:=if l.getLast?=some c then l.dropLast else l
theorem Ic (l) (c) (hl:l.length<1000000000):ah TP 303 [.str (bs l),.str (bs [c])] (.bool (decide (l.getLast?=some c))):=by
 refine aa (ai (by kernel_rfl) rfl TE) rfl ?_;rcases K0 l with rfl | ⟨a,x,rfl⟩
 .have e1:decide ((((bs [c]).size:Nat):Int)<=(((bs []).size:Nat):Int))=false:=by rw [aw,aw];simp
  simp only [e1,go_sem,simprocAttr];simp
 .rw [KU] at hl |-;have e1:decide ((((bs [c]).size:Nat):Int)<=(((bs (a++[x])).size:Nat):Int))=true:=by rw [aw,aw];simp<;>omega
  have e2:IntKind.i64.wrap ((((bs (a++[x])).size:Nat):Int)-(((bs [c]).size:Nat):Int))=((a.length:Nat):Int):=by
   rw [aw,aw,dj (by simp) (by simp [aB] at hl |-;omega)];simp
  have e3:((a.length:Nat):Int)<=(((bs (a++[x])).size:Nat):Int):=by rw [aw];simp<;>omega
  have e4:(bs (a++[x])).extract a.length (bs (a++[x])).size=bs [x]:=by
   rw [eo,aw,oN];simp
  have e5:(bs [x]==bs [c])=decide ((a++[x]).getLast?=some c):=by
   rw [dd,List.getLast?_concat,rW];simp
  simp only [e1,e2,e3,e4,e5,go_sem,simprocAttr]
theorem Kh (l) (c) (hl:l.length<1000000000):ah TP 278 [.str (bs l),.str (bs [c])] (.str (bs (nB c l))):=by
 refine aa (ai (by kernel_rfl) rfl T0) rfl ?_;simp only [go_sem,simprocAttr];refine ae (Ic l c hl) rfl ?_;by_cases h:l.getLast?=some c
 .have e1:IntKind.i64.wrap ((((bs l).size:Nat):Int)-(((bs [c]).size:Nat):Int))=((l.length-1:Nat):Int):=by
   have:l≠[]:=by rintro rfl;simp at h
   have:0<l.length:=KS.2 this;rw [aw,aw,dj (by simp;omega) (by simp [aB];omega)];simp;omega
  have e2:((l.length-1:Nat):Int)<=(((bs l).size:Nat):Int):=by rw [aw];omega
  have e3:(bs l).extract 0 (l.length-1)=bs l.dropLast:=by rw [eo,qM,List.dropLast_eq_take]
  simp only [h,e1,e2,e3,nB,go_sem,simprocAttr]
 .simp only [h,nB,go_sem,simprocAttr]
theorem Fi (l) (c) (hl:l.length<1000000000):ah TP 234 [.str (bs l),.str (bs [c])] (.str (bs (nB c l))):=by
 refine aa (ai (by kernel_rfl) rfl Uy) rfl ?_;simp only [go_sem,simprocAttr];refine ae (Kh l c hl) rfl ?_;simp only [go_sem,simprocAttr]
def aN (c:UInt8):List UInt8->List (List UInt8)
 |[]=>[[]]
 |x::r=>if x=c then []::aN c r else match aN c r with | []=>[[x]] | a::t=>(x::a)::t
theorem kB (c):∀ l,aN c l=(aF c l).1::(match (aF c l).2 with | none=>[] | some r=>aN c r)
 |[]=>rfl
 |x::r=>by
  by_cases hx:x=c
  .simp only [aN,aF,if_pos hx]
  .simp only [aN,aF,if_neg hx];rw [kB c r]
theorem kV {c} {l} (h:(aF c l).2=none):aN c l=[l]:=by
 rcases kH c l with ⟨h1,h2,h3⟩ | ⟨r,h1,_⟩
 .rw [kB,h1,h2]
 .rw [h1] at h;cases h
theorem kU {c} {l r} (h:(aF c l).2=some r):aN c l=(aF c l).1::aN c r:=by
 rw [kB,h]
theorem l7 (c):∀ l,(aN c l).length=l.count c+1
 |[]=>rfl
 |x::r=>by
  have ih:=l7 c r;unfold aN;by_cases hx:x=c
  .subst hx;simp [ih]
  .rw [if_neg hx,List.count_cons_of_ne hx]
   cases hs:aN c r with
   |nil=>rw [hs] at ih;simp at ih
   |cons a t=>rw [hs] at ih;simpa using ih
theorem l6 (c) (l):0<(aN c l).length:=by rw [l7];omega
theorem qp (c) (l):(aN c l).length<=l.length+1:=by rw [l7];have:=List.count_le_length (a:=c) (l:=l);omega
def bA (l:List (List UInt8)):PV:=.slice 1 (l.map λx=>.str (bs x)) false
def eR (N:Nat) (done:List (List UInt8)):List AV:=(done.map λx=>AV.p (.str (bs x)))++List.replicate (N-done.length) (AV.p (.str ⟨#[]⟩))
theorem Cq {N} {done} (h:done.length<=N):(eR N done).length=N:=by simp [eR];omega
theorem EJ {N} {done} (h:done.length<N):(eR N done)[done.length]?=some (AV.p (.str ⟨#[]⟩)):=by
 unfold eR;rw [cD (by simp),KZ];simp;omega
theorem tO {N} {done} (x) (h:done.length<N):(eR N done).set done.length (AV.p (.str (bs x)))=eR N (done++[x]):=by
 unfold eR;rw [wx _ _ (by simp)];obtain ⟨k,hk⟩:∃ k,N-done.length=k+1:=⟨N-done.length-1,by omega⟩
 have hk2:N-(done++[x]).length=k:=by simp;omega
 rw [hk,hk2];simp [BO]
theorem Cr {N} {done} (h:done.length=N):eR N done=done.map λx=>AV.p (.str (bs x)):=by
 unfold eR;rw [h];simp
theorem zm (n N) (done):∀ x,x∈eR N done->below n x:=by
 intro x hx;simp only [eR,bX,dD,List.mem_replicate] at hx;rcases hx with ⟨_,_,rfl⟩ | ⟨_,rfl⟩<;>exact trivial
theorem Kk (l) (c) (hl:l.length<1000000000):ah TP 169 [.str (bs l),.str (bs [c]),.int .i64 0,.int .i64 (-1)] (bA (aN c l)):=by
 refine cI (ai (by kernel_rfl) rfl Vf) rfl ?_;have hsep:(bs [c]==(⟨#[]⟩:ByteArray))=false:=by
  rw [show (⟨#[]⟩:ByteArray)=bs [] from rfl,dd];rfl
 obtain ⟨N,hN⟩:∃ N,N=(aN c l).length:=⟨_,rfl⟩
 have hN1:0<N:=hN▸l6 c l;have hNl:N<=l.length+1:=hN▸qp c l;have hcnt:IntKind.i64.wrap ((Lib.countByte (bs l).data.toList c:Int)+1)=(N:Int):=by
  refine bI (by omega) (by simp [aB];omega) ?_;rw [fp];unfold Lib.countByte;rw [hN,l7];rfl
 simp only [hsep,go_sem,simprocAttr];refine ae (Kn (bs l) c) rfl ?_;have hw:IntKind.i64.wrap ((((bs l).size:Nat):Int)+1)=((l.length+1:Nat):Int):=by
  rw [aw];exact bI (by omega) (by simp [aB];omega) (by simp)
 have hmin:¬ (((l.length+1:Nat):Int)<(N:Int)):=by omega
 have hroom:((N:Int)<=((aB:Nat):Int)):=by simp [aB];omega
 have hN2:IntKind.i64.wrap ((N:Int)-1)=((N-1:Nat):Int):=by rw [dj (by omega) (by simp [aB];omega)];omega
 simp only [hcnt,hw,hmin,hroom,hN2,go_sem,simprocAttr]
 refine i7 [1,2,3,9] (σ:=List (List UInt8)×List UInt8) (λq=>aN c l=q.1++aN c q.2/\q.2.length<=l.length) (λq=>q.2.length)
  (λq=>[(0,.p (.str (bs q.2))),(10,.p (.int .i64 q.1.length))]) (λq=>[.row 1 (eR N q.1)]) ([],l) ⟨rfl,bR _⟩ ?_ ?_
 .simp only [eR,go_sem,simprocAttr];all_goals first | (simp;done) | (simp;intro _;trivial)
 rintro ⟨done,r⟩ ⟨e1,e2⟩
 dsimp only at e1 e2;have hlen:=congrArg List.length e1;rw [<-hN,aP] at hlen;have hlt0:done.length<N:=by have:=l6 c r;omega
 have hrl:=Cq (Nat.le_of_lt hlt0);have hat:=EJ hlt0;have hi0:(done.length:Int)<(N:Int):=by omega
 rcases kH c r with ⟨h1,h2,h3⟩ | ⟨r',h1,h2,h3⟩
 .have hs:=kV h1;rw [hs,bu] at hlen;have hge:decide ((done.length:Int)<((N-1:Nat):Int))=false:=by simp;omega
  have hset:=tO r hlt0;have hall:eR N (done++[r])=(aN c l).map λx=>AV.p (.str (bs x)):=by rw [Cr (by simp;omega),e1,hs]
  have hw2:IntKind.i64.wrap ((done.length:Int)+1)=(N:Int):=bI (by omega) (by simp [aB];omega) (by omega);have hN3:(aN c l).length=N:=hN.symm;simp only [hge,hrl,hat,hi0,hset,hall,hw2,hN3,go_sem,simprocAttr];rw [bA,Nat.sub_zero,fx (by simp [hN3])]
 .have hs:=kU h1;have hlt:decide ((done.length:Int)<((N-1:Nat):Int))=true:=by
   have:=l6 c r';have:=congrArg List.length hs;simp at this |-;omega
  have hset:=tO (aF c r).1 hlt0;have hrlen:=congrArg List.length h3;simp only [aP,e9] at hrlen;simp only [hlt,go_sem,simprocAttr];refine ae (DQ (bs r) c) rfl ?_;have hd:Lib.indexByte (bs r).data.toList c=((aF c r).1.length:Int):=h2;have f0:decide (((aF c r).1.length:Int)<0)=false:=by simp
  have f1:IntKind.i64.wrap (((aF c r).1.length:Int)+0)=((aF c r).1.length:Int):=bI (by omega) (by simp [aB];omega) (by simp);have f2:(((aF c r).1.length:Int)<=((bs r).size:Int)):=by rw [aw];omega
  have f3:(bs r).extract 0 (aF c r).1.length=bs (aF c r).1:=by
   rw [eo,qM]
   congr 1
   have:=congrArg (List.take (aF c r).1.length) h3;rw [fD] at this
   .exact this
   .rfl
  have f4:IntKind.i64.wrap (((aF c r).1.length:Int)+(((bs [c]).size:Nat):Int))=(((aF c r).1.length+1:Nat):Int):=by
   rw [aw];exact bI (by omega) (by simp [aB];omega) (by simp)
  have f5:((((aF c r).1.length+1:Nat):Int)<=((bs r).size:Int)):=by rw [aw];omega
  have f6:(bs r).extract ((aF c r).1.length+1) (bs r).size=bs r':=by
   rw [eo,aw,oN]
   congr 1
   have:=congrArg (List.drop ((aF c r).1.length+1)) h3;rw [this];simp
  have hnx:IntKind.i64.wrap ((done.length:Int)+1)=(((done++[(aF c r).1]).length:Nat):Int):=bI (by omega) (by simp [aB];omega) (by simp);simp only [hd,f0,f1,f2,f3,f4,f5,f6,hrl,hat,hi0,hset,go_sem,simprocAttr];refine dp (done++[(aF c r).1],r') ⟨by rw [e1,hs];simp,by show r'.length<=l.length;omega⟩ (by show r'.length<r.length;omega) ?_;simp only [hnx,go_sem,simprocAttr];exact zm _ _ _
theorem A0 (l) (c) (hl:l.length<1000000000):ah TP 98 [.str (bs l),.str (bs [c])] (bA (aN c l)):=by
 refine aa (ai (by kernel_rfl) rfl Yt) rfl ?_;simp only [go_sem,simprocAttr];refine ae (Kk l c hl) rfl ?_;simp only [go_sem,simprocAttr]
theorem Ap (c) (l):aN c l≠[]:=λh=>by have:=l6 c l;rw [h] at this;simp at this
end Abs
end Go.Proofs.YtfafnkpfamgbbaaGreatDoor
