/- CONTRACTS of the program's functions, and laws on what they return. No conditions but those in the theorems' heads. -/
import Derived.Shelf.LaysM
import Derived.Shelf.LaysC
import Derived.Shelf.Strconv.Itoa3
import Derived.Shelf.Strconv.AtoiAll
import Derived.Shelf.Strconv.ErrVarAll
import Derived.Shelf.Strings.Search3
import Derived.Shelf.Strings.Count
import Derived.Lib.AppendIntMem
import Derived.Lib.AtoiErrMem
import Derived.Test.YtnjiadikeacfaaaGreatDoorLibGoX
set_option linter.all false
open Go.Proofs.Tryz renaming prog->TP
namespace Go.Proofs.YtnjiadikeacfaaaGreatDoor
open Go.Shelf
def Tryz.laysM171_ren:Go.Shelf.Ren:=⟨λ| 171=>90|243=>114|246=>165|283=>229|284=>230|285=>231|286=>232|129=>281|317=>280|318=>282|319=>283|320=>284|337=>304|338=>305|n=>n,λ| 3=>3|9=>9|2=>2|4=>4|171=>292|0=>0|53=>293|37=>43|5=>5|173=>296|212=>360|51=>347|20=>20|213=>361|46=>285|232=>414|233=>415|n=>n,λ| 17=>5|18=>6|19=>7|n=>n⟩
theorem Tryz.laysM171:Go.Proofs.LaysM.n171 TP Tryz.laysM171_ren:={
 mixed:=by kernel_rfl
 f129:=Tryz.func281.trans (congrArg some (by kernel_rfl))
 f171:=Tryz.func90.trans (congrArg some (by kernel_rfl))
 f243:=Tryz.func114.trans (congrArg some (by kernel_rfl))
 f246:=Tryz.func165.trans (congrArg some (by kernel_rfl))
 f283:=Tryz.func229.trans (congrArg some (by kernel_rfl))
 f284:=Tryz.func230.trans (congrArg some (by kernel_rfl))
 f285:=Tryz.func231.trans (congrArg some (by kernel_rfl))
 f286:=Tryz.func232.trans (congrArg some (by kernel_rfl))
 f317:=Tryz.func280.trans (congrArg some (by kernel_rfl))
 f318:=Tryz.func282.trans (congrArg some (by kernel_rfl))
 f319:=Tryz.func283.trans (congrArg some (by kernel_rfl))
 f320:=Tryz.func284.trans (congrArg some (by kernel_rfl))
 f337:=Tryz.func304.trans (congrArg some (by kernel_rfl))
 f338:=Tryz.func305.trans (congrArg some (by kernel_rfl))
 t0:=Tryz.underlying0
 a0:=Tryz.isAgg0
 z0:=Tryz.sizeOf0
 v0:=Tryz.zeroValue0
 t2:=Tryz.underlying2
 a2:=Tryz.isAgg2
 z2:=Tryz.sizeOf2
 v2:=Tryz.zeroValue2
 t3:=Tryz.underlying3
 a3:=Tryz.isAgg3
 z3:=Tryz.sizeOf3
 v3:=Tryz.zeroValue3
 t4:=Tryz.underlying4
 a4:=Tryz.isAgg4
 z4:=Tryz.sizeOf4
 v4:=Tryz.zeroValue4
 t5:=Tryz.underlying5
 a5:=Tryz.isAgg5
 z5:=Tryz.sizeOf5
 v5:=Tryz.zeroValue5
 t9:=Tryz.underlying9
 a9:=Tryz.isAgg9
 z9:=Tryz.sizeOf9
 v9:=Tryz.zeroValue9
 t20:=Tryz.underlying20
 a20:=Tryz.isAgg20
 z20:=Tryz.sizeOf20
 v20:=Tryz.zeroValue20
 t37:=Tryz.underlying43
 a37:=Tryz.isAgg43
 z37:=Tryz.sizeOf43
 v37:=Tryz.zeroValue43
 t46:=Tryz.underlying285
 a46:=Tryz.isAgg285
 z46:=Tryz.sizeOf285
 v46:=Tryz.zeroValue285
 t51:=Tryz.underlying347
 a51:=Tryz.isAgg347
 z51:=Tryz.sizeOf347
 v51:=Tryz.zeroValue347
 t53:=Tryz.underlying293
 a53:=Tryz.isAgg293
 z53:=Tryz.sizeOf293
 v53:=Tryz.zeroValue293
 t171:=Tryz.underlying292
 a171:=Tryz.isAgg292
 z171:=Tryz.sizeOf292
 v171:=Tryz.zeroValue292
 t173:=Tryz.underlying296
 a173:=Tryz.isAgg296
 z173:=Tryz.sizeOf296
 v173:=Tryz.zeroValue296
 t212:=Tryz.underlying360
 a212:=Tryz.isAgg360
 z212:=Tryz.sizeOf360
 v212:=Tryz.zeroValue360
 t213:=Tryz.underlying361
 a213:=Tryz.isAgg361
 z213:=Tryz.sizeOf361
 t232:=Tryz.underlying414
 a232:=Tryz.isAgg414
 z232:=Tryz.sizeOf414
 v232:=Tryz.zeroValue414
 t233:=Tryz.underlying415
 a233:=Tryz.isAgg415
 z233:=Tryz.sizeOf415
 v233:=Tryz.zeroValue415
 g17:=by kernel_rfl
 g18:=by kernel_rfl
 g19:=by kernel_rfl
 i0:=by kernel_rfl
 i2:=by kernel_rfl
 i3:=by kernel_rfl
 i4:=by kernel_rfl
 i5:=by kernel_rfl
 i9:=by kernel_rfl
 i20:=by kernel_rfl
 i37:=by kernel_rfl
 i46:=by kernel_rfl
 i51:=by kernel_rfl
 i53:=by kernel_rfl
 i171:=by kernel_rfl
 i173:=by kernel_rfl
 i212:=by kernel_rfl
 i232:=by kernel_rfl
 i233:=by kernel_rfl
 m17:=by kernel_rfl
 m18:=by kernel_rfl
 m19:=by kernel_rfl }
def Tryz.laysC172_ren:Go.Shelf.Ren:=⟨λ| 172=>107|244=>160|245=>161|247=>223|279=>224|280=>225|281=>226|282=>227|287=>277|316=>278|171=>90|205=>279|321=>302|322=>303|243=>114|246=>165|283=>229|284=>230|285=>231|286=>232|129=>281|317=>280|318=>282|319=>283|320=>284|337=>304|338=>305|n=>n,λ| 9=>9|3=>3|75=>114|76=>115|4=>4|5=>5|167=>286|37=>43|0=>0|85=>287|2=>2|168=>289|53=>293|175=>350|46=>285|210=>353|127=>191|145=>391|143=>389|21=>21|171=>292|173=>296|212=>360|51=>347|20=>20|213=>361|232=>414|233=>415|80=>91|n=>n,λ| 15=>1|16=>2|17=>5|18=>6|19=>7|n=>n⟩
theorem Tryz.laysC172:Go.Proofs.LaysC.n172 TP Tryz.laysC172_ren:={
 mixed:=by kernel_rfl
 f129:=Tryz.func281.trans (congrArg some (by kernel_rfl))
 f171:=Tryz.func90.trans (congrArg some (by kernel_rfl))
 f172:=Tryz.func107.trans (congrArg some (by kernel_rfl))
 f205:=Tryz.func279.trans (congrArg some (by kernel_rfl))
 f243:=Tryz.func114.trans (congrArg some (by kernel_rfl))
 f244:=Tryz.func160.trans (congrArg some (by kernel_rfl))
 f245:=Tryz.func161.trans (congrArg some (by kernel_rfl))
 f246:=Tryz.func165.trans (congrArg some (by kernel_rfl))
 f247:=Tryz.func223.trans (congrArg some (by kernel_rfl))
 f279:=Tryz.func224.trans (congrArg some (by kernel_rfl))
 f280:=Tryz.func225.trans (congrArg some (by kernel_rfl))
 f281:=Tryz.func226.trans (congrArg some (by kernel_rfl))
 f282:=Tryz.func227.trans (congrArg some (by kernel_rfl))
 f283:=Tryz.func229.trans (congrArg some (by kernel_rfl))
 f284:=Tryz.func230.trans (congrArg some (by kernel_rfl))
 f285:=Tryz.func231.trans (congrArg some (by kernel_rfl))
 f286:=Tryz.func232.trans (congrArg some (by kernel_rfl))
 f287:=Tryz.func277.trans (congrArg some (by kernel_rfl))
 f316:=Tryz.func278.trans (congrArg some (by kernel_rfl))
 f317:=Tryz.func280.trans (congrArg some (by kernel_rfl))
 f318:=Tryz.func282.trans (congrArg some (by kernel_rfl))
 f319:=Tryz.func283.trans (congrArg some (by kernel_rfl))
 f320:=Tryz.func284.trans (congrArg some (by kernel_rfl))
 f321:=Tryz.func302.trans (congrArg some (by kernel_rfl))
 f322:=Tryz.func303.trans (congrArg some (by kernel_rfl))
 f337:=Tryz.func304.trans (congrArg some (by kernel_rfl))
 f338:=Tryz.func305.trans (congrArg some (by kernel_rfl))
 t0:=Tryz.underlying0
 a0:=Tryz.isAgg0
 z0:=Tryz.sizeOf0
 v0:=Tryz.zeroValue0
 t2:=Tryz.underlying2
 a2:=Tryz.isAgg2
 z2:=Tryz.sizeOf2
 v2:=Tryz.zeroValue2
 t3:=Tryz.underlying3
 a3:=Tryz.isAgg3
 z3:=Tryz.sizeOf3
 v3:=Tryz.zeroValue3
 t4:=Tryz.underlying4
 a4:=Tryz.isAgg4
 z4:=Tryz.sizeOf4
 v4:=Tryz.zeroValue4
 t5:=Tryz.underlying5
 a5:=Tryz.isAgg5
 z5:=Tryz.sizeOf5
 v5:=Tryz.zeroValue5
 t9:=Tryz.underlying9
 a9:=Tryz.isAgg9
 z9:=Tryz.sizeOf9
 v9:=Tryz.zeroValue9
 t20:=Tryz.underlying20
 a20:=Tryz.isAgg20
 z20:=Tryz.sizeOf20
 v20:=Tryz.zeroValue20
 t21:=Tryz.underlying21
 a21:=Tryz.isAgg21
 z21:=Tryz.sizeOf21
 v21:=Tryz.zeroValue21
 t37:=Tryz.underlying43
 a37:=Tryz.isAgg43
 z37:=Tryz.sizeOf43
 v37:=Tryz.zeroValue43
 t46:=Tryz.underlying285
 a46:=Tryz.isAgg285
 z46:=Tryz.sizeOf285
 v46:=Tryz.zeroValue285
 t51:=Tryz.underlying347
 a51:=Tryz.isAgg347
 z51:=Tryz.sizeOf347
 v51:=Tryz.zeroValue347
 t53:=Tryz.underlying293
 a53:=Tryz.isAgg293
 z53:=Tryz.sizeOf293
 v53:=Tryz.zeroValue293
 t75:=Tryz.underlying114
 a75:=Tryz.isAgg114
 z75:=Tryz.sizeOf114
 v75:=Tryz.zeroValue114
 t76:=Tryz.underlying115
 a76:=Tryz.isAgg115
 z76:=Tryz.sizeOf115
 v76:=Tryz.zeroValue115
 t85:=Tryz.underlying287
 a85:=Tryz.isAgg287
 z85:=Tryz.sizeOf287
 v85:=Tryz.zeroValue287
 t127:=Tryz.underlying191
 a127:=Tryz.isAgg191
 z127:=Tryz.sizeOf191
 v127:=Tryz.zeroValue191
 t143:=Tryz.underlying389
 a143:=Tryz.isAgg389
 z143:=Tryz.sizeOf389
 v143:=Tryz.zeroValue389
 t145:=Tryz.underlying391
 a145:=Tryz.isAgg391
 z145:=Tryz.sizeOf391
 v145:=Tryz.zeroValue391
 t167:=Tryz.underlying286
 a167:=Tryz.isAgg286
 z167:=Tryz.sizeOf286
 v167:=Tryz.zeroValue286
 t168:=Tryz.underlying289
 a168:=Tryz.isAgg289
 z168:=Tryz.sizeOf289
 v168:=Tryz.zeroValue289
 t171:=Tryz.underlying292
 a171:=Tryz.isAgg292
 z171:=Tryz.sizeOf292
 v171:=Tryz.zeroValue292
 t173:=Tryz.underlying296
 a173:=Tryz.isAgg296
 z173:=Tryz.sizeOf296
 v173:=Tryz.zeroValue296
 t175:=Tryz.underlying350
 a175:=Tryz.isAgg350
 z175:=Tryz.sizeOf350
 v175:=Tryz.zeroValue350
 t210:=Tryz.underlying353
 a210:=Tryz.isAgg353
 z210:=Tryz.sizeOf353
 v210:=Tryz.zeroValue353
 t212:=Tryz.underlying360
 a212:=Tryz.isAgg360
 z212:=Tryz.sizeOf360
 v212:=Tryz.zeroValue360
 t213:=Tryz.underlying361
 a213:=Tryz.isAgg361
 z213:=Tryz.sizeOf361
 t232:=Tryz.underlying414
 a232:=Tryz.isAgg414
 z232:=Tryz.sizeOf414
 v232:=Tryz.zeroValue414
 t233:=Tryz.underlying415
 a233:=Tryz.isAgg415
 z233:=Tryz.sizeOf415
 v233:=Tryz.zeroValue415
 g15:=by kernel_rfl
 g16:=by kernel_rfl
 g17:=by kernel_rfl
 g18:=by kernel_rfl
 g19:=by kernel_rfl
 t80:=Tryz.underlying91
 a80:=Tryz.isAgg91
 z80:=Tryz.sizeOf91
 v80:=Tryz.zeroValue91
 i0:=by kernel_rfl
 i2:=by kernel_rfl
 i3:=by kernel_rfl
 i4:=by kernel_rfl
 i5:=by kernel_rfl
 i9:=by kernel_rfl
 i20:=by kernel_rfl
 i21:=by kernel_rfl
 i37:=by kernel_rfl
 i46:=by kernel_rfl
 i51:=by kernel_rfl
 i53:=by kernel_rfl
 i75:=by kernel_rfl
 i76:=by kernel_rfl
 i80:=by kernel_rfl
 i85:=by kernel_rfl
 i127:=by kernel_rfl
 i143:=by kernel_rfl
 i145:=by kernel_rfl
 i167:=by kernel_rfl
 i168:=by kernel_rfl
 i171:=by kernel_rfl
 i173:=by kernel_rfl
 i175:=by kernel_rfl
 i210:=by kernel_rfl
 i212:=by kernel_rfl
 i232:=by kernel_rfl
 i233:=by kernel_rfl
 m15:=by kernel_rfl
 m16:=by kernel_rfl
 m17:=by kernel_rfl
 m18:=by kernel_rfl
 m19:=by kernel_rfl
 c0:=by kernel_rfl
 c2:=by kernel_rfl
 c3:=by kernel_rfl
 c4:=by kernel_rfl
 c5:=by kernel_rfl
 c9:=by kernel_rfl
 c20:=by kernel_rfl
 c21:=by kernel_rfl
 c37:=by kernel_rfl
 c46:=by kernel_rfl
 c51:=by kernel_rfl
 c53:=by kernel_rfl
 c75:=by kernel_rfl
 c76:=by kernel_rfl
 c80:=by kernel_rfl
 c85:=by kernel_rfl
 c127:=by kernel_rfl
 c143:=by kernel_rfl
 c145:=by kernel_rfl
 c167:=by kernel_rfl
 c168:=by kernel_rfl
 c171:=by kernel_rfl
 c173:=by kernel_rfl
 c175:=by kernel_rfl
 c210:=by kernel_rfl
 c212:=by kernel_rfl
 c213:=by kernel_rfl
 c232:=by kernel_rfl
 c233:=by kernel_rfl }
def Tryz.lays219_ren:Go.Shelf.Ren:=⟨λ| 219=>156|217=>217|225=>218|224=>219|267=>220|266=>275|314=>276|n=>n,λ| 9=>9|3=>3|4=>4|5=>5|46=>285|146=>348|51=>347|n=>n,λ| 1=>0|n=>n⟩
theorem Tryz.lays219:Go.Proofs.Lays.n219 TP Tryz.lays219_ren:={
 mixed:=by kernel_rfl
 f217:=Tryz.func217.trans (congrArg some (by kernel_rfl))
 f219:=Tryz.func156.trans (congrArg some (by kernel_rfl))
 f224:=Tryz.func219.trans (congrArg some (by kernel_rfl))
 f225:=Tryz.func218.trans (congrArg some (by kernel_rfl))
 f266:=Tryz.func275.trans (congrArg some (by kernel_rfl))
 f267:=Tryz.func220.trans (congrArg some (by kernel_rfl))
 f314:=Tryz.func276.trans (congrArg some (by kernel_rfl))
 t3:=Tryz.underlying3
 a3:=Tryz.isAgg3
 z3:=Tryz.sizeOf3
 v3:=Tryz.zeroValue3
 t4:=Tryz.underlying4
 a4:=Tryz.isAgg4
 z4:=Tryz.sizeOf4
 v4:=Tryz.zeroValue4
 t5:=Tryz.underlying5
 a5:=Tryz.isAgg5
 z5:=Tryz.sizeOf5
 v5:=Tryz.zeroValue5
 t9:=Tryz.underlying9
 a9:=Tryz.isAgg9
 z9:=Tryz.sizeOf9
 v9:=Tryz.zeroValue9
 t46:=Tryz.underlying285
 a46:=Tryz.isAgg285
 z46:=Tryz.sizeOf285
 v46:=Tryz.zeroValue285
 t51:=Tryz.underlying347
 a51:=Tryz.isAgg347
 z51:=Tryz.sizeOf347
 v51:=Tryz.zeroValue347
 t146:=Tryz.underlying348
 a146:=Tryz.isAgg348
 z146:=Tryz.sizeOf348
 v146:=Tryz.zeroValue348
 g1:=by kernel_rfl }
def Tryz.lays143_ren:Go.Shelf.Ren:=⟨λ| 143=>159|219=>156|217=>217|225=>218|224=>219|267=>220|266=>275|314=>276|n=>n,λ| 9=>9|3=>3|4=>4|5=>5|46=>285|146=>348|51=>347|n=>n,λ| 1=>0|n=>n⟩
theorem Tryz.lays143:Go.Proofs.Lays.n143 TP Tryz.lays143_ren:={
 mixed:=by kernel_rfl
 f143:=Tryz.func159.trans (congrArg some (by kernel_rfl))
 f217:=Tryz.func217.trans (congrArg some (by kernel_rfl))
 f219:=Tryz.func156.trans (congrArg some (by kernel_rfl))
 f224:=Tryz.func219.trans (congrArg some (by kernel_rfl))
 f225:=Tryz.func218.trans (congrArg some (by kernel_rfl))
 f266:=Tryz.func275.trans (congrArg some (by kernel_rfl))
 f267:=Tryz.func220.trans (congrArg some (by kernel_rfl))
 f314:=Tryz.func276.trans (congrArg some (by kernel_rfl))
 t3:=Tryz.underlying3
 a3:=Tryz.isAgg3
 z3:=Tryz.sizeOf3
 v3:=Tryz.zeroValue3
 t4:=Tryz.underlying4
 a4:=Tryz.isAgg4
 z4:=Tryz.sizeOf4
 v4:=Tryz.zeroValue4
 t5:=Tryz.underlying5
 a5:=Tryz.isAgg5
 z5:=Tryz.sizeOf5
 v5:=Tryz.zeroValue5
 t9:=Tryz.underlying9
 a9:=Tryz.isAgg9
 z9:=Tryz.sizeOf9
 v9:=Tryz.zeroValue9
 t46:=Tryz.underlying285
 a46:=Tryz.isAgg285
 z46:=Tryz.sizeOf285
 v46:=Tryz.zeroValue285
 t51:=Tryz.underlying347
 a51:=Tryz.isAgg347
 z51:=Tryz.sizeOf347
 v51:=Tryz.zeroValue347
 t146:=Tryz.underlying348
 a146:=Tryz.isAgg348
 z146:=Tryz.sizeOf348
 v146:=Tryz.zeroValue348
 g1:=by kernel_rfl }
def Tryz.lays138_ren:Go.Shelf.Ren:=⟨λ| 138=>158|195=>221|218=>222|143=>159|219=>156|217=>217|225=>218|224=>219|267=>220|266=>275|314=>276|n=>n,λ| 9=>9|3=>3|4=>4|5=>5|0=>0|46=>285|146=>348|51=>347|n=>n,λ| 1=>0|n=>n⟩
theorem Tryz.lays138:Go.Proofs.Lays.n138 TP Tryz.lays138_ren:={
 mixed:=by kernel_rfl
 f138:=Tryz.func158.trans (congrArg some (by kernel_rfl))
 f143:=Tryz.func159.trans (congrArg some (by kernel_rfl))
 f195:=Tryz.func221.trans (congrArg some (by kernel_rfl))
 f217:=Tryz.func217.trans (congrArg some (by kernel_rfl))
 f218:=Tryz.func222.trans (congrArg some (by kernel_rfl))
 f219:=Tryz.func156.trans (congrArg some (by kernel_rfl))
 f224:=Tryz.func219.trans (congrArg some (by kernel_rfl))
 f225:=Tryz.func218.trans (congrArg some (by kernel_rfl))
 f266:=Tryz.func275.trans (congrArg some (by kernel_rfl))
 f267:=Tryz.func220.trans (congrArg some (by kernel_rfl))
 f314:=Tryz.func276.trans (congrArg some (by kernel_rfl))
 t0:=Tryz.underlying0
 a0:=Tryz.isAgg0
 z0:=Tryz.sizeOf0
 v0:=Tryz.zeroValue0
 t3:=Tryz.underlying3
 a3:=Tryz.isAgg3
 z3:=Tryz.sizeOf3
 v3:=Tryz.zeroValue3
 t4:=Tryz.underlying4
 a4:=Tryz.isAgg4
 z4:=Tryz.sizeOf4
 v4:=Tryz.zeroValue4
 t5:=Tryz.underlying5
 a5:=Tryz.isAgg5
 z5:=Tryz.sizeOf5
 v5:=Tryz.zeroValue5
 t9:=Tryz.underlying9
 a9:=Tryz.isAgg9
 z9:=Tryz.sizeOf9
 v9:=Tryz.zeroValue9
 t46:=Tryz.underlying285
 a46:=Tryz.isAgg285
 z46:=Tryz.sizeOf285
 v46:=Tryz.zeroValue285
 t51:=Tryz.underlying347
 a51:=Tryz.isAgg347
 z51:=Tryz.sizeOf347
 v51:=Tryz.zeroValue347
 t146:=Tryz.underlying348
 a146:=Tryz.isAgg348
 z146:=Tryz.sizeOf348
 v146:=Tryz.zeroValue348
 g1:=by kernel_rfl }
namespace Abs
open Go.RowKit Go.Sort
theorem lS{w w'}(h:Below w.heap.size w w'):Fr [] w w':=
 ⟨h.os,h.tape,h.output,h.size,λb hb _=>h.block b hb,λb hb=>by simp only[World.shape?,h.block b hb]⟩
theorem Lk{M}{w}{cargs}{q}(h:qg M w cargs [q]):∃v,cargs=#[v]/\RepP M w v q:=by
 have hn:=h.1;refine⟨cargs.getD 0 undef,?_,h.2 0 q rfl⟩;apply qw
 .simpa using hn
 .intro i h1 h2;have:i=0:=by simp at h2;omega
  subst this;simp[h1]
theorem zx{M}{w}{cargs}{p q}(h:qg M w cargs [p,q]):∃u v,cargs=#[u,v]/\RepP M w u p/\RepP M w v q:=by
 have hn:=h.1;refine⟨cargs.getD 0 undef,cargs.getD 1 undef,?_,h.2 0 p rfl,h.2 1 q rfl⟩;apply qw
 .simpa using hn
 .intro i h1 h2;have:i=0\/i=1:=by simp at h2;omega
  rcases this with rfl|rfl<;>simp[h1]
def zU (n:Int):ByteArray:=⟨(Lib.itoa n).toArray⟩
theorem xb(n)(h0:-9223372036854775808<=n)(h1:n<=9223372036854775807):af TP 90 [.int .i64 n] (.str (zU n)):=by
 intro M0 w cargs hM hg ha;obtain⟨v,rfl,hv⟩:=Lk ha;cases hv;refine⟨(λw'=>ja Tryz.func90 XU _ w'),?_⟩;have hn:(TP.globalNamed "internal/strconv.uint64pow10").isSome=true:=by kernel_rfl
 obtain⟨b,hb⟩:=jv.1 hn;refine(Any.strconv_Itoa Tryz.laysM171 n h0 h1 w (hg.1 b hb)).mono ?_
 rintro e w' ⟨rfl,k,os,rfl⟩
 exact⟨_,rfl,.str _,lS (Lib.below_grow _ _ (bi _) _ _)⟩
def kl (s:ByteArray):PV:=
 match Lib.atoiAll s.data.toList with
 |.ok v=>.tuple [.int .i64 v,.niliface]
 |.range=>.tuple [.int .i64 (Lib.atoiSat s.data.toList),.iface 289 .any]
 |_=>.tuple [.int .i64 0,.iface 289 .any]
theorem wJ{M}{w}{a b}{p q}(h1:RepP M w a p)(h2:RepP M w b q):RepP M w (.tuple #[a,b]) (.tuple [p,q]):=
 .tuple rfl λi c hi=>by
  match i,hi with
  |0,hi=>cases hi;exact h1
  |1,hi=>cases hi;exact h2
theorem DH(s)(hs:s.size<=281474976710656):af TP 107 [.str s] (kl s):=by
 intro M0 w cargs hM hg ha;obtain⟨v,rfl,hv⟩:=Lk ha;cases hv;refine⟨(λw'=>ja Tryz.func107 Vu _ w'),?_⟩;unfold kl
 cases hr:Lib.atoiAll s.data.toList with
 |ok v=>
  refine(Any.strconv_Atoi_ok Tryz.laysC172 s (by omega) v hr w).mono ?_
  rintro e w' ⟨rfl,h⟩
  refine⟨_,rfl,wJ (.int _ _) .niliface,?_⟩;rcases h with rfl|⟨t,rfl⟩
  .exact Fr.refl _ _
  .exact lS (Lib.bytesWorld_below _ _ _)
 |range=>
  have hn:(TP.globalNamed "strconv.ErrRange").isSome=true:=by kernel_rfl
  obtain⟨b,hb⟩:=jv.1 hn;obtain⟨tp,p,hvar⟩:=hg.2.2 b hb;refine(Any.strconv_Atoi_range_var Tryz.laysC172 s hs hr tp p w hvar).mono ?_
  rintro e w' ⟨N,rfl,_,_,hbl⟩
  exact⟨_,rfl,wJ (.int _ _) (.iface .any),lS hbl⟩
 |_=>
  have hn:(TP.globalNamed "strconv.ErrSyntax").isSome=true:=by kernel_rfl
  obtain⟨b,hb⟩:=jv.1 hn;obtain⟨tp,p,hvar⟩:=hg.2.1 b hb;refine(Any.strconv_Atoi_syntax_var Tryz.laysC172 s hs hr tp p w hvar).mono ?_
  rintro e w' ⟨N,rfl,_,_,hbl⟩
  exact⟨_,rfl,wJ (.int _ _) (.iface .any),lS hbl⟩
theorem J2(s)(c):af TP 156 [.str s,.str ⟨#[c]⟩] (.int .i64 (Lib.indexByte s.data.toList c)):=by
 intro M0 w cargs hM hg ha;obtain⟨u,v,rfl,hu,hv⟩:=zx ha;cases hu;cases hv;refine⟨(λw'=>ja Tryz.func156 Vs _ w'),?_⟩;refine(Any.stringslite_Index_one Tryz.lays219 s c w).mono ?_
 rintro e w' ⟨rfl,rfl⟩
 exact⟨_,rfl,.int _ _,Fr.refl _ _⟩
theorem FC(s)(c):af TP 159 [.str s,.str ⟨#[c]⟩] (.int .i64 (Lib.indexByte s.data.toList c)):=by
 intro M0 w cargs hM hg ha;obtain⟨u,v,rfl,hu,hv⟩:=zx ha;cases hu;cases hv;refine⟨(λw'=>ja Tryz.func159 Vq _ w'),?_⟩;refine(Any.strings_Index_one Tryz.lays143 s c w).mono ?_
 rintro e w' ⟨rfl,rfl⟩
 exact⟨_,rfl,.int _ _,Fr.refl _ _⟩
theorem MD(s)(c):af TP 158 [.str s,.str ⟨#[c]⟩] (.int .i64 (Lib.countByte s.data.toList c)):=by
 intro M0 w cargs hM hg ha;obtain⟨u,v,rfl,hu,hv⟩:=zx ha;cases hu;cases hv;refine⟨(λw'=>ja Tryz.func158 Vr _ w'),?_⟩;refine(Any.strings_Count_one Tryz.lays138 s c w).mono ?_
 rintro e w' ⟨rfl,rfl⟩
 exact⟨_,rfl,.int _ _,Fr.refl _ _⟩
set_option maxRecDepth 4000
def bs (l:List UInt8):ByteArray:=⟨l.toArray⟩
theorem f'(l):(bs l).data.toList=l:=rfl
theorem aw(l):(bs l).size=l.length:=by simp[bs,ByteArray.size]
theorem wb(s):bs s.data.toList=s:=by cases s;rfl
theorem fb(l)(i j):(bs l).extract i j=bs ((l.take j).drop i):=by
 apply ByteArray.ext;rw[ByteArray.data_extract];simp[bs,List.drop_take]
theorem db(a b):bs a++bs b=bs (a++b):=by
 apply ByteArray.ext;simp[bs]
theorem Uy{a b}:bs a=bs b↔a=b:=
 ⟨λh=>by have:=congrArg (λs:ByteArray=>s.data.toList) h;simpa[f']using this,λh=>h▸rfl⟩
theorem qd(x y:ByteArray):(x==y)=true↔x=y:=by
 cases x with
 |mk a=>
  cases y with
  |mk b=>
   show (a==b)=true↔_;rw[beq_iff_eq];exact⟨λh=>h▸rfl,λh=>by cases h;rfl⟩
theorem dH(a b):(bs a==bs b)=(a==b):=by
 rw[tj,qd,beq_iff_eq,Uy]
def aH (c:UInt8):List UInt8->List UInt8×Option (List UInt8)
 |[]=>([],none)
 |x::r=>if x=c then([],some r) else(x::(aH c r).1,(aH c r).2)
theorem lr(c):∀l,((aH c l).2=none/\(aH c l).1=l/\Lib.indexByte l c=-1) \/
  ∃r,(aH c l).2=some r/\Lib.indexByte l c=((aH c l).1.length:Int)/\l=(aH c l).1++c::r
 |[]=>.inl ⟨rfl,rfl,rfl⟩
 |x::l=>by
  unfold aH Lib.indexByte;by_cases hx:x=c
  .subst hx;simp
  .have hb:(x==c)=false:=by simpa using hx
   rw[if_neg hx,hb];simp only[d4,if_false];rcases lr c l with⟨h1,h2,h3⟩|⟨r,h1,h2,h3⟩
   .exact .inl ⟨h1,by simp[h2],by simp[h3]⟩
   .refine .inr ⟨r,h1,?_,?_⟩
    .rw[h2];have:¬((((aH c l).1.length:Int)==-1)=true):=by simp
     rw[if_neg this];simp
    .simp[<-h3]
theorem ut(c):∀(l r),(aH c l).2=some r->r.length<l.length:=by
 intro l r h;rcases lr c l with⟨h1,_⟩|⟨r',h1,_,h3⟩
 .rw[h1]at h;cases h
 .rw[h1]at h;cases h;have:=congrArg List.length h3;simp at this;omega
theorem OX(l)(c)(hl:l.length<1000000000):af TP 105 [.str (bs l),.str (bs [c])] (.tuple [.str (bs (aH c l).1),.str (bs ((aH c l).2.getD [])),.bool (aH c l).2.isSome]):=by
 refine aa (ah Tryz.func105 rfl (by kernel_rfl)) rfl ?_;simp only[go_sem,simprocAttr];refine ae (J2 (bs l) c) rfl ?_;rw[f'];rcases lr c l with⟨h1,h2,h3⟩|⟨r,h1,h2,h3⟩
 .simp only[h1,h2,h3,go_sem,simprocAttr];exact⟨rfl,rfl⟩
 .have hlen:=congrArg List.length h3;simp only[aK,cc]at hlen;have e0:decide ((0:Int)<=((aH c l).1.length:Int))=true:=by simp
  have e1:(((aH c l).1.length:Int)<=((bs l).size:Int)):=by rw[aw];omega
  have e2:IntKind.i64.wrap (((aH c l).1.length:Int)+(((bs [c]).size:Nat):Int))=(((aH c l).1.length+1:Nat):Int):=by
   rw[aw];exact be (by omega) (by simp[ar];omega) (by simp)
  have e3:((((aH c l).1.length+1:Nat):Int)<=((bs l).size:Int)):=by rw[aw];omega
  have e4:(bs l).extract 0 (aH c l).1.length=bs (aH c l).1:=by
   rw[fb,oq]
   congr 1
   have:=congrArg (List.take (aH c l).1.length) h3;rw[jL]at this
   .exact this
   .rfl
  have e5:(bs l).extract ((aH c l).1.length+1) (bs l).size=bs r:=by
   rw[fb,aw,te]
   congr 1
   have:=congrArg (List.drop ((aH c l).1.length+1)) h3;rw[this];simp
  simp only[h1,h2,e1,e2,e3,e4,e5,go_sem,simprocAttr];try exact⟨rfl,rfl⟩
theorem sU(l)(c)(hl:l.length<1000000000):af TP 77 [.str (bs l),.str (bs [c])] (.tuple [.str (bs (aH c l).1),.str (bs ((aH c l).2.getD [])),.bool (aH c l).2.isSome]):=by
 refine aa (ah Tryz.func77 rfl (by kernel_rfl)) rfl ?_;simp only[go_sem,simprocAttr];refine ae (OX l c hl) rfl ?_;simp only[go_sem,simprocAttr]
def ov (c:UInt8) (l:List UInt8):List UInt8:=if l.getLast?=some c then l.dropLast else l
theorem J4(l)(c)(hl:l.length<1000000000):af TP 164 [.str (bs l),.str (bs [c])] (.bool (decide (l.getLast?=some c))):=by
 refine aa (ah Tryz.func164 rfl (by kernel_rfl)) rfl ?_;rcases DM l with rfl|⟨a,x,rfl⟩
 .have e1:decide ((((bs [c]).size:Nat):Int)<=(((bs []).size:Nat):Int))=false:=by rw[aw,aw];simp
  simp only[e1,go_sem,simprocAttr];simp
 .rw[y0]at hl |-;have e1:decide ((((bs [c]).size:Nat):Int)<=(((bs (a++[x])).size:Nat):Int))=true:=by rw[aw,aw];simp<;>omega
  have e2:IntKind.i64.wrap ((((bs (a++[x])).size:Nat):Int)-(((bs [c]).size:Nat):Int))=((a.length:Nat):Int):=by
   rw[aw,aw,cI (by simp) (by simp[ar]at hl |-;omega)];simp
  have e3:((a.length:Nat):Int)<=(((bs (a++[x])).size:Nat):Int):=by rw[aw];simp<;>omega
  have e4:(bs (a++[x])).extract a.length (bs (a++[x])).size=bs [x]:=by
   rw[fb,aw,te];simp
  have e5:(bs [x]==bs [c])=decide ((a++[x]).getLast?=some c):=by
   rw[dH,List.getLast?_concat,tj];simp
  simp only[e1,e2,e3,e4,e5,go_sem,simprocAttr]
theorem Mv(l)(c)(hl:l.length<1000000000):af TP 109 [.str (bs l),.str (bs [c])] (.str (bs (ov c l))):=by
 refine aa (ah Tryz.func109 rfl (by kernel_rfl)) rfl ?_;simp only[go_sem,simprocAttr];refine ae (J4 l c hl) rfl ?_;by_cases h:l.getLast?=some c
 .have e1:IntKind.i64.wrap ((((bs l).size:Nat):Int)-(((bs [c]).size:Nat):Int))=((l.length-1:Nat):Int):=by
   have:l≠[]:=by rintro rfl;simp at h
   have:0<l.length:=PB.2 this;rw[aw,aw,cI (by simp;omega) (by simp[ar];omega)];simp;omega
  have e2:((l.length-1:Nat):Int)<=(((bs l).size:Nat):Int):=by rw[aw];omega
  have e3:(bs l).extract 0 (l.length-1)=bs l.dropLast:=by rw[fb,oq,List.dropLast_eq_take]
  simp only[h,e1,e2,e3,ov,go_sem,simprocAttr]
 .simp only[h,ov,go_sem,simprocAttr]
theorem G2(l)(c)(hl:l.length<1000000000):af TP 84 [.str (bs l),.str (bs [c])] (.str (bs (ov c l))):=by
 refine aa (ah Tryz.func84 rfl (by kernel_rfl)) rfl ?_;simp only[go_sem,simprocAttr];refine ae (Mv l c hl) rfl ?_;simp only[go_sem,simprocAttr]
def aQ (c:UInt8):List UInt8->List (List UInt8)
 |[]=>[[]]
 |x::r=>if x=c then []::aQ c r else match aQ c r with|[]=>[[x]]|a::t=>(x::a)::t
theorem lk(c):∀l,aQ c l=(aH c l).1::(match (aH c l).2 with|none=>[]|some r=>aQ c r)
 |[]=>rfl
 |x::r=>by
  by_cases hx:x=c
  .simp only[aQ,aH,if_pos hx]
  .simp only[aQ,aH,if_neg hx];rw[lk c r]
theorem lI{c}{l}(h:(aH c l).2=none):aQ c l=[l]:=by
 rcases lr c l with⟨h1,h2,h3⟩|⟨r,h1,_⟩
 .rw[lk,h1,h2]
 .rw[h1]at h;cases h
theorem lH{c}{l r}(h:(aH c l).2=some r):aQ c l=(aH c l).1::aQ c r:=by
 rw[lk,h]
theorem mU(c):∀l,(aQ c l).length=l.count c+1
 |[]=>rfl
 |x::r=>by
  have ih:=mU c r;unfold aQ;by_cases hx:x=c
  .subst hx;simp[ih]
  .rw[if_neg hx,List.count_cons_of_ne hx]
   cases hs:aQ c r with
   |nil=>rw[hs]at ih;simp at ih
   |cons a t=>rw[hs]at ih;simpa using ih
theorem lj(c)(l):0<(aQ c l).length:=by rw[mU];omega
theorem rI(c)(l):(aQ c l).length<=l.length+1:=by rw[mU];have:=List.count_le_length (a:=c) (l:=l);omega
def bM (l:List (List UInt8)):PV:=.slice 1 (l.map λx=>.str (bs x)) false
def fA (N:Nat) (done:List (List UInt8)):List AV:=(done.map λx=>AV.p (.str (bs x)))++List.replicate (N-done.length) (AV.p (.str ⟨#[]⟩))
theorem D'{N}{done}(h:done.length<=N):(fA N done).length=N:=by simp[fA];omega
theorem Gs{N}{done}(h:done.length<N):(fA N done)[done.length]?=some (AV.p (.str ⟨#[]⟩)):=by
 unfold fA;rw[cm (by simp),IP];simp;omega
theorem u9{N}{done}(x)(h:done.length<N):(fA N done).set done.length (AV.p (.str (bs x)))=fA N (done++[x]):=by
 unfold fA;rw[tt _ _ (by simp)];obtain⟨k,hk⟩:∃k,N-done.length=k+1:=⟨N-done.length-1,by omega⟩
 have hk2:N-(done++[x]).length=k:=by simp;omega
 rw[hk,hk2];simp[IN]
theorem Ea{N}{done}(h:done.length=N):fA N done=done.map λx=>AV.p (.str (bs x)):=by
 unfold fA;rw[h];simp
theorem AW(n N)(done):∀x,x∈fA N done->below n x:=by
 intro x hx;simp only[fA,b7,dN,List.mem_replicate]at hx;rcases hx with⟨_,_,rfl⟩|⟨_,rfl⟩<;>exact trivial
theorem Mz(l)(c)(hl:l.length<1000000000):af TP 106 [.str (bs l),.str (bs [c]),.int .i64 0,.int .i64 (-1)] (bM (aQ c l)):=by
 refine dd (ah Tryz.func106 rfl (by kernel_rfl)) rfl ?_;have hsep:(bs [c]==(⟨#[]⟩:ByteArray))=false:=by
  rw[show (⟨#[]⟩:ByteArray)=bs [] from rfl,dH];rfl
 obtain⟨N,hN⟩:∃N,N=(aQ c l).length:=⟨_,rfl⟩
 have hN1:0<N:=hN▸lj c l;have hNl:N<=l.length+1:=hN▸rI c l;have hcnt:IntKind.i64.wrap ((Lib.countByte (bs l).data.toList c:Int)+1)=(N:Int):=by
  refine be (by omega) (by simp[ar];omega) ?_;rw[f'];unfold Lib.countByte;rw[hN,mU];rfl
 simp only[hsep,go_sem,simprocAttr];refine ae (MD (bs l) c) rfl ?_;have hw:IntKind.i64.wrap ((((bs l).size:Nat):Int)+1)=((l.length+1:Nat):Int):=by
  rw[aw];exact be (by omega) (by simp[ar];omega) (by simp)
 have hmin:¬(((l.length+1:Nat):Int)<(N:Int)):=by omega
 have hroom:((N:Int)<=((ar:Nat):Int)):=by simp[ar];omega
 have hN2:IntKind.i64.wrap ((N:Int)-1)=((N-1:Nat):Int):=by rw[cI (by omega) (by simp[ar];omega)];omega
 simp only[hcnt,hw,hmin,hroom,hN2,go_sem,simprocAttr]
 refine fp [1,2,3,9] (σ:=List (List UInt8)×List UInt8) (λq=>aQ c l=q.1++aQ c q.2/\q.2.length<=l.length) (λq=>q.2.length)
  (λq=>[(0,.p (.str (bs q.2))),(10,.p (.int .i64 q.1.length))]) (λq=>[.row 1 (fA N q.1)]) ([],l) ⟨rfl,bi _⟩ ?_ ?_
 .simp only[fA,go_sem,simprocAttr];all_goals first|(simp;done)|(simp;intro _;trivial)
 rintro⟨done,r⟩ ⟨e1,e2⟩
 dsimp only at e1 e2;have hlen:=congrArg List.length e1;rw[<-hN,aK]at hlen;have hlt0:done.length<N:=by have:=lj c r;omega
 have hrl:=D' (Nat.le_of_lt hlt0);have hat:=Gs hlt0;have hi0:(done.length:Int)<(N:Int):=by omega
 rcases lr c r with⟨h1,h2,h3⟩|⟨r',h1,h2,h3⟩
 .have hs:=lI h1;rw[hs,bt]at hlen;have hge:decide ((done.length:Int)<((N-1:Nat):Int))=false:=by simp;omega
  have hset:=u9 r hlt0;have hall:fA N (done++[r])=(aQ c l).map λx=>AV.p (.str (bs x)):=by rw[Ea (by simp;omega),e1,hs]
  have hw2:IntKind.i64.wrap ((done.length:Int)+1)=(N:Int):=be (by omega) (by simp[ar];omega) (by omega);have hN3:(aQ c l).length=N:=hN.symm;simp only[hge,hrl,hat,hi0,hset,hall,hw2,hN3,go_sem,simprocAttr];rw[bM,Nat.sub_zero,gv (by simp[hN3])]
 .have hs:=lH h1;have hlt:decide ((done.length:Int)<((N-1:Nat):Int))=true:=by
   have:=lj c r';have:=congrArg List.length hs;simp at this |-;omega
  have hset:=u9 (aH c r).1 hlt0;have hrlen:=congrArg List.length h3;simp only[aK,cc]at hrlen;simp only[hlt,go_sem,simprocAttr];refine ae (FC (bs r) c) rfl ?_;have hd:Lib.indexByte (bs r).data.toList c=((aH c r).1.length:Int):=h2;have f0:decide (((aH c r).1.length:Int)<0)=false:=by simp
  have f1:IntKind.i64.wrap (((aH c r).1.length:Int)+0)=((aH c r).1.length:Int):=be (by omega) (by simp[ar];omega) (by simp);have f2:(((aH c r).1.length:Int)<=((bs r).size:Int)):=by rw[aw];omega
  have f3:(bs r).extract 0 (aH c r).1.length=bs (aH c r).1:=by
   rw[fb,oq]
   congr 1
   have:=congrArg (List.take (aH c r).1.length) h3;rw[jL]at this
   .exact this
   .rfl
  have f4:IntKind.i64.wrap (((aH c r).1.length:Int)+(((bs [c]).size:Nat):Int))=(((aH c r).1.length+1:Nat):Int):=by
   rw[aw];exact be (by omega) (by simp[ar];omega) (by simp)
  have f5:((((aH c r).1.length+1:Nat):Int)<=((bs r).size:Int)):=by rw[aw];omega
  have f6:(bs r).extract ((aH c r).1.length+1) (bs r).size=bs r':=by
   rw[fb,aw,te]
   congr 1
   have:=congrArg (List.drop ((aH c r).1.length+1)) h3;rw[this];simp
  have hnx:IntKind.i64.wrap ((done.length:Int)+1)=(((done++[(aH c r).1]).length:Nat):Int):=be (by omega) (by simp[ar];omega) (by simp);simp only[hd,f0,f1,f2,f3,f4,f5,f6,hrl,hat,hi0,hset,go_sem,simprocAttr];refine bY (done++[(aH c r).1],r') ⟨by rw[e1,hs];simp,by show r'.length<=l.length;omega⟩ (by show r'.length<r.length;omega) ?_;simp only[hnx,go_sem,simprocAttr];exact AW _ _ _
theorem CE(l)(c)(hl:l.length<1000000000):af TP 78 [.str (bs l),.str (bs [c])] (bM (aQ c l)):=by
 refine aa (ah Tryz.func78 rfl (by kernel_rfl)) rfl ?_;simp only[go_sem,simprocAttr];refine ae (Mz l c hl) rfl ?_;simp only[go_sem,simprocAttr]
theorem BX(c)(l):aQ c l≠[]:=λh=>by have:=lj c l;rw[h]at this;simp at this
end Abs
end Go.Proofs.YtnjiadikeacfaaaGreatDoor
