/- CONTRACTS of the program's functions, and laws on what they return. No conditions but those in the theorems' heads. -/
import Derived.Shelf.LaysM
import Derived.Shelf.LaysC
import Derived.Shelf.Strconv.Itoa3
import Derived.Shelf.Strconv.AtoiAll
import Derived.Shelf.Strconv.ErrVarAll
import Derived.Shelf.Strings.Search3
import Derived.Shelf.Strings.Count
import Derived.Lib.AppendIntMem
import Derived.Lib.AtoiErrMem
import Derived.Test.YtmndpldajflenaaGreatDoorSoJX
set_option linter.all false
open Go.Proofs.Tryz renaming prog->TP
open Go.Proofs.Tryz
namespace Go.Proofs.YtmndpldajflenaaGreatDoor
open Go.Shelf
def laysM171_ren:Go.Shelf.Ren:=⟨λ| 171=>101|243=>145|246=>184|283=>227|284=>228|285=>229|286=>230|129=>301|317=>300|318=>302|319=>303|320=>304|337=>370|338=>371|n=>n,λ| 3=>3|9=>9|2=>2|4=>4|171=>339|0=>0|53=>340|37=>205|5=>5|173=>343|212=>408|51=>237|20=>20|213=>409|46=>347|232=>528|233=>529|n=>n,λ| 17=>1|18=>6|19=>7|n=>n⟩
theorem laysM171:Go.Proofs.LaysM.n171 TP laysM171_ren:={
 mixed:=by kernel_rfl
 f129:=func301.trans (congrArg some (by kernel_rfl))
 f171:=func101.trans (congrArg some (by kernel_rfl))
 f243:=func145.trans (congrArg some (by kernel_rfl))
 f246:=func184.trans (congrArg some (by kernel_rfl))
 f283:=func227.trans (congrArg some (by kernel_rfl))
 f284:=func228.trans (congrArg some (by kernel_rfl))
 f285:=func229.trans (congrArg some (by kernel_rfl))
 f286:=func230.trans (congrArg some (by kernel_rfl))
 f317:=func300.trans (congrArg some (by kernel_rfl))
 f318:=func302.trans (congrArg some (by kernel_rfl))
 f319:=func303.trans (congrArg some (by kernel_rfl))
 f320:=func304.trans (congrArg some (by kernel_rfl))
 f337:=func370.trans (congrArg some (by kernel_rfl))
 f338:=func371.trans (congrArg some (by kernel_rfl))
 t0:=underlying0
 a0:=isAgg0
 z0:=sizeOf0
 v0:=zeroValue0
 t2:=underlying2
 a2:=isAgg2
 z2:=sizeOf2
 v2:=zeroValue2
 t3:=underlying3
 a3:=isAgg3
 z3:=sizeOf3
 v3:=zeroValue3
 t4:=underlying4
 a4:=isAgg4
 z4:=sizeOf4
 v4:=zeroValue4
 t5:=underlying5
 a5:=isAgg5
 z5:=sizeOf5
 v5:=zeroValue5
 t9:=underlying9
 a9:=isAgg9
 z9:=sizeOf9
 v9:=zeroValue9
 t20:=underlying20
 a20:=isAgg20
 z20:=sizeOf20
 v20:=zeroValue20
 t37:=underlying205
 a37:=isAgg205
 z37:=sizeOf205
 v37:=zeroValue205
 t46:=underlying347
 a46:=isAgg347
 z46:=sizeOf347
 v46:=zeroValue347
 t51:=underlying237
 a51:=isAgg237
 z51:=sizeOf237
 v51:=zeroValue237
 t53:=underlying340
 a53:=isAgg340
 z53:=sizeOf340
 v53:=zeroValue340
 t171:=underlying339
 a171:=isAgg339
 z171:=sizeOf339
 v171:=zeroValue339
 t173:=underlying343
 a173:=isAgg343
 z173:=sizeOf343
 v173:=zeroValue343
 t212:=underlying408
 a212:=isAgg408
 z212:=sizeOf408
 v212:=zeroValue408
 t213:=underlying409
 a213:=isAgg409
 z213:=sizeOf409
 t232:=underlying528
 a232:=isAgg528
 z232:=sizeOf528
 v232:=zeroValue528
 t233:=underlying529
 a233:=isAgg529
 z233:=sizeOf529
 v233:=zeroValue529
 g17:=by kernel_rfl
 g18:=by kernel_rfl
 g19:=by kernel_rfl
 i0:=by kernel_rfl
 i2:=by kernel_rfl
 i3:=by kernel_rfl
 i4:=by kernel_rfl
 i5:=by kernel_rfl
 i9:=by kernel_rfl
 i20:=by kernel_rfl
 i37:=by kernel_rfl
 i46:=by kernel_rfl
 i51:=by kernel_rfl
 i53:=by kernel_rfl
 i171:=by kernel_rfl
 i173:=by kernel_rfl
 i212:=by kernel_rfl
 i232:=by kernel_rfl
 i233:=by kernel_rfl
 m17:=by kernel_rfl
 m18:=by kernel_rfl
 m19:=by kernel_rfl }
def laysC172_ren:Go.Shelf.Ren:=⟨λ| 172=>150|244=>191|245=>192|247=>238|279=>239|280=>240|281=>241|282=>242|287=>307|316=>308|171=>101|205=>309|321=>372|322=>373|243=>145|246=>184|283=>227|284=>228|285=>229|286=>230|129=>301|317=>300|318=>302|319=>303|320=>304|337=>370|338=>371|n=>n,λ| 9=>9|3=>3|75=>223|76=>224|4=>4|5=>5|167=>348|37=>205|0=>0|85=>349|2=>2|168=>351|53=>340|175=>413|46=>347|210=>416|127=>281|145=>494|143=>492|21=>21|171=>339|173=>343|212=>408|51=>237|20=>20|213=>409|232=>528|233=>529|80=>139|n=>n,λ| 15=>2|16=>3|17=>1|18=>6|19=>7|n=>n⟩
theorem laysC172:Go.Proofs.LaysC.n172 TP laysC172_ren:={
 mixed:=by kernel_rfl
 f129:=func301.trans (congrArg some (by kernel_rfl))
 f171:=func101.trans (congrArg some (by kernel_rfl))
 f172:=func150.trans (congrArg some (by kernel_rfl))
 f205:=func309.trans (congrArg some (by kernel_rfl))
 f243:=func145.trans (congrArg some (by kernel_rfl))
 f244:=func191.trans (congrArg some (by kernel_rfl))
 f245:=func192.trans (congrArg some (by kernel_rfl))
 f246:=func184.trans (congrArg some (by kernel_rfl))
 f247:=func238.trans (congrArg some (by kernel_rfl))
 f279:=func239.trans (congrArg some (by kernel_rfl))
 f280:=func240.trans (congrArg some (by kernel_rfl))
 f281:=func241.trans (congrArg some (by kernel_rfl))
 f282:=func242.trans (congrArg some (by kernel_rfl))
 f283:=func227.trans (congrArg some (by kernel_rfl))
 f284:=func228.trans (congrArg some (by kernel_rfl))
 f285:=func229.trans (congrArg some (by kernel_rfl))
 f286:=func230.trans (congrArg some (by kernel_rfl))
 f287:=func307.trans (congrArg some (by kernel_rfl))
 f316:=func308.trans (congrArg some (by kernel_rfl))
 f317:=func300.trans (congrArg some (by kernel_rfl))
 f318:=func302.trans (congrArg some (by kernel_rfl))
 f319:=func303.trans (congrArg some (by kernel_rfl))
 f320:=func304.trans (congrArg some (by kernel_rfl))
 f321:=func372.trans (congrArg some (by kernel_rfl))
 f322:=func373.trans (congrArg some (by kernel_rfl))
 f337:=func370.trans (congrArg some (by kernel_rfl))
 f338:=func371.trans (congrArg some (by kernel_rfl))
 t0:=underlying0
 a0:=isAgg0
 z0:=sizeOf0
 v0:=zeroValue0
 t2:=underlying2
 a2:=isAgg2
 z2:=sizeOf2
 v2:=zeroValue2
 t3:=underlying3
 a3:=isAgg3
 z3:=sizeOf3
 v3:=zeroValue3
 t4:=underlying4
 a4:=isAgg4
 z4:=sizeOf4
 v4:=zeroValue4
 t5:=underlying5
 a5:=isAgg5
 z5:=sizeOf5
 v5:=zeroValue5
 t9:=underlying9
 a9:=isAgg9
 z9:=sizeOf9
 v9:=zeroValue9
 t20:=underlying20
 a20:=isAgg20
 z20:=sizeOf20
 v20:=zeroValue20
 t21:=underlying21
 a21:=isAgg21
 z21:=sizeOf21
 v21:=zeroValue21
 t37:=underlying205
 a37:=isAgg205
 z37:=sizeOf205
 v37:=zeroValue205
 t46:=underlying347
 a46:=isAgg347
 z46:=sizeOf347
 v46:=zeroValue347
 t51:=underlying237
 a51:=isAgg237
 z51:=sizeOf237
 v51:=zeroValue237
 t53:=underlying340
 a53:=isAgg340
 z53:=sizeOf340
 v53:=zeroValue340
 t75:=underlying223
 a75:=isAgg223
 z75:=sizeOf223
 v75:=zeroValue223
 t76:=underlying224
 a76:=isAgg224
 z76:=sizeOf224
 v76:=zeroValue224
 t85:=underlying349
 a85:=isAgg349
 z85:=sizeOf349
 v85:=zeroValue349
 t127:=underlying281
 a127:=isAgg281
 z127:=sizeOf281
 v127:=zeroValue281
 t143:=underlying492
 a143:=isAgg492
 z143:=sizeOf492
 v143:=zeroValue492
 t145:=underlying494
 a145:=isAgg494
 z145:=sizeOf494
 v145:=zeroValue494
 t167:=underlying348
 a167:=isAgg348
 z167:=sizeOf348
 v167:=zeroValue348
 t168:=underlying351
 a168:=isAgg351
 z168:=sizeOf351
 v168:=zeroValue351
 t171:=underlying339
 a171:=isAgg339
 z171:=sizeOf339
 v171:=zeroValue339
 t173:=underlying343
 a173:=isAgg343
 z173:=sizeOf343
 v173:=zeroValue343
 t175:=underlying413
 a175:=isAgg413
 z175:=sizeOf413
 v175:=zeroValue413
 t210:=underlying416
 a210:=isAgg416
 z210:=sizeOf416
 v210:=zeroValue416
 t212:=underlying408
 a212:=isAgg408
 z212:=sizeOf408
 v212:=zeroValue408
 t213:=underlying409
 a213:=isAgg409
 z213:=sizeOf409
 t232:=underlying528
 a232:=isAgg528
 z232:=sizeOf528
 v232:=zeroValue528
 t233:=underlying529
 a233:=isAgg529
 z233:=sizeOf529
 v233:=zeroValue529
 g15:=by kernel_rfl
 g16:=by kernel_rfl
 g17:=by kernel_rfl
 g18:=by kernel_rfl
 g19:=by kernel_rfl
 t80:=underlying139
 a80:=isAgg139
 z80:=sizeOf139
 v80:=zeroValue139
 i0:=by kernel_rfl
 i2:=by kernel_rfl
 i3:=by kernel_rfl
 i4:=by kernel_rfl
 i5:=by kernel_rfl
 i9:=by kernel_rfl
 i20:=by kernel_rfl
 i21:=by kernel_rfl
 i37:=by kernel_rfl
 i46:=by kernel_rfl
 i51:=by kernel_rfl
 i53:=by kernel_rfl
 i75:=by kernel_rfl
 i76:=by kernel_rfl
 i80:=by kernel_rfl
 i85:=by kernel_rfl
 i127:=by kernel_rfl
 i143:=by kernel_rfl
 i145:=by kernel_rfl
 i167:=by kernel_rfl
 i168:=by kernel_rfl
 i171:=by kernel_rfl
 i173:=by kernel_rfl
 i175:=by kernel_rfl
 i210:=by kernel_rfl
 i212:=by kernel_rfl
 i232:=by kernel_rfl
 i233:=by kernel_rfl
 m15:=by kernel_rfl
 m16:=by kernel_rfl
 m17:=by kernel_rfl
 m18:=by kernel_rfl
 m19:=by kernel_rfl
 c0:=by kernel_rfl
 c2:=by kernel_rfl
 c3:=by kernel_rfl
 c4:=by kernel_rfl
 c5:=by kernel_rfl
 c9:=by kernel_rfl
 c20:=by kernel_rfl
 c21:=by kernel_rfl
 c37:=by kernel_rfl
 c46:=by kernel_rfl
 c51:=by kernel_rfl
 c53:=by kernel_rfl
 c75:=by kernel_rfl
 c76:=by kernel_rfl
 c80:=by kernel_rfl
 c85:=by kernel_rfl
 c127:=by kernel_rfl
 c143:=by kernel_rfl
 c145:=by kernel_rfl
 c167:=by kernel_rfl
 c168:=by kernel_rfl
 c171:=by kernel_rfl
 c173:=by kernel_rfl
 c175:=by kernel_rfl
 c210:=by kernel_rfl
 c212:=by kernel_rfl
 c213:=by kernel_rfl
 c232:=by kernel_rfl
 c233:=by kernel_rfl }
def lays219_ren:Go.Shelf.Ren:=⟨λ| 219=>187|217=>232|225=>233|224=>234|267=>235|266=>305|314=>306|n=>n,λ| 9=>9|3=>3|4=>4|5=>5|46=>347|146=>411|51=>237|n=>n,λ| 1=>0|n=>n⟩
theorem lays219:Go.Proofs.Lays.n219 TP lays219_ren:={
 mixed:=by kernel_rfl
 f217:=func232.trans (congrArg some (by kernel_rfl))
 f219:=func187.trans (congrArg some (by kernel_rfl))
 f224:=func234.trans (congrArg some (by kernel_rfl))
 f225:=func233.trans (congrArg some (by kernel_rfl))
 f266:=func305.trans (congrArg some (by kernel_rfl))
 f267:=func235.trans (congrArg some (by kernel_rfl))
 f314:=func306.trans (congrArg some (by kernel_rfl))
 t3:=underlying3
 a3:=isAgg3
 z3:=sizeOf3
 v3:=zeroValue3
 t4:=underlying4
 a4:=isAgg4
 z4:=sizeOf4
 v4:=zeroValue4
 t5:=underlying5
 a5:=isAgg5
 z5:=sizeOf5
 v5:=zeroValue5
 t9:=underlying9
 a9:=isAgg9
 z9:=sizeOf9
 v9:=zeroValue9
 t46:=underlying347
 a46:=isAgg347
 z46:=sizeOf347
 v46:=zeroValue347
 t51:=underlying237
 a51:=isAgg237
 z51:=sizeOf237
 v51:=zeroValue237
 t146:=underlying411
 a146:=isAgg411
 z146:=sizeOf411
 v146:=zeroValue411
 g1:=by kernel_rfl }
def lays143_ren:Go.Shelf.Ren:=⟨λ| 143=>190|219=>187|217=>232|225=>233|224=>234|267=>235|266=>305|314=>306|n=>n,λ| 9=>9|3=>3|4=>4|5=>5|46=>347|146=>411|51=>237|n=>n,λ| 1=>0|n=>n⟩
theorem lays143:Go.Proofs.Lays.n143 TP lays143_ren:={
 mixed:=by kernel_rfl
 f143:=func190.trans (congrArg some (by kernel_rfl))
 f217:=func232.trans (congrArg some (by kernel_rfl))
 f219:=func187.trans (congrArg some (by kernel_rfl))
 f224:=func234.trans (congrArg some (by kernel_rfl))
 f225:=func233.trans (congrArg some (by kernel_rfl))
 f266:=func305.trans (congrArg some (by kernel_rfl))
 f267:=func235.trans (congrArg some (by kernel_rfl))
 f314:=func306.trans (congrArg some (by kernel_rfl))
 t3:=underlying3
 a3:=isAgg3
 z3:=sizeOf3
 v3:=zeroValue3
 t4:=underlying4
 a4:=isAgg4
 z4:=sizeOf4
 v4:=zeroValue4
 t5:=underlying5
 a5:=isAgg5
 z5:=sizeOf5
 v5:=zeroValue5
 t9:=underlying9
 a9:=isAgg9
 z9:=sizeOf9
 v9:=zeroValue9
 t46:=underlying347
 a46:=isAgg347
 z46:=sizeOf347
 v46:=zeroValue347
 t51:=underlying237
 a51:=isAgg237
 z51:=sizeOf237
 v51:=zeroValue237
 t146:=underlying411
 a146:=isAgg411
 z146:=sizeOf411
 v146:=zeroValue411
 g1:=by kernel_rfl }
def lays138_ren:Go.Shelf.Ren:=⟨λ| 138=>189|195=>236|218=>237|143=>190|219=>187|217=>232|225=>233|224=>234|267=>235|266=>305|314=>306|n=>n,λ| 9=>9|3=>3|4=>4|5=>5|0=>0|46=>347|146=>411|51=>237|n=>n,λ| 1=>0|n=>n⟩
theorem lays138:Go.Proofs.Lays.n138 TP lays138_ren:={
 mixed:=by kernel_rfl
 f138:=func189.trans (congrArg some (by kernel_rfl))
 f143:=func190.trans (congrArg some (by kernel_rfl))
 f195:=func236.trans (congrArg some (by kernel_rfl))
 f217:=func232.trans (congrArg some (by kernel_rfl))
 f218:=func237.trans (congrArg some (by kernel_rfl))
 f219:=func187.trans (congrArg some (by kernel_rfl))
 f224:=func234.trans (congrArg some (by kernel_rfl))
 f225:=func233.trans (congrArg some (by kernel_rfl))
 f266:=func305.trans (congrArg some (by kernel_rfl))
 f267:=func235.trans (congrArg some (by kernel_rfl))
 f314:=func306.trans (congrArg some (by kernel_rfl))
 t0:=underlying0
 a0:=isAgg0
 z0:=sizeOf0
 v0:=zeroValue0
 t3:=underlying3
 a3:=isAgg3
 z3:=sizeOf3
 v3:=zeroValue3
 t4:=underlying4
 a4:=isAgg4
 z4:=sizeOf4
 v4:=zeroValue4
 t5:=underlying5
 a5:=isAgg5
 z5:=sizeOf5
 v5:=zeroValue5
 t9:=underlying9
 a9:=isAgg9
 z9:=sizeOf9
 v9:=zeroValue9
 t46:=underlying347
 a46:=isAgg347
 z46:=sizeOf347
 v46:=zeroValue347
 t51:=underlying237
 a51:=isAgg237
 z51:=sizeOf237
 v51:=zeroValue237
 t146:=underlying411
 a146:=isAgg411
 z146:=sizeOf411
 v146:=zeroValue411
 g1:=by kernel_rfl }
namespace Abs
open Go.RowKit Go.Sort
theorem j1{w w'}(h:Below w.heap.size w w'):Fr [] w w':=
 ⟨h.os,h.tape,h.output,h.size,λb hb _=>h.block b hb,λb hb=>by simp only[World.shape?,h.block b hb]⟩
theorem FU{M}{w}{cargs}{q}(h:rx M w cargs [q]):∃v,cargs=#[v]/\RepP M w v q:=by
 have hn:=h.1;refine⟨cargs.getD 0 undef,?_,h.2 0 q rfl⟩;apply oz
 .simpa using hn
 .intro i h1 h2;have:i=0:=by simp at h2;omega
  subst this;simp[h1]
theorem va{M}{w}{cargs}{p q}(h:rx M w cargs [p,q]):∃u v,cargs=#[u,v]/\RepP M w u p/\RepP M w v q:=by
 have hn:=h.1;refine⟨cargs.getD 0 undef,cargs.getD 1 undef,?_,h.2 0 p rfl,h.2 1 q rfl⟩;apply oz
 .simpa using hn
 .intro i h1 h2;have:i=0\/i=1:=by simp at h2;omega
  rcases this with rfl|rfl<;>simp[h1]
def mR (n:Int):ByteArray:=⟨(Lib.itoa n).toArray⟩
theorem ma(n)(h0:-9223372036854775808<=n)(h1:n<=9223372036854775807):PCall TP 101 [.int .i64 n] (.str (mR n)):=by
 intro M0 w cargs hM hg ha;obtain⟨v,rfl,hv⟩:=FU ha;cases hv;refine⟨(λw'=>gS func101 Ng _ w'),?_⟩;have hn:(TP.globalNamed "internal/strconv.uint64pow10").isSome=true:=by kernel_rfl
 obtain⟨b,hb⟩:=ec.1 hn;refine(Any.strconv_Itoa laysM171 n h0 h1 w (hg.1 b hb)).mono ?_
 rintro e w' ⟨rfl,k,os,rfl⟩
 exact⟨_,rfl,.str _,j1 (Lib.below_grow _ _ (aJ _) _ _)⟩
def BA (s:ByteArray):PV:=
 match Lib.atoiAll s.data.toList with
 |.ok v=>.tuple [.int .i64 v,.niliface]
 |.range=>.tuple [.int .i64 (Lib.atoiSat s.data.toList),.iface 351 .any]
 |_=>.tuple [.int .i64 0,.iface 351 .any]
theorem te{M}{w}{a b}{p q}(h1:RepP M w a p)(h2:RepP M w b q):RepP M w (.tuple #[a,b]) (.tuple [p,q]):=
 .tuple rfl λi c hi=>by
  match i,hi with
  |0,hi=>cases hi;exact h1
  |1,hi=>cases hi;exact h2
theorem NM(s)(hs:s.size<=281474976710656):PCall TP 150 [.str s] (BA s):=by
 intro M0 w cargs hM hg ha;obtain⟨v,rfl,hv⟩:=FU ha;cases hv;refine⟨(λw'=>gS func150 Na _ w'),?_⟩;unfold BA
 cases hr:Lib.atoiAll s.data.toList with
 |ok v=>
  refine(Any.strconv_Atoi_ok laysC172 s (by omega) v hr w).mono ?_
  rintro e w' ⟨rfl,h⟩
  refine⟨_,rfl,te (.int _ _) .niliface,?_⟩;rcases h with rfl|⟨t,rfl⟩
  .exact Fr.refl _ _
  .exact j1 (Lib.bytesWorld_below _ _ _)
 |range=>
  have hn:(TP.globalNamed "strconv.ErrRange").isSome=true:=by kernel_rfl
  obtain⟨b,hb⟩:=ec.1 hn;obtain⟨tp,p,hvar⟩:=hg.2.2 b hb;refine(Any.strconv_Atoi_range_var laysC172 s hs hr tp p w hvar).mono ?_
  rintro e w' ⟨N,rfl,_,_,hbl⟩
  exact⟨_,rfl,te (.int _ _) (.iface .any),j1 hbl⟩
 |_=>
  have hn:(TP.globalNamed "strconv.ErrSyntax").isSome=true:=by kernel_rfl
  obtain⟨b,hb⟩:=ec.1 hn;obtain⟨tp,p,hvar⟩:=hg.2.1 b hb;refine(Any.strconv_Atoi_syntax_var laysC172 s hs hr tp p w hvar).mono ?_
  rintro e w' ⟨N,rfl,_,_,hbl⟩
  exact⟨_,rfl,te (.int _ _) (.iface .any),j1 hbl⟩
theorem EL(s)(c):PCall TP 187 [.str s,.str ⟨#[c]⟩] (.int .i64 (Lib.indexByte s.data.toList c)):=by
 intro M0 w cargs hM hg ha;obtain⟨u,v,rfl,hu,hv⟩:=va ha;cases hu;cases hv;refine⟨(λw'=>gS func187 M9 _ w'),?_⟩;refine(Any.stringslite_Index_one lays219 s c w).mono ?_
 rintro e w' ⟨rfl,rfl⟩
 exact⟨_,rfl,.int _ _,Fr.refl _ _⟩
theorem Mk(s)(c):PCall TP 190 [.str s,.str ⟨#[c]⟩] (.int .i64 (Lib.indexByte s.data.toList c)):=by
 intro M0 w cargs hM hg ha;obtain⟨u,v,rfl,hu,hv⟩:=va ha;cases hu;cases hv;refine⟨(λw'=>gS func190 M7 _ w'),?_⟩;refine(Any.strings_Index_one lays143 s c w).mono ?_
 rintro e w' ⟨rfl,rfl⟩
 exact⟨_,rfl,.int _ _,Fr.refl _ _⟩
theorem Mt(s)(c):PCall TP 189 [.str s,.str ⟨#[c]⟩] (.int .i64 (Lib.countByte s.data.toList c)):=by
 intro M0 w cargs hM hg ha;obtain⟨u,v,rfl,hu,hv⟩:=va ha;cases hu;cases hv;refine⟨(λw'=>gS func189 M8 _ w'),?_⟩;refine(Any.strings_Count_one lays138 s c w).mono ?_
 rintro e w' ⟨rfl,rfl⟩
 exact⟨_,rfl,.int _ _,Fr.refl _ _⟩
set_option maxRecDepth 4000
def bs (l:List UInt8):ByteArray:=⟨l.toArray⟩
theorem na(l):(bs l).data.toList=l:=rfl
theorem jO(l):(bs l).size=l.length:=by simp[bs,ByteArray.size]
theorem mV(l)(i j):(bs l).extract i j=bs ((l.take j).drop i):=by
 apply ByteArray.ext;rw[ByteArray.data_extract];simp[bs,List.drop_take]
theorem Mx{a b}:bs a=bs b↔a=b:=
 ⟨λh=>by have:=congrArg (λs:ByteArray=>s.data.toList) h;simpa[na]using this,λh=>h▸rfl⟩
theorem NP(x y:ByteArray):(x==y)=true↔x=y:=by
 cases x with
 |mk a=>
  cases y with
  |mk b=>
   show (a==b)=true↔_;rw[beq_iff_eq];exact⟨λh=>h▸rfl,λh=>by cases h;rfl⟩
theorem My(a b):(bs a==bs b)=(a==b):=by
 rw[gC,NP,beq_iff_eq,Mx]
def bz (c:UInt8):List UInt8->List UInt8×Option (List UInt8)
 |[]=>([],none)
 |x::r=>if x=c then([],some r) else(x::(bz c r).1,(bz c r).2)
theorem tq(c):∀l,((bz c l).2=none/\(bz c l).1=l/\Lib.indexByte l c=-1) \/
  ∃r,(bz c l).2=some r/\Lib.indexByte l c=((bz c l).1.length:Int)/\l=(bz c l).1++c::r
 |[]=>.inl ⟨rfl,rfl,rfl⟩
 |x::l=>by
  unfold bz Lib.indexByte;by_cases hx:x=c
  .subst hx;simp
  .have hb:(x==c)=false:=by simpa using hx
   rw[if_neg hx,hb];simp only[gZ,if_false];rcases tq c l with⟨h1,h2,h3⟩|⟨r,h1,h2,h3⟩
   .exact .inl ⟨h1,by simp[h2],by simp[h3]⟩
   .refine .inr ⟨r,h1,?_,?_⟩
    .rw[h2];have:¬((((bz c l).1.length:Int)==-1)=true):=by simp
     rw[if_neg this];simp
    .simp[<-h3]
theorem Iu(l)(c)(hl:l.length<1000000000):PCall TP 148 [.str (bs l),.str (bs [c])] (.tuple [.str (bs (bz c l).1),.str (bs ((bz c l).2.getD [])),.bool (bz c l).2.isSome]):=by
 refine ae (am func148 rfl) rfl ?_;simp only[go_sem,simprocAttr];refine aa (EL (bs l) c) rfl ?_;rw[na];rcases tq c l with⟨h1,h2,h3⟩|⟨r,h1,h2,h3⟩
 .simp only[h1,h2,h3,go_sem,simprocAttr];exact⟨rfl,rfl⟩
 .have hlen:=congrArg List.length h3;simp only[ay,du]at hlen;have e0:decide ((0:Int)<=((bz c l).1.length:Int))=true:=by simp
  have e1:(((bz c l).1.length:Int)<=((bs l).size:Int)):=by rw[jO];omega
  have e2:IntKind.i64.wrap (((bz c l).1.length:Int)+(((bs [c]).size:Nat):Int))=(((bz c l).1.length+1:Nat):Int):=by
   rw[jO];exact az (by omega) (by simp[ai];omega) (by simp)
  have e3:((((bz c l).1.length+1:Nat):Int)<=((bs l).size:Int)):=by rw[jO];omega
  have e4:(bs l).extract 0 (bz c l).1.length=bs (bz c l).1:=by
   rw[mV,oZ]
   congr 1
   have:=congrArg (List.take (bz c l).1.length) h3;rw[i6]at this
   .exact this
   .rfl
  have e5:(bs l).extract ((bz c l).1.length+1) (bs l).size=bs r:=by
   rw[mV,jO,yP]
   congr 1
   have:=congrArg (List.drop ((bz c l).1.length+1)) h3;rw[this];simp
  simp only[h1,h2,e1,e2,e3,e4,e5,go_sem,simprocAttr];try exact⟨rfl,rfl⟩
theorem tz(l)(c)(hl:l.length<1000000000):PCall TP 106 [.str (bs l),.str (bs [c])] (.tuple [.str (bs (bz c l).1),.str (bs ((bz c l).2.getD [])),.bool (bz c l).2.isSome]):=by
 refine ae (am func106 rfl) rfl ?_;simp only[go_sem,simprocAttr];refine aa (Iu l c hl) rfl ?_;simp only[go_sem,simprocAttr]
def cL (c:UInt8):List UInt8->List (List UInt8)
 |[]=>[[]]
 |x::r=>if x=c then []::cL c r else match cL c r with|[]=>[[x]]|a::t=>(x::a)::t
theorem qw(c):∀l,cL c l=(bz c l).1::(match (bz c l).2 with|none=>[]|some r=>cL c r)
 |[]=>rfl
 |x::r=>by
  by_cases hx:x=c
  .simp only[cL,bz,if_pos hx]
  .simp only[cL,bz,if_neg hx];rw[qw c r]
theorem B3{c}{l}(h:(bz c l).2=none):cL c l=[l]:=by
 rcases tq c l with⟨h1,h2,h3⟩|⟨r,h1,_⟩
 .rw[qw,h1,h2]
 .rw[h1]at h;cases h
theorem B2{c}{l r}(h:(bz c l).2=some r):cL c l=(bz c l).1::cL c r:=by
 rw[qw,h]
theorem kU(c):∀l,(cL c l).length=l.count c+1
 |[]=>rfl
 |x::r=>by
  have ih:=kU c r;unfold cL;by_cases hx:x=c
  .subst hx;simp[ih]
  .rw[if_neg hx,List.count_cons_of_ne hx]
   cases hs:cL c r with
   |nil=>rw[hs]at ih;simp at ih
   |cons a t=>rw[hs]at ih;simpa using ih
theorem qu(c)(l):0<(cL c l).length:=by rw[kU];omega
theorem Fv(c)(l):(cL c l).length<=l.length+1:=by rw[kU];have:=List.count_le_length (a:=c) (l:=l);omega
def nC (l:List (List UInt8)):PV:=.slice 1 (l.map λx=>.str (bs x)) false
def ef (N:Nat) (done:List (List UInt8)):List AV:=(done.map λx=>AV.p (.str (bs x)))++List.replicate (N-done.length) (AV.p (.str ⟨#[]⟩))
theorem zR{N}{done}(h:done.length<=N):(ef N done).length=N:=by simp[ef];omega
theorem B1{N}{done}(h:done.length<N):(ef N done)[done.length]?=some (AV.p (.str ⟨#[]⟩)):=by
 unfold ef;rw[ca (by simp),zu];simp;omega
theorem rX{N}{done}(x)(h:done.length<N):(ef N done).set done.length (AV.p (.str (bs x)))=ef N (done++[x]):=by
 unfold ef;rw[yR _ _ (by simp)];obtain⟨k,hk⟩:∃k,N-done.length=k+1:=⟨N-done.length-1,by omega⟩
 have hk2:N-(done++[x]).length=k:=by simp;omega
 rw[hk,hk2];simp[wv]
theorem zS{N}{done}(h:done.length=N):ef N done=done.map λx=>AV.p (.str (bs x)):=by
 unfold ef;rw[h];simp
theorem wI(n N)(done):∀x,x∈ef N done->below n x:=by
 intro x hx;simp only[ef,gu,eK,List.mem_replicate]at hx;rcases hx with⟨_,_,rfl⟩|⟨_,rfl⟩<;>exact trivial
theorem GW(l)(c)(hl:l.length<1000000000):PCall TP 149 [.str (bs l),.str (bs [c]),.int .i64 0,.int .i64 (-1)] (nC (cL c l)):=by
 refine cm (am func149 rfl) rfl ?_;have hsep:(bs [c]==(⟨#[]⟩:ByteArray))=false:=by
  rw[show (⟨#[]⟩:ByteArray)=bs [] from rfl,My];rfl
 obtain⟨N,hN⟩:∃N,N=(cL c l).length:=⟨_,rfl⟩
 have hN1:0<N:=hN▸qu c l;have hNl:N<=l.length+1:=hN▸Fv c l;have hcnt:IntKind.i64.wrap ((Lib.countByte (bs l).data.toList c:Int)+1)=(N:Int):=by
  refine az (by omega) (by simp[ai];omega) ?_;rw[na];unfold Lib.countByte;rw[hN,kU];rfl
 simp only[hsep,go_sem,simprocAttr];refine aa (Mt (bs l) c) rfl ?_;have hw:IntKind.i64.wrap ((((bs l).size:Nat):Int)+1)=((l.length+1:Nat):Int):=by
  rw[jO];exact az (by omega) (by simp[ai];omega) (by simp)
 have hmin:¬(((l.length+1:Nat):Int)<(N:Int)):=by omega
 have hroom:((N:Int)<=((ai:Nat):Int)):=by simp[ai];omega
 have hN2:IntKind.i64.wrap ((N:Int)-1)=((N-1:Nat):Int):=by rw[iz (by omega) (by simp[ai];omega)];omega
 simp only[hcnt,hw,hmin,hroom,hN2,go_sem,simprocAttr]
 refine aS [1,2,3,9] (σ:=List (List UInt8)×List UInt8) (λq=>cL c l=q.1++cL c q.2/\q.2.length<=l.length) (λq=>q.2.length)
  (λq=>[(0,.p (.str (bs q.2))),(10,.p (.int .i64 q.1.length))]) (λq=>[.row 1 (ef N q.1)]) ([],l) ⟨rfl,aJ _⟩ ?_ ?_
 .simp only[ef,go_sem,simprocAttr];all_goals first|(simp;done)|(simp;intro _;trivial)
 rintro⟨done,r⟩ ⟨e1,e2⟩
 dsimp only at e1 e2;have hlen:=congrArg List.length e1;rw[<-hN,ay]at hlen;have hlt0:done.length<N:=by have:=qu c r;omega
 have hrl:=zR (Nat.le_of_lt hlt0);have hat:=B1 hlt0;have hi0:(done.length:Int)<(N:Int):=by omega
 rcases tq c r with⟨h1,h2,h3⟩|⟨r',h1,h2,h3⟩
 .have hs:=B3 h1;rw[hs,aC]at hlen;have hge:decide ((done.length:Int)<((N-1:Nat):Int))=false:=by simp;omega
  have hset:=rX r hlt0;have hall:ef N (done++[r])=(cL c l).map λx=>AV.p (.str (bs x)):=by rw[zS (by simp;omega),e1,hs]
  have hw2:IntKind.i64.wrap ((done.length:Int)+1)=(N:Int):=az (by omega) (by simp[ai];omega) (by omega);have hN3:(cL c l).length=N:=hN.symm;simp only[hge,hrl,hat,hi0,hset,hall,hw2,hN3,go_sem,simprocAttr];rw[nC,Nat.sub_zero,dz (by simp[hN3])]
 .have hs:=B2 h1;have hlt:decide ((done.length:Int)<((N-1:Nat):Int))=true:=by
   have:=qu c r';have:=congrArg List.length hs;simp at this |-;omega
  have hset:=rX (bz c r).1 hlt0;have hrlen:=congrArg List.length h3;simp only[ay,du]at hrlen;simp only[hlt,go_sem,simprocAttr];refine aa (Mk (bs r) c) rfl ?_;have hd:Lib.indexByte (bs r).data.toList c=((bz c r).1.length:Int):=h2;have f0:decide (((bz c r).1.length:Int)<0)=false:=by simp
  have f1:IntKind.i64.wrap (((bz c r).1.length:Int)+0)=((bz c r).1.length:Int):=az (by omega) (by simp[ai];omega) (by simp);have f2:(((bz c r).1.length:Int)<=((bs r).size:Int)):=by rw[jO];omega
  have f3:(bs r).extract 0 (bz c r).1.length=bs (bz c r).1:=by
   rw[mV,oZ]
   congr 1
   have:=congrArg (List.take (bz c r).1.length) h3;rw[i6]at this
   .exact this
   .rfl
  have f4:IntKind.i64.wrap (((bz c r).1.length:Int)+(((bs [c]).size:Nat):Int))=(((bz c r).1.length+1:Nat):Int):=by
   rw[jO];exact az (by omega) (by simp[ai];omega) (by simp)
  have f5:((((bz c r).1.length+1:Nat):Int)<=((bs r).size:Int)):=by rw[jO];omega
  have f6:(bs r).extract ((bz c r).1.length+1) (bs r).size=bs r':=by
   rw[mV,jO,yP]
   congr 1
   have:=congrArg (List.drop ((bz c r).1.length+1)) h3;rw[this];simp
  have hnx:IntKind.i64.wrap ((done.length:Int)+1)=(((done++[(bz c r).1]).length:Nat):Int):=az (by omega) (by simp[ai];omega) (by simp);simp only[hd,f0,f1,f2,f3,f4,f5,f6,hrl,hat,hi0,hset,go_sem,simprocAttr];refine ak (done++[(bz c r).1],r') ⟨by rw[e1,hs];simp,by show r'.length<=l.length;omega⟩ (by show r'.length<r.length;omega) ?_;simp only[hnx,go_sem,simprocAttr];exact wI _ _ _
theorem oS(l)(c)(hl:l.length<1000000000):PCall TP 107 [.str (bs l),.str (bs [c])] (nC (cL c l)):=by
 refine ae (am func107 rfl) rfl ?_;simp only[go_sem,simprocAttr];refine aa (GW l c hl) rfl ?_;simp only[go_sem,simprocAttr]
open Go.RowKit Go.Sort
set_option maxRecDepth 100000
theorem Kr{w:World}{b k}{v}(h:w.cell? ⟨b,k,none⟩=some v):b<w.heap.size:=by
 unfold World.cell? at h;rcases aw b w.heap.size with h'|h'
 .exact h'
 .simp[xv h']at h
theorem za(l)(sep)(fl)(hl:l.length<=1000000)(hb:(Lib.join l sep).length<=1000000000) :
  PCall TP 103 [.slice 1 (l.map λx=>.str (bs x)) fl,.str (bs sep)] (.str (bs (Lib.join l sep))):=by
 intro M0 w cargs hM hg ha;obtain⟨u,v,rfl,hu,hv⟩:=va ha;cases hv;refine⟨(λw'=>gS func103 Nd _ w'),?_⟩;have hdat:(l.map bs).map (λx:ByteArray=>x.data.toList)=l:=by rw[oX];simp[zA,na]
 have fin:∀(e:Ending) (w':World),e=.returned (.string ⟨(Lib.join ((l.map bs).map (·.data.toList)) (bs sep).data.toList).toArray⟩)/\Below w.heap.size w w'->∃v',e=Ending.returned v'/\RepP M0 w' v' (.str (bs (Lib.join l sep)))/\Fr [] w w':=by
  rintro e w' ⟨rfl,h⟩
  refine⟨_,rfl,?_,j1 h⟩;rw[hdat,na];exact .str _
 generalize hxs:l.map (λx=>PV.str (bs x))=xs at hu
 cases hu with
 |slice f hlen hcap hfull hsz hM' hc hr=>
  rename_i b off len cap;subst hlen;have hlen2:xs.length=(l.map bs).length:=by rw[<-hxs];simp
  cases hl0:l with
  |nil=>
   subst hl0;simp only[zi]at hxs;subst hxs
   exact(Any.strings_Join_none lays156 lays156X (some ⟨b,off,none⟩) cap (bs sep) w).mono λe w' h=>fin e w' ⟨h.1,h.2▸Below.refl _ _⟩
  |cons x0 l0=>
   rw[<-hl0];have hcells:∀(j:Nat) x,(l.map bs)[j]?=some x->w.cell? ⟨b,off+j,none⟩=some (.string x):=by
    intro j x hj;have hjx:xs[j]?=some (.str x):=by
     rw[<-hxs,bU];rw[bU]at hj
     cases hq:l[j]? with
     |none=>rw[hq]at hj;cases hj
     |some q=>rw[hq]at hj;cases hj;rfl
    have hjl:=(aA.1 hjx).1;have h1:=hr j 0 _ _ hjx rfl;have h2:=hc j (by omega);rw[h2];have h3:f (j*1+0)=f j:=by simp
    rw[h3]at h1;cases hf:f j<;>rw[hf]at h1<;>cases h1;rfl
   have hbk:b<w.heap.size:=Kr (hcells 0 (bs x0) (by rw[hl0];rfl));have:=Any.strings_Join lays156 lays156X b off cap (l.map bs) (bs sep) w hcells hbk (by simp;omega) (by rw[<-hlen2];exact hcap) (by rw[hdat,na];omega);rw[<-hlen2]at this
   exact this.mono fin
 |empty hfull=>
  rename_i a cap;have hl0:l=[]:=by cases l with|nil=>rfl|cons x r=>simp at hxs
  subst hl0;exact(Any.strings_Join_none lays156 lays156X a cap (bs sep) w).mono λe w' h=>fin e w' ⟨h.1,h.2▸Below.refl _ _⟩
set_option maxRecDepth 4000
structure Frac where
 top:Int
 below:Int
 deriving DecidableEq
def Frac.pv (f:Frac):PV:=.agg [.int .i64 f.top,.int .i64 f.below]
attribute [go_sem] Frac.pv
def Frac.B (f:Frac):Prop:=-1000000000<=f.top/\f.top<=1000000000/\0<=f.below/\f.below<=1000000000
def Frac.lt (f g:Frac):Bool:=decide (f.top*g.below<g.top*f.below)
def Frac.down (f:Frac):Int:=f.top / f.below
def Frac.up (f:Frac):Int:=-(-f.top / f.below)
theorem DO(a b:Int)(hb:0<b):a / b=if a.tmod b<0 then a.tdiv b-1 else a.tdiv b:=by
 have h1:=Int.tdiv_eq_ediv (a:=a) (b:=b);have h2:=Int.tmod_eq_emod (a:=a) (b:=b);have h3:=Int.emod_nonneg a (Int.ne_of_gt hb);have h4:=Int.emod_lt_of_pos a hb;have h5:b.sign=1:=Int.sign_eq_one_of_pos hb;have h6:(b.natAbs:Int)=b:=Int.natAbs_of_nonneg (DE hb);rw[h5]at h1;by_cases hc:0<=a\/b ∣ a
 .rw[if_pos hc]at h1 h2;rw[if_neg (by omega)];omega
 .rw[if_neg hc]at h1 h2;rw[if_pos (by omega)];omega
theorem EA{a b B}(hb:0<b)(h1:-B<=a)(h2:a<=B)(hB:0<=B):-B<=a / b/\a / b<=B:=by
 refine⟨?_,?_⟩
 .have:-B*b<=a:=by
   have:B*1<=B*b:=Int.mul_le_mul_of_nonneg_left (by omega) hB;have e:-B*b=-(B*b):=by rw[Int.neg_mul]
   omega
  exact(Int.le_ediv_iff_mul_le hb).2 this
 .rcases Int.le_total 0 a with h|h
  .exact nt (Int.ediv_le_self b h) h2
  .have:a / b<=0:=by
    have:=Int.ediv_le_ediv hb h;simpa using this
   omega
theorem Jj(f:Frac)(hb:0<f.below)(h1:-1000000000000000000<=f.top)(h2:f.top<=1000000000000000000):PCall TP 382 [f.pv] (.int .i64 f.down):=by
 refine ae (am func382 rfl) rfl ?_;have hb0:¬f.below=0:=by omega
 have hr:=EA hb h1 h2 (by omega);have hd:=DO f.top f.below hb;have e1:IntKind.i64.wrap (f.top.tdiv f.below)=f.top.tdiv f.below:=by
  split at hd
  .exact aj (by omega) (by omega)
  .exact aj (by omega) (by omega)
 simp only[hb0,e1,Frac.down,go_sem,simprocAttr];cases hm:decide (f.top.tmod f.below<0)
 .rw[if_neg (by simpa using hm)]at hd;simp only[hd,go_sem,simprocAttr]
 .rw[if_pos (by simpa using hm)]at hd;have e2:IntKind.i64.wrap (f.top.tdiv f.below-1)=f.top.tdiv f.below-1:=aj (by omega) (by omega);simp only[hd,e2,go_sem,simprocAttr]
def Frac.le (f g:Frac):Prop:=f.top*g.below<=g.top*f.below
theorem Frac.le_refl(f:Frac):f.le f:=dF _
theorem Frac.le_total(f g:Frac):f.le g\/g.le f:=by simp only[Frac.le];omega
theorem Frac.le_trans{f g h:Frac}(hf:0<f.below)(hg:0<g.below)(hh:0<h.below)(h1:f.le g)(h2:g.le h):f.le h:=by
 unfold Frac.le at *
 have e1:f.top*g.below*h.below<=g.top*f.below*h.below:=La h1 (DE hh);have e2:g.top*h.below*f.below<=h.top*g.below*f.below:=La h2 (DE hf);have e3:f.top*h.below*g.below<=h.top*f.below*g.below:=by
  have a1:f.top*h.below*g.below=f.top*g.below*h.below:=by rw[wC,Int.mul_comm h.below,<-wC]
  have a2:g.top*f.below*h.below=g.top*h.below*f.below:=by rw[wC,Int.mul_comm f.below,<-wC]
  have a3:h.top*f.below*g.below=h.top*g.below*f.below:=by rw[wC,Int.mul_comm f.below,<-wC]
  omega
 exact Int.le_of_mul_le_mul_right e3 hg
def Nn (m:HrMark):AV:=.p m.pv
attribute [go_sem] Nn
def nums (l:List Int):PV:=.slice 1 (l.map intPV) false
def wo (t:HrTest) (i:Nat):HrTest:={ t with marks:=t.marks.eraseIdx i }
end Abs
end Go.Proofs.YtmndpldajflenaaGreatDoor
