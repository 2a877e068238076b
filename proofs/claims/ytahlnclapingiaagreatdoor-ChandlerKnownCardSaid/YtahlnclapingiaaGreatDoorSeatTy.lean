/-
  FACTS OF THE PROGRAM'S TYPES AND CODE, printed by program. No conditions.
-/
import Derived.Test.YtahlnclapingiaaGreatDoorAbsEval
import Derived.Test.YtahlnclapingiaaGreatDoorProg
import Derived.KernelRfl
set_option linter.unusedSimpArgs false
set_option linter.unusedVariables false
namespace Go.Proofs.YtahlnclapingiaaGreatDoor
namespace Abs
abbrev yA (t n b:Nat):Prop:=zbc Tryz.prog t=some true∧za7 Tryz.prog t=some n∧zgl Tryz.prog t=some b∧zdn Tryz.prog t=some false∧zdp Tryz.prog t n=true∧zhI Tryz.prog t=false
abbrev yB (t n b:Nat):Prop:=zbc Tryz.prog t=some false∧za7 Tryz.prog t=some n∧zgl Tryz.prog t=some b∧zdn Tryz.prog t=some false∧zdp Tryz.prog t n=true∧zhI Tryz.prog t=false
theorem yT0:yB 0 1 0∧zag Tryz.prog 0=some (.tuple []):=by and_intros<;>kernel_rfl
abbrev yS1 (t:Nat):Prop:=yB t 1 8∧zag Tryz.prog t=some (.nilfunc)∧zaZ Tryz.prog t=.func
theorem zHj:yS1 1∧yS1 45∧yS1 47∧yS1 48∧yS1 56∧yS1 57∧yS1 58∧yS1 59∧yS1 60∧yS1 61∧yS1 62∧yS1 65∧yS1 70∧yS1 71∧yS1 72∧yS1 76∧yS1 77∧yS1 79∧yS1 80∧yS1 82∧yS1 83∧yS1 84∧yS1 85∧yS1 86∧yS1 88∧yS1 90∧yS1 94∧yS1 96∧yS1 101∧yS1 102:=by and_intros<;>kernel_rfl
theorem zFp:yS1 105∧yS1 108∧yS1 115∧yS1 116∧yS1 117∧yS1 118∧yS1 119∧yS1 120∧yS1 121∧yS1 123∧yS1 124∧yS1 127∧yS1 129∧yS1 130∧yS1 131∧yS1 132∧yS1 133∧yS1 134∧yS1 135∧yS1 136∧yS1 137∧yS1 138∧yS1 139∧yS1 140∧yS1 142∧yS1 144∧yS1 149∧yS1 169∧yS1 171∧yS1 172:=by and_intros<;>kernel_rfl
theorem zFo:yS1 173∧yS1 174∧yS1 176∧yS1 177∧yS1 179∧yS1 180∧yS1 181∧yS1 182∧yS1 183∧yS1 185∧yS1 186∧yS1 188∧yS1 190∧yS1 191∧yS1 192∧yS1 193∧yS1 194∧yS1 195∧yS1 196∧yS1 197∧yS1 198∧yS1 199∧yS1 200∧yS1 201∧yS1 202∧yS1 204∧yS1 206∧yS1 208∧yS1 210∧yS1 212:=by and_intros<;>kernel_rfl
theorem zFn:yS1 214∧yS1 216∧yS1 217∧yS1 218∧yS1 223∧yS1 224∧yS1 225∧yS1 229∧yS1 230∧yS1 232∧yS1 233∧yS1 234∧yS1 235∧yS1 236∧yS1 237∧yS1 238∧yS1 239∧yS1 240∧yS1 241∧yS1 244∧yS1 245∧yS1 246∧yS1 247∧yS1 248∧yS1 249∧yS1 250∧yS1 251∧yS1 252∧yS1 253∧yS1 254:=by and_intros<;>kernel_rfl
theorem zC8:yS1 255∧yS1 256∧yS1 257∧yS1 258∧yS1 259∧yS1 260∧yS1 261∧yS1 262∧yS1 263∧yS1 264∧yS1 265∧yS1 266∧yS1 267∧yS1 268∧yS1 269∧yS1 271∧yS1 272∧yS1 273∧yS1 274∧yS1 275∧yS1 277∧yS1 278∧yS1 279∧yS1 280∧yS1 281∧yS1 284∧yS1 285∧yS1 286∧yS1 287∧yS1 288:=by and_intros<;>kernel_rfl
theorem zC7:yS1 289∧yS1 290∧yS1 291∧yS1 292∧yS1 294∧yS1 295∧yS1 298∧yS1 299∧yS1 302∧yS1 303∧yS1 304∧yS1 309∧yS1 310∧yS1 311∧yS1 312∧yS1 313∧yS1 314∧yS1 315∧yS1 316∧yS1 317∧yS1 318∧yS1 319∧yS1 320∧yS1 321∧yS1 322∧yS1 323∧yS1 324∧yS1 325∧yS1 326∧yS1 327:=by and_intros<;>kernel_rfl
theorem zC6:yS1 328∧yS1 329∧yS1 330∧yS1 331∧yS1 332∧yS1 333∧yS1 334∧yS1 337∧yS1 339∧yS1 340∧yS1 341∧yS1 342∧yS1 345∧yS1 346∧yS1 347∧yS1 348∧yS1 351∧yS1 355∧yS1 358∧yS1 361∧yS1 362∧yS1 363∧yS1 364∧yS1 368∧yS1 369∧yS1 370∧yS1 371∧yS1 372∧yS1 374∧yS1 375:=by and_intros<;>kernel_rfl
theorem zC5:yS1 378∧yS1 379∧yS1 380∧yS1 381∧yS1 382∧yS1 383∧yS1 384∧yS1 385∧yS1 386∧yS1 387∧yS1 388∧yS1 389∧yS1 390∧yS1 391∧yS1 392∧yS1 393∧yS1 394∧yS1 395∧yS1 398∧yS1 399∧yS1 400∧yS1 401∧yS1 402∧yS1 404∧yS1 407∧yS1 410∧yS1 411∧yS1 414∧yS1 419∧yS1 420:=by and_intros<;>kernel_rfl
theorem zC4:yS1 422∧yS1 423∧yS1 424∧yS1 426∧yS1 427∧yS1 428∧yS1 429∧yS1 430∧yS1 431∧yS1 435∧yS1 436∧yS1 439∧yS1 440∧yS1 442∧yS1 445∧yS1 446∧yS1 450∧yS1 451∧yS1 456∧yS1 458∧yS1 459∧yS1 460∧yS1 461∧yS1 466∧yS1 467∧yS1 468∧yS1 470∧yS1 471∧yS1 472∧yS1 475:=by and_intros<;>kernel_rfl
theorem zC3:yS1 476∧yS1 478∧yS1 486:=by and_intros<;>kernel_rfl
abbrev yS2 (t:Nat):Prop:=yB t 1 8∧zag Tryz.prog t=some (.int .i64 0)∧zjT Tryz.prog t=.int
theorem zHi:yS2 2∧yS2 3∧yS2 43∧yS2 335:=by and_intros<;>kernel_rfl
theorem yT3:yB 4 1 1∧zag Tryz.prog 4=some (.bool false)∧zaZ Tryz.prog 4=.bool:=by and_intros<;>kernel_rfl
abbrev yS4 (t:Nat):Prop:=yB t 1 1∧zag Tryz.prog t=some (.int .u8 0)∧zjT Tryz.prog t=.int
theorem zHh:yS4 5∧yS4 6∧yS4 484∧yS4 485:=by and_intros<;>kernel_rfl
theorem yT5:yA 7 4 24∧zag Tryz.prog 7=some (.agg [.int .i64 0,.int .i64 0,.bool false,.int .u8 0])∧zac Tryz.prog 7 0=some (0,2)∧zac Tryz.prog 7 1=some (1,3)∧zac Tryz.prog 7 2=some (2,4)∧zac Tryz.prog 7 3=some (3,6)∧zah Tryz.prog 7=some [(0,1),(1,1),(2,1),(3,1)]∧zbv Tryz.prog 7=some [.int,.int,.bool,.int]∧yA 8 4 24∧zag Tryz.prog 8=some (.agg [.int .i64 0,.int .i64 0,.bool false,.int .u8 0])∧zac Tryz.prog 8 0=some (0,2)∧zac Tryz.prog 8 1=some (1,3)∧zac Tryz.prog 8 2=some (2,4)∧zac Tryz.prog 8 3=some (3,6)∧zah Tryz.prog 8=some [(0,1),(1,1),(2,1),(3,1)]∧zbv Tryz.prog 8=some [.int,.int,.bool,.int]:=by and_intros<;>kernel_rfl
abbrev yS6 (t:Nat):Prop:=yB t 1 16∧zag Tryz.prog t=some (.str ⟨#[]⟩)∧zcw Tryz.prog t=true∧zjT Tryz.prog t=.str
theorem zHg:yS6 9∧yS6 10∧yS6 11:=by and_intros<;>kernel_rfl
abbrev yS7 (t:Nat):Prop:=yB t 1 8∧zag Tryz.prog t=some (.int .u64 0)∧zjT Tryz.prog t=.int
theorem zHf:yS7 12∧yS7 226∧yS7 228:=by and_intros<;>kernel_rfl
theorem yT8:yA 13 2 24∧zag Tryz.prog 13=some (.agg [.str ⟨#[]⟩,.int .u64 0])∧zac Tryz.prog 13 0=some (0,9)∧zac Tryz.prog 13 1=some (1,12)∧zah Tryz.prog 13=some [(0,1),(1,1)]∧yA 14 2 24∧zag Tryz.prog 14=some (.agg [.str ⟨#[]⟩,.int .u64 0])∧zac Tryz.prog 14 0=some (0,9)∧zac Tryz.prog 14 1=some (1,12)∧zah Tryz.prog 14=some [(0,1),(1,1)]:=by and_intros<;>kernel_rfl
abbrev yS9 (t:Nat):Prop:=yB t 1 8∧zag Tryz.prog t=some (.nilptr)∧zaZ Tryz.prog t=.ptr
theorem zHe:yS9 15∧yS9 17∧yS9 63∧yS9 66∧yS9 122∧yS9 338∧yS9 343∧yS9 359∧yS9 412∧yS9 447∧yS9 452:=by and_intros<;>kernel_rfl
theorem zMF:yB 16 1 8∧zag Tryz.prog 16=some (.nilptr)∧yB 170 1 8∧zag Tryz.prog 170=some (.nilptr):=by and_intros<;>kernel_rfl
theorem zME:yA 18 1 8∧zag Tryz.prog 18=some (.agg [.nilptr])∧zac Tryz.prog 18 0=some (0,17)∧zah Tryz.prog 18=some [(0,1)]∧yA 19 1 8∧zag Tryz.prog 19=some (.agg [.nilptr])∧zac Tryz.prog 19 0=some (0,17)∧zah Tryz.prog 19=some [(0,1)]:=by and_intros<;>kernel_rfl
abbrev zAq (t:Nat):Prop:=zbc Tryz.prog t=some false∧za7 Tryz.prog t=some 1∧zgl Tryz.prog t=some 16∧zag Tryz.prog t=some (.niliface)∧zdn Tryz.prog t=some true∧zdp Tryz.prog t 1=true∧zaZ Tryz.prog t=.iface∧zhI Tryz.prog t=false
theorem zFr:zAq 20∧zAq 73∧zAq 74:=by and_intros<;>kernel_rfl
abbrev zAp (t:Nat):Prop:=yB t 1 4∧zag Tryz.prog t=some (.int .i32 0)∧zjT Tryz.prog t=.int
theorem zFq:zAp 21∧zAp 487∧zAp 488:=by and_intros<;>kernel_rfl
theorem zMD:yB 22 1 24∧zag Tryz.prog 22=some (.nilslice)∧zaM Tryz.prog 22=some 148∧zaZ Tryz.prog 22=.slice:=by and_intros<;>kernel_rfl
theorem zMC:yB 23 1 24∧zag Tryz.prog 23=some (.nilslice)∧zaM Tryz.prog 23=some 152∧zaZ Tryz.prog 23=.slice:=by and_intros<;>kernel_rfl
theorem zMB:yA 24 3 56∧zag Tryz.prog 24=some (.agg [.nilslice,.nilslice,.int .i64 0])∧zac Tryz.prog 24 0=some (0,22)∧zac Tryz.prog 24 1=some (1,23)∧zac Tryz.prog 24 2=some (2,3)∧zah Tryz.prog 24=some [(0,1),(1,1),(2,1)]∧yA 25 3 56∧zag Tryz.prog 25=some (.agg [.nilslice,.nilslice,.int .i64 0])∧zac Tryz.prog 25 0=some (0,22)∧zac Tryz.prog 25 1=some (1,23)∧zac Tryz.prog 25 2=some (2,3)∧zah Tryz.prog 25=some [(0,1),(1,1),(2,1)]:=by and_intros<;>kernel_rfl
theorem zMA:yB 26 1 24∧zag Tryz.prog 26=some (.nilslice)∧zaM Tryz.prog 26=some 155∧zaZ Tryz.prog 26=.slice:=by and_intros<;>kernel_rfl
theorem zMz:yB 27 1 24∧zag Tryz.prog 27=some (.nilslice)∧zaM Tryz.prog 27=some 159∧zaZ Tryz.prog 27=.slice:=by and_intros<;>kernel_rfl
theorem zMy:yB 28 1 24∧zag Tryz.prog 28=some (.nilslice)∧zaM Tryz.prog 28=some 161∧zaZ Tryz.prog 28=.slice:=by and_intros<;>kernel_rfl
abbrev zg5 (t:Nat):Prop:=yA t 2 16∧zag Tryz.prog t=some (.agg [.int .i64 0,.int .i64 0])∧zac Tryz.prog t 0=some (0,3)∧zac Tryz.prog t 1=some (1,3)∧zah Tryz.prog t=some [(0,1),(1,1)]∧zbv Tryz.prog t=some [.int,.int]
theorem zFm:zg5 29∧zg5 30∧zg5 112∧zg5 113∧zg5 145∧zg5 146∧zg5 156∧zg5 157∧zg5 282∧zg5 283∧zg5 396∧zg5 397∧zg5 415∧zg5 417∧zg5 418:=by and_intros<;>kernel_rfl
theorem zMx:yA 31 6 80∧zag Tryz.prog 31=some (.agg [.nilslice,.nilslice,.int .i64 0,.int .i64 0,.int .i64 0,.int .i64 0])∧zac Tryz.prog 31 0=some (0,27)∧zac Tryz.prog 31 1=some (1,28)∧zac Tryz.prog 31 2=some (2,30)∧zac Tryz.prog 31 3=some (4,30)∧zah Tryz.prog 31=some [(0,1),(1,1),(2,2),(4,2)]∧yA 32 6 80∧zag Tryz.prog 32=some (.agg [.nilslice,.nilslice,.int .i64 0,.int .i64 0,.int .i64 0,.int .i64 0])∧zac Tryz.prog 32 0=some (0,27)∧zac Tryz.prog 32 1=some (1,28)∧zac Tryz.prog 32 2=some (2,30)∧zac Tryz.prog 32 3=some (4,30)∧zah Tryz.prog 32=some [(0,1),(1,1),(2,2),(4,2)]:=by and_intros<;>kernel_rfl
theorem zMw:yB 33 1 24∧zag Tryz.prog 33=some (.nilslice)∧zaM Tryz.prog 33=some 163∧zaZ Tryz.prog 33=.slice:=by and_intros<;>kernel_rfl
theorem zMv:yB 34 1 24∧zag Tryz.prog 34=some (.nilslice)∧zaM Tryz.prog 34=some 165∧zaZ Tryz.prog 34=.slice:=by and_intros<;>kernel_rfl
theorem zMu:yA 35 3 56∧zag Tryz.prog 35=some (.agg [.nilslice,.nilslice,.int .i64 0])∧zac Tryz.prog 35 0=some (0,33)∧zac Tryz.prog 35 1=some (1,34)∧zac Tryz.prog 35 2=some (2,3)∧zah Tryz.prog 35=some [(0,1),(1,1),(2,1)]∧yA 36 3 56∧zag Tryz.prog 36=some (.agg [.nilslice,.nilslice,.int .i64 0])∧zac Tryz.prog 36 0=some (0,33)∧zac Tryz.prog 36 1=some (1,34)∧zac Tryz.prog 36 2=some (2,3)∧zah Tryz.prog 36=some [(0,1),(1,1),(2,1)]:=by and_intros<;>kernel_rfl
theorem zMt:yB 37 1 24∧zag Tryz.prog 37=some (.nilslice)∧zaM Tryz.prog 37=some 167∧zaZ Tryz.prog 37=.slice:=by and_intros<;>kernel_rfl
theorem zMs:yA 38 4 48∧zag Tryz.prog 38=some (.agg [.nilslice,.int .i64 0,.int .i64 0,.int .i64 0])∧zac Tryz.prog 38 0=some (0,37)∧zac Tryz.prog 38 1=some (1,30)∧zac Tryz.prog 38 2=some (3,3)∧zah Tryz.prog 38=some [(0,1),(1,2),(3,1)]∧yA 39 4 48∧zag Tryz.prog 39=some (.agg [.nilslice,.int .i64 0,.int .i64 0,.int .i64 0])∧zac Tryz.prog 39 0=some (0,37)∧zac Tryz.prog 39 1=some (1,30)∧zac Tryz.prog 39 2=some (3,3)∧zah Tryz.prog 39=some [(0,1),(1,2),(3,1)]:=by and_intros<;>kernel_rfl
theorem zMr:zbc Tryz.prog 40=some true∧za7 Tryz.prog 40=some 17∧zag Tryz.prog 40=some (.agg [.nilslice,.nilslice,.int .i64 0,.nilslice,.nilslice,.nilslice,.int .i64 0,.int .i64 0,.int .i64 0,.int .i64 0,.nilslice,.nilslice,.int .i64 0,.nilslice,.int .i64 0,.int .i64 0,.int .i64 0])∧zac Tryz.prog 40 0=some (0,25)∧zac Tryz.prog 40 1=some (3,26)∧zac Tryz.prog 40 2=some (4,32)∧zac Tryz.prog 40 3=some (10,36)∧zac Tryz.prog 40 4=some (13,39)∧zdn Tryz.prog 40=some false∧zdp Tryz.prog 40 17=true∧zah Tryz.prog 40=some [(0,3),(3,1),(4,6),(10,3),(13,4)]∧zhI Tryz.prog 40=false∧zbc Tryz.prog 41=some true∧za7 Tryz.prog 41=some 17∧zag Tryz.prog 41=some (.agg [.nilslice,.nilslice,.int .i64 0,.nilslice,.nilslice,.nilslice,.int .i64 0,.int .i64 0,.int .i64 0,.int .i64 0,.nilslice,.nilslice,.int .i64 0,.nilslice,.int .i64 0,.int .i64 0,.int .i64 0])∧zac Tryz.prog 41 0=some (0,25)∧zac Tryz.prog 41 1=some (3,26)∧zac Tryz.prog 41 2=some (4,32)∧zac Tryz.prog 41 3=some (10,36)∧zac Tryz.prog 41 4=some (13,39)∧zdn Tryz.prog 41=some false∧zdp Tryz.prog 41 17=true∧zah Tryz.prog 41=some [(0,3),(3,1),(4,6),(10,3),(13,4)]∧zhI Tryz.prog 41=false:=by and_intros<;>kernel_rfl
theorem zMq:yB 42 1 24∧zag Tryz.prog 42=some (.nilslice)∧zaM Tryz.prog 42=some 9∧zaZ Tryz.prog 42=.slice:=by and_intros<;>kernel_rfl
theorem zMp:yB 44 1 0∧zag Tryz.prog 44=some (.tuple [.str ⟨#[]⟩,.int .i64 0]):=by and_intros<;>kernel_rfl
abbrev zAo (t:Nat):Prop:=yB t 1 0∧zag Tryz.prog t=some (.tuple [.nilslice,.int .i64 0])
theorem zFl:zAo 46∧zAo 213∧zAo 270:=by and_intros<;>kernel_rfl
theorem zMo:yB 49 1 24∧zag Tryz.prog 49=some (.nilslice)∧zaM Tryz.prog 49=some 104∧zaZ Tryz.prog 49=.slice:=by and_intros<;>kernel_rfl
theorem zMn:yB 50 1 24∧zag Tryz.prog 50=some (.nilslice)∧zaM Tryz.prog 50=some 107∧zaZ Tryz.prog 50=.slice:=by and_intros<;>kernel_rfl
theorem zMm:yB 51 1 24∧zag Tryz.prog 51=some (.nilslice)∧zaM Tryz.prog 51=some 111∧zaZ Tryz.prog 51=.slice:=by and_intros<;>kernel_rfl
theorem zMl:yB 52 1 24∧zag Tryz.prog 52=some (.nilslice)∧zaM Tryz.prog 52=some 113∧zaZ Tryz.prog 52=.slice:=by and_intros<;>kernel_rfl
theorem zMk:yA 53 6 112∧zag Tryz.prog 53=some (.agg [.nilslice,.nilslice,.nilslice,.nilslice,.int .i64 0,.int .i64 0])∧zac Tryz.prog 53 0=some (0,49)∧zac Tryz.prog 53 1=some (1,50)∧zac Tryz.prog 53 2=some (2,51)∧zac Tryz.prog 53 3=some (3,52)∧zac Tryz.prog 53 4=some (4,3)∧zac Tryz.prog 53 5=some (5,3)∧zah Tryz.prog 53=some [(0,1),(1,1),(2,1),(3,1),(4,1),(5,1)]∧yA 54 6 112∧zag Tryz.prog 54=some (.agg [.nilslice,.nilslice,.nilslice,.nilslice,.int .i64 0,.int .i64 0])∧zac Tryz.prog 54 0=some (0,49)∧zac Tryz.prog 54 1=some (1,50)∧zac Tryz.prog 54 2=some (2,51)∧zac Tryz.prog 54 3=some (3,52)∧zac Tryz.prog 54 4=some (4,3)∧zac Tryz.prog 54 5=some (5,3)∧zah Tryz.prog 54=some [(0,1),(1,1),(2,1),(3,1),(4,1),(5,1)]:=by and_intros<;>kernel_rfl
abbrev zgE (t:Nat):Prop:=yB t 1 0
theorem zFk:zgE 55∧zgE 78∧zgE 95∧zgE 100∧zgE 114∧zgE 143∧zgE 203∧zgE 209∧zgE 211∧zgE 276∧zgE 354∧zgE 421∧zgE 434∧zgE 441∧zgE 457∧zgE 465:=by and_intros<;>kernel_rfl
theorem zMj:yB 64 1 0∧zag Tryz.prog 64=some (.tuple [.nilptr,.nilslice,.nilslice,.int .i64 0]):=by and_intros<;>kernel_rfl
theorem zMi:yB 67 1 24∧zag Tryz.prog 67=some (.nilslice)∧zaM Tryz.prog 67=some 5∧zoI Tryz.prog 67=true∧zaZ Tryz.prog 67=.slice:=by and_intros<;>kernel_rfl
theorem zMh:yA 68 2 32∧zag Tryz.prog 68=some (.agg [.nilptr,.nilslice])∧zac Tryz.prog 68 0=some (0,66)∧zac Tryz.prog 68 1=some (1,67)∧zah Tryz.prog 68=some [(0,1),(1,1)]:=by and_intros<;>kernel_rfl
theorem zMg:zbc Tryz.prog 69=some true∧za7 Tryz.prog 69=some 2∧zgl Tryz.prog 69=some 32∧zag Tryz.prog 69=some (.agg [.nilptr,.nilslice])∧zac Tryz.prog 69 0=some (0,66)∧zac Tryz.prog 69 1=some (1,67)∧zdn Tryz.prog 69=some false∧zdp Tryz.prog 69 2=true∧zah Tryz.prog 69=some [(0,1),(1,1)]∧zhI Tryz.prog 69=true∧zwI Tryz.prog 69=some 5:=by and_intros<;>kernel_rfl
theorem zMf:yB 75 1 0∧zag Tryz.prog 75=some (.tuple [.int .i64 0,.niliface])∧yB 336 1 0∧zag Tryz.prog 336=some (.tuple [.int .i64 0,.niliface]):=by and_intros<;>kernel_rfl
theorem zMe:yB 81 1 0∧zag Tryz.prog 81=some (.tuple [.str ⟨#[]⟩,.str ⟨#[]⟩,.bool false]):=by and_intros<;>kernel_rfl
abbrev zwR (t:Nat):Prop:=yB t 1 0∧zag Tryz.prog t=some (.tuple [.nilptr,.int .i64 0])
theorem zFj:zwR 87∧zwR 344∧zwR 360∧zwR 413:=by and_intros<;>kernel_rfl
theorem zMd:yB 89 1 0∧zag Tryz.prog 89=some (.tuple [.str ⟨#[]⟩,.bool false,.int .i64 0]):=by and_intros<;>kernel_rfl
theorem zMc:zbc Tryz.prog 91=some true∧za7 Tryz.prog 91=some 23∧zag Tryz.prog 91=some (.agg [.nilslice,.nilslice,.nilslice,.nilslice,.int .i64 0,.int .i64 0,.nilslice,.nilslice,.int .i64 0,.nilslice,.nilslice,.nilslice,.int .i64 0,.int .i64 0,.int .i64 0,.int .i64 0,.nilslice,.nilslice,.int .i64 0,.nilslice,.int .i64 0,.int .i64 0,.int .i64 0])∧zac Tryz.prog 91 0=some (0,54)∧zac Tryz.prog 91 1=some (6,41)∧zdn Tryz.prog 91=some false∧zdp Tryz.prog 91 23=true∧zah Tryz.prog 91=some [(0,6),(6,17)]∧zhI Tryz.prog 91=false∧zbc Tryz.prog 92=some true∧za7 Tryz.prog 92=some 23∧zag Tryz.prog 92=some (.agg [.nilslice,.nilslice,.nilslice,.nilslice,.int .i64 0,.int .i64 0,.nilslice,.nilslice,.int .i64 0,.nilslice,.nilslice,.nilslice,.int .i64 0,.int .i64 0,.int .i64 0,.int .i64 0,.nilslice,.nilslice,.int .i64 0,.nilslice,.int .i64 0,.int .i64 0,.int .i64 0])∧zac Tryz.prog 92 0=some (0,54)∧zac Tryz.prog 92 1=some (6,41)∧zdn Tryz.prog 92=some false∧zdp Tryz.prog 92 23=true∧zah Tryz.prog 92=some [(0,6),(6,17)]∧zhI Tryz.prog 92=false:=by and_intros<;>kernel_rfl
theorem zMb:yB 93 1 0∧zag Tryz.prog 93=some (.tuple [.int .i64 0,.int .i64 0,.int .i64 0]):=by and_intros<;>kernel_rfl
theorem zMa:yB 97 1 24∧zag Tryz.prog 97=some (.nilslice)∧zaM Tryz.prog 97=some 3∧zaZ Tryz.prog 97=.slice:=by and_intros<;>kernel_rfl
theorem zL9:yA 98 4 80∧zag Tryz.prog 98=some (.agg [.str ⟨#[]⟩,.nilslice,.nilslice,.str ⟨#[]⟩])∧zac Tryz.prog 98 0=some (0,9)∧zac Tryz.prog 98 1=some (1,42)∧zac Tryz.prog 98 2=some (2,97)∧zac Tryz.prog 98 3=some (3,9)∧zah Tryz.prog 98=some [(0,1),(1,1),(2,1),(3,1)]∧yA 99 4 80∧zag Tryz.prog 99=some (.agg [.str ⟨#[]⟩,.nilslice,.nilslice,.str ⟨#[]⟩])∧zac Tryz.prog 99 0=some (0,9)∧zac Tryz.prog 99 1=some (1,42)∧zac Tryz.prog 99 2=some (2,97)∧zac Tryz.prog 99 3=some (3,9)∧zah Tryz.prog 99=some [(0,1),(1,1),(2,1),(3,1)]:=by and_intros<;>kernel_rfl
theorem zL8:yA 103 4 56∧zag Tryz.prog 103=some (.agg [.str ⟨#[]⟩,.int .i64 0,.int .i64 0,.nilslice])∧zac Tryz.prog 103 0=some (0,9)∧zac Tryz.prog 103 1=some (1,3)∧zac Tryz.prog 103 2=some (2,3)∧zac Tryz.prog 103 3=some (3,97)∧zah Tryz.prog 103=some [(0,1),(1,1),(2,1),(3,1)]∧yA 104 4 56∧zag Tryz.prog 104=some (.agg [.str ⟨#[]⟩,.int .i64 0,.int .i64 0,.nilslice])∧zac Tryz.prog 104 0=some (0,9)∧zac Tryz.prog 104 1=some (1,3)∧zac Tryz.prog 104 2=some (2,3)∧zac Tryz.prog 104 3=some (3,97)∧zah Tryz.prog 104=some [(0,1),(1,1),(2,1),(3,1)]:=by and_intros<;>kernel_rfl
theorem zL7:yA 106 4 40∧zag Tryz.prog 106=some (.agg [.str ⟨#[]⟩,.int .i64 0,.int .i64 0,.int .i64 0])∧zac Tryz.prog 106 0=some (0,9)∧zac Tryz.prog 106 1=some (1,3)∧zac Tryz.prog 106 2=some (2,3)∧zac Tryz.prog 106 3=some (3,3)∧zah Tryz.prog 106=some [(0,1),(1,1),(2,1),(3,1)]∧zbv Tryz.prog 106=some [.str,.int,.int,.int]∧yA 107 4 40∧zag Tryz.prog 107=some (.agg [.str ⟨#[]⟩,.int .i64 0,.int .i64 0,.int .i64 0])∧zac Tryz.prog 107 0=some (0,9)∧zac Tryz.prog 107 1=some (1,3)∧zac Tryz.prog 107 2=some (2,3)∧zac Tryz.prog 107 3=some (3,3)∧zah Tryz.prog 107=some [(0,1),(1,1),(2,1),(3,1)]∧zbv Tryz.prog 107=some [.str,.int,.int,.int]:=by and_intros<;>kernel_rfl
theorem zL6:yB 109 1 24∧zag Tryz.prog 109=some (.nilslice)∧zaM Tryz.prog 109=some 146∧zaZ Tryz.prog 109=.slice:=by and_intros<;>kernel_rfl
theorem zL5:yA 110 3 40∧zag Tryz.prog 110=some (.agg [.int .i64 0,.int .i64 0,.nilslice])∧zac Tryz.prog 110 0=some (0,3)∧zac Tryz.prog 110 1=some (1,3)∧zac Tryz.prog 110 2=some (2,109)∧zah Tryz.prog 110=some [(0,1),(1,1),(2,1)]∧yA 111 3 40∧zag Tryz.prog 111=some (.agg [.int .i64 0,.int .i64 0,.nilslice])∧zac Tryz.prog 111 0=some (0,3)∧zac Tryz.prog 111 1=some (1,3)∧zac Tryz.prog 111 2=some (2,109)∧zah Tryz.prog 111=some [(0,1),(1,1),(2,1)]:=by and_intros<;>kernel_rfl
theorem zL4:yA 125 2 16∧zag Tryz.prog 125=some (.agg [.bool false,.nilfunc])∧zac Tryz.prog 125 0=some (0,4)∧zac Tryz.prog 125 1=some (1,77)∧zah Tryz.prog 125=some [(0,1),(1,1)]∧yA 126 2 16∧zag Tryz.prog 126=some (.agg [.bool false,.nilfunc])∧zac Tryz.prog 126 0=some (0,4)∧zac Tryz.prog 126 1=some (1,77)∧zah Tryz.prog 126=some [(0,1),(1,1)]:=by and_intros<;>kernel_rfl
theorem zL3:yA 128 5 40∧zag Tryz.prog 128=some (.agg [.int .i64 0,.int .i64 0,.int .i64 0,.int .i64 0,.int .i64 0])∧zbQ Tryz.prog 128=some (5,43)∧zah Tryz.prog 128=none:=by and_intros<;>kernel_rfl
theorem zL2:yB 141 1 0∧zag Tryz.prog 141=some (.tuple [.nilslice,.nilslice]):=by and_intros<;>kernel_rfl
theorem zL1:yA 147 2 24∧zag Tryz.prog 147=some (.agg [.str ⟨#[]⟩,.int .i64 0])∧zac Tryz.prog 147 0=some (0,9)∧zac Tryz.prog 147 1=some (1,3)∧zah Tryz.prog 147=some [(0,1),(1,1)]∧zbv Tryz.prog 147=some [.str,.int]∧yA 148 2 24∧zag Tryz.prog 148=some (.agg [.str ⟨#[]⟩,.int .i64 0])∧zac Tryz.prog 148 0=some (0,9)∧zac Tryz.prog 148 1=some (1,3)∧zah Tryz.prog 148=some [(0,1),(1,1)]∧zbv Tryz.prog 148=some [.str,.int]:=by and_intros<;>kernel_rfl
theorem zL0:yB 150 1 24∧zag Tryz.prog 150=some (.nilslice)∧zaM Tryz.prog 150=some 30∧zaZ Tryz.prog 150=.slice:=by and_intros<;>kernel_rfl
theorem zLZ:yA 151 2 40∧zag Tryz.prog 151=some (.agg [.str ⟨#[]⟩,.nilslice])∧zac Tryz.prog 151 0=some (0,9)∧zac Tryz.prog 151 1=some (1,150)∧zah Tryz.prog 151=some [(0,1),(1,1)]∧yA 152 2 40∧zag Tryz.prog 152=some (.agg [.str ⟨#[]⟩,.nilslice])∧zac Tryz.prog 152 0=some (0,9)∧zac Tryz.prog 152 1=some (1,150)∧zah Tryz.prog 152=some [(0,1),(1,1)]:=by and_intros<;>kernel_rfl
theorem zLY:yB 153 1 24∧zag Tryz.prog 153=some (.nilslice)∧zaM Tryz.prog 153=some 157∧zaZ Tryz.prog 153=.slice:=by and_intros<;>kernel_rfl
theorem zLX:yA 154 7 80∧zag Tryz.prog 154=some (.agg [.str ⟨#[]⟩,.int .i64 0,.int .i64 0,.int .i64 0,.int .i64 0,.int .i64 0,.nilslice])∧zac Tryz.prog 154 0=some (0,9)∧zac Tryz.prog 154 1=some (1,3)∧zac Tryz.prog 154 2=some (2,30)∧zac Tryz.prog 154 3=some (4,30)∧zac Tryz.prog 154 4=some (6,153)∧zah Tryz.prog 154=some [(0,1),(1,1),(2,2),(4,2),(6,1)]∧yA 155 7 80∧zag Tryz.prog 155=some (.agg [.str ⟨#[]⟩,.int .i64 0,.int .i64 0,.int .i64 0,.int .i64 0,.int .i64 0,.nilslice])∧zac Tryz.prog 155 0=some (0,9)∧zac Tryz.prog 155 1=some (1,3)∧zac Tryz.prog 155 2=some (2,30)∧zac Tryz.prog 155 3=some (4,30)∧zac Tryz.prog 155 4=some (6,153)∧zah Tryz.prog 155=some [(0,1),(1,1),(2,2),(4,2),(6,1)]:=by and_intros<;>kernel_rfl
theorem zLW:yA 158 4 40∧zag Tryz.prog 158=some (.agg [.str ⟨#[]⟩,.int .i64 0,.int .i64 0,.int .i64 0])∧zac Tryz.prog 158 0=some (0,9)∧zac Tryz.prog 158 1=some (1,3)∧zac Tryz.prog 158 2=some (2,30)∧zah Tryz.prog 158=some [(0,1),(1,1),(2,2)]∧zbv Tryz.prog 158=some [.str,.int,.int,.int]∧yA 159 4 40∧zag Tryz.prog 159=some (.agg [.str ⟨#[]⟩,.int .i64 0,.int .i64 0,.int .i64 0])∧zac Tryz.prog 159 0=some (0,9)∧zac Tryz.prog 159 1=some (1,3)∧zac Tryz.prog 159 2=some (2,30)∧zah Tryz.prog 159=some [(0,1),(1,1),(2,2)]∧zbv Tryz.prog 159=some [.str,.int,.int,.int]:=by and_intros<;>kernel_rfl
theorem zLV:yA 160 8 72∧zag Tryz.prog 160=some (.agg [.str ⟨#[]⟩,.int .i64 0,.int .i64 0,.int .i64 0,.int .i64 0,.int .i64 0,.int .i64 0,.int .i64 0])∧zac Tryz.prog 160 0=some (0,9)∧zac Tryz.prog 160 1=some (1,30)∧zac Tryz.prog 160 2=some (3,30)∧zac Tryz.prog 160 3=some (5,30)∧zac Tryz.prog 160 4=some (7,3)∧zah Tryz.prog 160=some [(0,1),(1,2),(3,2),(5,2),(7,1)]∧zbv Tryz.prog 160=some [.str,.int,.int,.int,.int,.int,.int,.int]∧yA 161 8 72∧zag Tryz.prog 161=some (.agg [.str ⟨#[]⟩,.int .i64 0,.int .i64 0,.int .i64 0,.int .i64 0,.int .i64 0,.int .i64 0,.int .i64 0])∧zac Tryz.prog 161 0=some (0,9)∧zac Tryz.prog 161 1=some (1,30)∧zac Tryz.prog 161 2=some (3,30)∧zac Tryz.prog 161 3=some (5,30)∧zac Tryz.prog 161 4=some (7,3)∧zah Tryz.prog 161=some [(0,1),(1,2),(3,2),(5,2),(7,1)]∧zbv Tryz.prog 161=some [.str,.int,.int,.int,.int,.int,.int,.int]:=by and_intros<;>kernel_rfl
theorem zLU:yA 162 4 40∧zag Tryz.prog 162=some (.agg [.str ⟨#[]⟩,.int .i64 0,.int .i64 0,.int .i64 0])∧zac Tryz.prog 162 0=some (0,9)∧zac Tryz.prog 162 1=some (1,30)∧zac Tryz.prog 162 2=some (3,3)∧zah Tryz.prog 162=some [(0,1),(1,2),(3,1)]∧zbv Tryz.prog 162=some [.str,.int,.int,.int]∧yA 163 4 40∧zag Tryz.prog 163=some (.agg [.str ⟨#[]⟩,.int .i64 0,.int .i64 0,.int .i64 0])∧zac Tryz.prog 163 0=some (0,9)∧zac Tryz.prog 163 1=some (1,30)∧zac Tryz.prog 163 2=some (3,3)∧zah Tryz.prog 163=some [(0,1),(1,2),(3,1)]∧zbv Tryz.prog 163=some [.str,.int,.int,.int]:=by and_intros<;>kernel_rfl
theorem zLT:yA 164 5 48∧zag Tryz.prog 164=some (.agg [.str ⟨#[]⟩,.int .i64 0,.int .i64 0,.int .i64 0,.int .i64 0])∧zac Tryz.prog 164 0=some (0,9)∧zac Tryz.prog 164 1=some (1,30)∧zac Tryz.prog 164 2=some (3,30)∧zah Tryz.prog 164=some [(0,1),(1,2),(3,2)]∧zbv Tryz.prog 164=some [.str,.int,.int,.int,.int]∧yA 165 5 48∧zag Tryz.prog 165=some (.agg [.str ⟨#[]⟩,.int .i64 0,.int .i64 0,.int .i64 0,.int .i64 0])∧zac Tryz.prog 165 0=some (0,9)∧zac Tryz.prog 165 1=some (1,30)∧zac Tryz.prog 165 2=some (3,30)∧zah Tryz.prog 165=some [(0,1),(1,2),(3,2)]∧zbv Tryz.prog 165=some [.str,.int,.int,.int,.int]:=by and_intros<;>kernel_rfl
theorem zLS:yA 166 4 56∧zag Tryz.prog 166=some (.agg [.str ⟨#[]⟩,.int .i64 0,.int .i64 0,.nilslice])∧zac Tryz.prog 166 0=some (0,9)∧zac Tryz.prog 166 1=some (1,30)∧zac Tryz.prog 166 2=some (3,97)∧zah Tryz.prog 166=some [(0,1),(1,2),(3,1)]∧yA 167 4 56∧zag Tryz.prog 167=some (.agg [.str ⟨#[]⟩,.int .i64 0,.int .i64 0,.nilslice])∧zac Tryz.prog 167 0=some (0,9)∧zac Tryz.prog 167 1=some (1,30)∧zac Tryz.prog 167 2=some (3,97)∧zah Tryz.prog 167=some [(0,1),(1,2),(3,1)]:=by and_intros<;>kernel_rfl
theorem zLR:yB 168 1 24∧zag Tryz.prog 168=some (.nilslice)∧zaM Tryz.prog 168=some 20∧zaZ Tryz.prog 168=.slice:=by and_intros<;>kernel_rfl
theorem zLQ:yB 175 1 0∧zag Tryz.prog 175=some (.tuple [.int .i32 0,.int .i64 0]):=by and_intros<;>kernel_rfl
theorem zLP:yB 178 1 0∧zag Tryz.prog 178=some (.tuple [.str ⟨#[]⟩,.bool false]):=by and_intros<;>kernel_rfl
theorem zLO:yB 184 1 0∧zag Tryz.prog 184=some (.tuple [.int .i64 0,.int .i64 0])∧yB 215 1 0∧zag Tryz.prog 215=some (.tuple [.int .i64 0,.int .i64 0]):=by and_intros<;>kernel_rfl
theorem zLN:yA 187 4 32∧zag Tryz.prog 187=some (.agg [.int .i64 0,.int .i64 0,.int .i64 0,.int .i64 0])∧zbQ Tryz.prog 187=some (4,3)∧zah Tryz.prog 187=none∧yA 477 4 32∧zag Tryz.prog 477=some (.agg [.int .i64 0,.int .i64 0,.int .i64 0,.int .i64 0])∧zbQ Tryz.prog 477=some (4,3)∧zah Tryz.prog 477=none:=by and_intros<;>kernel_rfl
theorem zLM:yA 189 3 24∧zag Tryz.prog 189=some (.agg [.int .i64 0,.int .i64 0,.int .i64 0])∧zbQ Tryz.prog 189=some (3,3)∧zah Tryz.prog 189=none:=by and_intros<;>kernel_rfl
theorem zLL:yB 205 1 0∧zag Tryz.prog 205=some (.tuple [.nilslice,.int .i64 0,.int .i64 0]):=by and_intros<;>kernel_rfl
theorem zLK:yB 207 1 24∧zag Tryz.prog 207=some (.nilslice)∧zaM Tryz.prog 207=some 283∧zaZ Tryz.prog 207=.slice:=by and_intros<;>kernel_rfl
theorem zLJ:yA 219 5 40∧zag Tryz.prog 219=some (.agg [.int .i64 0,.int .i64 0,.int .i64 0,.int .i64 0,.int .i64 0])∧zac Tryz.prog 219 0=some (0,3)∧zac Tryz.prog 219 1=some (1,3)∧zac Tryz.prog 219 2=some (2,3)∧zac Tryz.prog 219 3=some (3,30)∧zah Tryz.prog 219=some [(0,1),(1,1),(2,1),(3,2)]∧zbv Tryz.prog 219=some [.int,.int,.int,.int,.int]∧yA 220 5 40∧zag Tryz.prog 220=some (.agg [.int .i64 0,.int .i64 0,.int .i64 0,.int .i64 0,.int .i64 0])∧zac Tryz.prog 220 0=some (0,3)∧zac Tryz.prog 220 1=some (1,3)∧zac Tryz.prog 220 2=some (2,3)∧zac Tryz.prog 220 3=some (3,30)∧zah Tryz.prog 220=some [(0,1),(1,1),(2,1),(3,2)]∧zbv Tryz.prog 220=some [.int,.int,.int,.int,.int]:=by and_intros<;>kernel_rfl
theorem zLI:yA 221 5 56∧zag Tryz.prog 221=some (.agg [.nilslice,.int .i64 0,.int .i64 0,.int .i64 0,.int .i64 0])∧zac Tryz.prog 221 0=some (0,150)∧zac Tryz.prog 221 1=some (1,30)∧zac Tryz.prog 221 2=some (3,30)∧zah Tryz.prog 221=some [(0,1),(1,2),(3,2)]∧yA 222 5 56∧zag Tryz.prog 222=some (.agg [.nilslice,.int .i64 0,.int .i64 0,.int .i64 0,.int .i64 0])∧zac Tryz.prog 222 0=some (0,150)∧zac Tryz.prog 222 1=some (1,30)∧zac Tryz.prog 222 2=some (3,30)∧zah Tryz.prog 222=some [(0,1),(1,2),(3,2)]:=by and_intros<;>kernel_rfl
theorem zLH:yA 227 24 24∧zag Tryz.prog 227=some (.agg [.int .u8 0,.int .u8 0,.int .u8 0,.int .u8 0,.int .u8 0,.int .u8 0,.int .u8 0,.int .u8 0,.int .u8 0,.int .u8 0,.int .u8 0,.int .u8 0,.int .u8 0,.int .u8 0,.int .u8 0,.int .u8 0,.int .u8 0,.int .u8 0,.int .u8 0,.int .u8 0,.int .u8 0,.int .u8 0,.int .u8 0,.int .u8 0])∧zbQ Tryz.prog 227=some (24,5)∧zah Tryz.prog 227=none:=by and_intros<;>kernel_rfl
theorem zLG:yB 231 1 0∧zag Tryz.prog 231=some (.tuple [.nilslice,.str ⟨#[]⟩]):=by and_intros<;>kernel_rfl
theorem zLF:yA 242 2 32∧zag Tryz.prog 242=some (.agg [.nilslice,.int .i64 0])∧zac Tryz.prog 242 0=some (0,153)∧zac Tryz.prog 242 1=some (1,3)∧zah Tryz.prog 242=some [(0,1),(1,1)]∧yA 243 2 32∧zag Tryz.prog 243=some (.agg [.nilslice,.int .i64 0])∧zac Tryz.prog 243 0=some (0,153)∧zac Tryz.prog 243 1=some (1,3)∧zah Tryz.prog 243=some [(0,1),(1,1)]:=by and_intros<;>kernel_rfl
theorem zLE:yB 293 1 24∧zag Tryz.prog 293=some (.nilslice)∧zaM Tryz.prog 293=some 97∧zaZ Tryz.prog 293=.slice:=by and_intros<;>kernel_rfl
theorem zLD:yB 296 1 4∧zag Tryz.prog 296=some (.int .u32 0)∧zjT Tryz.prog 296=.int:=by and_intros<;>kernel_rfl
theorem zLC:yB 297 1 0∧zag Tryz.prog 297=some (.tuple [.int .u32 0,.int .u32 0]):=by and_intros<;>kernel_rfl
theorem zLB:yA 300 20 160∧zag Tryz.prog 300=some (.agg [.int .u64 0,.int .u64 0,.int .u64 0,.int .u64 0,.int .u64 0,.int .u64 0,.int .u64 0,.int .u64 0,.int .u64 0,.int .u64 0,.int .u64 0,.int .u64 0,.int .u64 0,.int .u64 0,.int .u64 0,.int .u64 0,.int .u64 0,.int .u64 0,.int .u64 0,.int .u64 0])∧zbQ Tryz.prog 300=some (20,228)∧zah Tryz.prog 300=none:=by and_intros<;>kernel_rfl
theorem zLA:yA 301 65 65∧zag Tryz.prog 301=some (.agg [.int .u8 0,.int .u8 0,.int .u8 0,.int .u8 0,.int .u8 0,.int .u8 0,.int .u8 0,.int .u8 0,.int .u8 0,.int .u8 0,.int .u8 0,.int .u8 0,.int .u8 0,.int .u8 0,.int .u8 0,.int .u8 0,.int .u8 0,.int .u8 0,.int .u8 0,.int .u8 0,.int .u8 0,.int .u8 0,.int .u8 0,.int .u8 0,.int .u8 0,.int .u8 0,.int .u8 0,.int .u8 0,.int .u8 0,.int .u8 0,.int .u8 0,.int .u8 0,.int .u8 0,.int .u8 0,.int .u8 0,.int .u8 0,.int .u8 0,.int .u8 0,.int .u8 0,.int .u8 0,.int .u8 0,.int .u8 0,.int .u8 0,.int .u8 0,.int .u8 0,.int .u8 0,.int .u8 0,.int .u8 0,.int .u8 0,.int .u8 0,.int .u8 0,.int .u8 0,.int .u8 0,.int .u8 0,.int .u8 0,.int .u8 0,.int .u8 0,.int .u8 0,.int .u8 0,.int .u8 0,.int .u8 0,.int .u8 0,.int .u8 0,.int .u8 0,.int .u8 0])∧zbQ Tryz.prog 301=some (65,5)∧zah Tryz.prog 301=none:=by and_intros<;>kernel_rfl
theorem zLz:yA 305 256 256∧zag Tryz.prog 305=some (.agg [.int .u8 0,.int .u8 0,.int .u8 0,.int .u8 0,.int .u8 0,.int .u8 0,.int .u8 0,.int .u8 0,.int .u8 0,.int .u8 0,.int .u8 0,.int .u8 0,.int .u8 0,.int .u8 0,.int .u8 0,.int .u8 0,.int .u8 0,.int .u8 0,.int .u8 0,.int .u8 0,.int .u8 0,.int .u8 0,.int .u8 0,.int .u8 0,.int .u8 0,.int .u8 0,.int .u8 0,.int .u8 0,.int .u8 0,.int .u8 0,.int .u8 0,.int .u8 0,.int .u8 0,.int .u8 0,.int .u8 0,.int .u8 0,.int .u8 0,.int .u8 0,.int .u8 0,.int .u8 0,.int .u8 0,.int .u8 0,.int .u8 0,.int .u8 0,.int .u8 0,.int .u8 0,.int .u8 0,.int .u8 0,.int .u8 0,.int .u8 0,.int .u8 0,.int .u8 0,.int .u8 0,.int .u8 0,.int .u8 0,.int .u8 0,.int .u8 0,.int .u8 0,.int .u8 0,.int .u8 0,.int .u8 0,.int .u8 0,.int .u8 0,.int .u8 0,.int .u8 0,.int .u8 0,.int .u8 0,.int .u8 0,.int .u8 0,.int .u8 0,.int .u8 0,.int .u8 0,.int .u8 0,.int .u8 0,.int .u8 0,.int .u8 0,.int .u8 0,.int .u8 0,.int .u8 0,.int .u8 0,.int .u8 0,.int .u8 0,.int .u8 0,.int .u8 0,.int .u8 0,.int .u8 0,.int .u8 0,.int .u8 0,.int .u8 0,.int .u8 0,.int .u8 0,.int .u8 0,.int .u8 0,.int .u8 0,.int .u8 0,.int .u8 0,.int .u8 0,.int .u8 0,.int .u8 0,.int .u8 0,.int .u8 0,.int .u8 0,.int .u8 0,.int .u8 0,.int .u8 0,.int .u8 0,.int .u8 0,.int .u8 0,.int .u8 0,.int .u8 0,.int .u8 0,.int .u8 0,.int .u8 0,.int .u8 0,.int .u8 0,.int .u8 0,.int .u8 0,.int .u8 0,.int .u8 0,.int .u8 0,.int .u8 0,.int .u8 0,.int .u8 0,.int .u8 0,.int .u8 0,.int .u8 0,.int .u8 0,.int .u8 0,.int .u8 0,.int .u8 0,.int .u8 0,.int .u8 0,.int .u8 0,.int .u8 0,.int .u8 0,.int .u8 0,.int .u8 0,.int .u8 0,.int .u8 0,.int .u8 0,.int .u8 0,.int .u8 0,.int .u8 0,.int .u8 0,.int .u8 0,.int .u8 0,.int .u8 0,.int .u8 0,.int .u8 0,.int .u8 0,.int .u8 0,.int .u8 0,.int .u8 0,.int .u8 0,.int .u8 0,.int .u8 0,.int .u8 0,.int .u8 0,.int .u8 0,.int .u8 0,.int .u8 0,.int .u8 0,.int .u8 0,.int .u8 0,.int .u8 0,.int .u8 0,.int .u8 0,.int .u8 0,.int .u8 0,.int .u8 0,.int .u8 0,.int .u8 0,.int .u8 0,.int .u8 0,.int .u8 0,.int .u8 0,.int .u8 0,.int .u8 0,.int .u8 0,.int .u8 0,.int .u8 0,.int .u8 0,.int .u8 0,.int .u8 0,.int .u8 0,.int .u8 0,.int .u8 0,.int .u8 0,.int .u8 0,.int .u8 0,.int .u8 0,.int .u8 0,.int .u8 0,.int .u8 0,.int .u8 0,.int .u8 0,.int .u8 0,.int .u8 0,.int .u8 0,.int .u8 0,.int .u8 0,.int .u8 0,.int .u8 0,.int .u8 0,.int .u8 0,.int .u8 0,.int .u8 0,.int .u8 0,.int .u8 0,.int .u8 0,.int .u8 0,.int .u8 0,.int .u8 0,.int .u8 0,.int .u8 0,.int .u8 0,.int .u8 0,.int .u8 0,.int .u8 0,.int .u8 0,.int .u8 0,.int .u8 0,.int .u8 0,.int .u8 0,.int .u8 0,.int .u8 0,.int .u8 0,.int .u8 0,.int .u8 0,.int .u8 0,.int .u8 0,.int .u8 0,.int .u8 0,.int .u8 0,.int .u8 0,.int .u8 0,.int .u8 0,.int .u8 0,.int .u8 0,.int .u8 0,.int .u8 0,.int .u8 0,.int .u8 0,.int .u8 0,.int .u8 0,.int .u8 0,.int .u8 0,.int .u8 0,.int .u8 0,.int .u8 0,.int .u8 0,.int .u8 0,.int .u8 0,.int .u8 0,.int .u8 0,.int .u8 0])∧zbQ Tryz.prog 305=some (256,5)∧zah Tryz.prog 305=none:=by and_intros<;>kernel_rfl
theorem zLy:yA 306 2 2∧zag Tryz.prog 306=some (.agg [.int .u8 0,.int .u8 0])∧zac Tryz.prog 306 0=some (0,5)∧zac Tryz.prog 306 1=some (1,5)∧zah Tryz.prog 306=some [(0,1),(1,1)]∧zbv Tryz.prog 306=some [.int,.int]∧yA 307 2 2∧zag Tryz.prog 307=some (.agg [.int .u8 0,.int .u8 0])∧zac Tryz.prog 307 0=some (0,5)∧zac Tryz.prog 307 1=some (1,5)∧zah Tryz.prog 307=some [(0,1),(1,1)]∧zbv Tryz.prog 307=some [.int,.int]:=by and_intros<;>kernel_rfl
theorem zLx:yA 308 32 32∧zag Tryz.prog 308=some (.agg [.int .u8 0,.int .u8 0,.int .u8 0,.int .u8 0,.int .u8 0,.int .u8 0,.int .u8 0,.int .u8 0,.int .u8 0,.int .u8 0,.int .u8 0,.int .u8 0,.int .u8 0,.int .u8 0,.int .u8 0,.int .u8 0,.int .u8 0,.int .u8 0,.int .u8 0,.int .u8 0,.int .u8 0,.int .u8 0,.int .u8 0,.int .u8 0,.int .u8 0,.int .u8 0,.int .u8 0,.int .u8 0,.int .u8 0,.int .u8 0,.int .u8 0,.int .u8 0])∧zbQ Tryz.prog 308=some (16,307)∧zah Tryz.prog 308=none:=by and_intros<;>kernel_rfl
theorem zLw:yA 349 4 32∧zag Tryz.prog 349=some (.agg [.int .i64 0,.int .i64 0,.int .i64 0,.int .i64 0])∧zac Tryz.prog 349 0=some (0,3)∧zac Tryz.prog 349 1=some (1,3)∧zac Tryz.prog 349 2=some (2,30)∧zah Tryz.prog 349=some [(0,1),(1,1),(2,2)]∧zbv Tryz.prog 349=some [.int,.int,.int,.int]∧yA 350 4 32∧zag Tryz.prog 350=some (.agg [.int .i64 0,.int .i64 0,.int .i64 0,.int .i64 0])∧zac Tryz.prog 350 0=some (0,3)∧zac Tryz.prog 350 1=some (1,3)∧zac Tryz.prog 350 2=some (2,30)∧zah Tryz.prog 350=some [(0,1),(1,1),(2,2)]∧zbv Tryz.prog 350=some [.int,.int,.int,.int]:=by and_intros<;>kernel_rfl
theorem zLv:yA 352 6 56∧zag Tryz.prog 352=some (.agg [.str ⟨#[]⟩,.int .i64 0,.int .i64 0,.int .i64 0,.int .i64 0,.int .i64 0])∧zac Tryz.prog 352 0=some (0,163)∧zac Tryz.prog 352 1=some (4,30)∧zah Tryz.prog 352=some [(0,4),(4,2)]∧zbv Tryz.prog 352=some [.str,.int,.int,.int,.int,.int]∧yA 353 6 56∧zag Tryz.prog 353=some (.agg [.str ⟨#[]⟩,.int .i64 0,.int .i64 0,.int .i64 0,.int .i64 0,.int .i64 0])∧zac Tryz.prog 353 0=some (0,163)∧zac Tryz.prog 353 1=some (4,30)∧zah Tryz.prog 353=some [(0,4),(4,2)]∧zbv Tryz.prog 353=some [.str,.int,.int,.int,.int,.int]:=by and_intros<;>kernel_rfl
theorem zLu:yB 356 1 8∧zag Tryz.prog 356=some (.any)∧zoB Tryz.prog 356=some (3,3):=by and_intros<;>kernel_rfl
theorem zLt:yB 357 1 0∧zag Tryz.prog 357=some (.tuple [.int .i64 0,.bool false]):=by and_intros<;>kernel_rfl
theorem zLs:yA 365 19 192∧zag Tryz.prog 365=some (.agg [.nilslice,.nilslice,.int .i64 0,.int .i64 0,.int .i64 0,.int .i64 0,.int .i64 0,.int .i64 0,.int .i64 0,.int .i64 0,.int .i64 0,.str ⟨#[]⟩,.int .i64 0,.int .i64 0,.int .i64 0,.int .i64 0,.int .i64 0,.int .i64 0,.int .i64 0])∧zac Tryz.prog 365 0=some (0,32)∧zac Tryz.prog 365 1=some (6,220)∧zac Tryz.prog 365 2=some (11,161)∧zah Tryz.prog 365=some [(0,6),(6,5),(11,8)]∧yA 366 19 192∧zag Tryz.prog 366=some (.agg [.nilslice,.nilslice,.int .i64 0,.int .i64 0,.int .i64 0,.int .i64 0,.int .i64 0,.int .i64 0,.int .i64 0,.int .i64 0,.int .i64 0,.str ⟨#[]⟩,.int .i64 0,.int .i64 0,.int .i64 0,.int .i64 0,.int .i64 0,.int .i64 0,.int .i64 0])∧zac Tryz.prog 366 0=some (0,32)∧zac Tryz.prog 366 1=some (6,220)∧zac Tryz.prog 366 2=some (11,161)∧zah Tryz.prog 366=some [(0,6),(6,5),(11,8)]:=by and_intros<;>kernel_rfl
theorem zLr:yB 367 1 0∧zag Tryz.prog 367=some (.tuple [.int .u64 0,.int .u64 0])∧yB 425 1 0∧zag Tryz.prog 425=some (.tuple [.int .u64 0,.int .u64 0]):=by and_intros<;>kernel_rfl
theorem zLq:yB 373 1 24∧zag Tryz.prog 373=some (.nilslice)∧zaM Tryz.prog 373=some 377∧zaZ Tryz.prog 373=.slice:=by and_intros<;>kernel_rfl
theorem zLp:yA 376 8 88∧zag Tryz.prog 376=some (.agg [.str ⟨#[]⟩,.int .i64 0,.int .i64 0,.int .i64 0,.int .i64 0,.int .i64 0,.nilslice,.int .i64 0])∧zac Tryz.prog 376 0=some (0,155)∧zac Tryz.prog 376 1=some (7,3)∧zah Tryz.prog 376=some [(0,7),(7,1)]∧yA 377 8 88∧zag Tryz.prog 377=some (.agg [.str ⟨#[]⟩,.int .i64 0,.int .i64 0,.int .i64 0,.int .i64 0,.int .i64 0,.nilslice,.int .i64 0])∧zac Tryz.prog 377 0=some (0,155)∧zac Tryz.prog 377 1=some (7,3)∧zah Tryz.prog 377=some [(0,7),(7,1)]:=by and_intros<;>kernel_rfl
theorem zLo:yB 403 1 0∧zag Tryz.prog 403=some (.tuple [.int .u64 0,.niliface]):=by and_intros<;>kernel_rfl
theorem zLn:yA 405 3 48∧zag Tryz.prog 405=some (.agg [.str ⟨#[]⟩,.str ⟨#[]⟩,.niliface])∧zac Tryz.prog 405 0=some (0,9)∧zac Tryz.prog 405 1=some (1,9)∧zac Tryz.prog 405 2=some (2,74)∧zah Tryz.prog 405=some [(0,1),(1,1),(2,1)]∧yA 406 3 48∧zag Tryz.prog 406=some (.agg [.str ⟨#[]⟩,.str ⟨#[]⟩,.niliface])∧zac Tryz.prog 406 0=some (0,9)∧zac Tryz.prog 406 1=some (1,9)∧zac Tryz.prog 406 2=some (2,74)∧zah Tryz.prog 406=some [(0,1),(1,1),(2,1)]:=by and_intros<;>kernel_rfl
theorem zLm:yA 408 4 80∧zag Tryz.prog 408=some (.agg [.nilslice,.nilslice,.int .i64 0,.nilslice])∧zac Tryz.prog 408 0=some (0,25)∧zac Tryz.prog 408 1=some (3,97)∧zah Tryz.prog 408=some [(0,3),(3,1)]∧yA 409 4 80∧zag Tryz.prog 409=some (.agg [.nilslice,.nilslice,.int .i64 0,.nilslice])∧zac Tryz.prog 409 0=some (0,25)∧zac Tryz.prog 409 1=some (3,97)∧zah Tryz.prog 409=some [(0,3),(3,1)]:=by and_intros<;>kernel_rfl
theorem zLl:yA 416 2 16∧zag Tryz.prog 416=some (.agg [.int .i64 0,.int .i64 0])∧zac Tryz.prog 416 0=some (0,3)∧zac Tryz.prog 416 1=some (1,3)∧zah Tryz.prog 416=some [(0,1),(1,1)]∧zbv Tryz.prog 416=some [.int,.int]∧zjT Tryz.prog 416=.agg [.int,.int]:=by and_intros<;>kernel_rfl
theorem zLk:yA 432 6 48∧zag Tryz.prog 432=some (.agg [.int .i64 0,.int .i64 0,.int .i64 0,.int .i64 0,.int .i64 0,.int .i64 0])∧zac Tryz.prog 432 0=some (0,3)∧zac Tryz.prog 432 1=some (1,3)∧zac Tryz.prog 432 2=some (2,3)∧zac Tryz.prog 432 3=some (3,3)∧zac Tryz.prog 432 4=some (4,3)∧zac Tryz.prog 432 5=some (5,3)∧zah Tryz.prog 432=some [(0,1),(1,1),(2,1),(3,1),(4,1),(5,1)]∧zbv Tryz.prog 432=some [.int,.int,.int,.int,.int,.int]∧yA 433 6 48∧zag Tryz.prog 433=some (.agg [.int .i64 0,.int .i64 0,.int .i64 0,.int .i64 0,.int .i64 0,.int .i64 0])∧zac Tryz.prog 433 0=some (0,3)∧zac Tryz.prog 433 1=some (1,3)∧zac Tryz.prog 433 2=some (2,3)∧zac Tryz.prog 433 3=some (3,3)∧zac Tryz.prog 433 4=some (4,3)∧zac Tryz.prog 433 5=some (5,3)∧zah Tryz.prog 433=some [(0,1),(1,1),(2,1),(3,1),(4,1),(5,1)]∧zbv Tryz.prog 433=some [.int,.int,.int,.int,.int,.int]:=by and_intros<;>kernel_rfl
theorem zHy:yA 437 3 24∧zag Tryz.prog 437=some (.agg [.int .i64 0,.int .i64 0,.int .i64 0])∧zac Tryz.prog 437 0=some (0,3)∧zac Tryz.prog 437 1=some (1,3)∧zac Tryz.prog 437 2=some (2,3)∧zah Tryz.prog 437=some [(0,1),(1,1),(2,1)]∧zbv Tryz.prog 437=some [.int,.int,.int]∧yA 438 3 24∧zag Tryz.prog 438=some (.agg [.int .i64 0,.int .i64 0,.int .i64 0])∧zac Tryz.prog 438 0=some (0,3)∧zac Tryz.prog 438 1=some (1,3)∧zac Tryz.prog 438 2=some (2,3)∧zah Tryz.prog 438=some [(0,1),(1,1),(2,1)]∧zbv Tryz.prog 438=some [.int,.int,.int]:=by and_intros<;>kernel_rfl
theorem zHx:yA 443 32 32∧zag Tryz.prog 443=some (.agg [.int .u8 0,.int .u8 0,.int .u8 0,.int .u8 0,.int .u8 0,.int .u8 0,.int .u8 0,.int .u8 0,.int .u8 0,.int .u8 0,.int .u8 0,.int .u8 0,.int .u8 0,.int .u8 0,.int .u8 0,.int .u8 0,.int .u8 0,.int .u8 0,.int .u8 0,.int .u8 0,.int .u8 0,.int .u8 0,.int .u8 0,.int .u8 0,.int .u8 0,.int .u8 0,.int .u8 0,.int .u8 0,.int .u8 0,.int .u8 0,.int .u8 0,.int .u8 0])∧zbQ Tryz.prog 443=some (32,5)∧zah Tryz.prog 443=none:=by and_intros<;>kernel_rfl
theorem zHw:yA 444 64 64∧zag Tryz.prog 444=some (.agg [.int .u8 0,.int .u8 0,.int .u8 0,.int .u8 0,.int .u8 0,.int .u8 0,.int .u8 0,.int .u8 0,.int .u8 0,.int .u8 0,.int .u8 0,.int .u8 0,.int .u8 0,.int .u8 0,.int .u8 0,.int .u8 0,.int .u8 0,.int .u8 0,.int .u8 0,.int .u8 0,.int .u8 0,.int .u8 0,.int .u8 0,.int .u8 0,.int .u8 0,.int .u8 0,.int .u8 0,.int .u8 0,.int .u8 0,.int .u8 0,.int .u8 0,.int .u8 0,.int .u8 0,.int .u8 0,.int .u8 0,.int .u8 0,.int .u8 0,.int .u8 0,.int .u8 0,.int .u8 0,.int .u8 0,.int .u8 0,.int .u8 0,.int .u8 0,.int .u8 0,.int .u8 0,.int .u8 0,.int .u8 0,.int .u8 0,.int .u8 0,.int .u8 0,.int .u8 0,.int .u8 0,.int .u8 0,.int .u8 0,.int .u8 0,.int .u8 0,.int .u8 0,.int .u8 0,.int .u8 0,.int .u8 0,.int .u8 0,.int .u8 0,.int .u8 0])∧zbQ Tryz.prog 444=some (64,5)∧zah Tryz.prog 444=none:=by and_intros<;>kernel_rfl
theorem zHv:yA 448 1 16∧zag Tryz.prog 448=some (.agg [.str ⟨#[]⟩])∧zac Tryz.prog 448 0=some (0,9)∧zah Tryz.prog 448=some [(0,1)]∧zbv Tryz.prog 448=some [.str]∧yA 449 1 16∧zag Tryz.prog 449=some (.agg [.str ⟨#[]⟩])∧zac Tryz.prog 449 0=some (0,9)∧zah Tryz.prog 449=some [(0,1)]∧zbv Tryz.prog 449=some [.str]:=by and_intros<;>kernel_rfl
theorem zHu:yB 453 1 8∧zag Tryz.prog 453=some (.any)∧zoB Tryz.prog 453=some (416,418):=by and_intros<;>kernel_rfl
theorem zHt:yA 454 6 80∧zag Tryz.prog 454=some (.agg [.nilslice,.int .i64 0,.int .i64 0,.int .i64 0,.nilslice,.any])∧zac Tryz.prog 454 0=some (0,39)∧zac Tryz.prog 454 1=some (4,207)∧zac Tryz.prog 454 2=some (5,453)∧zah Tryz.prog 454=some [(0,4),(4,1),(5,1)]∧yA 455 6 80∧zag Tryz.prog 455=some (.agg [.nilslice,.int .i64 0,.int .i64 0,.int .i64 0,.nilslice,.any])∧zac Tryz.prog 455 0=some (0,39)∧zac Tryz.prog 455 1=some (4,207)∧zac Tryz.prog 455 2=some (5,453)∧zah Tryz.prog 455=some [(0,4),(4,1),(5,1)]:=by and_intros<;>kernel_rfl
theorem zHs:yA 462 2 16∧zag Tryz.prog 462=some (.agg [.int .i64 0,.nilfunc])∧zac Tryz.prog 462 0=some (0,3)∧zac Tryz.prog 462 1=some (1,461)∧zah Tryz.prog 462=some [(0,1),(1,1)]∧yA 463 2 16∧zag Tryz.prog 463=some (.agg [.int .i64 0,.nilfunc])∧zac Tryz.prog 463 0=some (0,3)∧zac Tryz.prog 463 1=some (1,461)∧zah Tryz.prog 463=some [(0,1),(1,1)]:=by and_intros<;>kernel_rfl
theorem zHr:yB 464 1 24∧zag Tryz.prog 464=some (.nilslice)∧zaM Tryz.prog 464=some 463∧zaZ Tryz.prog 464=.slice:=by and_intros<;>kernel_rfl
theorem zHq:yB 469 1 24∧zag Tryz.prog 469=some (.nilslice)∧zaM Tryz.prog 469=some 450∧zaZ Tryz.prog 469=.slice:=by and_intros<;>kernel_rfl
theorem zHp:yA 473 5 40∧zag Tryz.prog 473=some (.agg [.int .i64 0,.int .i64 0,.int .i64 0,.int .i64 0,.int .i64 0])∧zbQ Tryz.prog 473=some (5,3)∧zah Tryz.prog 473=none:=by and_intros<;>kernel_rfl
theorem zHo:yA 474 5 40∧zag Tryz.prog 474=some (.agg [.nilfunc,.nilfunc,.nilfunc,.nilfunc,.nilfunc])∧zbQ Tryz.prog 474=some (5,375)∧zah Tryz.prog 474=none:=by and_intros<;>kernel_rfl
theorem zHn:yA 479 4 40∧zag Tryz.prog 479=some (.agg [.nilptr,.nilptr,.nilptr,.str ⟨#[]⟩])∧zac Tryz.prog 479 0=some (0,17)∧zac Tryz.prog 479 1=some (1,17)∧zac Tryz.prog 479 2=some (2,17)∧zac Tryz.prog 479 3=some (3,9)∧zah Tryz.prog 479=some [(0,1),(1,1),(2,1),(3,1)]∧yA 480 4 40∧zag Tryz.prog 480=some (.agg [.nilptr,.nilptr,.nilptr,.str ⟨#[]⟩])∧zac Tryz.prog 480 0=some (0,17)∧zac Tryz.prog 480 1=some (1,17)∧zac Tryz.prog 480 2=some (2,17)∧zac Tryz.prog 480 3=some (3,9)∧zah Tryz.prog 480=some [(0,1),(1,1),(2,1),(3,1)]:=by and_intros<;>kernel_rfl
theorem zHm:yA 481 0 0∧zag Tryz.prog 481=some (.agg [])∧zbQ Tryz.prog 481=some (0,16)∧zah Tryz.prog 481=none:=by and_intros<;>kernel_rfl
theorem zHl:yA 482 0 0∧zag Tryz.prog 482=some (.agg [])∧zac Tryz.prog 482 0=some (0,481)∧zah Tryz.prog 482=some [(0,0)]∧yA 483 0 0∧zag Tryz.prog 483=some (.agg [])∧zac Tryz.prog 483 0=some (0,481)∧zah Tryz.prog 483=some [(0,0)]:=by and_intros<;>kernel_rfl
theorem zHk:yA 489 11 48∧zag Tryz.prog 489=some (.agg [.int .u64 0,.int .u64 0,.int .u32 0,.int .u8 0,.int .u8 0,.int .u8 0,.int .u8 0,.nilfunc,.nilptr,.int .i32 0,.int .i32 0])∧zac Tryz.prog 489 0=some (0,12)∧zac Tryz.prog 489 1=some (1,12)∧zac Tryz.prog 489 2=some (2,296)∧zac Tryz.prog 489 3=some (3,484)∧zac Tryz.prog 489 4=some (4,5)∧zac Tryz.prog 489 5=some (5,5)∧zac Tryz.prog 489 6=some (6,485)∧zac Tryz.prog 489 7=some (7,486)∧zac Tryz.prog 489 8=some (8,122)∧zac Tryz.prog 489 9=some (9,487)∧zac Tryz.prog 489 10=some (10,488)∧zah Tryz.prog 489=some [(0,1),(1,1),(2,1),(3,1),(4,1),(5,1),(6,1),(7,1),(8,1),(9,1),(10,1)]∧yA 490 11 48∧zag Tryz.prog 490=some (.agg [.int .u64 0,.int .u64 0,.int .u32 0,.int .u8 0,.int .u8 0,.int .u8 0,.int .u8 0,.nilfunc,.nilptr,.int .i32 0,.int .i32 0])∧zac Tryz.prog 490 0=some (0,12)∧zac Tryz.prog 490 1=some (1,12)∧zac Tryz.prog 490 2=some (2,296)∧zac Tryz.prog 490 3=some (3,484)∧zac Tryz.prog 490 4=some (4,5)∧zac Tryz.prog 490 5=some (5,5)∧zac Tryz.prog 490 6=some (6,485)∧zac Tryz.prog 490 7=some (7,486)∧zac Tryz.prog 490 8=some (8,122)∧zac Tryz.prog 490 9=some (9,487)∧zac Tryz.prog 490 10=some (10,488)∧zah Tryz.prog 490=some [(0,1),(1,1),(2,1),(3,1),(4,1),(5,1),(6,1),(7,1),(8,1),(9,1),(10,1)]:=by and_intros<;>kernel_rfl
attribute [go_sem] yT0 zHj zFp zFo zFn zC8 zC7 zC6 zC5 zC4 zC3 zHi yT3 zHh yT5 zHg zHf yT8 zHe zMF zME zFr zFq zMD zMC zMB zMA zMz zMy zFm zMx zMw zMv zMu zMt zMs zMr zMq zMp zFl zMo zMn zMm zMl zMk zFk zMj zMi zMh zMg zMf zMe zFj zMd zMc zMb zMa zL9 zL8 zL7 zL6 zL5 zL4 zL3 zL2 zL1 zL0 zLZ zLY zLX zLW zLV zLU zLT zLS zLR zLQ zLP zLO zLN zLM zLL zLK zLJ zLI zLH zLG zLF zLE zLD zLC zLB zLA zLz zLy zLx zLw zLv zLu zLt zLs zLr zLq zLp zLo zLn zLm zLl zLk zHy zHx zHw zHv zHu zHt zHs zHr zHq zHp zHo zHn zHm zHl zHk
theorem zK0:zcd Tryz.prog 3 5=some .u8:=by kernel_rfl
theorem zD2:zcd Tryz.prog 2 228=some .u64:=by kernel_rfl
theorem zGu:zcd Tryz.prog 5 21=some .i32:=by kernel_rfl
theorem zKZ:zcd Tryz.prog 5 3=some .i64:=by kernel_rfl
theorem zDY:zcd Tryz.prog 5 296=some .u32:=by kernel_rfl
theorem zzE:zcd Tryz.prog 228 296=some .u32:=by kernel_rfl
theorem zD3:zcd Tryz.prog 296 5=some .u8:=by kernel_rfl
theorem zD1:zcd Tryz.prog 3 226=some .u64:=by kernel_rfl
theorem zD0:zcd Tryz.prog 3 228=some .u64:=by kernel_rfl
theorem zD6:zcd Tryz.prog 226 3=some .i64:=by kernel_rfl
theorem zD4:zcd Tryz.prog 228 5=some .u8:=by kernel_rfl
theorem zzF:zcd Tryz.prog 226 296=some .u32:=by kernel_rfl
theorem zD5:zcd Tryz.prog 228 2=some .i64:=by kernel_rfl
theorem zzD:zcd Tryz.prog 296 226=some .u64:=by kernel_rfl
theorem zDZ:zcd Tryz.prog 5 228=some .u64:=by kernel_rfl
theorem zzC:zcd Tryz.prog 296 228=some .u64:=by kernel_rfl
attribute [go_sem] zK0 zD2 zGu zKZ zDY zzE zD3 zD1 zD0 zD6 zD4 zzF zD5 zzD zDZ zzC
theorem zad:zcb Tryz.prog:=zDU (by kernel_rfl)
theorem ok4:zaf H0 Tryz.f4=true:=by kernel_rfl
theorem ok5:zaf H0 Tryz.f5=true:=by kernel_rfl
theorem ok7:zaf H0 Tryz.f7=true:=by kernel_rfl
theorem ok9:zaf H0 Tryz.f9=true:=by kernel_rfl
theorem zNr:zaf H0 Tryz.f10=true:=by kernel_rfl
def H12:Hints:=zcy [(66,.low),(67,.low),(68,.low),(69,.low),(70,.low),(6,.slot 1 4),(7,.slot 0 4),(71,.low),(1006070,.sto),(72,.low),(73,.low),(74,.low),(75,.low)]
theorem zNq:zaf H12 Tryz.f12=true:=by kernel_rfl
theorem zNp:zaf H0 Tryz.f13=true:=by kernel_rfl
theorem zNo:zaf H0 Tryz.f14=true:=by kernel_rfl
theorem zNn:zaf H0 Tryz.f15=true:=by kernel_rfl
theorem zNm:zaf H0 Tryz.f16=true:=by kernel_rfl
theorem zNl:zaf H0 Tryz.f17=true:=by kernel_rfl
theorem zNk:zaf H0 Tryz.f18=true:=by kernel_rfl
theorem zNj:zaf H0 Tryz.f19=true:=by kernel_rfl
theorem zNi:zaf H0 Tryz.f20=true:=by kernel_rfl
theorem zNh:zaf H0 Tryz.f24=true:=by kernel_rfl
theorem zNg:zaf H0 Tryz.f25=true:=by kernel_rfl
theorem zNf:zaf H0 Tryz.f26=true:=by kernel_rfl
theorem zFQ:zaf H0 Tryz.f30=true:=by kernel_rfl
theorem zNe:zaf H0 Tryz.f36=true:=by kernel_rfl
theorem zNd:zaf H0 Tryz.f37=true:=by kernel_rfl
theorem zNc:zaf H0 Tryz.f38=true:=by kernel_rfl
theorem zNb:zaf H0 Tryz.f40=true:=by kernel_rfl
theorem zNa:zaf H0 Tryz.f41=true:=by kernel_rfl
theorem zM9:zaf H0 Tryz.f42=true:=by kernel_rfl
theorem zM8:zaf H0 Tryz.f43=true:=by kernel_rfl
theorem zM7:zaf H0 Tryz.f44=true:=by kernel_rfl
theorem zM6:zaf H0 Tryz.f45=true:=by kernel_rfl
theorem zM5:zaf H0 Tryz.f46=true:=by kernel_rfl
theorem zM4:zaf H0 Tryz.f49=true:=by kernel_rfl
theorem zM3:zaf H0 Tryz.f51=true:=by kernel_rfl
theorem zM2:zaf H0 Tryz.f52=true:=by kernel_rfl
def H53:Hints:=zcy [(7,.low),(1000999,.sto),(8,.low),(1001999,.sto)]
theorem zFP:zaf H53 Tryz.f53=true:=by kernel_rfl
theorem zM1:zaf H0 Tryz.f74=true:=by kernel_rfl
theorem zM0:zaf H0 Tryz.f75=true:=by kernel_rfl
theorem zMZ:zaf H0 Tryz.f76=true:=by kernel_rfl
theorem zMY:zaf H0 Tryz.f77=true:=by kernel_rfl
theorem zMX:zaf H0 Tryz.f78=true:=by kernel_rfl
theorem zMW:zaf H0 Tryz.f79=true:=by kernel_rfl
theorem zMV:zaf H0 Tryz.f81=true:=by kernel_rfl
theorem zMU:zaf H0 Tryz.f83=true:=by kernel_rfl
theorem zMT:zaf H0 Tryz.f85=true:=by kernel_rfl
theorem zMS:zaf H0 Tryz.f87=true:=by kernel_rfl
theorem zMR:zaf H0 Tryz.f88=true:=by kernel_rfl
theorem zMQ:zaf H0 Tryz.f89=true:=by kernel_rfl
theorem zMP:zaf H0 Tryz.f90=true:=by kernel_rfl
theorem zMO:zaf H0 Tryz.f91=true:=by kernel_rfl
theorem zMN:zaf H0 Tryz.f92=true:=by kernel_rfl
theorem zMM:zaf H0 Tryz.f93=true:=by kernel_rfl
theorem zML:zaf H0 Tryz.f94=true:=by kernel_rfl
theorem zMK:zaf H0 Tryz.f96=true:=by kernel_rfl
theorem zFO:zaf H0 Tryz.f97=true:=by kernel_rfl
theorem zFN:zaf H0 Tryz.f98=true:=by kernel_rfl
theorem zMJ:zaf H0 Tryz.f99=true:=by kernel_rfl
theorem zCF:zaf H0 Tryz.f100=true:=by kernel_rfl
theorem zKD:zaf H0 Tryz.f101=true:=by kernel_rfl
theorem zKC:zaf H0 Tryz.f102=true:=by kernel_rfl
theorem zKB:zaf H0 Tryz.f104=true:=by kernel_rfl
theorem zKA:zaf H0 Tryz.f106=true:=by kernel_rfl
theorem zKz:zaf H0 Tryz.f107=true:=by kernel_rfl
theorem zKy:zaf H0 Tryz.f108=true:=by kernel_rfl
theorem zKx:zaf H0 Tryz.f109=true:=by kernel_rfl
theorem zKw:zaf H0 Tryz.f110=true:=by kernel_rfl
theorem zKv:zaf H0 Tryz.f111=true:=by kernel_rfl
theorem zKu:zaf H0 Tryz.f112=true:=by kernel_rfl
theorem zKt:zaf H0 Tryz.f113=true:=by kernel_rfl
theorem zKs:zaf H0 Tryz.f114=true:=by kernel_rfl
theorem zKr:zaf H0 Tryz.f115=true:=by kernel_rfl
theorem zKq:zaf H0 Tryz.f116=true:=by kernel_rfl
theorem zKp:zaf H0 Tryz.f117=true:=by kernel_rfl
theorem zKo:zaf H0 Tryz.f118=true:=by kernel_rfl
theorem zKn:zaf H0 Tryz.f119=true:=by kernel_rfl
theorem zKm:zaf H0 Tryz.f120=true:=by kernel_rfl
theorem zKl:zaf H0 Tryz.f121=true:=by kernel_rfl
theorem zKk:zaf H0 Tryz.f125=true:=by kernel_rfl
theorem zKj:zaf H0 Tryz.f165=true:=by kernel_rfl
theorem zKi:zaf H0 Tryz.f166=true:=by kernel_rfl
theorem zKh:zaf H0 Tryz.f167=true:=by kernel_rfl
theorem zKg:zaf H0 Tryz.f168=true:=by kernel_rfl
theorem zKf:zaf H0 Tryz.f169=true:=by kernel_rfl
theorem zKe:zaf H0 Tryz.f170=true:=by kernel_rfl
theorem zKd:zaf H0 Tryz.f171=true:=by kernel_rfl
theorem zKc:zaf H0 Tryz.f172=true:=by kernel_rfl
theorem zKb:zaf H0 Tryz.f173=true:=by kernel_rfl
theorem zKa:zaf H0 Tryz.f174=true:=by kernel_rfl
theorem zJ9:zaf H0 Tryz.f175=true:=by kernel_rfl
theorem zJ8:zaf H0 Tryz.f176=true:=by kernel_rfl
theorem zCE:zaf H0 Tryz.f177=true:=by kernel_rfl
theorem zJ7:zaf H0 Tryz.f178=true:=by kernel_rfl
theorem zJ6:zaf H0 Tryz.f179=true:=by kernel_rfl
theorem zJ5:zaf H0 Tryz.f180=true:=by kernel_rfl
theorem zJ4:zaf H0 Tryz.f181=true:=by kernel_rfl
theorem zJ3:zaf H0 Tryz.f182=true:=by kernel_rfl
theorem zJ2:zaf H0 Tryz.f183=true:=by kernel_rfl
theorem zJ1:zaf H0 Tryz.f184=true:=by kernel_rfl
theorem zJ0:zaf H0 Tryz.f185=true:=by kernel_rfl
theorem zJZ:zaf H0 Tryz.f186=true:=by kernel_rfl
theorem zJY:zaf H0 Tryz.f187=true:=by kernel_rfl
theorem zJX:zaf H0 Tryz.f188=true:=by kernel_rfl
theorem zJW:zaf H0 Tryz.f189=true:=by kernel_rfl
theorem zJV:zaf H0 Tryz.f190=true:=by kernel_rfl
theorem zJU:zaf H0 Tryz.f191=true:=by kernel_rfl
theorem zJT:zaf H0 Tryz.f192=true:=by kernel_rfl
theorem zJS:zaf H0 Tryz.f193=true:=by kernel_rfl
def zkN:Hints:=zcy [(19,.low),(1004018,.nop),(62,.thr),(64,.thr)]
theorem zJR:zaf zkN Tryz.f194=true:=by kernel_rfl
theorem zJQ:zaf H0 Tryz.f195=true:=by kernel_rfl
theorem zJP:zaf H0 Tryz.f196=true:=by kernel_rfl
theorem zJO:zaf H0 Tryz.f197=true:=by kernel_rfl
theorem zJN:zaf H0 Tryz.f200=true:=by kernel_rfl
theorem zJM:zaf H0 Tryz.f201=true:=by kernel_rfl
theorem zCD:zaf H0 Tryz.f202=true:=by kernel_rfl
theorem zJL:zaf H0 Tryz.f203=true:=by kernel_rfl
theorem zJK:zaf H0 Tryz.f204=true:=by kernel_rfl
theorem zJJ:zaf H0 Tryz.f205=true:=by kernel_rfl
theorem zJI:zaf H0 Tryz.f206=true:=by kernel_rfl
theorem zsw:zaf H0 Tryz.f207=true:=by kernel_rfl
theorem zJH:zaf H0 Tryz.f208=true:=by kernel_rfl
theorem zCC:zaf H0 Tryz.f209=true:=by kernel_rfl
theorem zJG:zaf H0 Tryz.f210=true:=by kernel_rfl
theorem zCB:zaf H0 Tryz.f211=true:=by kernel_rfl
theorem zJF:zaf H0 Tryz.f212=true:=by kernel_rfl
theorem zJE:zaf H0 Tryz.f213=true:=by kernel_rfl
theorem zCA:zaf H0 Tryz.f214=true:=by kernel_rfl
theorem zCz:zaf H0 Tryz.f215=true:=by kernel_rfl
theorem zJD:zaf H0 Tryz.f216=true:=by kernel_rfl
theorem zJC:zaf H0 Tryz.f217=true:=by kernel_rfl
theorem zJB:zaf H0 Tryz.f218=true:=by kernel_rfl
theorem zCy:zaf H0 Tryz.f219=true:=by kernel_rfl
theorem zJA:zaf H0 Tryz.f220=true:=by kernel_rfl
theorem zJz:zaf H0 Tryz.f221=true:=by kernel_rfl
def zuP:Hints:=zcy [(36,.low),(1004035,.nop)]
theorem zJy:zaf zuP Tryz.f223=true:=by kernel_rfl
theorem zJx:zaf H0 Tryz.f251=true:=by kernel_rfl
theorem zJw:zaf H0 Tryz.f252=true:=by kernel_rfl
theorem zJv:zaf H0 Tryz.f253=true:=by kernel_rfl
theorem zJu:zaf H0 Tryz.f254=true:=by kernel_rfl
theorem zJt:zaf H0 Tryz.f255=true:=by kernel_rfl
theorem zJs:zaf H0 Tryz.f256=true:=by kernel_rfl
theorem zJr:zaf H0 Tryz.f257=true:=by kernel_rfl
theorem zJq:zaf H0 Tryz.f258=true:=by kernel_rfl
theorem zJp:zaf H0 Tryz.f259=true:=by kernel_rfl
theorem zJo:zaf H0 Tryz.f260=true:=by kernel_rfl
theorem zJn:zaf H0 Tryz.f261=true:=by kernel_rfl
theorem zJm:zaf H0 Tryz.f262=true:=by kernel_rfl
theorem zJl:zaf H0 Tryz.f263=true:=by kernel_rfl
theorem zJk:zaf H0 Tryz.f264=true:=by kernel_rfl
theorem zJj:zaf H0 Tryz.f265=true:=by kernel_rfl
theorem zJi:zaf H0 Tryz.f266=true:=by kernel_rfl
theorem zJh:zaf H0 Tryz.f267=true:=by kernel_rfl
theorem zJg:zaf H0 Tryz.f268=true:=by kernel_rfl
theorem zJf:zaf H0 Tryz.f269=true:=by kernel_rfl
theorem zJe:zaf H0 Tryz.f270=true:=by kernel_rfl
theorem zJd:zaf H0 Tryz.f271=true:=by kernel_rfl
theorem zJc:zaf H0 Tryz.f272=true:=by kernel_rfl
theorem zJb:zaf H0 Tryz.f273=true:=by kernel_rfl
theorem zJa:zaf H0 Tryz.f274=true:=by kernel_rfl
def zCl:Hints:=zcy [(7,.low),(1000006,.sto),(8,.low)]
theorem zxf:zaf zCl Tryz.f275=true:=by kernel_rfl
theorem zCx:zaf H0 Tryz.f276=true:=by kernel_rfl
theorem zI9:zaf H0 Tryz.f277=true:=by kernel_rfl
theorem zI8:zaf H0 Tryz.f278=true:=by kernel_rfl
theorem zCw:zaf H0 Tryz.f279=true:=by kernel_rfl
theorem zI7:zaf H0 Tryz.f280=true:=by kernel_rfl
theorem zI6:zaf H0 Tryz.f281=true:=by kernel_rfl
theorem zI5:zaf H0 Tryz.f282=true:=by kernel_rfl
def zmh:Hints:=zcy [(22,.bar),(39,.bar)]
theorem zI4:zaf zmh Tryz.f283=true:=by kernel_rfl
def zym:Hints:=zcy [(28,.low),(1002024,.sto)]
theorem zI3:zaf zym Tryz.f284=true:=by kernel_rfl
theorem zI2:zaf H0 Tryz.f285=true:=by kernel_rfl
theorem zI1:zaf H0 Tryz.f286=true:=by kernel_rfl
theorem zI0:zaf H0 Tryz.f293=true:=by kernel_rfl
theorem zIZ:zaf H0 Tryz.f294=true:=by kernel_rfl
theorem zIY:zaf H0 Tryz.f295=true:=by kernel_rfl
theorem zIX:zaf H0 Tryz.f296=true:=by kernel_rfl
theorem zIW:zaf H0 Tryz.f297=true:=by kernel_rfl
theorem zIV:zaf H0 Tryz.f298=true:=by kernel_rfl
theorem zCv:zaf H0 Tryz.f299=true:=by kernel_rfl
theorem zIU:zaf H0 Tryz.f300=true:=by kernel_rfl
theorem zIT:zaf H0 Tryz.f301=true:=by kernel_rfl
theorem zIS:zaf H0 Tryz.f302=true:=by kernel_rfl
theorem zIR:zaf H0 Tryz.f304=true:=by kernel_rfl
theorem zIQ:zaf H0 Tryz.f305=true:=by kernel_rfl
theorem zIP:zaf H0 Tryz.f306=true:=by kernel_rfl
theorem zIO:zaf H0 Tryz.f307=true:=by kernel_rfl
theorem zIN:zaf H0 Tryz.f308=true:=by kernel_rfl
theorem zIM:zaf H0 Tryz.f309=true:=by kernel_rfl
theorem zIL:zaf H0 Tryz.f310=true:=by kernel_rfl
theorem zIK:zaf H0 Tryz.f311=true:=by kernel_rfl
theorem zIJ:zaf H0 Tryz.f312=true:=by kernel_rfl
theorem zII:zaf H0 Tryz.f313=true:=by kernel_rfl
theorem zIH:zaf H0 Tryz.f314=true:=by kernel_rfl
theorem zCu:zaf H0 Tryz.f315=true:=by kernel_rfl
theorem zIG:zaf H0 Tryz.f316=true:=by kernel_rfl
theorem zIF:zaf H0 Tryz.f317=true:=by kernel_rfl
theorem zIE:zaf H0 Tryz.f332=true:=by kernel_rfl
theorem zID:zaf H0 Tryz.f333=true:=by kernel_rfl
theorem zIC:zaf H0 Tryz.f334=true:=by kernel_rfl
theorem zIB:zaf H0 Tryz.f335=true:=by kernel_rfl
theorem zIA:zaf H0 Tryz.f336=true:=by kernel_rfl
theorem zIz:zaf H0 Tryz.f337=true:=by kernel_rfl
theorem zIy:zaf H0 Tryz.f338=true:=by kernel_rfl
theorem zIx:zaf H0 Tryz.f339=true:=by kernel_rfl
theorem zIw:zaf H0 Tryz.f340=true:=by kernel_rfl
theorem zIv:zaf H0 Tryz.f341=true:=by kernel_rfl
theorem zIu:zaf H0 Tryz.f342=true:=by kernel_rfl
theorem zIt:zaf H0 Tryz.f346=true:=by kernel_rfl
def zoX:Hints:=zcy [(34,.low),(35,.low),(36,.low),(37,.low),(38,.low),(39,.low),(40,.low),(41,.low),(42,.low),(43,.low),(44,.low),(45,.low),(14,.slot 2 2),(15,.slot 1 2),(16,.slot 0 1),(46,.low),(1014045,.sto),(47,.low),(48,.low),(49,.low),(50,.low),(51,.low),(52,.low),(53,.low),(54,.low),(55,.low),(56,.low),(57,.low),(58,.low),(59,.low),(60,.low),(61,.low),(62,.low),(63,.low),(64,.low),(65,.low),(66,.low),(1015057,.sto)]
theorem zIs:zaf zoX Tryz.f347=true:=by kernel_rfl
theorem zIr:zaf H0 Tryz.f348=true:=by kernel_rfl
theorem zIq:zaf H0 Tryz.f349=true:=by kernel_rfl
theorem zIp:zaf H0 Tryz.f350=true:=by kernel_rfl
def zCk:Hints:=zcy [(36,.low),(1002035,.nop)]
theorem zIo:zaf zCk Tryz.f351=true:=by kernel_rfl
theorem zIn:zaf H0 Tryz.f352=true:=by kernel_rfl
theorem zIm:zaf H0 Tryz.f353=true:=by kernel_rfl
theorem zpn:zaf H0 Tryz.f355=true:=by kernel_rfl
theorem zIl:zaf H0 Tryz.f356=true:=by kernel_rfl
theorem zCt:zaf H0 Tryz.f357=true:=by kernel_rfl
theorem zIk:zaf H0 Tryz.f358=true:=by kernel_rfl
theorem zIj:zaf H0 Tryz.f359=true:=by kernel_rfl
theorem zIi:zaf H0 Tryz.f360=true:=by kernel_rfl
theorem zIh:zaf H0 Tryz.f369=true:=by kernel_rfl
theorem zIg:zaf H0 Tryz.f370=true:=by kernel_rfl
theorem zIf:zaf H0 Tryz.f371=true:=by kernel_rfl
theorem zIe:zaf H0 Tryz.f374=true:=by kernel_rfl
theorem zId:zaf H0 Tryz.f375=true:=by kernel_rfl
theorem zIc:zaf H0 Tryz.f376=true:=by kernel_rfl
def zHd:Hints:=zcy [(6,.low),(1000999,.sto),(7,.low)]
theorem zCs:zaf zHd Tryz.f377=true:=by kernel_rfl
theorem zCr:zaf H0 Tryz.f378=true:=by kernel_rfl
def zuO:Hints:=zcy [(16,.thr)]
theorem zIb:zaf zuO Tryz.f379=true:=by kernel_rfl
def zoW:Hints:=zcy [(23,.low),(1005022,.sto)]
theorem zIa:zaf zoW Tryz.f380=true:=by kernel_rfl
theorem zH9:zaf H0 Tryz.f381=true:=by kernel_rfl
theorem zH8:zaf H0 Tryz.f382=true:=by kernel_rfl
theorem zH7:zaf H0 Tryz.f383=true:=by kernel_rfl
theorem zH6:zaf H0 Tryz.f384=true:=by kernel_rfl
theorem zH5:zaf H0 Tryz.f385=true:=by kernel_rfl
theorem zH4:zaf H0 Tryz.f386=true:=by kernel_rfl
theorem zH3:zaf H0 Tryz.f387=true:=by kernel_rfl
theorem zH2:zaf H0 Tryz.f388=true:=by kernel_rfl
theorem zH1:zaf H0 Tryz.f389=true:=by kernel_rfl
def zCj:Hints:=zcy [(29,.low),(1002028,.sto),(30,.low),(31,.low),(32,.low),(33,.low)]
theorem zH0:zaf zCj Tryz.f390=true:=by kernel_rfl
theorem zHZ:zaf H0 Tryz.f393=true:=by kernel_rfl
theorem zHY:zaf H0 Tryz.f394=true:=by kernel_rfl
theorem zHX:zaf H0 Tryz.f395=true:=by kernel_rfl
def zHc:Hints:=zcy [(67,.low),(1004066,.nop),(9,.low),(10,.low),(11,.low),(12,.low),(13,.low),(14,.low),(15,.low),(16,.low),(17,.low),(6,.slot 1 2),(7,.slot 0 8),(18,.low),(1006017,.sto),(19,.low),(20,.low),(21,.low),(22,.low),(23,.low),(24,.low),(25,.low),(26,.low),(1007021,.sto)]
theorem zHW:zaf zHc Tryz.f396=true:=by kernel_rfl
theorem zHV:zaf H0 Tryz.f397=true:=by kernel_rfl
theorem zHU:zaf H0 Tryz.f398=true:=by kernel_rfl
theorem zHT:zaf H0 Tryz.f399=true:=by kernel_rfl
theorem zHS:zaf H0 Tryz.f400=true:=by kernel_rfl
theorem zHR:zaf H0 Tryz.f401=true:=by kernel_rfl
theorem zHQ:zaf H0 Tryz.f402=true:=by kernel_rfl
theorem zHP:zaf H0 Tryz.f405=true:=by kernel_rfl
theorem zHO:zaf H0 Tryz.f406=true:=by kernel_rfl
theorem zHN:zaf H0 Tryz.f407=true:=by kernel_rfl
def zCi:Hints:=zcy [(36,.low),(37,.low),(38,.low),(39,.low),(40,.low),(41,.low),(4,.slot 1 2),(5,.slot 0 2),(42,.low),(1004041,.sto),(43,.low),(44,.low),(45,.low),(46,.low)]
theorem zHM:zaf zCi Tryz.f408=true:=by kernel_rfl
theorem zHL:zaf H0 Tryz.f410=true:=by kernel_rfl
theorem zHK:zaf H0 Tryz.f411=true:=by kernel_rfl
theorem zHJ:zaf H0 Tryz.f412=true:=by kernel_rfl
end Abs
end Go.Proofs.YtahlnclapingiaaGreatDoor
