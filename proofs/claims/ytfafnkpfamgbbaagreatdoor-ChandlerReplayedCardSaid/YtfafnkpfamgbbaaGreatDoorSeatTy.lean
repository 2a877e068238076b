/-
  FACTS OF THE PROGRAM'S TYPES AND CODE, printed by program. No conditions.
-/
import Derived.Test.YtfafnkpfamgbbaaGreatDoorAbsEval
import Derived.Test.YtfafnkpfamgbbaaGreatDoorProg
import Derived.KernelRfl
set_option linter.unusedSimpArgs false
set_option linter.unusedVariables false
open Go.Proofs.Tryz renaming prog->TP
namespace Go.Proofs.YtfafnkpfamgbbaaGreatDoor
namespace Abs
abbrev yA (t n b:Nat):Prop:=b8 TP t=some true/\ca TP t=some n/\lA TP t=some b/\gh TP t=some false/\gm TP t n=true/\nS TP t=false
abbrev yB (t n b:Nat):Prop:=b8 TP t=some false/\ca TP t=some n/\lA TP t=some b/\gh TP t=some false/\gm TP t n=true/\nS TP t=false
theorem yT0:yB 0 1 0/\ak TP 0=some (.tuple []):=by and_intros<;>kernel_rfl
abbrev ay (t:Nat):Prop:=yB t 1 8/\ak TP t=some (.nilfunc)/\bX TP t=.func
theorem Vy:ay 1/\ay 45/\ay 47/\ay 48/\ay 49/\ay 57/\ay 58/\ay 60/\ay 61/\ay 62/\ay 63/\ay 64/\ay 66/\ay 67/\ay 68/\ay 76/\ay 77/\ay 80/\ay 85/\ay 86/\ay 87/\ay 91/\ay 92/\ay 94/\ay 95/\ay 96/\ay 100/\ay 101/\ay 103/\ay 105:=by and_intros<;>kernel_rfl
theorem Tm:ay 106/\ay 109/\ay 118/\ay 119/\ay 120/\ay 123/\ay 124/\ay 125/\ay 126/\ay 127/\ay 128/\ay 129/\ay 130/\ay 131/\ay 132/\ay 133/\ay 136/\ay 139/\ay 140/\ay 142/\ay 144/\ay 146/\ay 148/\ay 149/\ay 155/\ay 159/\ay 160/\ay 161/\ay 164/\ay 169:=by and_intros<;>kernel_rfl
theorem Tl:ay 172/\ay 173/\ay 174/\ay 177/\ay 178/\ay 179/\ay 181/\ay 182/\ay 184/\ay 185/\ay 186/\ay 187/\ay 189/\ay 190/\ay 192/\ay 194/\ay 195/\ay 196/\ay 200/\ay 201/\ay 203/\ay 204/\ay 205/\ay 206/\ay 207/\ay 208/\ay 209/\ay 210/\ay 211/\ay 212:=by and_intros<;>kernel_rfl
theorem Tk:ay 215/\ay 216/\ay 217/\ay 218/\ay 219/\ay 220/\ay 221/\ay 222/\ay 223/\ay 224/\ay 225/\ay 226/\ay 228/\ay 230/\ay 232/\ay 233/\ay 234/\ay 235/\ay 236/\ay 237/\ay 239/\ay 240/\ay 241/\ay 242/\ay 243/\ay 244/\ay 245/\ay 246/\ay 247/\ay 248:=by and_intros<;>kernel_rfl
theorem QL:ay 250/\ay 251/\ay 253/\ay 254/\ay 255/\ay 256/\ay 261/\ay 263/\ay 266/\ay 267/\ay 270/\ay 271/\ay 272/\ay 277/\ay 278/\ay 279/\ay 280/\ay 281/\ay 282/\ay 283/\ay 284/\ay 285/\ay 286/\ay 287/\ay 288/\ay 289/\ay 290/\ay 291/\ay 292/\ay 293:=by and_intros<;>kernel_rfl
theorem QK:ay 294/\ay 295/\ay 296/\ay 297/\ay 298/\ay 299/\ay 300/\ay 302/\ay 303/\ay 304/\ay 305/\ay 308/\ay 310/\ay 311/\ay 312/\ay 313/\ay 316/\ay 317/\ay 318/\ay 319/\ay 322/\ay 326/\ay 330/\ay 333/\ay 336/\ay 337/\ay 338/\ay 339/\ay 343/\ay 344:=by and_intros<;>kernel_rfl
theorem QJ:ay 345/\ay 346/\ay 347/\ay 348/\ay 350/\ay 351/\ay 354/\ay 355/\ay 356/\ay 357/\ay 358/\ay 359/\ay 360/\ay 363/\ay 364/\ay 365/\ay 366/\ay 367/\ay 369/\ay 372/\ay 375/\ay 376/\ay 379/\ay 384/\ay 385/\ay 387/\ay 388/\ay 389/\ay 391/\ay 392:=by and_intros<;>kernel_rfl
theorem QI:ay 393/\ay 394/\ay 395/\ay 396/\ay 399/\ay 400/\ay 404/\ay 405/\ay 410/\ay 412/\ay 413/\ay 414/\ay 417/\ay 422/\ay 424/\ay 426/\ay 427/\ay 431/\ay 432/\ay 435/\ay 437/\ay 445:=by and_intros<;>kernel_rfl
abbrev PQ (t:Nat):Prop:=yB t 1 8/\ak TP t=some (.int .i64 0)/\p9 TP t=.int
theorem Vx:PQ 2/\PQ 3/\PQ 43/\PQ 306:=by and_intros<;>kernel_rfl
theorem yT3:yB 4 1 1/\ak TP 4=some (.bool false)/\bX TP 4=.bool:=by and_intros<;>kernel_rfl
abbrev PP (t:Nat):Prop:=yB t 1 1/\ak TP t=some (.int .u8 0)/\p9 TP t=.int
theorem Vw:PP 5/\PP 6/\PP 443/\PP 444:=by and_intros<;>kernel_rfl
theorem yT5:yA 7 4 24/\ak TP 7=some (.agg [.int .i64 0,.int .i64 0,.bool false,.int .u8 0])/\af TP 7 0=some (0,2)/\af TP 7 1=some (1,3)/\af TP 7 2=some (2,4)/\af TP 7 3=some (3,6)/\au TP 7=some [(0,1),(1,1),(2,1),(3,1)]/\cw TP 7=some [.int,.int,.bool,.int]/\yA 8 4 24/\ak TP 8=some (.agg [.int .i64 0,.int .i64 0,.bool false,.int .u8 0])/\af TP 8 0=some (0,2)/\af TP 8 1=some (1,3)/\af TP 8 2=some (2,4)/\af TP 8 3=some (3,6)/\au TP 8=some [(0,1),(1,1),(2,1),(3,1)]/\cw TP 8=some [.int,.int,.bool,.int]:=by and_intros<;>kernel_rfl
abbrev Tq (t:Nat):Prop:=yB t 1 16/\ak TP t=some (.str ⟨#[]⟩)/\eQ TP t=true/\p9 TP t=.str
theorem Vv:Tq 9/\Tq 10/\Tq 11:=by and_intros<;>kernel_rfl
abbrev Tp (t:Nat):Prop:=yB t 1 8/\ak TP t=some (.int .u64 0)/\p9 TP t=.int
theorem Vu:Tp 12/\Tp 197/\Tp 199:=by and_intros<;>kernel_rfl
theorem yT8:yA 13 2 24/\ak TP 13=some (.agg [.str ⟨#[]⟩,.int .u64 0])/\af TP 13 0=some (0,9)/\af TP 13 1=some (1,12)/\au TP 13=some [(0,1),(1,1)]/\yA 14 2 24/\ak TP 14=some (.agg [.str ⟨#[]⟩,.int .u64 0])/\af TP 14 0=some (0,9)/\af TP 14 1=some (1,12)/\au TP 14=some [(0,1),(1,1)]:=by and_intros<;>kernel_rfl
abbrev vj (t:Nat):Prop:=yB t 1 8/\ak TP t=some (.nilptr)/\bX TP t=.ptr
theorem Vt:vj 15/\vj 17/\vj 78/\vj 81/\vj 121/\vj 309/\vj 314/\vj 334/\vj 377/\vj 401/\vj 406:=by and_intros<;>kernel_rfl
theorem zbe:yB 16 1 8/\ak TP 16=some (.nilptr)/\yB 147 1 8/\ak TP 147=some (.nilptr):=by and_intros<;>kernel_rfl
theorem zbd:yA 18 1 8/\ak TP 18=some (.agg [.nilptr])/\af TP 18 0=some (0,17)/\au TP 18=some [(0,1)]/\yA 19 1 8/\ak TP 19=some (.agg [.nilptr])/\af TP 19 0=some (0,17)/\au TP 19=some [(0,1)]:=by and_intros<;>kernel_rfl
abbrev ND (t:Nat):Prop:=b8 TP t=some false/\ca TP t=some 1/\lA TP t=some 16/\ak TP t=some (.niliface)/\gh TP t=some true/\gm TP t 1=true/\bX TP t=.iface/\nS TP t=false
theorem To:ND 20/\ND 88/\ND 89:=by and_intros<;>kernel_rfl
abbrev NC (t:Nat):Prop:=yB t 1 4/\ak TP t=some (.int .i32 0)/\p9 TP t=.int
theorem Tn:NC 21/\NC 446/\NC 447:=by and_intros<;>kernel_rfl
theorem zbc:yB 22 1 24/\ak TP 22=some (.nilslice)/\bu TP 22=some 151/\bX TP 22=.slice:=by and_intros<;>kernel_rfl
theorem zbb:yB 23 1 24/\ak TP 23=some (.nilslice)/\bu TP 23=some 154/\bX TP 23=.slice:=by and_intros<;>kernel_rfl
theorem zba:yA 24 3 56/\ak TP 24=some (.agg [.nilslice,.nilslice,.int .i64 0])/\af TP 24 0=some (0,22)/\af TP 24 1=some (1,23)/\af TP 24 2=some (2,3)/\au TP 24=some [(0,1),(1,1),(2,1)]/\yA 25 3 56/\ak TP 25=some (.agg [.nilslice,.nilslice,.int .i64 0])/\af TP 25 0=some (0,22)/\af TP 25 1=some (1,23)/\af TP 25 2=some (2,3)/\au TP 25=some [(0,1),(1,1),(2,1)]:=by and_intros<;>kernel_rfl
theorem za9:yB 26 1 24/\ak TP 26=some (.nilslice)/\bu TP 26=some 158/\bX TP 26=.slice:=by and_intros<;>kernel_rfl
theorem za8:yB 27 1 24/\ak TP 27=some (.nilslice)/\bu TP 27=some 163/\bX TP 27=.slice:=by and_intros<;>kernel_rfl
theorem za7:yB 28 1 24/\ak TP 28=some (.nilslice)/\bu TP 28=some 166/\bX TP 28=.slice:=by and_intros<;>kernel_rfl
abbrev mP (t:Nat):Prop:=yA t 2 16/\ak TP t=some (.agg [.int .i64 0,.int .i64 0])/\af TP t 0=some (0,3)/\af TP t 1=some (1,3)/\au TP t=some [(0,1),(1,1)]/\cw TP t=some [.int,.int]
theorem Tj:mP 29/\mP 30/\mP 113/\mP 114/\mP 137/\mP 138/\mP 175/\mP 176/\mP 324/\mP 325/\mP 361/\mP 362/\mP 380/\mP 382/\mP 383:=by and_intros<;>kernel_rfl
theorem za6:yA 31 6 80/\ak TP 31=some (.agg [.nilslice,.nilslice,.int .i64 0,.int .i64 0,.int .i64 0,.int .i64 0])/\af TP 31 0=some (0,27)/\af TP 31 1=some (1,28)/\af TP 31 2=some (2,30)/\af TP 31 3=some (4,30)/\au TP 31=some [(0,1),(1,1),(2,2),(4,2)]/\yA 32 6 80/\ak TP 32=some (.agg [.nilslice,.nilslice,.int .i64 0,.int .i64 0,.int .i64 0,.int .i64 0])/\af TP 32 0=some (0,27)/\af TP 32 1=some (1,28)/\af TP 32 2=some (2,30)/\af TP 32 3=some (4,30)/\au TP 32=some [(0,1),(1,1),(2,2),(4,2)]:=by and_intros<;>kernel_rfl
theorem za5:yB 33 1 24/\ak TP 33=some (.nilslice)/\bu TP 33=some 168/\bX TP 33=.slice:=by and_intros<;>kernel_rfl
theorem za4:yB 34 1 24/\ak TP 34=some (.nilslice)/\bu TP 34=some 171/\bX TP 34=.slice:=by and_intros<;>kernel_rfl
theorem za3:yA 35 3 56/\ak TP 35=some (.agg [.nilslice,.nilslice,.int .i64 0])/\af TP 35 0=some (0,33)/\af TP 35 1=some (1,34)/\af TP 35 2=some (2,3)/\au TP 35=some [(0,1),(1,1),(2,1)]/\yA 36 3 56/\ak TP 36=some (.agg [.nilslice,.nilslice,.int .i64 0])/\af TP 36 0=some (0,33)/\af TP 36 1=some (1,34)/\af TP 36 2=some (2,3)/\au TP 36=some [(0,1),(1,1),(2,1)]:=by and_intros<;>kernel_rfl
theorem za2:yB 37 1 24/\ak TP 37=some (.nilslice)/\bu TP 37=some 75/\bX TP 37=.slice:=by and_intros<;>kernel_rfl
theorem za1:yA 38 4 48/\ak TP 38=some (.agg [.nilslice,.int .i64 0,.int .i64 0,.int .i64 0])/\af TP 38 0=some (0,37)/\af TP 38 1=some (1,30)/\af TP 38 2=some (3,3)/\au TP 38=some [(0,1),(1,2),(3,1)]/\yA 39 4 48/\ak TP 39=some (.agg [.nilslice,.int .i64 0,.int .i64 0,.int .i64 0])/\af TP 39 0=some (0,37)/\af TP 39 1=some (1,30)/\af TP 39 2=some (3,3)/\au TP 39=some [(0,1),(1,2),(3,1)]:=by and_intros<;>kernel_rfl
theorem za0:b8 TP 40=some true/\ca TP 40=some 17/\ak TP 40=some (.agg [.nilslice,.nilslice,.int .i64 0,.nilslice,.nilslice,.nilslice,.int .i64 0,.int .i64 0,.int .i64 0,.int .i64 0,.nilslice,.nilslice,.int .i64 0,.nilslice,.int .i64 0,.int .i64 0,.int .i64 0])/\af TP 40 0=some (0,25)/\af TP 40 1=some (3,26)/\af TP 40 2=some (4,32)/\af TP 40 3=some (10,36)/\af TP 40 4=some (13,39)/\gh TP 40=some false/\gm TP 40 17=true/\au TP 40=some [(0,3),(3,1),(4,6),(10,3),(13,4)]/\nS TP 40=false/\b8 TP 41=some true/\ca TP 41=some 17/\ak TP 41=some (.agg [.nilslice,.nilslice,.int .i64 0,.nilslice,.nilslice,.nilslice,.int .i64 0,.int .i64 0,.int .i64 0,.int .i64 0,.nilslice,.nilslice,.int .i64 0,.nilslice,.int .i64 0,.int .i64 0,.int .i64 0])/\af TP 41 0=some (0,25)/\af TP 41 1=some (3,26)/\af TP 41 2=some (4,32)/\af TP 41 3=some (10,36)/\af TP 41 4=some (13,39)/\gh TP 41=some false/\gm TP 41 17=true/\au TP 41=some [(0,3),(3,1),(4,6),(10,3),(13,4)]/\nS TP 41=false:=by and_intros<;>kernel_rfl
theorem zaZ:yB 42 1 24/\ak TP 42=some (.nilslice)/\bu TP 42=some 9/\bX TP 42=.slice:=by and_intros<;>kernel_rfl
theorem zaY:yB 44 1 0/\ak TP 44=some (.tuple [.str ⟨#[]⟩,.int .i64 0]):=by and_intros<;>kernel_rfl
abbrev NB (t:Nat):Prop:=yB t 1 0/\ak TP t=some (.tuple [.nilslice,.int .i64 0])
theorem Ti:NB 46/\NB 231/\NB 249:=by and_intros<;>kernel_rfl
theorem zaX:yB 50 1 24/\ak TP 50=some (.nilslice)/\bu TP 50=some 73/\bX TP 50=.slice:=by and_intros<;>kernel_rfl
theorem zaW:yB 51 1 24/\ak TP 51=some (.nilslice)/\bu TP 51=some 108/\bX TP 51=.slice:=by and_intros<;>kernel_rfl
theorem zaV:yB 52 1 24/\ak TP 52=some (.nilslice)/\bu TP 52=some 112/\bX TP 52=.slice:=by and_intros<;>kernel_rfl
theorem zaU:yB 53 1 24/\ak TP 53=some (.nilslice)/\bu TP 53=some 114/\bX TP 53=.slice:=by and_intros<;>kernel_rfl
theorem zaT:yA 54 6 112/\ak TP 54=some (.agg [.nilslice,.nilslice,.nilslice,.nilslice,.int .i64 0,.int .i64 0])/\af TP 54 0=some (0,50)/\af TP 54 1=some (1,51)/\af TP 54 2=some (2,52)/\af TP 54 3=some (3,53)/\af TP 54 4=some (4,3)/\af TP 54 5=some (5,3)/\au TP 54=some [(0,1),(1,1),(2,1),(3,1),(4,1),(5,1)]/\yA 55 6 112/\ak TP 55=some (.agg [.nilslice,.nilslice,.nilslice,.nilslice,.int .i64 0,.int .i64 0])/\af TP 55 0=some (0,50)/\af TP 55 1=some (1,51)/\af TP 55 2=some (2,52)/\af TP 55 3=some (3,53)/\af TP 55 4=some (4,3)/\af TP 55 5=some (5,3)/\au TP 55=some [(0,1),(1,1),(2,1),(3,1),(4,1),(5,1)]:=by and_intros<;>kernel_rfl
abbrev nw (t:Nat):Prop:=yB t 1 0
theorem Th:nw 56/\nw 59/\nw 117/\nw 143/\nw 227/\nw 229/\nw 238/\nw 301/\nw 329/\nw 386/\nw 411/\nw 421/\nw 423/\nw 430:=by and_intros<;>kernel_rfl
theorem zaS:yB 65 1 24/\ak TP 65=some (.nilslice)/\bu TP 65=some 3/\bX TP 65=.slice:=by and_intros<;>kernel_rfl
theorem zaR:yB 69 1 2/\ak TP 69=some (.int .u16 0)/\p9 TP 69=.int:=by and_intros<;>kernel_rfl
theorem zaQ:yA 70 4 24/\ak TP 70=some (.agg [.str ⟨#[]⟩,.int .u8 0,.int .u8 0,.int .u16 0])/\af TP 70 0=some (0,9)/\af TP 70 1=some (1,5)/\af TP 70 2=some (2,5)/\af TP 70 3=some (3,69)/\au TP 70=some [(0,1),(1,1),(2,1),(3,1)]/\cw TP 70=some [.str,.int,.int,.int]/\yA 71 4 24/\ak TP 71=some (.agg [.str ⟨#[]⟩,.int .u8 0,.int .u8 0,.int .u16 0])/\af TP 71 0=some (0,9)/\af TP 71 1=some (1,5)/\af TP 71 2=some (2,5)/\af TP 71 3=some (3,69)/\au TP 71=some [(0,1),(1,1),(2,1),(3,1)]/\cw TP 71=some [.str,.int,.int,.int]:=by and_intros<;>kernel_rfl
theorem zaP:yA 72 4 56/\ak TP 72=some (.agg [.str ⟨#[]⟩,.int .i64 0,.int .i64 0,.nilslice])/\af TP 72 0=some (0,9)/\af TP 72 1=some (1,3)/\af TP 72 2=some (2,3)/\af TP 72 3=some (3,65)/\au TP 72=some [(0,1),(1,1),(2,1),(3,1)]/\yA 73 4 56/\ak TP 73=some (.agg [.str ⟨#[]⟩,.int .i64 0,.int .i64 0,.nilslice])/\af TP 73 0=some (0,9)/\af TP 73 1=some (1,3)/\af TP 73 2=some (2,3)/\af TP 73 3=some (3,65)/\au TP 73=some [(0,1),(1,1),(2,1),(3,1)]:=by and_intros<;>kernel_rfl
theorem zaO:yA 74 4 56/\ak TP 74=some (.agg [.str ⟨#[]⟩,.int .i64 0,.int .i64 0,.nilslice])/\af TP 74 0=some (0,9)/\af TP 74 1=some (1,30)/\af TP 74 2=some (3,65)/\au TP 74=some [(0,1),(1,2),(3,1)]/\yA 75 4 56/\ak TP 75=some (.agg [.str ⟨#[]⟩,.int .i64 0,.int .i64 0,.nilslice])/\af TP 75 0=some (0,9)/\af TP 75 1=some (1,30)/\af TP 75 2=some (3,65)/\au TP 75=some [(0,1),(1,2),(3,1)]:=by and_intros<;>kernel_rfl
theorem zaN:yB 79 1 0/\ak TP 79=some (.tuple [.nilptr,.nilslice,.nilslice,.int .i64 0]):=by and_intros<;>kernel_rfl
theorem zaM:yB 82 1 24/\ak TP 82=some (.nilslice)/\bu TP 82=some 5/\yU TP 82=true/\bX TP 82=.slice:=by and_intros<;>kernel_rfl
theorem zaL:yA 83 2 32/\ak TP 83=some (.agg [.nilptr,.nilslice])/\af TP 83 0=some (0,81)/\af TP 83 1=some (1,82)/\au TP 83=some [(0,1),(1,1)]:=by and_intros<;>kernel_rfl
theorem zaK:b8 TP 84=some true/\ca TP 84=some 2/\lA TP 84=some 32/\ak TP 84=some (.agg [.nilptr,.nilslice])/\af TP 84 0=some (0,81)/\af TP 84 1=some (1,82)/\gh TP 84=some false/\gm TP 84 2=true/\au TP 84=some [(0,1),(1,1)]/\nS TP 84=true/\IY TP 84=some 5:=by and_intros<;>kernel_rfl
theorem zaJ:yB 90 1 0/\ak TP 90=some (.tuple [.int .i64 0,.niliface])/\yB 307 1 0/\ak TP 307=some (.tuple [.int .i64 0,.niliface]):=by and_intros<;>kernel_rfl
theorem zaI:yB 93 1 0/\ak TP 93=some (.tuple [.int .i64 0,.int .i64 0,.int .i64 0]):=by and_intros<;>kernel_rfl
theorem zaH:b8 TP 97=some true/\ca TP 97=some 23/\ak TP 97=some (.agg [.nilslice,.nilslice,.nilslice,.nilslice,.int .i64 0,.int .i64 0,.nilslice,.nilslice,.int .i64 0,.nilslice,.nilslice,.nilslice,.int .i64 0,.int .i64 0,.int .i64 0,.int .i64 0,.nilslice,.nilslice,.int .i64 0,.nilslice,.int .i64 0,.int .i64 0,.int .i64 0])/\af TP 97 0=some (0,55)/\af TP 97 1=some (6,41)/\gh TP 97=some false/\gm TP 97 23=true/\au TP 97=some [(0,6),(6,17)]/\nS TP 97=false/\b8 TP 98=some true/\ca TP 98=some 23/\ak TP 98=some (.agg [.nilslice,.nilslice,.nilslice,.nilslice,.int .i64 0,.int .i64 0,.nilslice,.nilslice,.int .i64 0,.nilslice,.nilslice,.nilslice,.int .i64 0,.int .i64 0,.int .i64 0,.int .i64 0,.nilslice,.nilslice,.int .i64 0,.nilslice,.int .i64 0,.int .i64 0,.int .i64 0])/\af TP 98 0=some (0,55)/\af TP 98 1=some (6,41)/\gh TP 98=some false/\gm TP 98 23=true/\au TP 98=some [(0,6),(6,17)]/\nS TP 98=false:=by and_intros<;>kernel_rfl
theorem zaG:yB 99 1 0/\ak TP 99=some (.tuple [.str ⟨#[]⟩,.str ⟨#[]⟩,.bool false]):=by and_intros<;>kernel_rfl
abbrev Jt (t:Nat):Prop:=yB t 1 0/\ak TP t=some (.tuple [.nilptr,.int .i64 0])
theorem Tg:Jt 102/\Jt 315/\Jt 335/\Jt 378:=by and_intros<;>kernel_rfl
theorem zaF:yB 104 1 0/\ak TP 104=some (.tuple [.str ⟨#[]⟩,.bool false,.int .i64 0]):=by and_intros<;>kernel_rfl
theorem zaE:yA 107 4 40/\ak TP 107=some (.agg [.str ⟨#[]⟩,.int .i64 0,.int .i64 0,.int .i64 0])/\af TP 107 0=some (0,9)/\af TP 107 1=some (1,3)/\af TP 107 2=some (2,3)/\af TP 107 3=some (3,3)/\au TP 107=some [(0,1),(1,1),(2,1),(3,1)]/\cw TP 107=some [.str,.int,.int,.int]/\yA 108 4 40/\ak TP 108=some (.agg [.str ⟨#[]⟩,.int .i64 0,.int .i64 0,.int .i64 0])/\af TP 108 0=some (0,9)/\af TP 108 1=some (1,3)/\af TP 108 2=some (2,3)/\af TP 108 3=some (3,3)/\au TP 108=some [(0,1),(1,1),(2,1),(3,1)]/\cw TP 108=some [.str,.int,.int,.int]:=by and_intros<;>kernel_rfl
theorem zaD:yB 110 1 24/\ak TP 110=some (.nilslice)/\bu TP 110=some 138/\bX TP 110=.slice:=by and_intros<;>kernel_rfl
theorem zaC:yA 111 3 40/\ak TP 111=some (.agg [.int .i64 0,.int .i64 0,.nilslice])/\af TP 111 0=some (0,3)/\af TP 111 1=some (1,3)/\af TP 111 2=some (2,110)/\au TP 111=some [(0,1),(1,1),(2,1)]/\yA 112 3 40/\ak TP 112=some (.agg [.int .i64 0,.int .i64 0,.nilslice])/\af TP 112 0=some (0,3)/\af TP 112 1=some (1,3)/\af TP 112 2=some (2,110)/\au TP 112=some [(0,1),(1,1),(2,1)]:=by and_intros<;>kernel_rfl
theorem zaB:yA 115 4 80/\ak TP 115=some (.agg [.str ⟨#[]⟩,.nilslice,.nilslice,.str ⟨#[]⟩])/\af TP 115 0=some (0,9)/\af TP 115 1=some (1,42)/\af TP 115 2=some (2,65)/\af TP 115 3=some (3,9)/\au TP 115=some [(0,1),(1,1),(2,1),(3,1)]/\yA 116 4 80/\ak TP 116=some (.agg [.str ⟨#[]⟩,.nilslice,.nilslice,.str ⟨#[]⟩])/\af TP 116 0=some (0,9)/\af TP 116 1=some (1,42)/\af TP 116 2=some (2,65)/\af TP 116 3=some (3,9)/\au TP 116=some [(0,1),(1,1),(2,1),(3,1)]:=by and_intros<;>kernel_rfl
theorem zaA:yA 122 5 40/\ak TP 122=some (.agg [.int .i64 0,.int .i64 0,.int .i64 0,.int .i64 0,.int .i64 0])/\dI TP 122=some (5,43)/\au TP 122=none:=by and_intros<;>kernel_rfl
theorem zaz:yA 134 2 16/\ak TP 134=some (.agg [.bool false,.nilfunc])/\af TP 134 0=some (0,4)/\af TP 134 1=some (1,92)/\au TP 134=some [(0,1),(1,1)]/\yA 135 2 16/\ak TP 135=some (.agg [.bool false,.nilfunc])/\af TP 135 0=some (0,4)/\af TP 135 1=some (1,92)/\au TP 135=some [(0,1),(1,1)]:=by and_intros<;>kernel_rfl
theorem zay:yB 141 1 0/\ak TP 141=some (.tuple [.nilslice,.nilslice]):=by and_intros<;>kernel_rfl
theorem zax:yB 145 1 24/\ak TP 145=some (.nilslice)/\bu TP 145=some 20/\bX TP 145=.slice:=by and_intros<;>kernel_rfl
theorem zaw:yA 150 2 24/\ak TP 150=some (.agg [.str ⟨#[]⟩,.int .i64 0])/\af TP 150 0=some (0,9)/\af TP 150 1=some (1,3)/\au TP 150=some [(0,1),(1,1)]/\cw TP 150=some [.str,.int]/\yA 151 2 24/\ak TP 151=some (.agg [.str ⟨#[]⟩,.int .i64 0])/\af TP 151 0=some (0,9)/\af TP 151 1=some (1,3)/\au TP 151=some [(0,1),(1,1)]/\cw TP 151=some [.str,.int]:=by and_intros<;>kernel_rfl
theorem zav:yB 152 1 24/\ak TP 152=some (.nilslice)/\bu TP 152=some 30/\bX TP 152=.slice:=by and_intros<;>kernel_rfl
theorem zau:yA 153 2 40/\ak TP 153=some (.agg [.str ⟨#[]⟩,.nilslice])/\af TP 153 0=some (0,9)/\af TP 153 1=some (1,152)/\au TP 153=some [(0,1),(1,1)]/\yA 154 2 40/\ak TP 154=some (.agg [.str ⟨#[]⟩,.nilslice])/\af TP 154 0=some (0,9)/\af TP 154 1=some (1,152)/\au TP 154=some [(0,1),(1,1)]:=by and_intros<;>kernel_rfl
theorem zat:yB 156 1 24/\ak TP 156=some (.nilslice)/\bu TP 156=some 176/\bX TP 156=.slice:=by and_intros<;>kernel_rfl
theorem zas:yA 157 7 80/\ak TP 157=some (.agg [.str ⟨#[]⟩,.int .i64 0,.int .i64 0,.int .i64 0,.int .i64 0,.int .i64 0,.nilslice])/\af TP 157 0=some (0,9)/\af TP 157 1=some (1,3)/\af TP 157 2=some (2,30)/\af TP 157 3=some (4,30)/\af TP 157 4=some (6,156)/\au TP 157=some [(0,1),(1,1),(2,2),(4,2),(6,1)]/\yA 158 7 80/\ak TP 158=some (.agg [.str ⟨#[]⟩,.int .i64 0,.int .i64 0,.int .i64 0,.int .i64 0,.int .i64 0,.nilslice])/\af TP 158 0=some (0,9)/\af TP 158 1=some (1,3)/\af TP 158 2=some (2,30)/\af TP 158 3=some (4,30)/\af TP 158 4=some (6,156)/\au TP 158=some [(0,1),(1,1),(2,2),(4,2),(6,1)]:=by and_intros<;>kernel_rfl
theorem zar:yA 162 4 40/\ak TP 162=some (.agg [.str ⟨#[]⟩,.int .i64 0,.int .i64 0,.int .i64 0])/\af TP 162 0=some (0,9)/\af TP 162 1=some (1,3)/\af TP 162 2=some (2,30)/\au TP 162=some [(0,1),(1,1),(2,2)]/\cw TP 162=some [.str,.int,.int,.int]/\yA 163 4 40/\ak TP 163=some (.agg [.str ⟨#[]⟩,.int .i64 0,.int .i64 0,.int .i64 0])/\af TP 163 0=some (0,9)/\af TP 163 1=some (1,3)/\af TP 163 2=some (2,30)/\au TP 163=some [(0,1),(1,1),(2,2)]/\cw TP 163=some [.str,.int,.int,.int]:=by and_intros<;>kernel_rfl
theorem zaq:yA 165 8 72/\ak TP 165=some (.agg [.str ⟨#[]⟩,.int .i64 0,.int .i64 0,.int .i64 0,.int .i64 0,.int .i64 0,.int .i64 0,.int .i64 0])/\af TP 165 0=some (0,9)/\af TP 165 1=some (1,30)/\af TP 165 2=some (3,30)/\af TP 165 3=some (5,30)/\af TP 165 4=some (7,3)/\au TP 165=some [(0,1),(1,2),(3,2),(5,2),(7,1)]/\cw TP 165=some [.str,.int,.int,.int,.int,.int,.int,.int]/\yA 166 8 72/\ak TP 166=some (.agg [.str ⟨#[]⟩,.int .i64 0,.int .i64 0,.int .i64 0,.int .i64 0,.int .i64 0,.int .i64 0,.int .i64 0])/\af TP 166 0=some (0,9)/\af TP 166 1=some (1,30)/\af TP 166 2=some (3,30)/\af TP 166 3=some (5,30)/\af TP 166 4=some (7,3)/\au TP 166=some [(0,1),(1,2),(3,2),(5,2),(7,1)]/\cw TP 166=some [.str,.int,.int,.int,.int,.int,.int,.int]:=by and_intros<;>kernel_rfl
theorem zap:yA 167 4 40/\ak TP 167=some (.agg [.str ⟨#[]⟩,.int .i64 0,.int .i64 0,.int .i64 0])/\af TP 167 0=some (0,9)/\af TP 167 1=some (1,30)/\af TP 167 2=some (3,3)/\au TP 167=some [(0,1),(1,2),(3,1)]/\cw TP 167=some [.str,.int,.int,.int]/\yA 168 4 40/\ak TP 168=some (.agg [.str ⟨#[]⟩,.int .i64 0,.int .i64 0,.int .i64 0])/\af TP 168 0=some (0,9)/\af TP 168 1=some (1,30)/\af TP 168 2=some (3,3)/\au TP 168=some [(0,1),(1,2),(3,1)]/\cw TP 168=some [.str,.int,.int,.int]:=by and_intros<;>kernel_rfl
theorem zao:yA 170 5 48/\ak TP 170=some (.agg [.str ⟨#[]⟩,.int .i64 0,.int .i64 0,.int .i64 0,.int .i64 0])/\af TP 170 0=some (0,9)/\af TP 170 1=some (1,30)/\af TP 170 2=some (3,30)/\au TP 170=some [(0,1),(1,2),(3,2)]/\cw TP 170=some [.str,.int,.int,.int,.int]/\yA 171 5 48/\ak TP 171=some (.agg [.str ⟨#[]⟩,.int .i64 0,.int .i64 0,.int .i64 0,.int .i64 0])/\af TP 171 0=some (0,9)/\af TP 171 1=some (1,30)/\af TP 171 2=some (3,30)/\au TP 171=some [(0,1),(1,2),(3,2)]/\cw TP 171=some [.str,.int,.int,.int,.int]:=by and_intros<;>kernel_rfl
theorem zan:yB 180 1 0/\ak TP 180=some (.tuple [.int .i32 0,.int .i64 0]):=by and_intros<;>kernel_rfl
theorem zam:yB 183 1 0/\ak TP 183=some (.tuple [.str ⟨#[]⟩,.bool false]):=by and_intros<;>kernel_rfl
theorem zal:yB 188 1 0/\ak TP 188=some (.tuple [.int .i64 0,.int .i64 0])/\yB 252 1 0/\ak TP 252=some (.tuple [.int .i64 0,.int .i64 0]):=by and_intros<;>kernel_rfl
theorem zak:yA 191 4 32/\ak TP 191=some (.agg [.int .i64 0,.int .i64 0,.int .i64 0,.int .i64 0])/\dI TP 191=some (4,3)/\au TP 191=none/\yA 436 4 32/\ak TP 436=some (.agg [.int .i64 0,.int .i64 0,.int .i64 0,.int .i64 0])/\dI TP 436=some (4,3)/\au TP 436=none:=by and_intros<;>kernel_rfl
theorem zaj:yA 193 3 24/\ak TP 193=some (.agg [.int .i64 0,.int .i64 0,.int .i64 0])/\dI TP 193=some (3,3)/\au TP 193=none:=by and_intros<;>kernel_rfl
theorem zai:yA 198 24 24/\ak TP 198=some (.agg [.int .u8 0,.int .u8 0,.int .u8 0,.int .u8 0,.int .u8 0,.int .u8 0,.int .u8 0,.int .u8 0,.int .u8 0,.int .u8 0,.int .u8 0,.int .u8 0,.int .u8 0,.int .u8 0,.int .u8 0,.int .u8 0,.int .u8 0,.int .u8 0,.int .u8 0,.int .u8 0,.int .u8 0,.int .u8 0,.int .u8 0,.int .u8 0])/\dI TP 198=some (24,5)/\au TP 198=none:=by and_intros<;>kernel_rfl
theorem zah:yB 202 1 0/\ak TP 202=some (.tuple [.nilslice,.str ⟨#[]⟩]):=by and_intros<;>kernel_rfl
theorem zag:yA 213 2 32/\ak TP 213=some (.agg [.nilslice,.int .i64 0])/\af TP 213 0=some (0,156)/\af TP 213 1=some (1,3)/\au TP 213=some [(0,1),(1,1)]/\yA 214 2 32/\ak TP 214=some (.agg [.nilslice,.int .i64 0])/\af TP 214 0=some (0,156)/\af TP 214 1=some (1,3)/\au TP 214=some [(0,1),(1,1)]:=by and_intros<;>kernel_rfl
theorem zaf:yA 257 5 40/\ak TP 257=some (.agg [.int .i64 0,.int .i64 0,.int .i64 0,.int .i64 0,.int .i64 0])/\af TP 257 0=some (0,3)/\af TP 257 1=some (1,3)/\af TP 257 2=some (2,3)/\af TP 257 3=some (3,30)/\au TP 257=some [(0,1),(1,1),(2,1),(3,2)]/\cw TP 257=some [.int,.int,.int,.int,.int]/\yA 258 5 40/\ak TP 258=some (.agg [.int .i64 0,.int .i64 0,.int .i64 0,.int .i64 0,.int .i64 0])/\af TP 258 0=some (0,3)/\af TP 258 1=some (1,3)/\af TP 258 2=some (2,3)/\af TP 258 3=some (3,30)/\au TP 258=some [(0,1),(1,1),(2,1),(3,2)]/\cw TP 258=some [.int,.int,.int,.int,.int]:=by and_intros<;>kernel_rfl
theorem zae:yA 259 5 56/\ak TP 259=some (.agg [.nilslice,.int .i64 0,.int .i64 0,.int .i64 0,.int .i64 0])/\af TP 259 0=some (0,152)/\af TP 259 1=some (1,30)/\af TP 259 2=some (3,30)/\au TP 259=some [(0,1),(1,2),(3,2)]/\yA 260 5 56/\ak TP 260=some (.agg [.nilslice,.int .i64 0,.int .i64 0,.int .i64 0,.int .i64 0])/\af TP 260 0=some (0,152)/\af TP 260 1=some (1,30)/\af TP 260 2=some (3,30)/\au TP 260=some [(0,1),(1,2),(3,2)]:=by and_intros<;>kernel_rfl
theorem zad:yB 262 1 0/\ak TP 262=some (.tuple [.nilslice,.int .i64 0,.int .i64 0]):=by and_intros<;>kernel_rfl
theorem zac:yB 264 1 4/\ak TP 264=some (.int .u32 0)/\p9 TP 264=.int:=by and_intros<;>kernel_rfl
theorem zab:yB 265 1 0/\ak TP 265=some (.tuple [.int .u32 0,.int .u32 0]):=by and_intros<;>kernel_rfl
theorem zaa:yA 268 20 160/\ak TP 268=some (.agg [.int .u64 0,.int .u64 0,.int .u64 0,.int .u64 0,.int .u64 0,.int .u64 0,.int .u64 0,.int .u64 0,.int .u64 0,.int .u64 0,.int .u64 0,.int .u64 0,.int .u64 0,.int .u64 0,.int .u64 0,.int .u64 0,.int .u64 0,.int .u64 0,.int .u64 0,.int .u64 0])/\dI TP 268=some (20,199)/\au TP 268=none:=by and_intros<;>kernel_rfl
theorem Z':yA 269 65 65/\ak TP 269=some (.agg [.int .u8 0,.int .u8 0,.int .u8 0,.int .u8 0,.int .u8 0,.int .u8 0,.int .u8 0,.int .u8 0,.int .u8 0,.int .u8 0,.int .u8 0,.int .u8 0,.int .u8 0,.int .u8 0,.int .u8 0,.int .u8 0,.int .u8 0,.int .u8 0,.int .u8 0,.int .u8 0,.int .u8 0,.int .u8 0,.int .u8 0,.int .u8 0,.int .u8 0,.int .u8 0,.int .u8 0,.int .u8 0,.int .u8 0,.int .u8 0,.int .u8 0,.int .u8 0,.int .u8 0,.int .u8 0,.int .u8 0,.int .u8 0,.int .u8 0,.int .u8 0,.int .u8 0,.int .u8 0,.int .u8 0,.int .u8 0,.int .u8 0,.int .u8 0,.int .u8 0,.int .u8 0,.int .u8 0,.int .u8 0,.int .u8 0,.int .u8 0,.int .u8 0,.int .u8 0,.int .u8 0,.int .u8 0,.int .u8 0,.int .u8 0,.int .u8 0,.int .u8 0,.int .u8 0,.int .u8 0,.int .u8 0,.int .u8 0,.int .u8 0,.int .u8 0,.int .u8 0])/\dI TP 269=some (65,5)/\au TP 269=none:=by and_intros<;>kernel_rfl
theorem Z9:yA 273 256 256/\ak TP 273=some (.agg [.int .u8 0,.int .u8 0,.int .u8 0,.int .u8 0,.int .u8 0,.int .u8 0,.int .u8 0,.int .u8 0,.int .u8 0,.int .u8 0,.int .u8 0,.int .u8 0,.int .u8 0,.int .u8 0,.int .u8 0,.int .u8 0,.int .u8 0,.int .u8 0,.int .u8 0,.int .u8 0,.int .u8 0,.int .u8 0,.int .u8 0,.int .u8 0,.int .u8 0,.int .u8 0,.int .u8 0,.int .u8 0,.int .u8 0,.int .u8 0,.int .u8 0,.int .u8 0,.int .u8 0,.int .u8 0,.int .u8 0,.int .u8 0,.int .u8 0,.int .u8 0,.int .u8 0,.int .u8 0,.int .u8 0,.int .u8 0,.int .u8 0,.int .u8 0,.int .u8 0,.int .u8 0,.int .u8 0,.int .u8 0,.int .u8 0,.int .u8 0,.int .u8 0,.int .u8 0,.int .u8 0,.int .u8 0,.int .u8 0,.int .u8 0,.int .u8 0,.int .u8 0,.int .u8 0,.int .u8 0,.int .u8 0,.int .u8 0,.int .u8 0,.int .u8 0,.int .u8 0,.int .u8 0,.int .u8 0,.int .u8 0,.int .u8 0,.int .u8 0,.int .u8 0,.int .u8 0,.int .u8 0,.int .u8 0,.int .u8 0,.int .u8 0,.int .u8 0,.int .u8 0,.int .u8 0,.int .u8 0,.int .u8 0,.int .u8 0,.int .u8 0,.int .u8 0,.int .u8 0,.int .u8 0,.int .u8 0,.int .u8 0,.int .u8 0,.int .u8 0,.int .u8 0,.int .u8 0,.int .u8 0,.int .u8 0,.int .u8 0,.int .u8 0,.int .u8 0,.int .u8 0,.int .u8 0,.int .u8 0,.int .u8 0,.int .u8 0,.int .u8 0,.int .u8 0,.int .u8 0,.int .u8 0,.int .u8 0,.int .u8 0,.int .u8 0,.int .u8 0,.int .u8 0,.int .u8 0,.int .u8 0,.int .u8 0,.int .u8 0,.int .u8 0,.int .u8 0,.int .u8 0,.int .u8 0,.int .u8 0,.int .u8 0,.int .u8 0,.int .u8 0,.int .u8 0,.int .u8 0,.int .u8 0,.int .u8 0,.int .u8 0,.int .u8 0,.int .u8 0,.int .u8 0,.int .u8 0,.int .u8 0,.int .u8 0,.int .u8 0,.int .u8 0,.int .u8 0,.int .u8 0,.int .u8 0,.int .u8 0,.int .u8 0,.int .u8 0,.int .u8 0,.int .u8 0,.int .u8 0,.int .u8 0,.int .u8 0,.int .u8 0,.int .u8 0,.int .u8 0,.int .u8 0,.int .u8 0,.int .u8 0,.int .u8 0,.int .u8 0,.int .u8 0,.int .u8 0,.int .u8 0,.int .u8 0,.int .u8 0,.int .u8 0,.int .u8 0,.int .u8 0,.int .u8 0,.int .u8 0,.int .u8 0,.int .u8 0,.int .u8 0,.int .u8 0,.int .u8 0,.int .u8 0,.int .u8 0,.int .u8 0,.int .u8 0,.int .u8 0,.int .u8 0,.int .u8 0,.int .u8 0,.int .u8 0,.int .u8 0,.int .u8 0,.int .u8 0,.int .u8 0,.int .u8 0,.int .u8 0,.int .u8 0,.int .u8 0,.int .u8 0,.int .u8 0,.int .u8 0,.int .u8 0,.int .u8 0,.int .u8 0,.int .u8 0,.int .u8 0,.int .u8 0,.int .u8 0,.int .u8 0,.int .u8 0,.int .u8 0,.int .u8 0,.int .u8 0,.int .u8 0,.int .u8 0,.int .u8 0,.int .u8 0,.int .u8 0,.int .u8 0,.int .u8 0,.int .u8 0,.int .u8 0,.int .u8 0,.int .u8 0,.int .u8 0,.int .u8 0,.int .u8 0,.int .u8 0,.int .u8 0,.int .u8 0,.int .u8 0,.int .u8 0,.int .u8 0,.int .u8 0,.int .u8 0,.int .u8 0,.int .u8 0,.int .u8 0,.int .u8 0,.int .u8 0,.int .u8 0,.int .u8 0,.int .u8 0,.int .u8 0,.int .u8 0,.int .u8 0,.int .u8 0,.int .u8 0,.int .u8 0,.int .u8 0,.int .u8 0,.int .u8 0,.int .u8 0,.int .u8 0,.int .u8 0,.int .u8 0,.int .u8 0,.int .u8 0,.int .u8 0,.int .u8 0,.int .u8 0,.int .u8 0,.int .u8 0,.int .u8 0,.int .u8 0,.int .u8 0,.int .u8 0])/\dI TP 273=some (256,5)/\au TP 273=none:=by and_intros<;>kernel_rfl
theorem Z8:yA 274 2 2/\ak TP 274=some (.agg [.int .u8 0,.int .u8 0])/\af TP 274 0=some (0,5)/\af TP 274 1=some (1,5)/\au TP 274=some [(0,1),(1,1)]/\cw TP 274=some [.int,.int]/\yA 275 2 2/\ak TP 275=some (.agg [.int .u8 0,.int .u8 0])/\af TP 275 0=some (0,5)/\af TP 275 1=some (1,5)/\au TP 275=some [(0,1),(1,1)]/\cw TP 275=some [.int,.int]:=by and_intros<;>kernel_rfl
theorem Z7:yA 276 32 32/\ak TP 276=some (.agg [.int .u8 0,.int .u8 0,.int .u8 0,.int .u8 0,.int .u8 0,.int .u8 0,.int .u8 0,.int .u8 0,.int .u8 0,.int .u8 0,.int .u8 0,.int .u8 0,.int .u8 0,.int .u8 0,.int .u8 0,.int .u8 0,.int .u8 0,.int .u8 0,.int .u8 0,.int .u8 0,.int .u8 0,.int .u8 0,.int .u8 0,.int .u8 0,.int .u8 0,.int .u8 0,.int .u8 0,.int .u8 0,.int .u8 0,.int .u8 0,.int .u8 0,.int .u8 0])/\dI TP 276=some (16,275)/\au TP 276=none:=by and_intros<;>kernel_rfl
theorem Z6:yA 320 4 32/\ak TP 320=some (.agg [.int .i64 0,.int .i64 0,.int .i64 0,.int .i64 0])/\af TP 320 0=some (0,3)/\af TP 320 1=some (1,3)/\af TP 320 2=some (2,30)/\au TP 320=some [(0,1),(1,1),(2,2)]/\cw TP 320=some [.int,.int,.int,.int]/\yA 321 4 32/\ak TP 321=some (.agg [.int .i64 0,.int .i64 0,.int .i64 0,.int .i64 0])/\af TP 321 0=some (0,3)/\af TP 321 1=some (1,3)/\af TP 321 2=some (2,30)/\au TP 321=some [(0,1),(1,1),(2,2)]/\cw TP 321=some [.int,.int,.int,.int]:=by and_intros<;>kernel_rfl
theorem Z5:yB 323 1 24/\ak TP 323=some (.nilslice)/\bu TP 323=some 325/\bX TP 323=.slice:=by and_intros<;>kernel_rfl
theorem Z4:yA 327 6 56/\ak TP 327=some (.agg [.str ⟨#[]⟩,.int .i64 0,.int .i64 0,.int .i64 0,.int .i64 0,.int .i64 0])/\af TP 327 0=some (0,168)/\af TP 327 1=some (4,30)/\au TP 327=some [(0,4),(4,2)]/\cw TP 327=some [.str,.int,.int,.int,.int,.int]/\yA 328 6 56/\ak TP 328=some (.agg [.str ⟨#[]⟩,.int .i64 0,.int .i64 0,.int .i64 0,.int .i64 0,.int .i64 0])/\af TP 328 0=some (0,168)/\af TP 328 1=some (4,30)/\au TP 328=some [(0,4),(4,2)]/\cw TP 328=some [.str,.int,.int,.int,.int,.int]:=by and_intros<;>kernel_rfl
theorem Z3:yB 331 1 8/\ak TP 331=some (.any)/\yL TP 331=some (3,3):=by and_intros<;>kernel_rfl
theorem Z2:yB 332 1 0/\ak TP 332=some (.tuple [.int .i64 0,.bool false]):=by and_intros<;>kernel_rfl
theorem Z1:yA 340 19 192/\ak TP 340=some (.agg [.nilslice,.nilslice,.int .i64 0,.int .i64 0,.int .i64 0,.int .i64 0,.int .i64 0,.int .i64 0,.int .i64 0,.int .i64 0,.int .i64 0,.str ⟨#[]⟩,.int .i64 0,.int .i64 0,.int .i64 0,.int .i64 0,.int .i64 0,.int .i64 0,.int .i64 0])/\af TP 340 0=some (0,32)/\af TP 340 1=some (6,258)/\af TP 340 2=some (11,166)/\au TP 340=some [(0,6),(6,5),(11,8)]/\yA 341 19 192/\ak TP 341=some (.agg [.nilslice,.nilslice,.int .i64 0,.int .i64 0,.int .i64 0,.int .i64 0,.int .i64 0,.int .i64 0,.int .i64 0,.int .i64 0,.int .i64 0,.str ⟨#[]⟩,.int .i64 0,.int .i64 0,.int .i64 0,.int .i64 0,.int .i64 0,.int .i64 0,.int .i64 0])/\af TP 341 0=some (0,32)/\af TP 341 1=some (6,258)/\af TP 341 2=some (11,166)/\au TP 341=some [(0,6),(6,5),(11,8)]:=by and_intros<;>kernel_rfl
theorem Z0:yB 342 1 0/\ak TP 342=some (.tuple [.int .u64 0,.int .u64 0])/\yB 390 1 0/\ak TP 390=some (.tuple [.int .u64 0,.int .u64 0]):=by and_intros<;>kernel_rfl
theorem ZZ:yB 349 1 24/\ak TP 349=some (.nilslice)/\bu TP 349=some 353/\bX TP 349=.slice:=by and_intros<;>kernel_rfl
theorem ZY:yA 352 8 88/\ak TP 352=some (.agg [.str ⟨#[]⟩,.int .i64 0,.int .i64 0,.int .i64 0,.int .i64 0,.int .i64 0,.nilslice,.int .i64 0])/\af TP 352 0=some (0,158)/\af TP 352 1=some (7,3)/\au TP 352=some [(0,7),(7,1)]/\yA 353 8 88/\ak TP 353=some (.agg [.str ⟨#[]⟩,.int .i64 0,.int .i64 0,.int .i64 0,.int .i64 0,.int .i64 0,.nilslice,.int .i64 0])/\af TP 353 0=some (0,158)/\af TP 353 1=some (7,3)/\au TP 353=some [(0,7),(7,1)]:=by and_intros<;>kernel_rfl
theorem ZX:yB 368 1 0/\ak TP 368=some (.tuple [.int .u64 0,.niliface]):=by and_intros<;>kernel_rfl
theorem ZW:yA 370 3 48/\ak TP 370=some (.agg [.str ⟨#[]⟩,.str ⟨#[]⟩,.niliface])/\af TP 370 0=some (0,9)/\af TP 370 1=some (1,9)/\af TP 370 2=some (2,89)/\au TP 370=some [(0,1),(1,1),(2,1)]/\yA 371 3 48/\ak TP 371=some (.agg [.str ⟨#[]⟩,.str ⟨#[]⟩,.niliface])/\af TP 371 0=some (0,9)/\af TP 371 1=some (1,9)/\af TP 371 2=some (2,89)/\au TP 371=some [(0,1),(1,1),(2,1)]:=by and_intros<;>kernel_rfl
theorem ZV:yA 373 4 80/\ak TP 373=some (.agg [.nilslice,.nilslice,.int .i64 0,.nilslice])/\af TP 373 0=some (0,25)/\af TP 373 1=some (3,65)/\au TP 373=some [(0,3),(3,1)]/\yA 374 4 80/\ak TP 374=some (.agg [.nilslice,.nilslice,.int .i64 0,.nilslice])/\af TP 374 0=some (0,25)/\af TP 374 1=some (3,65)/\au TP 374=some [(0,3),(3,1)]:=by and_intros<;>kernel_rfl
theorem ZU:yA 381 2 16/\ak TP 381=some (.agg [.int .i64 0,.int .i64 0])/\af TP 381 0=some (0,3)/\af TP 381 1=some (1,3)/\au TP 381=some [(0,1),(1,1)]/\cw TP 381=some [.int,.int]/\p9 TP 381=.agg [.int,.int]:=by and_intros<;>kernel_rfl
theorem VO:yA 397 32 32/\ak TP 397=some (.agg [.int .u8 0,.int .u8 0,.int .u8 0,.int .u8 0,.int .u8 0,.int .u8 0,.int .u8 0,.int .u8 0,.int .u8 0,.int .u8 0,.int .u8 0,.int .u8 0,.int .u8 0,.int .u8 0,.int .u8 0,.int .u8 0,.int .u8 0,.int .u8 0,.int .u8 0,.int .u8 0,.int .u8 0,.int .u8 0,.int .u8 0,.int .u8 0,.int .u8 0,.int .u8 0,.int .u8 0,.int .u8 0,.int .u8 0,.int .u8 0,.int .u8 0,.int .u8 0])/\dI TP 397=some (32,5)/\au TP 397=none:=by and_intros<;>kernel_rfl
theorem VN:yA 398 64 64/\ak TP 398=some (.agg [.int .u8 0,.int .u8 0,.int .u8 0,.int .u8 0,.int .u8 0,.int .u8 0,.int .u8 0,.int .u8 0,.int .u8 0,.int .u8 0,.int .u8 0,.int .u8 0,.int .u8 0,.int .u8 0,.int .u8 0,.int .u8 0,.int .u8 0,.int .u8 0,.int .u8 0,.int .u8 0,.int .u8 0,.int .u8 0,.int .u8 0,.int .u8 0,.int .u8 0,.int .u8 0,.int .u8 0,.int .u8 0,.int .u8 0,.int .u8 0,.int .u8 0,.int .u8 0,.int .u8 0,.int .u8 0,.int .u8 0,.int .u8 0,.int .u8 0,.int .u8 0,.int .u8 0,.int .u8 0,.int .u8 0,.int .u8 0,.int .u8 0,.int .u8 0,.int .u8 0,.int .u8 0,.int .u8 0,.int .u8 0,.int .u8 0,.int .u8 0,.int .u8 0,.int .u8 0,.int .u8 0,.int .u8 0,.int .u8 0,.int .u8 0,.int .u8 0,.int .u8 0,.int .u8 0,.int .u8 0,.int .u8 0,.int .u8 0,.int .u8 0,.int .u8 0])/\dI TP 398=some (64,5)/\au TP 398=none:=by and_intros<;>kernel_rfl
theorem VM:yA 402 1 16/\ak TP 402=some (.agg [.str ⟨#[]⟩])/\af TP 402 0=some (0,9)/\au TP 402=some [(0,1)]/\cw TP 402=some [.str]/\yA 403 1 16/\ak TP 403=some (.agg [.str ⟨#[]⟩])/\af TP 403 0=some (0,9)/\au TP 403=some [(0,1)]/\cw TP 403=some [.str]:=by and_intros<;>kernel_rfl
theorem VL:yB 407 1 8/\ak TP 407=some (.any)/\yL TP 407=some (381,383):=by and_intros<;>kernel_rfl
theorem VK:yA 408 6 80/\ak TP 408=some (.agg [.nilslice,.int .i64 0,.int .i64 0,.int .i64 0,.nilslice,.any])/\af TP 408 0=some (0,39)/\af TP 408 1=some (4,323)/\af TP 408 2=some (5,407)/\au TP 408=some [(0,4),(4,1),(5,1)]/\yA 409 6 80/\ak TP 409=some (.agg [.nilslice,.int .i64 0,.int .i64 0,.int .i64 0,.nilslice,.any])/\af TP 409 0=some (0,39)/\af TP 409 1=some (4,323)/\af TP 409 2=some (5,407)/\au TP 409=some [(0,4),(4,1),(5,1)]:=by and_intros<;>kernel_rfl
theorem VJ:yA 415 3 24/\ak TP 415=some (.agg [.int .i64 0,.int .i64 0,.int .i64 0])/\af TP 415 0=some (0,3)/\af TP 415 1=some (1,3)/\af TP 415 2=some (2,3)/\au TP 415=some [(0,1),(1,1),(2,1)]/\cw TP 415=some [.int,.int,.int]/\yA 416 3 24/\ak TP 416=some (.agg [.int .i64 0,.int .i64 0,.int .i64 0])/\af TP 416 0=some (0,3)/\af TP 416 1=some (1,3)/\af TP 416 2=some (2,3)/\au TP 416=some [(0,1),(1,1),(2,1)]/\cw TP 416=some [.int,.int,.int]:=by and_intros<;>kernel_rfl
theorem VI:yA 418 2 16/\ak TP 418=some (.agg [.int .i64 0,.nilfunc])/\af TP 418 0=some (0,3)/\af TP 418 1=some (1,417)/\au TP 418=some [(0,1),(1,1)]/\yA 419 2 16/\ak TP 419=some (.agg [.int .i64 0,.nilfunc])/\af TP 419 0=some (0,3)/\af TP 419 1=some (1,417)/\au TP 419=some [(0,1),(1,1)]:=by and_intros<;>kernel_rfl
theorem VH:yB 420 1 24/\ak TP 420=some (.nilslice)/\bu TP 420=some 419/\bX TP 420=.slice:=by and_intros<;>kernel_rfl
theorem VG:yB 425 1 24/\ak TP 425=some (.nilslice)/\bu TP 425=some 404/\bX TP 425=.slice:=by and_intros<;>kernel_rfl
theorem VF:yA 428 6 48/\ak TP 428=some (.agg [.int .i64 0,.int .i64 0,.int .i64 0,.int .i64 0,.int .i64 0,.int .i64 0])/\af TP 428 0=some (0,3)/\af TP 428 1=some (1,3)/\af TP 428 2=some (2,3)/\af TP 428 3=some (3,3)/\af TP 428 4=some (4,3)/\af TP 428 5=some (5,3)/\au TP 428=some [(0,1),(1,1),(2,1),(3,1),(4,1),(5,1)]/\cw TP 428=some [.int,.int,.int,.int,.int,.int]/\yA 429 6 48/\ak TP 429=some (.agg [.int .i64 0,.int .i64 0,.int .i64 0,.int .i64 0,.int .i64 0,.int .i64 0])/\af TP 429 0=some (0,3)/\af TP 429 1=some (1,3)/\af TP 429 2=some (2,3)/\af TP 429 3=some (3,3)/\af TP 429 4=some (4,3)/\af TP 429 5=some (5,3)/\au TP 429=some [(0,1),(1,1),(2,1),(3,1),(4,1),(5,1)]/\cw TP 429=some [.int,.int,.int,.int,.int,.int]:=by and_intros<;>kernel_rfl
theorem VE:yA 433 5 40/\ak TP 433=some (.agg [.int .i64 0,.int .i64 0,.int .i64 0,.int .i64 0,.int .i64 0])/\dI TP 433=some (5,3)/\au TP 433=none:=by and_intros<;>kernel_rfl
theorem VD:yA 434 5 40/\ak TP 434=some (.agg [.nilfunc,.nilfunc,.nilfunc,.nilfunc,.nilfunc])/\dI TP 434=some (5,351)/\au TP 434=none:=by and_intros<;>kernel_rfl
theorem VC:yA 438 4 40/\ak TP 438=some (.agg [.nilptr,.nilptr,.nilptr,.str ⟨#[]⟩])/\af TP 438 0=some (0,17)/\af TP 438 1=some (1,17)/\af TP 438 2=some (2,17)/\af TP 438 3=some (3,9)/\au TP 438=some [(0,1),(1,1),(2,1),(3,1)]/\yA 439 4 40/\ak TP 439=some (.agg [.nilptr,.nilptr,.nilptr,.str ⟨#[]⟩])/\af TP 439 0=some (0,17)/\af TP 439 1=some (1,17)/\af TP 439 2=some (2,17)/\af TP 439 3=some (3,9)/\au TP 439=some [(0,1),(1,1),(2,1),(3,1)]:=by and_intros<;>kernel_rfl
theorem VB:yA 440 0 0/\ak TP 440=some (.agg [])/\dI TP 440=some (0,16)/\au TP 440=none:=by and_intros<;>kernel_rfl
theorem VA:yA 441 0 0/\ak TP 441=some (.agg [])/\af TP 441 0=some (0,440)/\au TP 441=some [(0,0)]/\yA 442 0 0/\ak TP 442=some (.agg [])/\af TP 442 0=some (0,440)/\au TP 442=some [(0,0)]:=by and_intros<;>kernel_rfl
theorem Vz:yA 448 11 48/\ak TP 448=some (.agg [.int .u64 0,.int .u64 0,.int .u32 0,.int .u8 0,.int .u8 0,.int .u8 0,.int .u8 0,.nilfunc,.nilptr,.int .i32 0,.int .i32 0])/\af TP 448 0=some (0,12)/\af TP 448 1=some (1,12)/\af TP 448 2=some (2,264)/\af TP 448 3=some (3,443)/\af TP 448 4=some (4,5)/\af TP 448 5=some (5,5)/\af TP 448 6=some (6,444)/\af TP 448 7=some (7,445)/\af TP 448 8=some (8,121)/\af TP 448 9=some (9,446)/\af TP 448 10=some (10,447)/\au TP 448=some [(0,1),(1,1),(2,1),(3,1),(4,1),(5,1),(6,1),(7,1),(8,1),(9,1),(10,1)]/\yA 449 11 48/\ak TP 449=some (.agg [.int .u64 0,.int .u64 0,.int .u32 0,.int .u8 0,.int .u8 0,.int .u8 0,.int .u8 0,.nilfunc,.nilptr,.int .i32 0,.int .i32 0])/\af TP 449 0=some (0,12)/\af TP 449 1=some (1,12)/\af TP 449 2=some (2,264)/\af TP 449 3=some (3,443)/\af TP 449 4=some (4,5)/\af TP 449 5=some (5,5)/\af TP 449 6=some (6,444)/\af TP 449 7=some (7,445)/\af TP 449 8=some (8,121)/\af TP 449 9=some (9,446)/\af TP 449 10=some (10,447)/\au TP 449=some [(0,1),(1,1),(2,1),(3,1),(4,1),(5,1),(6,1),(7,1),(8,1),(9,1),(10,1)]:=by and_intros<;>kernel_rfl
attribute [go_sem] yT0 Vy Tm Tl Tk QL QK QJ QI Vx yT3 Vw yT5 Vv Vu yT8 Vt zbe zbd To Tn zbc zbb zba za9 za8 za7 Tj za6 za5 za4 za3 za2 za1 za0 zaZ zaY Ti zaX zaW zaV zaU zaT Th zaS zaR zaQ zaP zaO zaN zaM zaL zaK zaJ zaI zaH zaG Tg zaF zaE zaD zaC zaB zaA zaz zay zax zaw zav zau zat zas zar zaq zap zao zan zam zal zak zaj zai zah zag zaf zae zad zac zab zaa Z' Z9 Z8 Z7 Z6 Z5 Z4 Z3 Z2 Z1 Z0 ZZ ZY ZX ZW ZV ZU VO VN VM VL VK VJ VI VH VG VF VE VD VC VB VA Vz
theorem Zn:dV TP 5 3=some .i64:=by kernel_rfl
theorem Uy:dV TP 69 3=some .i64:=by kernel_rfl
theorem Zo:dV TP 3 5=some .u8:=by kernel_rfl
theorem RP:dV TP 2 199=some .u64:=by kernel_rfl
theorem Uz:dV TP 5 21=some .i32:=by kernel_rfl
theorem RL:dV TP 5 264=some .u32:=by kernel_rfl
theorem My:dV TP 199 264=some .u32:=by kernel_rfl
theorem RQ:dV TP 264 5=some .u8:=by kernel_rfl
theorem RO:dV TP 3 197=some .u64:=by kernel_rfl
theorem RN:dV TP 3 199=some .u64:=by kernel_rfl
theorem RT:dV TP 197 3=some .i64:=by kernel_rfl
theorem RR:dV TP 199 5=some .u8:=by kernel_rfl
theorem Mz:dV TP 197 264=some .u32:=by kernel_rfl
theorem RS:dV TP 199 2=some .i64:=by kernel_rfl
theorem Mx:dV TP 264 197=some .u64:=by kernel_rfl
theorem RM:dV TP 5 199=some .u64:=by kernel_rfl
theorem Mw:dV TP 264 199=some .u64:=by kernel_rfl
attribute [go_sem] Zn Uy Zo RP Uz RL My RQ RO RN RT RR Mz RS Mx RM Mw
theorem dU:dT TP:=RG (by kernel_rfl)
theorem ok3:aj H0 Tryz.f3=true:=by kernel_rfl
def H4:Hints:=eg [(122,.low),(127,.app 123),(128,.low),(129,.low),(130,.low),(131,.low),(132,.app 127),(87,.app 83),(88,.low),(89,.low),(90,.low),(91,.low)]
theorem ok4:aj H4 Tryz.f4=true:=by kernel_rfl
theorem ok7:aj H0 Tryz.f7=true:=by kernel_rfl
theorem ok8:aj H0 Tryz.f8=true:=by kernel_rfl
theorem ok9:aj H0 Tryz.f9=true:=by kernel_rfl
theorem zcu:aj H0 Tryz.f10=true:=by kernel_rfl
theorem zct:aj H0 Tryz.f11=true:=by kernel_rfl
theorem zcs:aj H0 Tryz.f12=true:=by kernel_rfl
theorem zcr:aj H0 Tryz.f13=true:=by kernel_rfl
def I9:Hints:=eg [(66,.low),(67,.low),(68,.low),(69,.low),(70,.low),(6,.slot 1 4),(7,.slot 0 4),(71,.low),(1006070,.sto),(72,.low),(73,.low),(74,.low),(75,.low)]
theorem zcq:aj I9 Tryz.f14=true:=by kernel_rfl
theorem zcp:aj H0 Tryz.f15=true:=by kernel_rfl
theorem zco:aj H0 Tryz.f16=true:=by kernel_rfl
theorem zcn:aj H0 Tryz.f17=true:=by kernel_rfl
theorem zcm:aj H0 Tryz.f18=true:=by kernel_rfl
theorem zcl:aj H0 Tryz.f19=true:=by kernel_rfl
theorem zck:aj H0 Tryz.f20=true:=by kernel_rfl
theorem zcj:aj H0 Tryz.f22=true:=by kernel_rfl
theorem zci:aj H0 Tryz.f23=true:=by kernel_rfl
theorem zch:aj H0 Tryz.f24=true:=by kernel_rfl
theorem zcg:aj H0 Tryz.f26=true:=by kernel_rfl
theorem zcf:aj H0 Tryz.f27=true:=by kernel_rfl
theorem zce:aj H0 Tryz.f28=true:=by kernel_rfl
theorem zcd:aj H0 Tryz.f29=true:=by kernel_rfl
theorem zcc:aj H0 Tryz.f31=true:=by kernel_rfl
theorem zcb:aj H0 Tryz.f32=true:=by kernel_rfl
theorem zca:aj H0 Tryz.f33=true:=by kernel_rfl
theorem TT:aj H0 Tryz.f34=true:=by kernel_rfl
theorem zb9:aj H0 Tryz.f36=true:=by kernel_rfl
theorem zb8:aj H0 Tryz.f37=true:=by kernel_rfl
def I8:Hints:=eg [(70,.low),(1009069,.sto)]
theorem Oc:aj I8 Tryz.f38=true:=by kernel_rfl
theorem zb7:aj H0 Tryz.f39=true:=by kernel_rfl
theorem zb6:aj H0 Tryz.f40=true:=by kernel_rfl
theorem zb5:aj H0 Tryz.f41=true:=by kernel_rfl
theorem zb4:aj H0 Tryz.f43=true:=by kernel_rfl
theorem zb3:aj H0 Tryz.f44=true:=by kernel_rfl
theorem zb2:aj H0 Tryz.f45=true:=by kernel_rfl
theorem zb1:aj H0 Tryz.f46=true:=by kernel_rfl
theorem zb0:aj H0 Tryz.f47=true:=by kernel_rfl
theorem zbZ:aj H0 Tryz.f48=true:=by kernel_rfl
theorem zbY:aj H0 Tryz.f49=true:=by kernel_rfl
theorem zbX:aj H0 Tryz.f50=true:=by kernel_rfl
theorem zbW:aj H0 Tryz.f51=true:=by kernel_rfl
theorem zbV:aj H0 Tryz.f52=true:=by kernel_rfl
theorem zbU:aj H0 Tryz.f53=true:=by kernel_rfl
theorem zbT:aj H0 Tryz.f55=true:=by kernel_rfl
theorem zbS:aj H0 Tryz.f56=true:=by kernel_rfl
def ZT:Hints:=eg [(7,.low),(1000999,.sto),(8,.low),(1001999,.sto)]
theorem TR:aj ZT Tryz.f57=true:=by kernel_rfl
theorem zbR:aj H0 Tryz.f59=true:=by kernel_rfl
theorem zbQ:aj H0 Tryz.f60=true:=by kernel_rfl
theorem zbP:aj H0 Tryz.f61=true:=by kernel_rfl
theorem zbO:aj H0 Tryz.f62=true:=by kernel_rfl
theorem zbN:aj H0 Tryz.f63=true:=by kernel_rfl
theorem zbM:aj H0 Tryz.f65=true:=by kernel_rfl
theorem zbL:aj H0 Tryz.f66=true:=by kernel_rfl
theorem zbK:aj H0 Tryz.f67=true:=by kernel_rfl
theorem zbJ:aj H0 Tryz.f68=true:=by kernel_rfl
theorem zbI:aj H0 Tryz.f69=true:=by kernel_rfl
theorem zbH:aj H0 Tryz.f70=true:=by kernel_rfl
theorem zbG:aj H0 Tryz.f71=true:=by kernel_rfl
theorem zbF:aj H0 Tryz.f72=true:=by kernel_rfl
theorem zbE:aj H0 Tryz.f73=true:=by kernel_rfl
theorem zbD:aj H0 Tryz.f74=true:=by kernel_rfl
theorem zbC:aj H0 Tryz.f75=true:=by kernel_rfl
theorem zbB:aj H0 Tryz.f76=true:=by kernel_rfl
theorem zbA:aj H0 Tryz.f77=true:=by kernel_rfl
theorem zbz:aj H0 Tryz.f78=true:=by kernel_rfl
theorem zby:aj H0 Tryz.f79=true:=by kernel_rfl
theorem zbx:aj H0 Tryz.f80=true:=by kernel_rfl
theorem zbw:aj H0 Tryz.f81=true:=by kernel_rfl
theorem zbv:aj H0 Tryz.f82=true:=by kernel_rfl
theorem zbu:aj H0 Tryz.f83=true:=by kernel_rfl
theorem zbt:aj H0 Tryz.f85=true:=by kernel_rfl
theorem zbs:aj H0 Tryz.f87=true:=by kernel_rfl
theorem zbr:aj H0 Tryz.f89=true:=by kernel_rfl
theorem zbq:aj H0 Tryz.f90=true:=by kernel_rfl
theorem zbp:aj H0 Tryz.f91=true:=by kernel_rfl
theorem zbo:aj H0 Tryz.f92=true:=by kernel_rfl
theorem zbn:aj H0 Tryz.f93=true:=by kernel_rfl
theorem zbm:aj H0 Tryz.f94=true:=by kernel_rfl
theorem zbl:aj H0 Tryz.f95=true:=by kernel_rfl
theorem zbk:aj H0 Tryz.f96=true:=by kernel_rfl
theorem zbj:aj H0 Tryz.f98=true:=by kernel_rfl
theorem TQ:aj H0 Tryz.f99=true:=by kernel_rfl
theorem Qg:aj H0 Tryz.f100=true:=by kernel_rfl
theorem Y3:aj H0 Tryz.f101=true:=by kernel_rfl
theorem Qf:aj H0 Tryz.f102=true:=by kernel_rfl
theorem Y2:aj H0 Tryz.f103=true:=by kernel_rfl
theorem Y1:aj H0 Tryz.f104=true:=by kernel_rfl
theorem Y0:aj H0 Tryz.f106=true:=by kernel_rfl
theorem YZ:aj H0 Tryz.f108=true:=by kernel_rfl
theorem YY:aj H0 Tryz.f109=true:=by kernel_rfl
theorem YX:aj H0 Tryz.f110=true:=by kernel_rfl
theorem YW:aj H0 Tryz.f111=true:=by kernel_rfl
theorem YV:aj H0 Tryz.f112=true:=by kernel_rfl
theorem YU:aj H0 Tryz.f113=true:=by kernel_rfl
theorem YT:aj H0 Tryz.f114=true:=by kernel_rfl
theorem YS:aj H0 Tryz.f115=true:=by kernel_rfl
theorem YR:aj H0 Tryz.f116=true:=by kernel_rfl
theorem YQ:aj H0 Tryz.f117=true:=by kernel_rfl
theorem YP:aj H0 Tryz.f118=true:=by kernel_rfl
theorem YO:aj H0 Tryz.f119=true:=by kernel_rfl
theorem YN:aj H0 Tryz.f120=true:=by kernel_rfl
theorem YM:aj H0 Tryz.f121=true:=by kernel_rfl
theorem YL:aj H0 Tryz.f122=true:=by kernel_rfl
theorem YK:aj H0 Tryz.f123=true:=by kernel_rfl
theorem YJ:aj H0 Tryz.f124=true:=by kernel_rfl
theorem YI:aj H0 Tryz.f137=true:=by kernel_rfl
theorem YH:aj H0 Tryz.f138=true:=by kernel_rfl
theorem YG:aj H0 Tryz.f139=true:=by kernel_rfl
theorem YF:aj H0 Tryz.f140=true:=by kernel_rfl
theorem YE:aj H0 Tryz.f141=true:=by kernel_rfl
theorem YD:aj H0 Tryz.f142=true:=by kernel_rfl
theorem YC:aj H0 Tryz.f143=true:=by kernel_rfl
theorem YB:aj H0 Tryz.f144=true:=by kernel_rfl
theorem YA:aj H0 Tryz.f145=true:=by kernel_rfl
theorem Yz:aj H0 Tryz.f146=true:=by kernel_rfl
theorem Yy:aj H0 Tryz.f147=true:=by kernel_rfl
theorem Yx:aj H0 Tryz.f148=true:=by kernel_rfl
theorem Qe:aj H0 Tryz.f149=true:=by kernel_rfl
theorem Yw:aj H0 Tryz.f150=true:=by kernel_rfl
theorem Yv:aj H0 Tryz.f151=true:=by kernel_rfl
theorem Yu:aj H0 Tryz.f152=true:=by kernel_rfl
theorem Yt:aj H0 Tryz.f153=true:=by kernel_rfl
theorem Ys:aj H0 Tryz.f154=true:=by kernel_rfl
theorem Yr:aj H0 Tryz.f155=true:=by kernel_rfl
theorem Yq:aj H0 Tryz.f156=true:=by kernel_rfl
theorem Yp:aj H0 Tryz.f157=true:=by kernel_rfl
theorem Yo:aj H0 Tryz.f158=true:=by kernel_rfl
theorem Yn:aj H0 Tryz.f159=true:=by kernel_rfl
theorem Ym:aj H0 Tryz.f160=true:=by kernel_rfl
theorem Yl:aj H0 Tryz.f161=true:=by kernel_rfl
theorem Yk:aj H0 Tryz.f162=true:=by kernel_rfl
theorem Yj:aj H0 Tryz.f163=true:=by kernel_rfl
theorem Yi:aj H0 Tryz.f164=true:=by kernel_rfl
theorem Yh:aj H0 Tryz.f165=true:=by kernel_rfl
def wQ:Hints:=eg [(19,.low),(1004018,.nop),(62,.thr),(64,.thr)]
theorem Yg:aj wQ Tryz.f166=true:=by kernel_rfl
theorem Yf:aj H0 Tryz.f167=true:=by kernel_rfl
theorem Ye:aj H0 Tryz.f168=true:=by kernel_rfl
theorem Yd:aj H0 Tryz.f169=true:=by kernel_rfl
theorem Yc:aj H0 Tryz.f172=true:=by kernel_rfl
theorem Yb:aj H0 Tryz.f173=true:=by kernel_rfl
theorem Qd:aj H0 Tryz.f174=true:=by kernel_rfl
theorem Ya:aj H0 Tryz.f175=true:=by kernel_rfl
theorem X9:aj H0 Tryz.f176=true:=by kernel_rfl
theorem X8:aj H0 Tryz.f177=true:=by kernel_rfl
theorem X7:aj H0 Tryz.f178=true:=by kernel_rfl
theorem D':aj H0 Tryz.f179=true:=by kernel_rfl
theorem X6:aj H0 Tryz.f180=true:=by kernel_rfl
theorem Qc:aj H0 Tryz.f181=true:=by kernel_rfl
theorem X5:aj H0 Tryz.f182=true:=by kernel_rfl
theorem Qb:aj H0 Tryz.f183=true:=by kernel_rfl
theorem X4:aj H0 Tryz.f184=true:=by kernel_rfl
theorem X3:aj H0 Tryz.f185=true:=by kernel_rfl
theorem Qa:aj H0 Tryz.f186=true:=by kernel_rfl
theorem P':aj H0 Tryz.f187=true:=by kernel_rfl
theorem X2:aj H0 Tryz.f188=true:=by kernel_rfl
theorem X1:aj H0 Tryz.f189=true:=by kernel_rfl
theorem X0:aj H0 Tryz.f190=true:=by kernel_rfl
theorem P9:aj H0 Tryz.f191=true:=by kernel_rfl
theorem XZ:aj H0 Tryz.f192=true:=by kernel_rfl
theorem XY:aj H0 Tryz.f193=true:=by kernel_rfl
def Vr:Hints:=eg [(36,.low),(1004035,.nop)]
theorem XX:aj Vr Tryz.f195=true:=by kernel_rfl
theorem XW:aj H0 Tryz.f204=true:=by kernel_rfl
theorem XV:aj H0 Tryz.f205=true:=by kernel_rfl
theorem XU:aj H0 Tryz.f206=true:=by kernel_rfl
theorem XT:aj H0 Tryz.f207=true:=by kernel_rfl
theorem XS:aj H0 Tryz.f208=true:=by kernel_rfl
theorem XR:aj H0 Tryz.f209=true:=by kernel_rfl
theorem XQ:aj H0 Tryz.f210=true:=by kernel_rfl
theorem XP:aj H0 Tryz.f211=true:=by kernel_rfl
theorem XO:aj H0 Tryz.f212=true:=by kernel_rfl
theorem XN:aj H0 Tryz.f213=true:=by kernel_rfl
theorem XM:aj H0 Tryz.f214=true:=by kernel_rfl
theorem XL:aj H0 Tryz.f215=true:=by kernel_rfl
theorem XK:aj H0 Tryz.f216=true:=by kernel_rfl
theorem XJ:aj H0 Tryz.f217=true:=by kernel_rfl
theorem XI:aj H0 Tryz.f218=true:=by kernel_rfl
theorem XH:aj H0 Tryz.f219=true:=by kernel_rfl
theorem XG:aj H0 Tryz.f220=true:=by kernel_rfl
theorem XF:aj H0 Tryz.f221=true:=by kernel_rfl
theorem XE:aj H0 Tryz.f222=true:=by kernel_rfl
theorem XD:aj H0 Tryz.f223=true:=by kernel_rfl
theorem XC:aj H0 Tryz.f224=true:=by kernel_rfl
theorem XB:aj H0 Tryz.f225=true:=by kernel_rfl
theorem XA:aj H0 Tryz.f226=true:=by kernel_rfl
theorem Xz:aj H0 Tryz.f227=true:=by kernel_rfl
def PK:Hints:=eg [(7,.low),(1000006,.sto),(8,.low)]
theorem JT:aj PK Tryz.f228=true:=by kernel_rfl
theorem P8:aj H0 Tryz.f229=true:=by kernel_rfl
theorem Xy:aj H0 Tryz.f230=true:=by kernel_rfl
theorem Xx:aj H0 Tryz.f231=true:=by kernel_rfl
theorem P7:aj H0 Tryz.f232=true:=by kernel_rfl
theorem Xw:aj H0 Tryz.f233=true:=by kernel_rfl
theorem Xv:aj H0 Tryz.f234=true:=by kernel_rfl
theorem Xu:aj H0 Tryz.f235=true:=by kernel_rfl
def Vq:Hints:=eg [(22,.bar),(39,.bar)]
theorem Xt:aj Vq Tryz.f236=true:=by kernel_rfl
def Vp:Hints:=eg [(28,.low),(1002024,.sto)]
theorem Xs:aj Vp Tryz.f237=true:=by kernel_rfl
theorem Xr:aj H0 Tryz.f238=true:=by kernel_rfl
theorem Xq:aj H0 Tryz.f239=true:=by kernel_rfl
theorem Xp:aj H0 Tryz.f246=true:=by kernel_rfl
theorem Xo:aj H0 Tryz.f247=true:=by kernel_rfl
theorem Xn:aj H0 Tryz.f248=true:=by kernel_rfl
theorem Xm:aj H0 Tryz.f249=true:=by kernel_rfl
theorem Xl:aj H0 Tryz.f250=true:=by kernel_rfl
theorem Xk:aj H0 Tryz.f251=true:=by kernel_rfl
theorem P6:aj H0 Tryz.f252=true:=by kernel_rfl
theorem Xj:aj H0 Tryz.f253=true:=by kernel_rfl
theorem Xi:aj H0 Tryz.f254=true:=by kernel_rfl
theorem Xh:aj H0 Tryz.f255=true:=by kernel_rfl
theorem Xg:aj H0 Tryz.f257=true:=by kernel_rfl
theorem Xf:aj H0 Tryz.f258=true:=by kernel_rfl
theorem Xe:aj H0 Tryz.f259=true:=by kernel_rfl
theorem Xd:aj H0 Tryz.f260=true:=by kernel_rfl
theorem Xc:aj H0 Tryz.f261=true:=by kernel_rfl
theorem Xb:aj H0 Tryz.f262=true:=by kernel_rfl
theorem Xa:aj H0 Tryz.f263=true:=by kernel_rfl
theorem W9:aj H0 Tryz.f264=true:=by kernel_rfl
theorem W8:aj H0 Tryz.f265=true:=by kernel_rfl
theorem W7:aj H0 Tryz.f266=true:=by kernel_rfl
theorem W6:aj H0 Tryz.f267=true:=by kernel_rfl
theorem P5:aj H0 Tryz.f268=true:=by kernel_rfl
theorem W5:aj H0 Tryz.f269=true:=by kernel_rfl
theorem W4:aj H0 Tryz.f270=true:=by kernel_rfl
theorem W3:aj H0 Tryz.f273=true:=by kernel_rfl
theorem W2:aj H0 Tryz.f274=true:=by kernel_rfl
theorem W1:aj H0 Tryz.f275=true:=by kernel_rfl
theorem W0:aj H0 Tryz.f276=true:=by kernel_rfl
theorem WZ:aj H0 Tryz.f277=true:=by kernel_rfl
theorem WY:aj H0 Tryz.f278=true:=by kernel_rfl
theorem WX:aj H0 Tryz.f279=true:=by kernel_rfl
theorem WW:aj H0 Tryz.f280=true:=by kernel_rfl
theorem WV:aj H0 Tryz.f281=true:=by kernel_rfl
theorem WU:aj H0 Tryz.f282=true:=by kernel_rfl
theorem WT:aj H0 Tryz.f283=true:=by kernel_rfl
theorem WS:aj H0 Tryz.f287=true:=by kernel_rfl
def Vo:Hints:=eg [(34,.low),(35,.low),(36,.low),(37,.low),(38,.low),(39,.low),(40,.low),(41,.low),(42,.low),(43,.low),(44,.low),(45,.low),(14,.slot 2 2),(15,.slot 1 2),(16,.slot 0 1),(46,.low),(1014045,.sto),(47,.low),(48,.low),(49,.low),(50,.low),(51,.low),(52,.low),(53,.low),(54,.low),(55,.low),(56,.low),(57,.low),(58,.low),(59,.low),(60,.low),(61,.low),(62,.low),(63,.low),(64,.low),(65,.low),(66,.low),(1015057,.sto)]
theorem WP:aj Vo Tryz.f288=true:=by kernel_rfl
theorem WM:aj H0 Tryz.f289=true:=by kernel_rfl
theorem WK:aj H0 Tryz.f290=true:=by kernel_rfl
theorem WJ:aj H0 Tryz.f291=true:=by kernel_rfl
def PJ:Hints:=eg [(36,.low),(1002035,.nop)]
theorem WI:aj PJ Tryz.f292=true:=by kernel_rfl
theorem WH:aj H0 Tryz.f293=true:=by kernel_rfl
theorem WG:aj H0 Tryz.f294=true:=by kernel_rfl
theorem zW:aj H0 Tryz.f296=true:=by kernel_rfl
theorem WE:aj H0 Tryz.f297=true:=by kernel_rfl
theorem P4:aj H0 Tryz.f298=true:=by kernel_rfl
theorem WA:aj H0 Tryz.f299=true:=by kernel_rfl
theorem Wz:aj H0 Tryz.f300=true:=by kernel_rfl
theorem Wy:aj H0 Tryz.f301=true:=by kernel_rfl
theorem Ww:aj H0 Tryz.f302=true:=by kernel_rfl
theorem Wv:aj H0 Tryz.f303=true:=by kernel_rfl
theorem Wu:aj H0 Tryz.f304=true:=by kernel_rfl
theorem Wt:aj H0 Tryz.f307=true:=by kernel_rfl
theorem Ws:aj H0 Tryz.f308=true:=by kernel_rfl
theorem Wr:aj H0 Tryz.f309=true:=by kernel_rfl
def Vn:Hints:=eg [(6,.low),(1000999,.sto),(7,.low)]
theorem P3:aj Vn Tryz.f310=true:=by kernel_rfl
theorem P2:aj H0 Tryz.f311=true:=by kernel_rfl
def Vm:Hints:=eg [(16,.thr)]
theorem Wq:aj Vm Tryz.f312=true:=by kernel_rfl
def zi:Hints:=eg [(23,.low),(1005022,.sto)]
theorem Wp:aj zi Tryz.f313=true:=by kernel_rfl
theorem Wo:aj H0 Tryz.f314=true:=by kernel_rfl
theorem Wn:aj H0 Tryz.f315=true:=by kernel_rfl
theorem Wm:aj H0 Tryz.f316=true:=by kernel_rfl
theorem Wl:aj H0 Tryz.f317=true:=by kernel_rfl
theorem Wj:aj H0 Tryz.f318=true:=by kernel_rfl
theorem Wi:aj H0 Tryz.f319=true:=by kernel_rfl
theorem Wh:aj H0 Tryz.f320=true:=by kernel_rfl
theorem Wg:aj H0 Tryz.f321=true:=by kernel_rfl
theorem Wf:aj H0 Tryz.f322=true:=by kernel_rfl
def Vl:Hints:=eg [(29,.low),(1002028,.sto),(30,.low),(31,.low),(32,.low),(33,.low)]
theorem We:aj Vl Tryz.f323=true:=by kernel_rfl
theorem Wd:aj H0 Tryz.f324=true:=by kernel_rfl
theorem Wc:aj H0 Tryz.f325=true:=by kernel_rfl
theorem Wb:aj H0 Tryz.f326=true:=by kernel_rfl
def Vk:Hints:=eg [(67,.low),(1004066,.nop),(9,.low),(10,.low),(11,.low),(12,.low),(13,.low),(14,.low),(15,.low),(16,.low),(17,.low),(6,.slot 1 2),(7,.slot 0 8),(18,.low),(1006017,.sto),(19,.low),(20,.low),(21,.low),(22,.low),(23,.low),(24,.low),(25,.low),(26,.low),(1007021,.sto)]
theorem Wa:aj Vk Tryz.f327=true:=by kernel_rfl
theorem V':aj H0 Tryz.f328=true:=by kernel_rfl
theorem V9:aj H0 Tryz.f329=true:=by kernel_rfl
theorem V8:aj H0 Tryz.f330=true:=by kernel_rfl
theorem V7:aj H0 Tryz.f331=true:=by kernel_rfl
theorem V6:aj H0 Tryz.f332=true:=by kernel_rfl
theorem V5:aj H0 Tryz.f333=true:=by kernel_rfl
theorem V4:aj H0 Tryz.f334=true:=by kernel_rfl
theorem V3:aj H0 Tryz.f335=true:=by kernel_rfl
theorem V2:aj H0 Tryz.f336=true:=by kernel_rfl
def Vj:Hints:=eg [(36,.low),(37,.low),(38,.low),(39,.low),(40,.low),(41,.low),(4,.slot 1 2),(5,.slot 0 2),(42,.low),(1004041,.sto),(43,.low),(44,.low),(45,.low),(46,.low)]
theorem V1:aj Vj Tryz.f337=true:=by kernel_rfl
theorem V0:aj H0 Tryz.f338=true:=by kernel_rfl
theorem VZ:aj H0 Tryz.f339=true:=by kernel_rfl
theorem VY:aj H0 Tryz.f340=true:=by kernel_rfl
end Abs
end Go.Proofs.YtfafnkpfamgbbaaGreatDoor
