/-
  FACTS OF THE PROGRAM'S TYPES AND CODE, printed by program. No conditions.
-/
import Derived.Test.YtfafnkpfamgbbaaGreatDoorAbsEval
import Derived.Test.YtfafnkpfamgbbaaGreatDoorProg
import Derived.KernelRfl
set_option linter.unusedSimpArgs false
set_option linter.unusedVariables false
open Go.Proofs.Tryz renaming prog->TP
namespace Go.Proofs.YtfafnkpfamgbbaaGreatDoor
namespace Abs
abbrev yA (t n b:Nat):Prop:=bK TP t=some true/\bM TP t=some n/\kt TP t=some b/\fj TP t=some false/\fm TP t n=true/\my TP t=false
abbrev yB (t n b:Nat):Prop:=bK TP t=some false/\bM TP t=some n/\kt TP t=some b/\fj TP t=some false/\fm TP t n=true/\my TP t=false
theorem Zn:yB 0 1 0/\ak TP 0=some (.tuple []):=by and_intros<;>kernel_rfl
abbrev ao (t:Nat):Prop:=yB t 1 8/\ak TP t=some (.nilfunc)/\bG TP t=.func
theorem SA:ao 1/\ao 45/\ao 47/\ao 48/\ao 49/\ao 57/\ao 58/\ao 60/\ao 61/\ao 62/\ao 63/\ao 64/\ao 66/\ao 67/\ao 68/\ao 76/\ao 77/\ao 80/\ao 85/\ao 86/\ao 87/\ao 91/\ao 92/\ao 94/\ao 95/\ao 96/\ao 100/\ao 101/\ao 103/\ao 105:=by and_intros<;>kernel_rfl
theorem Qr:ao 106/\ao 109/\ao 118/\ao 119/\ao 120/\ao 123/\ao 124/\ao 125/\ao 126/\ao 127/\ao 128/\ao 129/\ao 130/\ao 131/\ao 132/\ao 133/\ao 136/\ao 139/\ao 140/\ao 142/\ao 144/\ao 146/\ao 148/\ao 149/\ao 155/\ao 159/\ao 160/\ao 161/\ao 164/\ao 169:=by and_intros<;>kernel_rfl
theorem Qq:ao 172/\ao 173/\ao 174/\ao 177/\ao 178/\ao 179/\ao 181/\ao 182/\ao 184/\ao 185/\ao 186/\ao 187/\ao 189/\ao 190/\ao 192/\ao 194/\ao 195/\ao 196/\ao 200/\ao 201/\ao 203/\ao 204/\ao 205/\ao 206/\ao 207/\ao 208/\ao 209/\ao 210/\ao 211/\ao 212:=by and_intros<;>kernel_rfl
theorem Qp:ao 215/\ao 216/\ao 217/\ao 218/\ao 219/\ao 220/\ao 221/\ao 222/\ao 223/\ao 224/\ao 225/\ao 226/\ao 228/\ao 230/\ao 232/\ao 233/\ao 234/\ao 235/\ao 236/\ao 237/\ao 239/\ao 240/\ao 241/\ao 242/\ao 243/\ao 244/\ao 245/\ao 246/\ao 247/\ao 248:=by and_intros<;>kernel_rfl
theorem N3:ao 250/\ao 251/\ao 253/\ao 254/\ao 255/\ao 256/\ao 261/\ao 263/\ao 266/\ao 267/\ao 270/\ao 271/\ao 272/\ao 277/\ao 278/\ao 279/\ao 280/\ao 281/\ao 282/\ao 283/\ao 284/\ao 285/\ao 286/\ao 287/\ao 288/\ao 289/\ao 290/\ao 291/\ao 292/\ao 293:=by and_intros<;>kernel_rfl
theorem N2:ao 294/\ao 295/\ao 296/\ao 297/\ao 298/\ao 299/\ao 300/\ao 302/\ao 303/\ao 304/\ao 305/\ao 308/\ao 310/\ao 311/\ao 312/\ao 313/\ao 316/\ao 317/\ao 318/\ao 319/\ao 322/\ao 326/\ao 330/\ao 333/\ao 336/\ao 337/\ao 338/\ao 339/\ao 343/\ao 344:=by and_intros<;>kernel_rfl
theorem N1:ao 345/\ao 346/\ao 347/\ao 348/\ao 350/\ao 351/\ao 354/\ao 355/\ao 356/\ao 357/\ao 358/\ao 359/\ao 360/\ao 363/\ao 364/\ao 365/\ao 366/\ao 367/\ao 369/\ao 372/\ao 375/\ao 376/\ao 379/\ao 384/\ao 385/\ao 387/\ao 388/\ao 389/\ao 391/\ao 392:=by and_intros<;>kernel_rfl
theorem N0:ao 393/\ao 394/\ao 395/\ao 396/\ao 399/\ao 400/\ao 404/\ao 405/\ao 410/\ao 412/\ao 413/\ao 414/\ao 417/\ao 422/\ao 424/\ao 426/\ao 427/\ao 431/\ao 432/\ao 435/\ao 437/\ao 445:=by and_intros<;>kernel_rfl
abbrev Ng (t:Nat):Prop:=yB t 1 8/\ak TP t=some (.int .i64 0)/\ow TP t=.int
theorem Sz:Ng 2/\Ng 3/\Ng 43/\Ng 306:=by and_intros<;>kernel_rfl
theorem Zm:yB 4 1 1/\ak TP 4=some (.bool false)/\bG TP 4=.bool:=by and_intros<;>kernel_rfl
abbrev Nf (t:Nat):Prop:=yB t 1 1/\ak TP t=some (.int .u8 0)/\ow TP t=.int
theorem Sy:Nf 5/\Nf 6/\Nf 443/\Nf 444:=by and_intros<;>kernel_rfl
theorem Zl:yA 7 4 24/\ak TP 7=some (.agg [.int .i64 0,.int .i64 0,.bool false,.int .u8 0])/\af TP 7 0=some (0,2)/\af TP 7 1=some (1,3)/\af TP 7 2=some (2,4)/\af TP 7 3=some (3,6)/\al TP 7=some [(0,1),(1,1),(2,1),(3,1)]/\b7 TP 7=some [.int,.int,.bool,.int]/\yA 8 4 24/\ak TP 8=some (.agg [.int .i64 0,.int .i64 0,.bool false,.int .u8 0])/\af TP 8 0=some (0,2)/\af TP 8 1=some (1,3)/\af TP 8 2=some (2,4)/\af TP 8 3=some (3,6)/\al TP 8=some [(0,1),(1,1),(2,1),(3,1)]/\b7 TP 8=some [.int,.int,.bool,.int]:=by and_intros<;>kernel_rfl
abbrev Qw (t:Nat):Prop:=yB t 1 16/\ak TP t=some (.str ⟨#[]⟩)/\dW TP t=true/\ow TP t=.str
theorem Sx:Qw 9/\Qw 10/\Qw 11:=by and_intros<;>kernel_rfl
abbrev Qu (t:Nat):Prop:=yB t 1 8/\ak TP t=some (.int .u64 0)/\ow TP t=.int
theorem Sw:Qu 12/\Qu 197/\Qu 199:=by and_intros<;>kernel_rfl
theorem Zk:yA 13 2 24/\ak TP 13=some (.agg [.str ⟨#[]⟩,.int .u64 0])/\af TP 13 0=some (0,9)/\af TP 13 1=some (1,12)/\al TP 13=some [(0,1),(1,1)]/\yA 14 2 24/\ak TP 14=some (.agg [.str ⟨#[]⟩,.int .u64 0])/\af TP 14 0=some (0,9)/\af TP 14 1=some (1,12)/\al TP 14=some [(0,1),(1,1)]:=by and_intros<;>kernel_rfl
abbrev tE (t:Nat):Prop:=yB t 1 8/\ak TP t=some (.nilptr)/\bG TP t=.ptr
theorem Sv:tE 15/\tE 17/\tE 78/\tE 81/\tE 121/\tE 309/\tE 314/\tE 334/\tE 377/\tE 401/\tE 406:=by and_intros<;>kernel_rfl
theorem Yo:yB 16 1 8/\ak TP 16=some (.nilptr)/\yB 147 1 8/\ak TP 147=some (.nilptr):=by and_intros<;>kernel_rfl
theorem Yn:yA 18 1 8/\ak TP 18=some (.agg [.nilptr])/\af TP 18 0=some (0,17)/\al TP 18=some [(0,1)]/\yA 19 1 8/\ak TP 19=some (.agg [.nilptr])/\af TP 19 0=some (0,17)/\al TP 19=some [(0,1)]:=by and_intros<;>kernel_rfl
abbrev K7 (t:Nat):Prop:=bK TP t=some false/\bM TP t=some 1/\kt TP t=some 16/\ak TP t=some (.niliface)/\fj TP t=some true/\fm TP t 1=true/\bG TP t=.iface/\my TP t=false
theorem Qt:K7 20/\K7 88/\K7 89:=by and_intros<;>kernel_rfl
abbrev K6 (t:Nat):Prop:=yB t 1 4/\ak TP t=some (.int .i32 0)/\ow TP t=.int
theorem Qs:K6 21/\K6 446/\K6 447:=by and_intros<;>kernel_rfl
theorem Ym:yB 22 1 24/\ak TP 22=some (.nilslice)/\ba TP 22=some 151/\bG TP 22=.slice:=by and_intros<;>kernel_rfl
theorem Yl:yB 23 1 24/\ak TP 23=some (.nilslice)/\ba TP 23=some 154/\bG TP 23=.slice:=by and_intros<;>kernel_rfl
theorem Yk:yA 24 3 56/\ak TP 24=some (.agg [.nilslice,.nilslice,.int .i64 0])/\af TP 24 0=some (0,22)/\af TP 24 1=some (1,23)/\af TP 24 2=some (2,3)/\al TP 24=some [(0,1),(1,1),(2,1)]/\yA 25 3 56/\ak TP 25=some (.agg [.nilslice,.nilslice,.int .i64 0])/\af TP 25 0=some (0,22)/\af TP 25 1=some (1,23)/\af TP 25 2=some (2,3)/\al TP 25=some [(0,1),(1,1),(2,1)]:=by and_intros<;>kernel_rfl
theorem Yj:yB 26 1 24/\ak TP 26=some (.nilslice)/\ba TP 26=some 158/\bG TP 26=.slice:=by and_intros<;>kernel_rfl
theorem Yi:yB 27 1 24/\ak TP 27=some (.nilslice)/\ba TP 27=some 163/\bG TP 27=.slice:=by and_intros<;>kernel_rfl
theorem Yh:yB 28 1 24/\ak TP 28=some (.nilslice)/\ba TP 28=some 166/\bG TP 28=.slice:=by and_intros<;>kernel_rfl
abbrev lB (t:Nat):Prop:=yA t 2 16/\ak TP t=some (.agg [.int .i64 0,.int .i64 0])/\af TP t 0=some (0,3)/\af TP t 1=some (1,3)/\al TP t=some [(0,1),(1,1)]/\b7 TP t=some [.int,.int]
theorem Qo:lB 29/\lB 30/\lB 113/\lB 114/\lB 137/\lB 138/\lB 175/\lB 176/\lB 324/\lB 325/\lB 361/\lB 362/\lB 380/\lB 382/\lB 383:=by and_intros<;>kernel_rfl
theorem Yg:yA 31 6 80/\ak TP 31=some (.agg [.nilslice,.nilslice,.int .i64 0,.int .i64 0,.int .i64 0,.int .i64 0])/\af TP 31 0=some (0,27)/\af TP 31 1=some (1,28)/\af TP 31 2=some (2,30)/\af TP 31 3=some (4,30)/\al TP 31=some [(0,1),(1,1),(2,2),(4,2)]/\yA 32 6 80/\ak TP 32=some (.agg [.nilslice,.nilslice,.int .i64 0,.int .i64 0,.int .i64 0,.int .i64 0])/\af TP 32 0=some (0,27)/\af TP 32 1=some (1,28)/\af TP 32 2=some (2,30)/\af TP 32 3=some (4,30)/\al TP 32=some [(0,1),(1,1),(2,2),(4,2)]:=by and_intros<;>kernel_rfl
theorem Yf:yB 33 1 24/\ak TP 33=some (.nilslice)/\ba TP 33=some 168/\bG TP 33=.slice:=by and_intros<;>kernel_rfl
theorem Ye:yB 34 1 24/\ak TP 34=some (.nilslice)/\ba TP 34=some 171/\bG TP 34=.slice:=by and_intros<;>kernel_rfl
theorem Yd:yA 35 3 56/\ak TP 35=some (.agg [.nilslice,.nilslice,.int .i64 0])/\af TP 35 0=some (0,33)/\af TP 35 1=some (1,34)/\af TP 35 2=some (2,3)/\al TP 35=some [(0,1),(1,1),(2,1)]/\yA 36 3 56/\ak TP 36=some (.agg [.nilslice,.nilslice,.int .i64 0])/\af TP 36 0=some (0,33)/\af TP 36 1=some (1,34)/\af TP 36 2=some (2,3)/\al TP 36=some [(0,1),(1,1),(2,1)]:=by and_intros<;>kernel_rfl
theorem Yc:yB 37 1 24/\ak TP 37=some (.nilslice)/\ba TP 37=some 75/\bG TP 37=.slice:=by and_intros<;>kernel_rfl
theorem Yb:yA 38 4 48/\ak TP 38=some (.agg [.nilslice,.int .i64 0,.int .i64 0,.int .i64 0])/\af TP 38 0=some (0,37)/\af TP 38 1=some (1,30)/\af TP 38 2=some (3,3)/\al TP 38=some [(0,1),(1,2),(3,1)]/\yA 39 4 48/\ak TP 39=some (.agg [.nilslice,.int .i64 0,.int .i64 0,.int .i64 0])/\af TP 39 0=some (0,37)/\af TP 39 1=some (1,30)/\af TP 39 2=some (3,3)/\al TP 39=some [(0,1),(1,2),(3,1)]:=by and_intros<;>kernel_rfl
theorem Ya:bK TP 40=some true/\bM TP 40=some 17/\ak TP 40=some (.agg [.nilslice,.nilslice,.int .i64 0,.nilslice,.nilslice,.nilslice,.int .i64 0,.int .i64 0,.int .i64 0,.int .i64 0,.nilslice,.nilslice,.int .i64 0,.nilslice,.int .i64 0,.int .i64 0,.int .i64 0])/\af TP 40 0=some (0,25)/\af TP 40 1=some (3,26)/\af TP 40 2=some (4,32)/\af TP 40 3=some (10,36)/\af TP 40 4=some (13,39)/\fj TP 40=some false/\fm TP 40 17=true/\al TP 40=some [(0,3),(3,1),(4,6),(10,3),(13,4)]/\my TP 40=false/\bK TP 41=some true/\bM TP 41=some 17/\ak TP 41=some (.agg [.nilslice,.nilslice,.int .i64 0,.nilslice,.nilslice,.nilslice,.int .i64 0,.int .i64 0,.int .i64 0,.int .i64 0,.nilslice,.nilslice,.int .i64 0,.nilslice,.int .i64 0,.int .i64 0,.int .i64 0])/\af TP 41 0=some (0,25)/\af TP 41 1=some (3,26)/\af TP 41 2=some (4,32)/\af TP 41 3=some (10,36)/\af TP 41 4=some (13,39)/\fj TP 41=some false/\fm TP 41 17=true/\al TP 41=some [(0,3),(3,1),(4,6),(10,3),(13,4)]/\my TP 41=false:=by and_intros<;>kernel_rfl
theorem X9:yB 42 1 24/\ak TP 42=some (.nilslice)/\ba TP 42=some 9/\bG TP 42=.slice:=by and_intros<;>kernel_rfl
theorem X8:yB 44 1 0/\ak TP 44=some (.tuple [.str ⟨#[]⟩,.int .i64 0]):=by and_intros<;>kernel_rfl
abbrev K5 (t:Nat):Prop:=yB t 1 0/\ak TP t=some (.tuple [.nilslice,.int .i64 0])
theorem Qn:K5 46/\K5 231/\K5 249:=by and_intros<;>kernel_rfl
theorem X7:yB 50 1 24/\ak TP 50=some (.nilslice)/\ba TP 50=some 73/\bG TP 50=.slice:=by and_intros<;>kernel_rfl
theorem X6:yB 51 1 24/\ak TP 51=some (.nilslice)/\ba TP 51=some 108/\bG TP 51=.slice:=by and_intros<;>kernel_rfl
theorem X5:yB 52 1 24/\ak TP 52=some (.nilslice)/\ba TP 52=some 112/\bG TP 52=.slice:=by and_intros<;>kernel_rfl
theorem X4:yB 53 1 24/\ak TP 53=some (.nilslice)/\ba TP 53=some 114/\bG TP 53=.slice:=by and_intros<;>kernel_rfl
theorem X3:yA 54 6 112/\ak TP 54=some (.agg [.nilslice,.nilslice,.nilslice,.nilslice,.int .i64 0,.int .i64 0])/\af TP 54 0=some (0,50)/\af TP 54 1=some (1,51)/\af TP 54 2=some (2,52)/\af TP 54 3=some (3,53)/\af TP 54 4=some (4,3)/\af TP 54 5=some (5,3)/\al TP 54=some [(0,1),(1,1),(2,1),(3,1),(4,1),(5,1)]/\yA 55 6 112/\ak TP 55=some (.agg [.nilslice,.nilslice,.nilslice,.nilslice,.int .i64 0,.int .i64 0])/\af TP 55 0=some (0,50)/\af TP 55 1=some (1,51)/\af TP 55 2=some (2,52)/\af TP 55 3=some (3,53)/\af TP 55 4=some (4,3)/\af TP 55 5=some (5,3)/\al TP 55=some [(0,1),(1,1),(2,1),(3,1),(4,1),(5,1)]:=by and_intros<;>kernel_rfl
abbrev lZ (t:Nat):Prop:=yB t 1 0
theorem Qm:lZ 56/\lZ 59/\lZ 117/\lZ 143/\lZ 227/\lZ 229/\lZ 238/\lZ 301/\lZ 329/\lZ 386/\lZ 411/\lZ 421/\lZ 423/\lZ 430:=by and_intros<;>kernel_rfl
theorem X2:yB 65 1 24/\ak TP 65=some (.nilslice)/\ba TP 65=some 3/\bG TP 65=.slice:=by and_intros<;>kernel_rfl
theorem X1:yB 69 1 2/\ak TP 69=some (.int .u16 0)/\ow TP 69=.int:=by and_intros<;>kernel_rfl
theorem X0:yA 70 4 24/\ak TP 70=some (.agg [.str ⟨#[]⟩,.int .u8 0,.int .u8 0,.int .u16 0])/\af TP 70 0=some (0,9)/\af TP 70 1=some (1,5)/\af TP 70 2=some (2,5)/\af TP 70 3=some (3,69)/\al TP 70=some [(0,1),(1,1),(2,1),(3,1)]/\b7 TP 70=some [.str,.int,.int,.int]/\yA 71 4 24/\ak TP 71=some (.agg [.str ⟨#[]⟩,.int .u8 0,.int .u8 0,.int .u16 0])/\af TP 71 0=some (0,9)/\af TP 71 1=some (1,5)/\af TP 71 2=some (2,5)/\af TP 71 3=some (3,69)/\al TP 71=some [(0,1),(1,1),(2,1),(3,1)]/\b7 TP 71=some [.str,.int,.int,.int]:=by and_intros<;>kernel_rfl
theorem XZ:yA 72 4 56/\ak TP 72=some (.agg [.str ⟨#[]⟩,.int .i64 0,.int .i64 0,.nilslice])/\af TP 72 0=some (0,9)/\af TP 72 1=some (1,3)/\af TP 72 2=some (2,3)/\af TP 72 3=some (3,65)/\al TP 72=some [(0,1),(1,1),(2,1),(3,1)]/\yA 73 4 56/\ak TP 73=some (.agg [.str ⟨#[]⟩,.int .i64 0,.int .i64 0,.nilslice])/\af TP 73 0=some (0,9)/\af TP 73 1=some (1,3)/\af TP 73 2=some (2,3)/\af TP 73 3=some (3,65)/\al TP 73=some [(0,1),(1,1),(2,1),(3,1)]:=by and_intros<;>kernel_rfl
theorem XY:yA 74 4 56/\ak TP 74=some (.agg [.str ⟨#[]⟩,.int .i64 0,.int .i64 0,.nilslice])/\af TP 74 0=some (0,9)/\af TP 74 1=some (1,30)/\af TP 74 2=some (3,65)/\al TP 74=some [(0,1),(1,2),(3,1)]/\yA 75 4 56/\ak TP 75=some (.agg [.str ⟨#[]⟩,.int .i64 0,.int .i64 0,.nilslice])/\af TP 75 0=some (0,9)/\af TP 75 1=some (1,30)/\af TP 75 2=some (3,65)/\al TP 75=some [(0,1),(1,2),(3,1)]:=by and_intros<;>kernel_rfl
theorem XX:yB 79 1 0/\ak TP 79=some (.tuple [.nilptr,.nilslice,.nilslice,.int .i64 0]):=by and_intros<;>kernel_rfl
theorem XW:yB 82 1 24/\ak TP 82=some (.nilslice)/\ba TP 82=some 5/\wY TP 82=true/\bG TP 82=.slice:=by and_intros<;>kernel_rfl
theorem XV:yA 83 2 32/\ak TP 83=some (.agg [.nilptr,.nilslice])/\af TP 83 0=some (0,81)/\af TP 83 1=some (1,82)/\al TP 83=some [(0,1),(1,1)]:=by and_intros<;>kernel_rfl
theorem XU:bK TP 84=some true/\bM TP 84=some 2/\kt TP 84=some 32/\ak TP 84=some (.agg [.nilptr,.nilslice])/\af TP 84 0=some (0,81)/\af TP 84 1=some (1,82)/\fj TP 84=some false/\fm TP 84 2=true/\al TP 84=some [(0,1),(1,1)]/\my TP 84=true/\GA TP 84=some 5:=by and_intros<;>kernel_rfl
theorem XT:yB 90 1 0/\ak TP 90=some (.tuple [.int .i64 0,.niliface])/\yB 307 1 0/\ak TP 307=some (.tuple [.int .i64 0,.niliface]):=by and_intros<;>kernel_rfl
theorem XS:yB 93 1 0/\ak TP 93=some (.tuple [.int .i64 0,.int .i64 0,.int .i64 0]):=by and_intros<;>kernel_rfl
theorem XR:bK TP 97=some true/\bM TP 97=some 23/\ak TP 97=some (.agg [.nilslice,.nilslice,.nilslice,.nilslice,.int .i64 0,.int .i64 0,.nilslice,.nilslice,.int .i64 0,.nilslice,.nilslice,.nilslice,.int .i64 0,.int .i64 0,.int .i64 0,.int .i64 0,.nilslice,.nilslice,.int .i64 0,.nilslice,.int .i64 0,.int .i64 0,.int .i64 0])/\af TP 97 0=some (0,55)/\af TP 97 1=some (6,41)/\fj TP 97=some false/\fm TP 97 23=true/\al TP 97=some [(0,6),(6,17)]/\my TP 97=false/\bK TP 98=some true/\bM TP 98=some 23/\ak TP 98=some (.agg [.nilslice,.nilslice,.nilslice,.nilslice,.int .i64 0,.int .i64 0,.nilslice,.nilslice,.int .i64 0,.nilslice,.nilslice,.nilslice,.int .i64 0,.int .i64 0,.int .i64 0,.int .i64 0,.nilslice,.nilslice,.int .i64 0,.nilslice,.int .i64 0,.int .i64 0,.int .i64 0])/\af TP 98 0=some (0,55)/\af TP 98 1=some (6,41)/\fj TP 98=some false/\fm TP 98 23=true/\al TP 98=some [(0,6),(6,17)]/\my TP 98=false:=by and_intros<;>kernel_rfl
theorem XQ:yB 99 1 0/\ak TP 99=some (.tuple [.str ⟨#[]⟩,.str ⟨#[]⟩,.bool false]):=by and_intros<;>kernel_rfl
abbrev G9 (t:Nat):Prop:=yB t 1 0/\ak TP t=some (.tuple [.nilptr,.int .i64 0])
theorem Ql:G9 102/\G9 315/\G9 335/\G9 378:=by and_intros<;>kernel_rfl
theorem XP:yB 104 1 0/\ak TP 104=some (.tuple [.str ⟨#[]⟩,.bool false,.int .i64 0]):=by and_intros<;>kernel_rfl
theorem XO:yA 107 4 40/\ak TP 107=some (.agg [.str ⟨#[]⟩,.int .i64 0,.int .i64 0,.int .i64 0])/\af TP 107 0=some (0,9)/\af TP 107 1=some (1,3)/\af TP 107 2=some (2,3)/\af TP 107 3=some (3,3)/\al TP 107=some [(0,1),(1,1),(2,1),(3,1)]/\b7 TP 107=some [.str,.int,.int,.int]/\yA 108 4 40/\ak TP 108=some (.agg [.str ⟨#[]⟩,.int .i64 0,.int .i64 0,.int .i64 0])/\af TP 108 0=some (0,9)/\af TP 108 1=some (1,3)/\af TP 108 2=some (2,3)/\af TP 108 3=some (3,3)/\al TP 108=some [(0,1),(1,1),(2,1),(3,1)]/\b7 TP 108=some [.str,.int,.int,.int]:=by and_intros<;>kernel_rfl
theorem XN:yB 110 1 24/\ak TP 110=some (.nilslice)/\ba TP 110=some 138/\bG TP 110=.slice:=by and_intros<;>kernel_rfl
theorem XM:yA 111 3 40/\ak TP 111=some (.agg [.int .i64 0,.int .i64 0,.nilslice])/\af TP 111 0=some (0,3)/\af TP 111 1=some (1,3)/\af TP 111 2=some (2,110)/\al TP 111=some [(0,1),(1,1),(2,1)]/\yA 112 3 40/\ak TP 112=some (.agg [.int .i64 0,.int .i64 0,.nilslice])/\af TP 112 0=some (0,3)/\af TP 112 1=some (1,3)/\af TP 112 2=some (2,110)/\al TP 112=some [(0,1),(1,1),(2,1)]:=by and_intros<;>kernel_rfl
theorem XL:yA 115 4 80/\ak TP 115=some (.agg [.str ⟨#[]⟩,.nilslice,.nilslice,.str ⟨#[]⟩])/\af TP 115 0=some (0,9)/\af TP 115 1=some (1,42)/\af TP 115 2=some (2,65)/\af TP 115 3=some (3,9)/\al TP 115=some [(0,1),(1,1),(2,1),(3,1)]/\yA 116 4 80/\ak TP 116=some (.agg [.str ⟨#[]⟩,.nilslice,.nilslice,.str ⟨#[]⟩])/\af TP 116 0=some (0,9)/\af TP 116 1=some (1,42)/\af TP 116 2=some (2,65)/\af TP 116 3=some (3,9)/\al TP 116=some [(0,1),(1,1),(2,1),(3,1)]:=by and_intros<;>kernel_rfl
theorem XK:yA 122 5 40/\ak TP 122=some (.agg [.int .i64 0,.int .i64 0,.int .i64 0,.int .i64 0,.int .i64 0])/\cU TP 122=some (5,43)/\al TP 122=none:=by and_intros<;>kernel_rfl
theorem XJ:yA 134 2 16/\ak TP 134=some (.agg [.bool false,.nilfunc])/\af TP 134 0=some (0,4)/\af TP 134 1=some (1,92)/\al TP 134=some [(0,1),(1,1)]/\yA 135 2 16/\ak TP 135=some (.agg [.bool false,.nilfunc])/\af TP 135 0=some (0,4)/\af TP 135 1=some (1,92)/\al TP 135=some [(0,1),(1,1)]:=by and_intros<;>kernel_rfl
theorem XI:yB 141 1 0/\ak TP 141=some (.tuple [.nilslice,.nilslice]):=by and_intros<;>kernel_rfl
theorem XH:yB 145 1 24/\ak TP 145=some (.nilslice)/\ba TP 145=some 20/\bG TP 145=.slice:=by and_intros<;>kernel_rfl
theorem XG:yA 150 2 24/\ak TP 150=some (.agg [.str ⟨#[]⟩,.int .i64 0])/\af TP 150 0=some (0,9)/\af TP 150 1=some (1,3)/\al TP 150=some [(0,1),(1,1)]/\b7 TP 150=some [.str,.int]/\yA 151 2 24/\ak TP 151=some (.agg [.str ⟨#[]⟩,.int .i64 0])/\af TP 151 0=some (0,9)/\af TP 151 1=some (1,3)/\al TP 151=some [(0,1),(1,1)]/\b7 TP 151=some [.str,.int]:=by and_intros<;>kernel_rfl
theorem XF:yB 152 1 24/\ak TP 152=some (.nilslice)/\ba TP 152=some 30/\bG TP 152=.slice:=by and_intros<;>kernel_rfl
theorem XE:yA 153 2 40/\ak TP 153=some (.agg [.str ⟨#[]⟩,.nilslice])/\af TP 153 0=some (0,9)/\af TP 153 1=some (1,152)/\al TP 153=some [(0,1),(1,1)]/\yA 154 2 40/\ak TP 154=some (.agg [.str ⟨#[]⟩,.nilslice])/\af TP 154 0=some (0,9)/\af TP 154 1=some (1,152)/\al TP 154=some [(0,1),(1,1)]:=by and_intros<;>kernel_rfl
theorem XD:yB 156 1 24/\ak TP 156=some (.nilslice)/\ba TP 156=some 176/\bG TP 156=.slice:=by and_intros<;>kernel_rfl
theorem XC:yA 157 7 80/\ak TP 157=some (.agg [.str ⟨#[]⟩,.int .i64 0,.int .i64 0,.int .i64 0,.int .i64 0,.int .i64 0,.nilslice])/\af TP 157 0=some (0,9)/\af TP 157 1=some (1,3)/\af TP 157 2=some (2,30)/\af TP 157 3=some (4,30)/\af TP 157 4=some (6,156)/\al TP 157=some [(0,1),(1,1),(2,2),(4,2),(6,1)]/\yA 158 7 80/\ak TP 158=some (.agg [.str ⟨#[]⟩,.int .i64 0,.int .i64 0,.int .i64 0,.int .i64 0,.int .i64 0,.nilslice])/\af TP 158 0=some (0,9)/\af TP 158 1=some (1,3)/\af TP 158 2=some (2,30)/\af TP 158 3=some (4,30)/\af TP 158 4=some (6,156)/\al TP 158=some [(0,1),(1,1),(2,2),(4,2),(6,1)]:=by and_intros<;>kernel_rfl
theorem XB:yA 162 4 40/\ak TP 162=some (.agg [.str ⟨#[]⟩,.int .i64 0,.int .i64 0,.int .i64 0])/\af TP 162 0=some (0,9)/\af TP 162 1=some (1,3)/\af TP 162 2=some (2,30)/\al TP 162=some [(0,1),(1,1),(2,2)]/\b7 TP 162=some [.str,.int,.int,.int]/\yA 163 4 40/\ak TP 163=some (.agg [.str ⟨#[]⟩,.int .i64 0,.int .i64 0,.int .i64 0])/\af TP 163 0=some (0,9)/\af TP 163 1=some (1,3)/\af TP 163 2=some (2,30)/\al TP 163=some [(0,1),(1,1),(2,2)]/\b7 TP 163=some [.str,.int,.int,.int]:=by and_intros<;>kernel_rfl
theorem XA:yA 165 8 72/\ak TP 165=some (.agg [.str ⟨#[]⟩,.int .i64 0,.int .i64 0,.int .i64 0,.int .i64 0,.int .i64 0,.int .i64 0,.int .i64 0])/\af TP 165 0=some (0,9)/\af TP 165 1=some (1,30)/\af TP 165 2=some (3,30)/\af TP 165 3=some (5,30)/\af TP 165 4=some (7,3)/\al TP 165=some [(0,1),(1,2),(3,2),(5,2),(7,1)]/\b7 TP 165=some [.str,.int,.int,.int,.int,.int,.int,.int]/\yA 166 8 72/\ak TP 166=some (.agg [.str ⟨#[]⟩,.int .i64 0,.int .i64 0,.int .i64 0,.int .i64 0,.int .i64 0,.int .i64 0,.int .i64 0])/\af TP 166 0=some (0,9)/\af TP 166 1=some (1,30)/\af TP 166 2=some (3,30)/\af TP 166 3=some (5,30)/\af TP 166 4=some (7,3)/\al TP 166=some [(0,1),(1,2),(3,2),(5,2),(7,1)]/\b7 TP 166=some [.str,.int,.int,.int,.int,.int,.int,.int]:=by and_intros<;>kernel_rfl
theorem Xz:yA 167 4 40/\ak TP 167=some (.agg [.str ⟨#[]⟩,.int .i64 0,.int .i64 0,.int .i64 0])/\af TP 167 0=some (0,9)/\af TP 167 1=some (1,30)/\af TP 167 2=some (3,3)/\al TP 167=some [(0,1),(1,2),(3,1)]/\b7 TP 167=some [.str,.int,.int,.int]/\yA 168 4 40/\ak TP 168=some (.agg [.str ⟨#[]⟩,.int .i64 0,.int .i64 0,.int .i64 0])/\af TP 168 0=some (0,9)/\af TP 168 1=some (1,30)/\af TP 168 2=some (3,3)/\al TP 168=some [(0,1),(1,2),(3,1)]/\b7 TP 168=some [.str,.int,.int,.int]:=by and_intros<;>kernel_rfl
theorem Xy:yA 170 5 48/\ak TP 170=some (.agg [.str ⟨#[]⟩,.int .i64 0,.int .i64 0,.int .i64 0,.int .i64 0])/\af TP 170 0=some (0,9)/\af TP 170 1=some (1,30)/\af TP 170 2=some (3,30)/\al TP 170=some [(0,1),(1,2),(3,2)]/\b7 TP 170=some [.str,.int,.int,.int,.int]/\yA 171 5 48/\ak TP 171=some (.agg [.str ⟨#[]⟩,.int .i64 0,.int .i64 0,.int .i64 0,.int .i64 0])/\af TP 171 0=some (0,9)/\af TP 171 1=some (1,30)/\af TP 171 2=some (3,30)/\al TP 171=some [(0,1),(1,2),(3,2)]/\b7 TP 171=some [.str,.int,.int,.int,.int]:=by and_intros<;>kernel_rfl
theorem Xx:yB 180 1 0/\ak TP 180=some (.tuple [.int .i32 0,.int .i64 0]):=by and_intros<;>kernel_rfl
theorem Xw:yB 183 1 0/\ak TP 183=some (.tuple [.str ⟨#[]⟩,.bool false]):=by and_intros<;>kernel_rfl
theorem Xv:yB 188 1 0/\ak TP 188=some (.tuple [.int .i64 0,.int .i64 0])/\yB 252 1 0/\ak TP 252=some (.tuple [.int .i64 0,.int .i64 0]):=by and_intros<;>kernel_rfl
theorem Xu:yA 191 4 32/\ak TP 191=some (.agg [.int .i64 0,.int .i64 0,.int .i64 0,.int .i64 0])/\cU TP 191=some (4,3)/\al TP 191=none/\yA 436 4 32/\ak TP 436=some (.agg [.int .i64 0,.int .i64 0,.int .i64 0,.int .i64 0])/\cU TP 436=some (4,3)/\al TP 436=none:=by and_intros<;>kernel_rfl
theorem Xt:yA 193 3 24/\ak TP 193=some (.agg [.int .i64 0,.int .i64 0,.int .i64 0])/\cU TP 193=some (3,3)/\al TP 193=none:=by and_intros<;>kernel_rfl
theorem Xs:yA 198 24 24/\ak TP 198=some (.agg [.int .u8 0,.int .u8 0,.int .u8 0,.int .u8 0,.int .u8 0,.int .u8 0,.int .u8 0,.int .u8 0,.int .u8 0,.int .u8 0,.int .u8 0,.int .u8 0,.int .u8 0,.int .u8 0,.int .u8 0,.int .u8 0,.int .u8 0,.int .u8 0,.int .u8 0,.int .u8 0,.int .u8 0,.int .u8 0,.int .u8 0,.int .u8 0])/\cU TP 198=some (24,5)/\al TP 198=none:=by and_intros<;>kernel_rfl
theorem Xr:yB 202 1 0/\ak TP 202=some (.tuple [.nilslice,.str ⟨#[]⟩]):=by and_intros<;>kernel_rfl
theorem Xq:yA 213 2 32/\ak TP 213=some (.agg [.nilslice,.int .i64 0])/\af TP 213 0=some (0,156)/\af TP 213 1=some (1,3)/\al TP 213=some [(0,1),(1,1)]/\yA 214 2 32/\ak TP 214=some (.agg [.nilslice,.int .i64 0])/\af TP 214 0=some (0,156)/\af TP 214 1=some (1,3)/\al TP 214=some [(0,1),(1,1)]:=by and_intros<;>kernel_rfl
theorem Xp:yA 257 5 40/\ak TP 257=some (.agg [.int .i64 0,.int .i64 0,.int .i64 0,.int .i64 0,.int .i64 0])/\af TP 257 0=some (0,3)/\af TP 257 1=some (1,3)/\af TP 257 2=some (2,3)/\af TP 257 3=some (3,30)/\al TP 257=some [(0,1),(1,1),(2,1),(3,2)]/\b7 TP 257=some [.int,.int,.int,.int,.int]/\yA 258 5 40/\ak TP 258=some (.agg [.int .i64 0,.int .i64 0,.int .i64 0,.int .i64 0,.int .i64 0])/\af TP 258 0=some (0,3)/\af TP 258 1=some (1,3)/\af TP 258 2=some (2,3)/\af TP 258 3=some (3,30)/\al TP 258=some [(0,1),(1,1),(2,1),(3,2)]/\b7 TP 258=some [.int,.int,.int,.int,.int]:=by and_intros<;>kernel_rfl
theorem Xo:yA 259 5 56/\ak TP 259=some (.agg [.nilslice,.int .i64 0,.int .i64 0,.int .i64 0,.int .i64 0])/\af TP 259 0=some (0,152)/\af TP 259 1=some (1,30)/\af TP 259 2=some (3,30)/\al TP 259=some [(0,1),(1,2),(3,2)]/\yA 260 5 56/\ak TP 260=some (.agg [.nilslice,.int .i64 0,.int .i64 0,.int .i64 0,.int .i64 0])/\af TP 260 0=some (0,152)/\af TP 260 1=some (1,30)/\af TP 260 2=some (3,30)/\al TP 260=some [(0,1),(1,2),(3,2)]:=by and_intros<;>kernel_rfl
theorem Xn:yB 262 1 0/\ak TP 262=some (.tuple [.nilslice,.int .i64 0,.int .i64 0]):=by and_intros<;>kernel_rfl
theorem Xm:yB 264 1 4/\ak TP 264=some (.int .u32 0)/\ow TP 264=.int:=by and_intros<;>kernel_rfl
theorem Xl:yB 265 1 0/\ak TP 265=some (.tuple [.int .u32 0,.int .u32 0]):=by and_intros<;>kernel_rfl
theorem Xk:yA 268 20 160/\ak TP 268=some (.agg [.int .u64 0,.int .u64 0,.int .u64 0,.int .u64 0,.int .u64 0,.int .u64 0,.int .u64 0,.int .u64 0,.int .u64 0,.int .u64 0,.int .u64 0,.int .u64 0,.int .u64 0,.int .u64 0,.int .u64 0,.int .u64 0,.int .u64 0,.int .u64 0,.int .u64 0,.int .u64 0])/\cU TP 268=some (20,199)/\al TP 268=none:=by and_intros<;>kernel_rfl
theorem Xj:yA 269 65 65/\ak TP 269=some (.agg [.int .u8 0,.int .u8 0,.int .u8 0,.int .u8 0,.int .u8 0,.int .u8 0,.int .u8 0,.int .u8 0,.int .u8 0,.int .u8 0,.int .u8 0,.int .u8 0,.int .u8 0,.int .u8 0,.int .u8 0,.int .u8 0,.int .u8 0,.int .u8 0,.int .u8 0,.int .u8 0,.int .u8 0,.int .u8 0,.int .u8 0,.int .u8 0,.int .u8 0,.int .u8 0,.int .u8 0,.int .u8 0,.int .u8 0,.int .u8 0,.int .u8 0,.int .u8 0,.int .u8 0,.int .u8 0,.int .u8 0,.int .u8 0,.int .u8 0,.int .u8 0,.int .u8 0,.int .u8 0,.int .u8 0,.int .u8 0,.int .u8 0,.int .u8 0,.int .u8 0,.int .u8 0,.int .u8 0,.int .u8 0,.int .u8 0,.int .u8 0,.int .u8 0,.int .u8 0,.int .u8 0,.int .u8 0,.int .u8 0,.int .u8 0,.int .u8 0,.int .u8 0,.int .u8 0,.int .u8 0,.int .u8 0,.int .u8 0,.int .u8 0,.int .u8 0,.int .u8 0])/\cU TP 269=some (65,5)/\al TP 269=none:=by and_intros<;>kernel_rfl
theorem Xi:yA 273 256 256/\ak TP 273=some (.agg [.int .u8 0,.int .u8 0,.int .u8 0,.int .u8 0,.int .u8 0,.int .u8 0,.int .u8 0,.int .u8 0,.int .u8 0,.int .u8 0,.int .u8 0,.int .u8 0,.int .u8 0,.int .u8 0,.int .u8 0,.int .u8 0,.int .u8 0,.int .u8 0,.int .u8 0,.int .u8 0,.int .u8 0,.int .u8 0,.int .u8 0,.int .u8 0,.int .u8 0,.int .u8 0,.int .u8 0,.int .u8 0,.int .u8 0,.int .u8 0,.int .u8 0,.int .u8 0,.int .u8 0,.int .u8 0,.int .u8 0,.int .u8 0,.int .u8 0,.int .u8 0,.int .u8 0,.int .u8 0,.int .u8 0,.int .u8 0,.int .u8 0,.int .u8 0,.int .u8 0,.int .u8 0,.int .u8 0,.int .u8 0,.int .u8 0,.int .u8 0,.int .u8 0,.int .u8 0,.int .u8 0,.int .u8 0,.int .u8 0,.int .u8 0,.int .u8 0,.int .u8 0,.int .u8 0,.int .u8 0,.int .u8 0,.int .u8 0,.int .u8 0,.int .u8 0,.int .u8 0,.int .u8 0,.int .u8 0,.int .u8 0,.int .u8 0,.int .u8 0,.int .u8 0,.int .u8 0,.int .u8 0,.int .u8 0,.int .u8 0,.int .u8 0,.int .u8 0,.int .u8 0,.int .u8 0,.int .u8 0,.int .u8 0,.int .u8 0,.int .u8 0,.int .u8 0,.int .u8 0,.int .u8 0,.int .u8 0,.int .u8 0,.int .u8 0,.int .u8 0,.int .u8 0,.int .u8 0,.int .u8 0,.int .u8 0,.int .u8 0,.int .u8 0,.int .u8 0,.int .u8 0,.int .u8 0,.int .u8 0,.int .u8 0,.int .u8 0,.int .u8 0,.int .u8 0,.int .u8 0,.int .u8 0,.int .u8 0,.int .u8 0,.int .u8 0,.int .u8 0,.int .u8 0,.int .u8 0,.int .u8 0,.int .u8 0,.int .u8 0,.int .u8 0,.int .u8 0,.int .u8 0,.int .u8 0,.int .u8 0,.int .u8 0,.int .u8 0,.int .u8 0,.int .u8 0,.int .u8 0,.int .u8 0,.int .u8 0,.int .u8 0,.int .u8 0,.int .u8 0,.int .u8 0,.int .u8 0,.int .u8 0,.int .u8 0,.int .u8 0,.int .u8 0,.int .u8 0,.int .u8 0,.int .u8 0,.int .u8 0,.int .u8 0,.int .u8 0,.int .u8 0,.int .u8 0,.int .u8 0,.int .u8 0,.int .u8 0,.int .u8 0,.int .u8 0,.int .u8 0,.int .u8 0,.int .u8 0,.int .u8 0,.int .u8 0,.int .u8 0,.int .u8 0,.int .u8 0,.int .u8 0,.int .u8 0,.int .u8 0,.int .u8 0,.int .u8 0,.int .u8 0,.int .u8 0,.int .u8 0,.int .u8 0,.int .u8 0,.int .u8 0,.int .u8 0,.int .u8 0,.int .u8 0,.int .u8 0,.int .u8 0,.int .u8 0,.int .u8 0,.int .u8 0,.int .u8 0,.int .u8 0,.int .u8 0,.int .u8 0,.int .u8 0,.int .u8 0,.int .u8 0,.int .u8 0,.int .u8 0,.int .u8 0,.int .u8 0,.int .u8 0,.int .u8 0,.int .u8 0,.int .u8 0,.int .u8 0,.int .u8 0,.int .u8 0,.int .u8 0,.int .u8 0,.int .u8 0,.int .u8 0,.int .u8 0,.int .u8 0,.int .u8 0,.int .u8 0,.int .u8 0,.int .u8 0,.int .u8 0,.int .u8 0,.int .u8 0,.int .u8 0,.int .u8 0,.int .u8 0,.int .u8 0,.int .u8 0,.int .u8 0,.int .u8 0,.int .u8 0,.int .u8 0,.int .u8 0,.int .u8 0,.int .u8 0,.int .u8 0,.int .u8 0,.int .u8 0,.int .u8 0,.int .u8 0,.int .u8 0,.int .u8 0,.int .u8 0,.int .u8 0,.int .u8 0,.int .u8 0,.int .u8 0,.int .u8 0,.int .u8 0,.int .u8 0,.int .u8 0,.int .u8 0,.int .u8 0,.int .u8 0,.int .u8 0,.int .u8 0,.int .u8 0,.int .u8 0,.int .u8 0,.int .u8 0,.int .u8 0,.int .u8 0,.int .u8 0,.int .u8 0,.int .u8 0,.int .u8 0,.int .u8 0,.int .u8 0,.int .u8 0,.int .u8 0,.int .u8 0,.int .u8 0])/\cU TP 273=some (256,5)/\al TP 273=none:=by and_intros<;>kernel_rfl
theorem Xh:yA 274 2 2/\ak TP 274=some (.agg [.int .u8 0,.int .u8 0])/\af TP 274 0=some (0,5)/\af TP 274 1=some (1,5)/\al TP 274=some [(0,1),(1,1)]/\b7 TP 274=some [.int,.int]/\yA 275 2 2/\ak TP 275=some (.agg [.int .u8 0,.int .u8 0])/\af TP 275 0=some (0,5)/\af TP 275 1=some (1,5)/\al TP 275=some [(0,1),(1,1)]/\b7 TP 275=some [.int,.int]:=by and_intros<;>kernel_rfl
theorem Xg:yA 276 32 32/\ak TP 276=some (.agg [.int .u8 0,.int .u8 0,.int .u8 0,.int .u8 0,.int .u8 0,.int .u8 0,.int .u8 0,.int .u8 0,.int .u8 0,.int .u8 0,.int .u8 0,.int .u8 0,.int .u8 0,.int .u8 0,.int .u8 0,.int .u8 0,.int .u8 0,.int .u8 0,.int .u8 0,.int .u8 0,.int .u8 0,.int .u8 0,.int .u8 0,.int .u8 0,.int .u8 0,.int .u8 0,.int .u8 0,.int .u8 0,.int .u8 0,.int .u8 0,.int .u8 0,.int .u8 0])/\cU TP 276=some (16,275)/\al TP 276=none:=by and_intros<;>kernel_rfl
theorem Xf:yA 320 4 32/\ak TP 320=some (.agg [.int .i64 0,.int .i64 0,.int .i64 0,.int .i64 0])/\af TP 320 0=some (0,3)/\af TP 320 1=some (1,3)/\af TP 320 2=some (2,30)/\al TP 320=some [(0,1),(1,1),(2,2)]/\b7 TP 320=some [.int,.int,.int,.int]/\yA 321 4 32/\ak TP 321=some (.agg [.int .i64 0,.int .i64 0,.int .i64 0,.int .i64 0])/\af TP 321 0=some (0,3)/\af TP 321 1=some (1,3)/\af TP 321 2=some (2,30)/\al TP 321=some [(0,1),(1,1),(2,2)]/\b7 TP 321=some [.int,.int,.int,.int]:=by and_intros<;>kernel_rfl
theorem Xe:yB 323 1 24/\ak TP 323=some (.nilslice)/\ba TP 323=some 325/\bG TP 323=.slice:=by and_intros<;>kernel_rfl
theorem Xd:yA 327 6 56/\ak TP 327=some (.agg [.str ⟨#[]⟩,.int .i64 0,.int .i64 0,.int .i64 0,.int .i64 0,.int .i64 0])/\af TP 327 0=some (0,168)/\af TP 327 1=some (4,30)/\al TP 327=some [(0,4),(4,2)]/\b7 TP 327=some [.str,.int,.int,.int,.int,.int]/\yA 328 6 56/\ak TP 328=some (.agg [.str ⟨#[]⟩,.int .i64 0,.int .i64 0,.int .i64 0,.int .i64 0,.int .i64 0])/\af TP 328 0=some (0,168)/\af TP 328 1=some (4,30)/\al TP 328=some [(0,4),(4,2)]/\b7 TP 328=some [.str,.int,.int,.int,.int,.int]:=by and_intros<;>kernel_rfl
theorem Xc:yB 331 1 8/\ak TP 331=some (.any)/\wR TP 331=some (3,3):=by and_intros<;>kernel_rfl
theorem Xb:yB 332 1 0/\ak TP 332=some (.tuple [.int .i64 0,.bool false]):=by and_intros<;>kernel_rfl
theorem Xa:yA 340 19 192/\ak TP 340=some (.agg [.nilslice,.nilslice,.int .i64 0,.int .i64 0,.int .i64 0,.int .i64 0,.int .i64 0,.int .i64 0,.int .i64 0,.int .i64 0,.int .i64 0,.str ⟨#[]⟩,.int .i64 0,.int .i64 0,.int .i64 0,.int .i64 0,.int .i64 0,.int .i64 0,.int .i64 0])/\af TP 340 0=some (0,32)/\af TP 340 1=some (6,258)/\af TP 340 2=some (11,166)/\al TP 340=some [(0,6),(6,5),(11,8)]/\yA 341 19 192/\ak TP 341=some (.agg [.nilslice,.nilslice,.int .i64 0,.int .i64 0,.int .i64 0,.int .i64 0,.int .i64 0,.int .i64 0,.int .i64 0,.int .i64 0,.int .i64 0,.str ⟨#[]⟩,.int .i64 0,.int .i64 0,.int .i64 0,.int .i64 0,.int .i64 0,.int .i64 0,.int .i64 0])/\af TP 341 0=some (0,32)/\af TP 341 1=some (6,258)/\af TP 341 2=some (11,166)/\al TP 341=some [(0,6),(6,5),(11,8)]:=by and_intros<;>kernel_rfl
theorem W9:yB 342 1 0/\ak TP 342=some (.tuple [.int .u64 0,.int .u64 0])/\yB 390 1 0/\ak TP 390=some (.tuple [.int .u64 0,.int .u64 0]):=by and_intros<;>kernel_rfl
theorem W8:yB 349 1 24/\ak TP 349=some (.nilslice)/\ba TP 349=some 353/\bG TP 349=.slice:=by and_intros<;>kernel_rfl
theorem W7:yA 352 8 88/\ak TP 352=some (.agg [.str ⟨#[]⟩,.int .i64 0,.int .i64 0,.int .i64 0,.int .i64 0,.int .i64 0,.nilslice,.int .i64 0])/\af TP 352 0=some (0,158)/\af TP 352 1=some (7,3)/\al TP 352=some [(0,7),(7,1)]/\yA 353 8 88/\ak TP 353=some (.agg [.str ⟨#[]⟩,.int .i64 0,.int .i64 0,.int .i64 0,.int .i64 0,.int .i64 0,.nilslice,.int .i64 0])/\af TP 353 0=some (0,158)/\af TP 353 1=some (7,3)/\al TP 353=some [(0,7),(7,1)]:=by and_intros<;>kernel_rfl
theorem W6:yB 368 1 0/\ak TP 368=some (.tuple [.int .u64 0,.niliface]):=by and_intros<;>kernel_rfl
theorem W5:yA 370 3 48/\ak TP 370=some (.agg [.str ⟨#[]⟩,.str ⟨#[]⟩,.niliface])/\af TP 370 0=some (0,9)/\af TP 370 1=some (1,9)/\af TP 370 2=some (2,89)/\al TP 370=some [(0,1),(1,1),(2,1)]/\yA 371 3 48/\ak TP 371=some (.agg [.str ⟨#[]⟩,.str ⟨#[]⟩,.niliface])/\af TP 371 0=some (0,9)/\af TP 371 1=some (1,9)/\af TP 371 2=some (2,89)/\al TP 371=some [(0,1),(1,1),(2,1)]:=by and_intros<;>kernel_rfl
theorem W4:yA 373 4 80/\ak TP 373=some (.agg [.nilslice,.nilslice,.int .i64 0,.nilslice])/\af TP 373 0=some (0,25)/\af TP 373 1=some (3,65)/\al TP 373=some [(0,3),(3,1)]/\yA 374 4 80/\ak TP 374=some (.agg [.nilslice,.nilslice,.int .i64 0,.nilslice])/\af TP 374 0=some (0,25)/\af TP 374 1=some (3,65)/\al TP 374=some [(0,3),(3,1)]:=by and_intros<;>kernel_rfl
theorem W3:yA 381 2 16/\ak TP 381=some (.agg [.int .i64 0,.int .i64 0])/\af TP 381 0=some (0,3)/\af TP 381 1=some (1,3)/\al TP 381=some [(0,1),(1,1)]/\b7 TP 381=some [.int,.int]/\ow TP 381=.agg [.int,.int]:=by and_intros<;>kernel_rfl
theorem SQ:yA 397 32 32/\ak TP 397=some (.agg [.int .u8 0,.int .u8 0,.int .u8 0,.int .u8 0,.int .u8 0,.int .u8 0,.int .u8 0,.int .u8 0,.int .u8 0,.int .u8 0,.int .u8 0,.int .u8 0,.int .u8 0,.int .u8 0,.int .u8 0,.int .u8 0,.int .u8 0,.int .u8 0,.int .u8 0,.int .u8 0,.int .u8 0,.int .u8 0,.int .u8 0,.int .u8 0,.int .u8 0,.int .u8 0,.int .u8 0,.int .u8 0,.int .u8 0,.int .u8 0,.int .u8 0,.int .u8 0])/\cU TP 397=some (32,5)/\al TP 397=none:=by and_intros<;>kernel_rfl
theorem SP:yA 398 64 64/\ak TP 398=some (.agg [.int .u8 0,.int .u8 0,.int .u8 0,.int .u8 0,.int .u8 0,.int .u8 0,.int .u8 0,.int .u8 0,.int .u8 0,.int .u8 0,.int .u8 0,.int .u8 0,.int .u8 0,.int .u8 0,.int .u8 0,.int .u8 0,.int .u8 0,.int .u8 0,.int .u8 0,.int .u8 0,.int .u8 0,.int .u8 0,.int .u8 0,.int .u8 0,.int .u8 0,.int .u8 0,.int .u8 0,.int .u8 0,.int .u8 0,.int .u8 0,.int .u8 0,.int .u8 0,.int .u8 0,.int .u8 0,.int .u8 0,.int .u8 0,.int .u8 0,.int .u8 0,.int .u8 0,.int .u8 0,.int .u8 0,.int .u8 0,.int .u8 0,.int .u8 0,.int .u8 0,.int .u8 0,.int .u8 0,.int .u8 0,.int .u8 0,.int .u8 0,.int .u8 0,.int .u8 0,.int .u8 0,.int .u8 0,.int .u8 0,.int .u8 0,.int .u8 0,.int .u8 0,.int .u8 0,.int .u8 0,.int .u8 0,.int .u8 0,.int .u8 0,.int .u8 0])/\cU TP 398=some (64,5)/\al TP 398=none:=by and_intros<;>kernel_rfl
theorem SO:yA 402 1 16/\ak TP 402=some (.agg [.str ⟨#[]⟩])/\af TP 402 0=some (0,9)/\al TP 402=some [(0,1)]/\b7 TP 402=some [.str]/\yA 403 1 16/\ak TP 403=some (.agg [.str ⟨#[]⟩])/\af TP 403 0=some (0,9)/\al TP 403=some [(0,1)]/\b7 TP 403=some [.str]:=by and_intros<;>kernel_rfl
theorem SN:yB 407 1 8/\ak TP 407=some (.any)/\wR TP 407=some (381,383):=by and_intros<;>kernel_rfl
theorem SM:yA 408 6 80/\ak TP 408=some (.agg [.nilslice,.int .i64 0,.int .i64 0,.int .i64 0,.nilslice,.any])/\af TP 408 0=some (0,39)/\af TP 408 1=some (4,323)/\af TP 408 2=some (5,407)/\al TP 408=some [(0,4),(4,1),(5,1)]/\yA 409 6 80/\ak TP 409=some (.agg [.nilslice,.int .i64 0,.int .i64 0,.int .i64 0,.nilslice,.any])/\af TP 409 0=some (0,39)/\af TP 409 1=some (4,323)/\af TP 409 2=some (5,407)/\al TP 409=some [(0,4),(4,1),(5,1)]:=by and_intros<;>kernel_rfl
theorem SL:yA 415 3 24/\ak TP 415=some (.agg [.int .i64 0,.int .i64 0,.int .i64 0])/\af TP 415 0=some (0,3)/\af TP 415 1=some (1,3)/\af TP 415 2=some (2,3)/\al TP 415=some [(0,1),(1,1),(2,1)]/\b7 TP 415=some [.int,.int,.int]/\yA 416 3 24/\ak TP 416=some (.agg [.int .i64 0,.int .i64 0,.int .i64 0])/\af TP 416 0=some (0,3)/\af TP 416 1=some (1,3)/\af TP 416 2=some (2,3)/\al TP 416=some [(0,1),(1,1),(2,1)]/\b7 TP 416=some [.int,.int,.int]:=by and_intros<;>kernel_rfl
theorem SK:yA 418 2 16/\ak TP 418=some (.agg [.int .i64 0,.nilfunc])/\af TP 418 0=some (0,3)/\af TP 418 1=some (1,417)/\al TP 418=some [(0,1),(1,1)]/\yA 419 2 16/\ak TP 419=some (.agg [.int .i64 0,.nilfunc])/\af TP 419 0=some (0,3)/\af TP 419 1=some (1,417)/\al TP 419=some [(0,1),(1,1)]:=by and_intros<;>kernel_rfl
theorem SJ:yB 420 1 24/\ak TP 420=some (.nilslice)/\ba TP 420=some 419/\bG TP 420=.slice:=by and_intros<;>kernel_rfl
theorem SI:yB 425 1 24/\ak TP 425=some (.nilslice)/\ba TP 425=some 404/\bG TP 425=.slice:=by and_intros<;>kernel_rfl
theorem SH:yA 428 6 48/\ak TP 428=some (.agg [.int .i64 0,.int .i64 0,.int .i64 0,.int .i64 0,.int .i64 0,.int .i64 0])/\af TP 428 0=some (0,3)/\af TP 428 1=some (1,3)/\af TP 428 2=some (2,3)/\af TP 428 3=some (3,3)/\af TP 428 4=some (4,3)/\af TP 428 5=some (5,3)/\al TP 428=some [(0,1),(1,1),(2,1),(3,1),(4,1),(5,1)]/\b7 TP 428=some [.int,.int,.int,.int,.int,.int]/\yA 429 6 48/\ak TP 429=some (.agg [.int .i64 0,.int .i64 0,.int .i64 0,.int .i64 0,.int .i64 0,.int .i64 0])/\af TP 429 0=some (0,3)/\af TP 429 1=some (1,3)/\af TP 429 2=some (2,3)/\af TP 429 3=some (3,3)/\af TP 429 4=some (4,3)/\af TP 429 5=some (5,3)/\al TP 429=some [(0,1),(1,1),(2,1),(3,1),(4,1),(5,1)]/\b7 TP 429=some [.int,.int,.int,.int,.int,.int]:=by and_intros<;>kernel_rfl
theorem SG:yA 433 5 40/\ak TP 433=some (.agg [.int .i64 0,.int .i64 0,.int .i64 0,.int .i64 0,.int .i64 0])/\cU TP 433=some (5,3)/\al TP 433=none:=by and_intros<;>kernel_rfl
theorem SF:yA 434 5 40/\ak TP 434=some (.agg [.nilfunc,.nilfunc,.nilfunc,.nilfunc,.nilfunc])/\cU TP 434=some (5,351)/\al TP 434=none:=by and_intros<;>kernel_rfl
theorem SE:yA 438 4 40/\ak TP 438=some (.agg [.nilptr,.nilptr,.nilptr,.str ⟨#[]⟩])/\af TP 438 0=some (0,17)/\af TP 438 1=some (1,17)/\af TP 438 2=some (2,17)/\af TP 438 3=some (3,9)/\al TP 438=some [(0,1),(1,1),(2,1),(3,1)]/\yA 439 4 40/\ak TP 439=some (.agg [.nilptr,.nilptr,.nilptr,.str ⟨#[]⟩])/\af TP 439 0=some (0,17)/\af TP 439 1=some (1,17)/\af TP 439 2=some (2,17)/\af TP 439 3=some (3,9)/\al TP 439=some [(0,1),(1,1),(2,1),(3,1)]:=by and_intros<;>kernel_rfl
theorem SD:yA 440 0 0/\ak TP 440=some (.agg [])/\cU TP 440=some (0,16)/\al TP 440=none:=by and_intros<;>kernel_rfl
theorem SC:yA 441 0 0/\ak TP 441=some (.agg [])/\af TP 441 0=some (0,440)/\al TP 441=some [(0,0)]/\yA 442 0 0/\ak TP 442=some (.agg [])/\af TP 442 0=some (0,440)/\al TP 442=some [(0,0)]:=by and_intros<;>kernel_rfl
theorem SB:yA 448 11 48/\ak TP 448=some (.agg [.int .u64 0,.int .u64 0,.int .u32 0,.int .u8 0,.int .u8 0,.int .u8 0,.int .u8 0,.nilfunc,.nilptr,.int .i32 0,.int .i32 0])/\af TP 448 0=some (0,12)/\af TP 448 1=some (1,12)/\af TP 448 2=some (2,264)/\af TP 448 3=some (3,443)/\af TP 448 4=some (4,5)/\af TP 448 5=some (5,5)/\af TP 448 6=some (6,444)/\af TP 448 7=some (7,445)/\af TP 448 8=some (8,121)/\af TP 448 9=some (9,446)/\af TP 448 10=some (10,447)/\al TP 448=some [(0,1),(1,1),(2,1),(3,1),(4,1),(5,1),(6,1),(7,1),(8,1),(9,1),(10,1)]/\yA 449 11 48/\ak TP 449=some (.agg [.int .u64 0,.int .u64 0,.int .u32 0,.int .u8 0,.int .u8 0,.int .u8 0,.int .u8 0,.nilfunc,.nilptr,.int .i32 0,.int .i32 0])/\af TP 449 0=some (0,12)/\af TP 449 1=some (1,12)/\af TP 449 2=some (2,264)/\af TP 449 3=some (3,443)/\af TP 449 4=some (4,5)/\af TP 449 5=some (5,5)/\af TP 449 6=some (6,444)/\af TP 449 7=some (7,445)/\af TP 449 8=some (8,121)/\af TP 449 9=some (9,446)/\af TP 449 10=some (10,447)/\al TP 449=some [(0,1),(1,1),(2,1),(3,1),(4,1),(5,1),(6,1),(7,1),(8,1),(9,1),(10,1)]:=by and_intros<;>kernel_rfl
attribute [go_sem] Zn SA Qr Qq Qp N3 N2 N1 N0 Sz Zm Sy Zl Sx Sw Zk Sv Yo Yn Qt Qs Ym Yl Yk Yj Yi Yh Qo Yg Yf Ye Yd Yc Yb Ya X9 X8 Qn X7 X6 X5 X4 X3 Qm X2 X1 X0 XZ XY XX XW XV XU XT XS XR XQ Ql XP XO XN XM XL XK XJ XI XH XG XF XE XD XC XB XA Xz Xy Xx Xw Xv Xu Xt Xs Xr Xq Xp Xo Xn Xm Xl Xk Xj Xi Xh Xg Xf Xe Xd Xc Xb Xa W9 W8 W7 W6 W5 W4 W3 SQ SP SO SN SM SL SK SJ SI SH SG SF SE SD SC SB
theorem Wp:dn TP 5 3=some .i64:=by kernel_rfl
theorem RB:dn TP 69 3=some .i64:=by kernel_rfl
theorem Wq:dn TP 3 5=some .u8:=by kernel_rfl
theorem O2:dn TP 2 199=some .u64:=by kernel_rfl
theorem RC:dn TP 5 21=some .i32:=by kernel_rfl
theorem OY:dn TP 5 264=some .u32:=by kernel_rfl
theorem J6:dn TP 199 264=some .u32:=by kernel_rfl
theorem O3:dn TP 264 5=some .u8:=by kernel_rfl
theorem O1:dn TP 3 197=some .u64:=by kernel_rfl
theorem O0:dn TP 3 199=some .u64:=by kernel_rfl
theorem O6:dn TP 197 3=some .i64:=by kernel_rfl
theorem O4:dn TP 199 5=some .u8:=by kernel_rfl
theorem J7:dn TP 197 264=some .u32:=by kernel_rfl
theorem O5:dn TP 199 2=some .i64:=by kernel_rfl
theorem J5:dn TP 264 197=some .u64:=by kernel_rfl
theorem OZ:dn TP 5 199=some .u64:=by kernel_rfl
theorem J4:dn TP 264 199=some .u64:=by kernel_rfl
attribute [go_sem] Wp RB Wq O2 RC OY J6 O3 O1 O0 O6 O4 J7 O5 J5 OZ J4
theorem jv:dw TP:=OU (by kernel_rfl)
theorem ZA:aj H0 Tryz.f5=true:=by kernel_rfl
theorem Zz:aj H0 Tryz.f7=true:=by kernel_rfl
theorem Zy:aj H0 Tryz.f8=true:=by kernel_rfl
theorem Zc:aj H0 Tryz.f10=true:=by kernel_rfl
theorem Zb:aj H0 Tryz.f11=true:=by kernel_rfl
theorem Za:aj H0 Tryz.f12=true:=by kernel_rfl
theorem Y9:aj H0 Tryz.f13=true:=by kernel_rfl
def GJ:Hints:=dY [(66,.low),(67,.low),(68,.low),(69,.low),(70,.low),(6,.slot 1 4),(7,.slot 0 4),(71,.low),(1006070,.sto),(72,.low),(73,.low),(74,.low),(75,.low)]
theorem Y8:aj GJ Tryz.f14=true:=by kernel_rfl
theorem Y7:aj H0 Tryz.f15=true:=by kernel_rfl
theorem Y6:aj H0 Tryz.f22=true:=by kernel_rfl
theorem Y5:aj H0 Tryz.f23=true:=by kernel_rfl
theorem Y4:aj H0 Tryz.f24=true:=by kernel_rfl
theorem Y3:aj H0 Tryz.f27=true:=by kernel_rfl
theorem Y2:aj H0 Tryz.f28=true:=by kernel_rfl
theorem Y1:aj H0 Tryz.f29=true:=by kernel_rfl
theorem Y0:aj H0 Tryz.f31=true:=by kernel_rfl
theorem YZ:aj H0 Tryz.f32=true:=by kernel_rfl
theorem YY:aj H0 Tryz.f33=true:=by kernel_rfl
theorem QV:aj H0 Tryz.f34=true:=by kernel_rfl
theorem YX:aj H0 Tryz.f36=true:=by kernel_rfl
theorem YW:aj H0 Tryz.f37=true:=by kernel_rfl
theorem YV:aj H0 Tryz.f40=true:=by kernel_rfl
theorem YU:aj H0 Tryz.f41=true:=by kernel_rfl
theorem YT:aj H0 Tryz.f48=true:=by kernel_rfl
theorem YS:aj H0 Tryz.f49=true:=by kernel_rfl
theorem YR:aj H0 Tryz.f50=true:=by kernel_rfl
theorem YQ:aj H0 Tryz.f51=true:=by kernel_rfl
theorem YP:aj H0 Tryz.f52=true:=by kernel_rfl
theorem YO:aj H0 Tryz.f53=true:=by kernel_rfl
theorem YN:aj H0 Tryz.f55=true:=by kernel_rfl
theorem YM:aj H0 Tryz.f56=true:=by kernel_rfl
def W2:Hints:=dY [(7,.low),(1000999,.sto),(8,.low),(1001999,.sto)]
theorem QU:aj W2 Tryz.f57=true:=by kernel_rfl
theorem YL:aj H0 Tryz.f63=true:=by kernel_rfl
theorem YK:aj H0 Tryz.f67=true:=by kernel_rfl
theorem YJ:aj H0 Tryz.f78=true:=by kernel_rfl
theorem YI:aj H0 Tryz.f79=true:=by kernel_rfl
theorem YH:aj H0 Tryz.f80=true:=by kernel_rfl
theorem YG:aj H0 Tryz.f81=true:=by kernel_rfl
theorem YF:aj H0 Tryz.f82=true:=by kernel_rfl
theorem YE:aj H0 Tryz.f83=true:=by kernel_rfl
theorem YD:aj H0 Tryz.f85=true:=by kernel_rfl
theorem YC:aj H0 Tryz.f87=true:=by kernel_rfl
theorem YB:aj H0 Tryz.f89=true:=by kernel_rfl
theorem YA:aj H0 Tryz.f90=true:=by kernel_rfl
theorem Yz:aj H0 Tryz.f91=true:=by kernel_rfl
theorem Yy:aj H0 Tryz.f92=true:=by kernel_rfl
theorem Yx:aj H0 Tryz.f93=true:=by kernel_rfl
theorem Yw:aj H0 Tryz.f94=true:=by kernel_rfl
theorem Yv:aj H0 Tryz.f95=true:=by kernel_rfl
theorem Yu:aj H0 Tryz.f96=true:=by kernel_rfl
theorem Yt:aj H0 Tryz.f98=true:=by kernel_rfl
theorem QT:aj H0 Tryz.f99=true:=by kernel_rfl
theorem NC:aj H0 Tryz.f100=true:=by kernel_rfl
theorem V4:aj H0 Tryz.f101=true:=by kernel_rfl
theorem NB:aj H0 Tryz.f102=true:=by kernel_rfl
theorem V3:aj H0 Tryz.f103=true:=by kernel_rfl
theorem V2:aj H0 Tryz.f104=true:=by kernel_rfl
theorem V1:aj H0 Tryz.f106=true:=by kernel_rfl
theorem V0:aj H0 Tryz.f108=true:=by kernel_rfl
theorem VZ:aj H0 Tryz.f109=true:=by kernel_rfl
theorem VY:aj H0 Tryz.f110=true:=by kernel_rfl
theorem VX:aj H0 Tryz.f111=true:=by kernel_rfl
theorem VW:aj H0 Tryz.f112=true:=by kernel_rfl
theorem VV:aj H0 Tryz.f113=true:=by kernel_rfl
theorem VU:aj H0 Tryz.f114=true:=by kernel_rfl
theorem VT:aj H0 Tryz.f115=true:=by kernel_rfl
theorem VS:aj H0 Tryz.f116=true:=by kernel_rfl
theorem VR:aj H0 Tryz.f117=true:=by kernel_rfl
theorem VQ:aj H0 Tryz.f118=true:=by kernel_rfl
theorem VP:aj H0 Tryz.f119=true:=by kernel_rfl
theorem VO:aj H0 Tryz.f120=true:=by kernel_rfl
theorem VN:aj H0 Tryz.f121=true:=by kernel_rfl
theorem VM:aj H0 Tryz.f122=true:=by kernel_rfl
theorem VL:aj H0 Tryz.f123=true:=by kernel_rfl
theorem VK:aj H0 Tryz.f137=true:=by kernel_rfl
theorem VJ:aj H0 Tryz.f138=true:=by kernel_rfl
theorem VI:aj H0 Tryz.f139=true:=by kernel_rfl
theorem VH:aj H0 Tryz.f140=true:=by kernel_rfl
theorem VG:aj H0 Tryz.f141=true:=by kernel_rfl
theorem VF:aj H0 Tryz.f142=true:=by kernel_rfl
theorem VE:aj H0 Tryz.f143=true:=by kernel_rfl
theorem VD:aj H0 Tryz.f144=true:=by kernel_rfl
theorem VC:aj H0 Tryz.f145=true:=by kernel_rfl
theorem VB:aj H0 Tryz.f146=true:=by kernel_rfl
theorem VA:aj H0 Tryz.f147=true:=by kernel_rfl
theorem Vz:aj H0 Tryz.f148=true:=by kernel_rfl
theorem NA:aj H0 Tryz.f149=true:=by kernel_rfl
theorem Vy:aj H0 Tryz.f150=true:=by kernel_rfl
theorem Vx:aj H0 Tryz.f151=true:=by kernel_rfl
theorem Vw:aj H0 Tryz.f152=true:=by kernel_rfl
theorem Vv:aj H0 Tryz.f153=true:=by kernel_rfl
theorem Vu:aj H0 Tryz.f154=true:=by kernel_rfl
theorem Vt:aj H0 Tryz.f155=true:=by kernel_rfl
theorem Vs:aj H0 Tryz.f156=true:=by kernel_rfl
theorem Vr:aj H0 Tryz.f157=true:=by kernel_rfl
theorem Vq:aj H0 Tryz.f158=true:=by kernel_rfl
theorem Vp:aj H0 Tryz.f159=true:=by kernel_rfl
theorem Vo:aj H0 Tryz.f160=true:=by kernel_rfl
theorem Vn:aj H0 Tryz.f161=true:=by kernel_rfl
theorem Vm:aj H0 Tryz.f162=true:=by kernel_rfl
theorem Vl:aj H0 Tryz.f163=true:=by kernel_rfl
theorem Vk:aj H0 Tryz.f164=true:=by kernel_rfl
theorem Vj:aj H0 Tryz.f165=true:=by kernel_rfl
def uU:Hints:=dY [(19,.low),(1004018,.nop),(62,.thr),(64,.thr)]
theorem Vi:aj uU Tryz.f166=true:=by kernel_rfl
theorem Vh:aj H0 Tryz.f167=true:=by kernel_rfl
theorem Vg:aj H0 Tryz.f168=true:=by kernel_rfl
theorem Vf:aj H0 Tryz.f169=true:=by kernel_rfl
theorem Ve:aj H0 Tryz.f172=true:=by kernel_rfl
theorem Vd:aj H0 Tryz.f173=true:=by kernel_rfl
theorem Nz:aj H0 Tryz.f174=true:=by kernel_rfl
theorem Vc:aj H0 Tryz.f175=true:=by kernel_rfl
theorem Vb:aj H0 Tryz.f176=true:=by kernel_rfl
theorem Va:aj H0 Tryz.f177=true:=by kernel_rfl
theorem U':aj H0 Tryz.f178=true:=by kernel_rfl
theorem BV:aj H0 Tryz.f179=true:=by kernel_rfl
theorem U9:aj H0 Tryz.f180=true:=by kernel_rfl
theorem Ny:aj H0 Tryz.f181=true:=by kernel_rfl
theorem U8:aj H0 Tryz.f182=true:=by kernel_rfl
theorem Nx:aj H0 Tryz.f183=true:=by kernel_rfl
theorem U7:aj H0 Tryz.f184=true:=by kernel_rfl
theorem U6:aj H0 Tryz.f185=true:=by kernel_rfl
theorem Nw:aj H0 Tryz.f186=true:=by kernel_rfl
theorem Nv:aj H0 Tryz.f187=true:=by kernel_rfl
theorem U5:aj H0 Tryz.f188=true:=by kernel_rfl
theorem U4:aj H0 Tryz.f189=true:=by kernel_rfl
theorem U3:aj H0 Tryz.f190=true:=by kernel_rfl
theorem Nu:aj H0 Tryz.f191=true:=by kernel_rfl
theorem U2:aj H0 Tryz.f192=true:=by kernel_rfl
theorem U1:aj H0 Tryz.f193=true:=by kernel_rfl
def St:Hints:=dY [(36,.low),(1004035,.nop)]
theorem U0:aj St Tryz.f195=true:=by kernel_rfl
theorem UZ:aj H0 Tryz.f204=true:=by kernel_rfl
theorem UY:aj H0 Tryz.f205=true:=by kernel_rfl
theorem UX:aj H0 Tryz.f206=true:=by kernel_rfl
theorem UW:aj H0 Tryz.f207=true:=by kernel_rfl
theorem UV:aj H0 Tryz.f208=true:=by kernel_rfl
theorem UU:aj H0 Tryz.f209=true:=by kernel_rfl
theorem UT:aj H0 Tryz.f210=true:=by kernel_rfl
theorem US:aj H0 Tryz.f211=true:=by kernel_rfl
theorem UR:aj H0 Tryz.f212=true:=by kernel_rfl
theorem UQ:aj H0 Tryz.f213=true:=by kernel_rfl
theorem UP:aj H0 Tryz.f214=true:=by kernel_rfl
theorem UO:aj H0 Tryz.f215=true:=by kernel_rfl
theorem UN:aj H0 Tryz.f216=true:=by kernel_rfl
theorem UM:aj H0 Tryz.f217=true:=by kernel_rfl
theorem UL:aj H0 Tryz.f218=true:=by kernel_rfl
theorem UK:aj H0 Tryz.f219=true:=by kernel_rfl
theorem UJ:aj H0 Tryz.f220=true:=by kernel_rfl
theorem UI:aj H0 Tryz.f221=true:=by kernel_rfl
theorem UH:aj H0 Tryz.f222=true:=by kernel_rfl
theorem UG:aj H0 Tryz.f223=true:=by kernel_rfl
theorem UF:aj H0 Tryz.f224=true:=by kernel_rfl
theorem UE:aj H0 Tryz.f225=true:=by kernel_rfl
theorem UD:aj H0 Tryz.f226=true:=by kernel_rfl
theorem UC:aj H0 Tryz.f227=true:=by kernel_rfl
def M7:Hints:=dY [(7,.low),(1000006,.sto),(8,.low)]
theorem Hv:aj M7 Tryz.f228=true:=by kernel_rfl
theorem Nt:aj H0 Tryz.f229=true:=by kernel_rfl
theorem UB:aj H0 Tryz.f230=true:=by kernel_rfl
theorem UA:aj H0 Tryz.f231=true:=by kernel_rfl
theorem Ns:aj H0 Tryz.f232=true:=by kernel_rfl
theorem Uz:aj H0 Tryz.f233=true:=by kernel_rfl
theorem Uy:aj H0 Tryz.f234=true:=by kernel_rfl
theorem Ux:aj H0 Tryz.f235=true:=by kernel_rfl
def Ss:Hints:=dY [(22,.bar),(39,.bar)]
theorem Uw:aj Ss Tryz.f236=true:=by kernel_rfl
def Sr:Hints:=dY [(28,.low),(1002024,.sto)]
theorem Uv:aj Sr Tryz.f237=true:=by kernel_rfl
theorem Uu:aj H0 Tryz.f238=true:=by kernel_rfl
theorem Ut:aj H0 Tryz.f239=true:=by kernel_rfl
theorem Us:aj H0 Tryz.f246=true:=by kernel_rfl
theorem Ur:aj H0 Tryz.f247=true:=by kernel_rfl
theorem Uq:aj H0 Tryz.f248=true:=by kernel_rfl
theorem Up:aj H0 Tryz.f249=true:=by kernel_rfl
theorem Uo:aj H0 Tryz.f250=true:=by kernel_rfl
theorem Un:aj H0 Tryz.f251=true:=by kernel_rfl
theorem Nr:aj H0 Tryz.f252=true:=by kernel_rfl
theorem Um:aj H0 Tryz.f253=true:=by kernel_rfl
theorem Ul:aj H0 Tryz.f254=true:=by kernel_rfl
theorem Uk:aj H0 Tryz.f255=true:=by kernel_rfl
theorem Uj:aj H0 Tryz.f257=true:=by kernel_rfl
theorem Ui:aj H0 Tryz.f258=true:=by kernel_rfl
theorem Uh:aj H0 Tryz.f259=true:=by kernel_rfl
theorem Ug:aj H0 Tryz.f260=true:=by kernel_rfl
theorem Uf:aj H0 Tryz.f261=true:=by kernel_rfl
theorem Ue:aj H0 Tryz.f262=true:=by kernel_rfl
theorem Ud:aj H0 Tryz.f263=true:=by kernel_rfl
theorem Uc:aj H0 Tryz.f264=true:=by kernel_rfl
theorem Ub:aj H0 Tryz.f265=true:=by kernel_rfl
theorem Ua:aj H0 Tryz.f266=true:=by kernel_rfl
theorem T9:aj H0 Tryz.f267=true:=by kernel_rfl
theorem Nq:aj H0 Tryz.f268=true:=by kernel_rfl
theorem T8:aj H0 Tryz.f269=true:=by kernel_rfl
theorem T7:aj H0 Tryz.f270=true:=by kernel_rfl
theorem T6:aj H0 Tryz.f273=true:=by kernel_rfl
theorem T5:aj H0 Tryz.f274=true:=by kernel_rfl
theorem T4:aj H0 Tryz.f275=true:=by kernel_rfl
theorem T3:aj H0 Tryz.f276=true:=by kernel_rfl
theorem T1:aj H0 Tryz.f277=true:=by kernel_rfl
theorem T0:aj H0 Tryz.f278=true:=by kernel_rfl
theorem TZ:aj H0 Tryz.f279=true:=by kernel_rfl
theorem TY:aj H0 Tryz.f280=true:=by kernel_rfl
theorem TX:aj H0 Tryz.f281=true:=by kernel_rfl
theorem TW:aj H0 Tryz.f282=true:=by kernel_rfl
theorem TV:aj H0 Tryz.f283=true:=by kernel_rfl
theorem TU:aj H0 Tryz.f287=true:=by kernel_rfl
def Sq:Hints:=dY [(34,.low),(35,.low),(36,.low),(37,.low),(38,.low),(39,.low),(40,.low),(41,.low),(42,.low),(43,.low),(44,.low),(45,.low),(14,.slot 2 2),(15,.slot 1 2),(16,.slot 0 1),(46,.low),(1014045,.sto),(47,.low),(48,.low),(49,.low),(50,.low),(51,.low),(52,.low),(53,.low),(54,.low),(55,.low),(56,.low),(57,.low),(58,.low),(59,.low),(60,.low),(61,.low),(62,.low),(63,.low),(64,.low),(65,.low),(66,.low),(1015057,.sto)]
theorem TT:aj Sq Tryz.f288=true:=by kernel_rfl
theorem TR:aj H0 Tryz.f289=true:=by kernel_rfl
theorem TQ:aj H0 Tryz.f290=true:=by kernel_rfl
theorem TO:aj H0 Tryz.f291=true:=by kernel_rfl
def M6:Hints:=dY [(36,.low),(1002035,.nop)]
theorem TN:aj M6 Tryz.f292=true:=by kernel_rfl
theorem TM:aj H0 Tryz.f293=true:=by kernel_rfl
theorem TL:aj H0 Tryz.f294=true:=by kernel_rfl
theorem xV:aj H0 Tryz.f296=true:=by kernel_rfl
theorem TJ:aj H0 Tryz.f297=true:=by kernel_rfl
theorem Np:aj H0 Tryz.f298=true:=by kernel_rfl
theorem TI:aj H0 Tryz.f299=true:=by kernel_rfl
theorem TH:aj H0 Tryz.f300=true:=by kernel_rfl
theorem TG:aj H0 Tryz.f301=true:=by kernel_rfl
theorem TF:aj H0 Tryz.f302=true:=by kernel_rfl
theorem TE:aj H0 Tryz.f303=true:=by kernel_rfl
theorem TD:aj H0 Tryz.f304=true:=by kernel_rfl
theorem TC:aj H0 Tryz.f307=true:=by kernel_rfl
theorem TB:aj H0 Tryz.f308=true:=by kernel_rfl
theorem TA:aj H0 Tryz.f309=true:=by kernel_rfl
def Sp:Hints:=dY [(6,.low),(1000999,.sto),(7,.low)]
theorem No:aj Sp Tryz.f310=true:=by kernel_rfl
theorem Nn:aj H0 Tryz.f311=true:=by kernel_rfl
def So:Hints:=dY [(16,.thr)]
theorem Tz:aj So Tryz.f312=true:=by kernel_rfl
def xk:Hints:=dY [(23,.low),(1005022,.sto)]
theorem Ty:aj xk Tryz.f313=true:=by kernel_rfl
theorem Tx:aj H0 Tryz.f314=true:=by kernel_rfl
theorem Tw:aj H0 Tryz.f315=true:=by kernel_rfl
theorem Tv:aj H0 Tryz.f316=true:=by kernel_rfl
theorem Tu:aj H0 Tryz.f317=true:=by kernel_rfl
theorem Tt:aj H0 Tryz.f318=true:=by kernel_rfl
theorem Ts:aj H0 Tryz.f319=true:=by kernel_rfl
theorem Tr:aj H0 Tryz.f320=true:=by kernel_rfl
theorem Tq:aj H0 Tryz.f321=true:=by kernel_rfl
theorem Tp:aj H0 Tryz.f322=true:=by kernel_rfl
def Sn:Hints:=dY [(29,.low),(1002028,.sto),(30,.low),(31,.low),(32,.low),(33,.low)]
theorem To:aj Sn Tryz.f323=true:=by kernel_rfl
theorem Tn:aj H0 Tryz.f324=true:=by kernel_rfl
theorem Tm:aj H0 Tryz.f325=true:=by kernel_rfl
theorem Tl:aj H0 Tryz.f326=true:=by kernel_rfl
def Sm:Hints:=dY [(67,.low),(1004066,.nop),(9,.low),(10,.low),(11,.low),(12,.low),(13,.low),(14,.low),(15,.low),(16,.low),(17,.low),(6,.slot 1 2),(7,.slot 0 8),(18,.low),(1006017,.sto),(19,.low),(20,.low),(21,.low),(22,.low),(23,.low),(24,.low),(25,.low),(26,.low),(1007021,.sto)]
theorem Tk:aj Sm Tryz.f327=true:=by kernel_rfl
theorem Tj:aj H0 Tryz.f328=true:=by kernel_rfl
theorem Ti:aj H0 Tryz.f329=true:=by kernel_rfl
theorem Th:aj H0 Tryz.f330=true:=by kernel_rfl
theorem Tg:aj H0 Tryz.f331=true:=by kernel_rfl
theorem Tf:aj H0 Tryz.f332=true:=by kernel_rfl
theorem Te:aj H0 Tryz.f333=true:=by kernel_rfl
theorem Td:aj H0 Tryz.f334=true:=by kernel_rfl
theorem Tc:aj H0 Tryz.f335=true:=by kernel_rfl
theorem Tb:aj H0 Tryz.f336=true:=by kernel_rfl
def Sl:Hints:=dY [(36,.low),(37,.low),(38,.low),(39,.low),(40,.low),(41,.low),(4,.slot 1 2),(5,.slot 0 2),(42,.low),(1004041,.sto),(43,.low),(44,.low),(45,.low),(46,.low)]
theorem Ta:aj Sl Tryz.f337=true:=by kernel_rfl
theorem S9:aj H0 Tryz.f338=true:=by kernel_rfl
theorem S8:aj H0 Tryz.f339=true:=by kernel_rfl
theorem S7:aj H0 Tryz.f340=true:=by kernel_rfl
end Abs
end Go.Proofs.YtfafnkpfamgbbaaGreatDoor
