/- FACTS OF THE PROGRAM'S TYPES AND CODE, printed by program. No conditions. -/
import Derived.Test.YtoapoaoelpcniaaGreatDoorAbsEval
import Derived.Test.YtoapoaoelpcniaaGreatDoorProg
import Derived.KernelRfl
set_option linter.all false
open Go.Proofs.Tryz renaming prog->TP
namespace Go.Proofs.YtoapoaoelpcniaaGreatDoor
namespace Abs
abbrev yA (t n b:Nat):Prop:=bZ TP t=some true/\ce TP t=some n/\l8 TP t=some b/\gB TP t=some false/\gD TP t n=true/\oL TP t=false
abbrev yB (t n b:Nat):Prop:=bZ TP t=some false/\ce TP t=some n/\l8 TP t=some b/\gB TP t=some false/\gD TP t n=true/\oL TP t=false
abbrev RF (t:Nat):Prop:=yB t 1 8/\au TP t=some (.int .i64 0)/\pD TP t=.int
theorem W8:RF 2/\RF 3/\RF 49/\RF 345:=by and_intros<;>kernel_rfl
theorem yT1:yB 4 1 1/\au TP 4=some (.bool false)/\bX TP 4=.bool:=by and_intros<;>kernel_rfl
theorem yT2:yB 5 1 1/\au TP 5=some (.int .u8 0)/\pD TP 5=.int/\yB 6 1 1/\au TP 6=some (.int .u8 0)/\pD TP 6=.int:=by and_intros<;>kernel_rfl
theorem Z':yA 7 4 24/\au TP 7=some (.agg [.int .i64 0,.int .i64 0,.bool false,.int .u8 0])/\ai TP 7 0=some (0,2)/\ai TP 7 1=some (1,3)/\ai TP 7 2=some (2,4)/\ai TP 7 3=some (3,6)/\aE TP 7=some [(0,1),(1,1),(2,1),(3,1)]/\d6 TP 7=some [.int,.int,.bool,.int]/\yA 8 4 24/\au TP 8=some (.agg [.int .i64 0,.int .i64 0,.bool false,.int .u8 0])/\ai TP 8 0=some (0,2)/\ai TP 8 1=some (1,3)/\ai TP 8 2=some (2,4)/\ai TP 8 3=some (3,6)/\aE TP 8=some [(0,1),(1,1),(2,1),(3,1)]/\d6 TP 8=some [.int,.int,.bool,.int]:=by and_intros<;>kernel_rfl
abbrev UT (t:Nat):Prop:=yB t 1 16/\au TP t=some (.str ⟨#[]⟩)/\e9 TP t=true/\pD TP t=.str
theorem W2:UT 9/\UT 10/\UT 11:=by and_intros<;>kernel_rfl
abbrev US (t:Nat):Prop:=yB t 1 8/\au TP t=some (.int .u64 0)/\pD TP t=.int
theorem W1:US 12/\US 318/\US 320:=by and_intros<;>kernel_rfl
theorem Z9:yA 13 2 24/\au TP 13=some (.agg [.str ⟨#[]⟩,.int .u64 0])/\ai TP 13 0=some (0,9)/\ai TP 13 1=some (1,12)/\aE TP 13=some [(0,1),(1,1)]/\yA 14 2 24/\au TP 14=some (.agg [.str ⟨#[]⟩,.int .u64 0])/\ai TP 14 0=some (0,9)/\ai TP 14 1=some (1,12)/\aE TP 14=some [(0,1),(1,1)]:=by and_intros<;>kernel_rfl
abbrev wG (t:Nat):Prop:=yB t 1 8/\au TP t=some (.nilptr)/\bX TP t=.ptr
theorem W0:wG 15/\wG 17/\wG 95/\wG 132/\wG 168/\wG 225/\wG 348/\wG 353/\wG 363/\wG 418/\wG 423:=by and_intros<;>kernel_rfl
theorem Z8:yB 16 1 8/\au TP 16=some (.nilptr)/\yB 254 1 8/\au TP 254=some (.nilptr):=by and_intros<;>kernel_rfl
theorem Z7:yA 18 1 8/\au TP 18=some (.agg [.nilptr])/\ai TP 18 0=some (0,17)/\aE TP 18=some [(0,1)]/\yA 19 1 8/\au TP 19=some (.agg [.nilptr])/\ai TP 19 0=some (0,17)/\aE TP 19=some [(0,1)]:=by and_intros<;>kernel_rfl
abbrev Pk (t:Nat):Prop:=bZ TP t=some false/\ce TP t=some 1/\l8 TP t=some 16/\au TP t=some (.niliface)/\gB TP t=some true/\gD TP t 1=true/\bX TP t=.iface/\oL TP t=false
theorem UR:Pk 20/\Pk 174/\Pk 175:=by and_intros<;>kernel_rfl
theorem ZL:yB 21 1 4/\au TP 21=some (.int .i32 0)/\pD TP 21=.int:=by and_intros<;>kernel_rfl
theorem ZK:yB 22 1 24/\au TP 22=some (.nilslice)/\bv TP 22=some 128/\bX TP 22=.slice:=by and_intros<;>kernel_rfl
theorem ZJ:yB 23 1 24/\au TP 23=some (.nilslice)/\bv TP 23=some 72/\bX TP 23=.slice:=by and_intros<;>kernel_rfl
theorem ZI:yA 24 3 56/\au TP 24=some (.agg [.nilslice,.nilslice,.int .i64 0])/\ai TP 24 0=some (0,22)/\ai TP 24 1=some (1,23)/\ai TP 24 2=some (2,3)/\aE TP 24=some [(0,1),(1,1),(2,1)]/\yA 25 3 56/\au TP 25=some (.agg [.nilslice,.nilslice,.int .i64 0])/\ai TP 25 0=some (0,22)/\ai TP 25 1=some (1,23)/\ai TP 25 2=some (2,3)/\aE TP 25=some [(0,1),(1,1),(2,1)]:=by and_intros<;>kernel_rfl
theorem ZH:yB 26 1 24/\au TP 26=some (.nilslice)/\bv TP 26=some 208/\bX TP 26=.slice:=by and_intros<;>kernel_rfl
theorem ZG:yB 27 1 24/\au TP 27=some (.nilslice)/\bv TP 27=some 213/\bX TP 27=.slice:=by and_intros<;>kernel_rfl
theorem ZF:yB 28 1 24/\au TP 28=some (.nilslice)/\bv TP 28=some 216/\bX TP 28=.slice:=by and_intros<;>kernel_rfl
abbrev nA (t:Nat):Prop:=yA t 2 16/\au TP t=some (.agg [.int .i64 0,.int .i64 0])/\ai TP t 0=some (0,3)/\ai TP t 1=some (1,3)/\aE TP t=some [(0,1),(1,1)]/\d6 TP t=some [.int,.int]
theorem UQ:nA 29/\nA 30/\nA 107/\nA 108/\nA 130/\nA 131/\nA 135/\nA 137/\nA 138/\nA 161/\nA 162/\nA 194/\nA 195/\nA 223/\nA 224:=by and_intros<;>kernel_rfl
theorem ZE:yA 31 6 80/\au TP 31=some (.agg [.nilslice,.nilslice,.int .i64 0,.int .i64 0,.int .i64 0,.int .i64 0])/\ai TP 31 0=some (0,27)/\ai TP 31 1=some (1,28)/\ai TP 31 2=some (2,30)/\ai TP 31 3=some (4,30)/\aE TP 31=some [(0,1),(1,1),(2,2),(4,2)]/\yA 32 6 80/\au TP 32=some (.agg [.nilslice,.nilslice,.int .i64 0,.int .i64 0,.int .i64 0,.int .i64 0])/\ai TP 32 0=some (0,27)/\ai TP 32 1=some (1,28)/\ai TP 32 2=some (2,30)/\ai TP 32 3=some (4,30)/\aE TP 32=some [(0,1),(1,1),(2,2),(4,2)]:=by and_intros<;>kernel_rfl
theorem ZD:yB 33 1 24/\au TP 33=some (.nilslice)/\bv TP 33=some 90/\bX TP 33=.slice:=by and_intros<;>kernel_rfl
theorem ZC:yB 34 1 24/\au TP 34=some (.nilslice)/\bv TP 34=some 219/\bX TP 34=.slice:=by and_intros<;>kernel_rfl
theorem ZB:yA 35 3 56/\au TP 35=some (.agg [.nilslice,.nilslice,.int .i64 0])/\ai TP 35 0=some (0,33)/\ai TP 35 1=some (1,34)/\ai TP 35 2=some (2,3)/\aE TP 35=some [(0,1),(1,1),(2,1)]/\yA 36 3 56/\au TP 36=some (.agg [.nilslice,.nilslice,.int .i64 0])/\ai TP 36 0=some (0,33)/\ai TP 36 1=some (1,34)/\ai TP 36 2=some (2,3)/\aE TP 36=some [(0,1),(1,1),(2,1)]:=by and_intros<;>kernel_rfl
theorem ZA:yB 37 1 24/\au TP 37=some (.nilslice)/\bv TP 37=some 77/\bX TP 37=.slice:=by and_intros<;>kernel_rfl
theorem Zz:yA 38 4 48/\au TP 38=some (.agg [.nilslice,.int .i64 0,.int .i64 0,.int .i64 0])/\ai TP 38 0=some (0,37)/\ai TP 38 1=some (1,30)/\ai TP 38 2=some (3,3)/\aE TP 38=some [(0,1),(1,2),(3,1)]/\yA 39 4 48/\au TP 39=some (.agg [.nilslice,.int .i64 0,.int .i64 0,.int .i64 0])/\ai TP 39 0=some (0,37)/\ai TP 39 1=some (1,30)/\ai TP 39 2=some (3,3)/\aE TP 39=some [(0,1),(1,2),(3,1)]:=by and_intros<;>kernel_rfl
theorem Zy:bZ TP 40=some true/\ce TP 40=some 17/\au TP 40=some (.agg [.nilslice,.nilslice,.int .i64 0,.nilslice,.nilslice,.nilslice,.int .i64 0,.int .i64 0,.int .i64 0,.int .i64 0,.nilslice,.nilslice,.int .i64 0,.nilslice,.int .i64 0,.int .i64 0,.int .i64 0])/\ai TP 40 0=some (0,25)/\ai TP 40 1=some (3,26)/\ai TP 40 2=some (4,32)/\ai TP 40 3=some (10,36)/\ai TP 40 4=some (13,39)/\gB TP 40=some false/\gD TP 40 17=true/\aE TP 40=some [(0,3),(3,1),(4,6),(10,3),(13,4)]/\oL TP 40=false/\bZ TP 41=some true/\ce TP 41=some 17/\au TP 41=some (.agg [.nilslice,.nilslice,.int .i64 0,.nilslice,.nilslice,.nilslice,.int .i64 0,.int .i64 0,.int .i64 0,.int .i64 0,.nilslice,.nilslice,.int .i64 0,.nilslice,.int .i64 0,.int .i64 0,.int .i64 0])/\ai TP 41 0=some (0,25)/\ai TP 41 1=some (3,26)/\ai TP 41 2=some (4,32)/\ai TP 41 3=some (10,36)/\ai TP 41 4=some (13,39)/\gB TP 41=some false/\gD TP 41 17=true/\aE TP 41=some [(0,3),(3,1),(4,6),(10,3),(13,4)]/\oL TP 41=false:=by and_intros<;>kernel_rfl
theorem Zx:yB 42 1 24/\au TP 42=some (.nilslice)/\bv TP 42=some 9/\bX TP 42=.slice:=by and_intros<;>kernel_rfl
theorem Zw:yB 43 1 24/\au TP 43=some (.nilslice)/\bv TP 43=some 64/\bX TP 43=.slice:=by and_intros<;>kernel_rfl
theorem Zv:yB 44 1 24/\au TP 44=some (.nilslice)/\bv TP 44=some 66/\bX TP 44=.slice:=by and_intros<;>kernel_rfl
theorem Zu:yB 45 1 24/\au TP 45=some (.nilslice)/\bv TP 45=some 106/\bX TP 45=.slice:=by and_intros<;>kernel_rfl
theorem Zt:yB 46 1 24/\au TP 46=some (.nilslice)/\bv TP 46=some 108/\bX TP 46=.slice:=by and_intros<;>kernel_rfl
theorem Zs:yA 47 6 112/\au TP 47=some (.agg [.nilslice,.nilslice,.nilslice,.nilslice,.int .i64 0,.int .i64 0])/\ai TP 47 0=some (0,43)/\ai TP 47 1=some (1,44)/\ai TP 47 2=some (2,45)/\ai TP 47 3=some (3,46)/\ai TP 47 4=some (4,3)/\ai TP 47 5=some (5,3)/\aE TP 47=some [(0,1),(1,1),(2,1),(3,1),(4,1),(5,1)]/\yA 48 6 112/\au TP 48=some (.agg [.nilslice,.nilslice,.nilslice,.nilslice,.int .i64 0,.int .i64 0])/\ai TP 48 0=some (0,43)/\ai TP 48 1=some (1,44)/\ai TP 48 2=some (2,45)/\ai TP 48 3=some (3,46)/\ai TP 48 4=some (4,3)/\ai TP 48 5=some (5,3)/\aE TP 48=some [(0,1),(1,1),(2,1),(3,1),(4,1),(5,1)]:=by and_intros<;>kernel_rfl
abbrev tP (t:Nat):Prop:=yB t 1 0
theorem UP:tP 50/\tP 60/\tP 91/\tP 114/\tP 122/\tP 144/\tP 188/\tP 192/\tP 199/\tP 283:=by and_intros<;>kernel_rfl
abbrev ay (t:Nat):Prop:=yB t 1 8/\au TP t=some (.nilfunc)/\bX TP t=.func
theorem UO:ay 51/\ay 53/\ay 54/\ay 55/\ay 56/\ay 61/\ay 62/\ay 67/\ay 73/\ay 74/\ay 75/\ay 78/\ay 80/\ay 82/\ay 83/\ay 84/\ay 88/\ay 92/\ay 93/\ay 94/\ay 97/\ay 101/\ay 102/\ay 103/\ay 109/\ay 110/\ay 112/\ay 115/\ay 116/\ay 117:=by and_intros<;>kernel_rfl
theorem Sh:ay 118/\ay 119/\ay 121/\ay 123/\ay 124/\ay 125/\ay 126/\ay 129/\ay 134/\ay 139/\ay 140/\ay 145/\ay 146/\ay 148/\ay 150/\ay 152/\ay 154/\ay 155/\ay 157/\ay 158/\ay 159/\ay 160/\ay 163/\ay 165/\ay 166/\ay 172/\ay 173/\ay 177/\ay 179/\ay 180:=by and_intros<;>kernel_rfl
theorem Sg:ay 181/\ay 182/\ay 183/\ay 187/\ay 189/\ay 190/\ay 191/\ay 193/\ay 196/\ay 197/\ay 198/\ay 200/\ay 203/\ay 205/\ay 209/\ay 210/\ay 211/\ay 214/\ay 217/\ay 220/\ay 221/\ay 222/\ay 226/\ay 228/\ay 232/\ay 234/\ay 237/\ay 238/\ay 239/\ay 240:=by and_intros<;>kernel_rfl
theorem Sf:ay 242/\ay 243/\ay 244/\ay 245/\ay 247/\ay 248/\ay 250/\ay 252/\ay 253/\ay 255/\ay 256/\ay 257/\ay 259/\ay 260/\ay 261/\ay 262/\ay 263/\ay 264/\ay 266/\ay 268/\ay 270/\ay 271/\ay 272/\ay 273/\ay 274/\ay 277/\ay 278/\ay 279/\ay 280/\ay 281:=by and_intros<;>kernel_rfl
theorem Pi:ay 282/\ay 284/\ay 285/\ay 286/\ay 287/\ay 288/\ay 289/\ay 290/\ay 291/\ay 295/\ay 297/\ay 299/\ay 300/\ay 301/\ay 302/\ay 308/\ay 314/\ay 315/\ay 316/\ay 317/\ay 321/\ay 324/\ay 325/\ay 326/\ay 327/\ay 328/\ay 329/\ay 330/\ay 331/\ay 332:=by and_intros<;>kernel_rfl
theorem Ph:ay 333/\ay 334/\ay 335/\ay 336/\ay 337/\ay 338/\ay 339/\ay 340/\ay 341/\ay 342/\ay 343/\ay 344/\ay 357/\ay 367/\ay 375/\ay 380/\ay 405/\ay 411/\ay 412/\ay 415/\ay 421/\ay 426:=by and_intros<;>kernel_rfl
abbrev Pj (t:Nat):Prop:=yB t 1 0/\au TP t=some (.tuple [.nilslice,.int .i64 0])
theorem UN:Pj 52/\Pj 87/\Pj 303:=by and_intros<;>kernel_rfl
theorem Zr:yB 57 1 24/\au TP 57=some (.nilslice)/\bv TP 57=some 3/\bX TP 57=.slice:=by and_intros<;>kernel_rfl
theorem Zq:yA 58 4 80/\au TP 58=some (.agg [.str ⟨#[]⟩,.nilslice,.nilslice,.str ⟨#[]⟩])/\ai TP 58 0=some (0,9)/\ai TP 58 1=some (1,42)/\ai TP 58 2=some (2,57)/\ai TP 58 3=some (3,9)/\aE TP 58=some [(0,1),(1,1),(2,1),(3,1)]/\yA 59 4 80/\au TP 59=some (.agg [.str ⟨#[]⟩,.nilslice,.nilslice,.str ⟨#[]⟩])/\ai TP 59 0=some (0,9)/\ai TP 59 1=some (1,42)/\ai TP 59 2=some (2,57)/\ai TP 59 3=some (3,9)/\aE TP 59=some [(0,1),(1,1),(2,1),(3,1)]:=by and_intros<;>kernel_rfl
theorem Zp:yA 63 4 56/\au TP 63=some (.agg [.str ⟨#[]⟩,.int .i64 0,.int .i64 0,.nilslice])/\ai TP 63 0=some (0,9)/\ai TP 63 1=some (1,3)/\ai TP 63 2=some (2,3)/\ai TP 63 3=some (3,57)/\aE TP 63=some [(0,1),(1,1),(2,1),(3,1)]/\yA 64 4 56/\au TP 64=some (.agg [.str ⟨#[]⟩,.int .i64 0,.int .i64 0,.nilslice])/\ai TP 64 0=some (0,9)/\ai TP 64 1=some (1,3)/\ai TP 64 2=some (2,3)/\ai TP 64 3=some (3,57)/\aE TP 64=some [(0,1),(1,1),(2,1),(3,1)]:=by and_intros<;>kernel_rfl
theorem Zo:yA 65 4 40/\au TP 65=some (.agg [.str ⟨#[]⟩,.int .i64 0,.int .i64 0,.int .i64 0])/\ai TP 65 0=some (0,9)/\ai TP 65 1=some (1,3)/\ai TP 65 2=some (2,3)/\ai TP 65 3=some (3,3)/\aE TP 65=some [(0,1),(1,1),(2,1),(3,1)]/\d6 TP 65=some [.str,.int,.int,.int]/\yA 66 4 40/\au TP 66=some (.agg [.str ⟨#[]⟩,.int .i64 0,.int .i64 0,.int .i64 0])/\ai TP 66 0=some (0,9)/\ai TP 66 1=some (1,3)/\ai TP 66 2=some (2,3)/\ai TP 66 3=some (3,3)/\aE TP 66=some [(0,1),(1,1),(2,1),(3,1)]/\d6 TP 66=some [.str,.int,.int,.int]:=by and_intros<;>kernel_rfl
theorem Zn:yB 68 1 2/\au TP 68=some (.int .u16 0)/\pD TP 68=.int:=by and_intros<;>kernel_rfl
theorem Zm:yA 69 4 8/\au TP 69=some (.agg [.int .u16 0,.int .u16 0,.int .u16 0,.int .u16 0])/\d7 TP 69=some (4,68)/\aE TP 69=none:=by and_intros<;>kernel_rfl
theorem Zl:yB 70 1 24/\au TP 70=some (.nilslice)/\bv TP 70=some 30/\bX TP 70=.slice:=by and_intros<;>kernel_rfl
theorem Zk:yA 71 2 40/\au TP 71=some (.agg [.str ⟨#[]⟩,.nilslice])/\ai TP 71 0=some (0,9)/\ai TP 71 1=some (1,70)/\aE TP 71=some [(0,1),(1,1)]/\yA 72 2 40/\au TP 72=some (.agg [.str ⟨#[]⟩,.nilslice])/\ai TP 72 0=some (0,9)/\ai TP 72 1=some (1,70)/\aE TP 72=some [(0,1),(1,1)]:=by and_intros<;>kernel_rfl
theorem Zj:yA 76 4 56/\au TP 76=some (.agg [.str ⟨#[]⟩,.int .i64 0,.int .i64 0,.nilslice])/\ai TP 76 0=some (0,9)/\ai TP 76 1=some (1,30)/\ai TP 76 2=some (3,57)/\aE TP 76=some [(0,1),(1,2),(3,1)]/\yA 77 4 56/\au TP 77=some (.agg [.str ⟨#[]⟩,.int .i64 0,.int .i64 0,.nilslice])/\ai TP 77 0=some (0,9)/\ai TP 77 1=some (1,30)/\ai TP 77 2=some (3,57)/\aE TP 77=some [(0,1),(1,2),(3,1)]:=by and_intros<;>kernel_rfl
theorem Zi:yB 79 1 24/\au TP 79=some (.nilslice)/\bv TP 79=some 131/\bX TP 79=.slice:=by and_intros<;>kernel_rfl
theorem Zh:yB 81 1 0/\au TP 81=some (.tuple [.nilslice,.int .i64 0,.int .i64 0]):=by and_intros<;>kernel_rfl
theorem Zg:yB 85 1 4/\au TP 85=some (.int .u32 0)/\pD TP 85=.int:=by and_intros<;>kernel_rfl
theorem Zf:yA 86 2 8/\au TP 86=some (.agg [.int .u32 0,.int .u32 0])/\d7 TP 86=some (2,85)/\aE TP 86=none:=by and_intros<;>kernel_rfl
theorem Ze:yA 89 4 40/\au TP 89=some (.agg [.str ⟨#[]⟩,.int .i64 0,.int .i64 0,.int .i64 0])/\ai TP 89 0=some (0,9)/\ai TP 89 1=some (1,30)/\ai TP 89 2=some (3,3)/\aE TP 89=some [(0,1),(1,2),(3,1)]/\d6 TP 89=some [.str,.int,.int,.int]/\yA 90 4 40/\au TP 90=some (.agg [.str ⟨#[]⟩,.int .i64 0,.int .i64 0,.int .i64 0])/\ai TP 90 0=some (0,9)/\ai TP 90 1=some (1,30)/\ai TP 90 2=some (3,3)/\aE TP 90=some [(0,1),(1,2),(3,1)]/\d6 TP 90=some [.str,.int,.int,.int]:=by and_intros<;>kernel_rfl
theorem Zd:yB 96 1 0/\au TP 96=some (.tuple [.nilptr,.nilslice,.nilslice,.int .i64 0]):=by and_intros<;>kernel_rfl
theorem Zc:bZ TP 98=some true/\ce TP 98=some 23/\au TP 98=some (.agg [.nilslice,.nilslice,.nilslice,.nilslice,.int .i64 0,.int .i64 0,.nilslice,.nilslice,.int .i64 0,.nilslice,.nilslice,.nilslice,.int .i64 0,.int .i64 0,.int .i64 0,.int .i64 0,.nilslice,.nilslice,.int .i64 0,.nilslice,.int .i64 0,.int .i64 0,.int .i64 0])/\ai TP 98 0=some (0,48)/\ai TP 98 1=some (6,41)/\gB TP 98=some false/\gD TP 98 23=true/\aE TP 98=some [(0,6),(6,17)]/\oL TP 98=false/\bZ TP 99=some true/\ce TP 99=some 23/\au TP 99=some (.agg [.nilslice,.nilslice,.nilslice,.nilslice,.int .i64 0,.int .i64 0,.nilslice,.nilslice,.int .i64 0,.nilslice,.nilslice,.nilslice,.int .i64 0,.int .i64 0,.int .i64 0,.int .i64 0,.nilslice,.nilslice,.int .i64 0,.nilslice,.int .i64 0,.int .i64 0,.int .i64 0])/\ai TP 99 0=some (0,48)/\ai TP 99 1=some (6,41)/\gB TP 99=some false/\gD TP 99 23=true/\aE TP 99=some [(0,6),(6,17)]/\oL TP 99=false:=by and_intros<;>kernel_rfl
theorem Zb:yB 100 1 0/\au TP 100=some (.tuple [.int .i64 0,.int .i64 0,.int .i64 0]):=by and_intros<;>kernel_rfl
theorem Za:yB 104 1 24/\au TP 104=some (.nilslice)/\bv TP 104=some 162/\bX TP 104=.slice:=by and_intros<;>kernel_rfl
theorem Y9:yA 105 3 40/\au TP 105=some (.agg [.int .i64 0,.int .i64 0,.nilslice])/\ai TP 105 0=some (0,3)/\ai TP 105 1=some (1,3)/\ai TP 105 2=some (2,104)/\aE TP 105=some [(0,1),(1,1),(2,1)]/\yA 106 3 40/\au TP 106=some (.agg [.int .i64 0,.int .i64 0,.nilslice])/\ai TP 106 0=some (0,3)/\ai TP 106 1=some (1,3)/\ai TP 106 2=some (2,104)/\aE TP 106=some [(0,1),(1,1),(2,1)]:=by and_intros<;>kernel_rfl
theorem Y8:yB 111 1 0/\au TP 111=some (.tuple [.str ⟨#[]⟩,.int .i64 0]):=by and_intros<;>kernel_rfl
theorem Y7:yB 120 1 0/\au TP 120=some (.tuple [.nilslice,.nilslice]):=by and_intros<;>kernel_rfl
theorem Y6:yA 127 2 24/\au TP 127=some (.agg [.str ⟨#[]⟩,.int .i64 0])/\ai TP 127 0=some (0,9)/\ai TP 127 1=some (1,3)/\aE TP 127=some [(0,1),(1,1)]/\d6 TP 127=some [.str,.int]/\yA 128 2 24/\au TP 128=some (.agg [.str ⟨#[]⟩,.int .i64 0])/\ai TP 128 0=some (0,9)/\ai TP 128 1=some (1,3)/\aE TP 128=some [(0,1),(1,1)]/\d6 TP 128=some [.str,.int]:=by and_intros<;>kernel_rfl
theorem Y5:yB 133 1 0/\au TP 133=some (.tuple [.nilptr,.int .i64 0])/\yB 151 1 0/\au TP 151=some (.tuple [.nilptr,.int .i64 0]):=by and_intros<;>kernel_rfl
theorem Y4:yA 136 2 16/\au TP 136=some (.agg [.int .i64 0,.int .i64 0])/\ai TP 136 0=some (0,3)/\ai TP 136 1=some (1,3)/\aE TP 136=some [(0,1),(1,1)]/\d6 TP 136=some [.int,.int]/\pD TP 136=.agg [.int,.int]:=by and_intros<;>kernel_rfl
theorem Y3:yB 141 1 24/\au TP 141=some (.nilslice)/\bv TP 141=some 5/\z6 TP 141=true/\bX TP 141=.slice:=by and_intros<;>kernel_rfl
theorem Y2:yA 142 6 56/\au TP 142=some (.agg [.str ⟨#[]⟩,.int .i64 0,.int .i64 0,.int .i64 0,.int .i64 0,.int .i64 0])/\ai TP 142 0=some (0,90)/\ai TP 142 1=some (4,30)/\aE TP 142=some [(0,4),(4,2)]/\d6 TP 142=some [.str,.int,.int,.int,.int,.int]/\yA 143 6 56/\au TP 143=some (.agg [.str ⟨#[]⟩,.int .i64 0,.int .i64 0,.int .i64 0,.int .i64 0,.int .i64 0])/\ai TP 143 0=some (0,90)/\ai TP 143 1=some (4,30)/\aE TP 143=some [(0,4),(4,2)]/\d6 TP 143=some [.str,.int,.int,.int,.int,.int]:=by and_intros<;>kernel_rfl
theorem Y1:yB 147 1 8/\au TP 147=some (.any)/\zS TP 147=some (3,3):=by and_intros<;>kernel_rfl
theorem Y0:yB 149 1 0/\au TP 149=some (.tuple [.int .i64 0,.bool false]):=by and_intros<;>kernel_rfl
theorem YZ:yB 153 1 0/\au TP 153=some (.tuple [.str ⟨#[]⟩,.bool false,.int .i64 0]):=by and_intros<;>kernel_rfl
theorem YY:yA 156 5 40/\au TP 156=some (.agg [.int .i64 0,.int .i64 0,.int .i64 0,.int .i64 0,.int .i64 0])/\d7 TP 156=some (5,49)/\aE TP 156=none:=by and_intros<;>kernel_rfl
theorem YX:yA 169 2 32/\au TP 169=some (.agg [.nilptr,.nilslice])/\ai TP 169 0=some (0,168)/\ai TP 169 1=some (1,141)/\aE TP 169=some [(0,1),(1,1)]:=by and_intros<;>kernel_rfl
theorem YW:bZ TP 170=some true/\ce TP 170=some 2/\l8 TP 170=some 32/\au TP 170=some (.agg [.nilptr,.nilslice])/\ai TP 170 0=some (0,168)/\ai TP 170 1=some (1,141)/\gB TP 170=some false/\gD TP 170 2=true/\aE TP 170=some [(0,1),(1,1)]/\oL TP 170=true/\Ki TP 170=some 5:=by and_intros<;>kernel_rfl
theorem YV:yB 176 1 0/\au TP 176=some (.tuple [.int .i64 0,.niliface])/\yB 346 1 0/\au TP 346=some (.tuple [.int .i64 0,.niliface]):=by and_intros<;>kernel_rfl
theorem YU:yB 178 1 0/\au TP 178=some (.tuple [.str ⟨#[]⟩,.str ⟨#[]⟩,.bool false]):=by and_intros<;>kernel_rfl
theorem YT:yB 184 1 8/\au TP 184=some (.any)/\zS TP 184=some (136,138):=by and_intros<;>kernel_rfl
theorem YS:yA 185 6 80/\au TP 185=some (.agg [.nilslice,.int .i64 0,.int .i64 0,.int .i64 0,.nilslice,.any])/\ai TP 185 0=some (0,39)/\ai TP 185 1=some (4,79)/\ai TP 185 2=some (5,184)/\aE TP 185=some [(0,4),(4,1),(5,1)]/\yA 186 6 80/\au TP 186=some (.agg [.nilslice,.int .i64 0,.int .i64 0,.int .i64 0,.nilslice,.any])/\ai TP 186 0=some (0,39)/\ai TP 186 1=some (4,79)/\ai TP 186 2=some (5,184)/\aE TP 186=some [(0,4),(4,1),(5,1)]:=by and_intros<;>kernel_rfl
theorem YR:yA 202 2 16/\au TP 202=some (.agg [.bool false,.nilfunc])/\ai TP 202 0=some (0,4)/\ai TP 202 1=some (1,117)/\aE TP 202=some [(0,1),(1,1)]:=by and_intros<;>kernel_rfl
theorem YQ:yB 204 1 24/\au TP 204=some (.nilslice)/\bv TP 204=some 20/\bX TP 204=.slice:=by and_intros<;>kernel_rfl
theorem YP:yB 206 1 24/\au TP 206=some (.nilslice)/\bv TP 206=some 224/\bX TP 206=.slice:=by and_intros<;>kernel_rfl
theorem YO:yA 207 7 80/\au TP 207=some (.agg [.str ⟨#[]⟩,.int .i64 0,.int .i64 0,.int .i64 0,.int .i64 0,.int .i64 0,.nilslice])/\ai TP 207 0=some (0,9)/\ai TP 207 1=some (1,3)/\ai TP 207 2=some (2,30)/\ai TP 207 3=some (4,30)/\ai TP 207 4=some (6,206)/\aE TP 207=some [(0,1),(1,1),(2,2),(4,2),(6,1)]/\yA 208 7 80/\au TP 208=some (.agg [.str ⟨#[]⟩,.int .i64 0,.int .i64 0,.int .i64 0,.int .i64 0,.int .i64 0,.nilslice])/\ai TP 208 0=some (0,9)/\ai TP 208 1=some (1,3)/\ai TP 208 2=some (2,30)/\ai TP 208 3=some (4,30)/\ai TP 208 4=some (6,206)/\aE TP 208=some [(0,1),(1,1),(2,2),(4,2),(6,1)]:=by and_intros<;>kernel_rfl
theorem YN:yA 212 4 40/\au TP 212=some (.agg [.str ⟨#[]⟩,.int .i64 0,.int .i64 0,.int .i64 0])/\ai TP 212 0=some (0,9)/\ai TP 212 1=some (1,3)/\ai TP 212 2=some (2,30)/\aE TP 212=some [(0,1),(1,1),(2,2)]/\d6 TP 212=some [.str,.int,.int,.int]/\yA 213 4 40/\au TP 213=some (.agg [.str ⟨#[]⟩,.int .i64 0,.int .i64 0,.int .i64 0])/\ai TP 213 0=some (0,9)/\ai TP 213 1=some (1,3)/\ai TP 213 2=some (2,30)/\aE TP 213=some [(0,1),(1,1),(2,2)]/\d6 TP 213=some [.str,.int,.int,.int]:=by and_intros<;>kernel_rfl
theorem YM:yA 215 8 72/\au TP 215=some (.agg [.str ⟨#[]⟩,.int .i64 0,.int .i64 0,.int .i64 0,.int .i64 0,.int .i64 0,.int .i64 0,.int .i64 0])/\ai TP 215 0=some (0,9)/\ai TP 215 1=some (1,30)/\ai TP 215 2=some (3,30)/\ai TP 215 3=some (5,30)/\ai TP 215 4=some (7,3)/\aE TP 215=some [(0,1),(1,2),(3,2),(5,2),(7,1)]/\d6 TP 215=some [.str,.int,.int,.int,.int,.int,.int,.int]/\yA 216 8 72/\au TP 216=some (.agg [.str ⟨#[]⟩,.int .i64 0,.int .i64 0,.int .i64 0,.int .i64 0,.int .i64 0,.int .i64 0,.int .i64 0])/\ai TP 216 0=some (0,9)/\ai TP 216 1=some (1,30)/\ai TP 216 2=some (3,30)/\ai TP 216 3=some (5,30)/\ai TP 216 4=some (7,3)/\aE TP 216=some [(0,1),(1,2),(3,2),(5,2),(7,1)]/\d6 TP 216=some [.str,.int,.int,.int,.int,.int,.int,.int]:=by and_intros<;>kernel_rfl
theorem YL:yA 218 5 48/\au TP 218=some (.agg [.str ⟨#[]⟩,.int .i64 0,.int .i64 0,.int .i64 0,.int .i64 0])/\ai TP 218 0=some (0,9)/\ai TP 218 1=some (1,30)/\ai TP 218 2=some (3,30)/\aE TP 218=some [(0,1),(1,2),(3,2)]/\d6 TP 218=some [.str,.int,.int,.int,.int]/\yA 219 5 48/\au TP 219=some (.agg [.str ⟨#[]⟩,.int .i64 0,.int .i64 0,.int .i64 0,.int .i64 0])/\ai TP 219 0=some (0,9)/\ai TP 219 1=some (1,30)/\ai TP 219 2=some (3,30)/\aE TP 219=some [(0,1),(1,2),(3,2)]/\d6 TP 219=some [.str,.int,.int,.int,.int]:=by and_intros<;>kernel_rfl
theorem YK:yB 241 1 0/\au TP 241=some (.tuple [.str ⟨#[]⟩,.bool false]):=by and_intros<;>kernel_rfl
theorem YJ:yB 246 1 0/\au TP 246=some (.tuple [.int .i64 0,.int .i64 0]):=by and_intros<;>kernel_rfl
theorem YI:yA 249 4 32/\au TP 249=some (.agg [.int .i64 0,.int .i64 0,.int .i64 0,.int .i64 0])/\d7 TP 249=some (4,3)/\aE TP 249=none/\yA 444 4 32/\au TP 444=some (.agg [.int .i64 0,.int .i64 0,.int .i64 0,.int .i64 0])/\d7 TP 444=some (4,3)/\aE TP 444=none:=by and_intros<;>kernel_rfl
theorem YH:yA 251 3 24/\au TP 251=some (.agg [.int .i64 0,.int .i64 0,.int .i64 0])/\d7 TP 251=some (3,3)/\aE TP 251=none:=by and_intros<;>kernel_rfl
theorem YG:yB 258 1 0/\au TP 258=some (.tuple [.int .i32 0,.int .i64 0]):=by and_intros<;>kernel_rfl
theorem YF:yA 275 2 32/\au TP 275=some (.agg [.nilslice,.int .i64 0])/\ai TP 275 0=some (0,206)/\ai TP 275 1=some (1,3)/\aE TP 275=some [(0,1),(1,1)]/\yA 276 2 32/\au TP 276=some (.agg [.nilslice,.int .i64 0])/\ai TP 276 0=some (0,206)/\ai TP 276 1=some (1,3)/\aE TP 276=some [(0,1),(1,1)]:=by and_intros<;>kernel_rfl
theorem YE:yA 310 5 40/\au TP 310=some (.agg [.int .i64 0,.int .i64 0,.int .i64 0,.int .i64 0,.int .i64 0])/\ai TP 310 0=some (0,3)/\ai TP 310 1=some (1,3)/\ai TP 310 2=some (2,3)/\ai TP 310 3=some (3,30)/\aE TP 310=some [(0,1),(1,1),(2,1),(3,2)]/\d6 TP 310=some [.int,.int,.int,.int,.int]/\yA 311 5 40/\au TP 311=some (.agg [.int .i64 0,.int .i64 0,.int .i64 0,.int .i64 0,.int .i64 0])/\ai TP 311 0=some (0,3)/\ai TP 311 1=some (1,3)/\ai TP 311 2=some (2,3)/\ai TP 311 3=some (3,30)/\aE TP 311=some [(0,1),(1,1),(2,1),(3,2)]/\d6 TP 311=some [.int,.int,.int,.int,.int]:=by and_intros<;>kernel_rfl
theorem YD:yA 312 5 56/\au TP 312=some (.agg [.nilslice,.int .i64 0,.int .i64 0,.int .i64 0,.int .i64 0])/\ai TP 312 0=some (0,70)/\ai TP 312 1=some (1,30)/\ai TP 312 2=some (3,30)/\aE TP 312=some [(0,1),(1,2),(3,2)]/\yA 313 5 56/\au TP 313=some (.agg [.nilslice,.int .i64 0,.int .i64 0,.int .i64 0,.int .i64 0])/\ai TP 313 0=some (0,70)/\ai TP 313 1=some (1,30)/\ai TP 313 2=some (3,30)/\aE TP 313=some [(0,1),(1,2),(3,2)]:=by and_intros<;>kernel_rfl
theorem YC:yA 319 24 24/\au TP 319=some (.agg [.int .u8 0,.int .u8 0,.int .u8 0,.int .u8 0,.int .u8 0,.int .u8 0,.int .u8 0,.int .u8 0,.int .u8 0,.int .u8 0,.int .u8 0,.int .u8 0,.int .u8 0,.int .u8 0,.int .u8 0,.int .u8 0,.int .u8 0,.int .u8 0,.int .u8 0,.int .u8 0,.int .u8 0,.int .u8 0,.int .u8 0,.int .u8 0])/\d7 TP 319=some (24,5)/\aE TP 319=none:=by and_intros<;>kernel_rfl
theorem YB:yA 360 4 32/\au TP 360=some (.agg [.int .i64 0,.int .i64 0,.int .i64 0,.int .i64 0])/\ai TP 360 0=some (0,3)/\ai TP 360 1=some (1,3)/\ai TP 360 2=some (2,30)/\aE TP 360=some [(0,1),(1,1),(2,2)]/\d6 TP 360=some [.int,.int,.int,.int]:=by and_intros<;>kernel_rfl
theorem YA:yA 370 19 192/\au TP 370=some (.agg [.nilslice,.nilslice,.int .i64 0,.int .i64 0,.int .i64 0,.int .i64 0,.int .i64 0,.int .i64 0,.int .i64 0,.int .i64 0,.int .i64 0,.str ⟨#[]⟩,.int .i64 0,.int .i64 0,.int .i64 0,.int .i64 0,.int .i64 0,.int .i64 0,.int .i64 0])/\ai TP 370 0=some (0,32)/\ai TP 370 1=some (6,311)/\ai TP 370 2=some (11,216)/\aE TP 370=some [(0,6),(6,5),(11,8)]:=by and_intros<;>kernel_rfl
theorem Yz:yB 378 1 24/\au TP 378=some (.nilslice)/\bv TP 378=some 382/\bX TP 378=.slice:=by and_intros<;>kernel_rfl
theorem Yy:yA 382 8 88/\au TP 382=some (.agg [.str ⟨#[]⟩,.int .i64 0,.int .i64 0,.int .i64 0,.int .i64 0,.int .i64 0,.nilslice,.int .i64 0])/\ai TP 382 0=some (0,208)/\ai TP 382 1=some (7,3)/\aE TP 382=some [(0,7),(7,1)]:=by and_intros<;>kernel_rfl
theorem Yx:yA 388 20 160/\au TP 388=some (.agg [.int .u64 0,.int .u64 0,.int .u64 0,.int .u64 0,.int .u64 0,.int .u64 0,.int .u64 0,.int .u64 0,.int .u64 0,.int .u64 0,.int .u64 0,.int .u64 0,.int .u64 0,.int .u64 0,.int .u64 0,.int .u64 0,.int .u64 0,.int .u64 0,.int .u64 0,.int .u64 0])/\d7 TP 388=some (20,320)/\aE TP 388=none:=by and_intros<;>kernel_rfl
theorem Yw:yA 389 65 65/\au TP 389=some (.agg [.int .u8 0,.int .u8 0,.int .u8 0,.int .u8 0,.int .u8 0,.int .u8 0,.int .u8 0,.int .u8 0,.int .u8 0,.int .u8 0,.int .u8 0,.int .u8 0,.int .u8 0,.int .u8 0,.int .u8 0,.int .u8 0,.int .u8 0,.int .u8 0,.int .u8 0,.int .u8 0,.int .u8 0,.int .u8 0,.int .u8 0,.int .u8 0,.int .u8 0,.int .u8 0,.int .u8 0,.int .u8 0,.int .u8 0,.int .u8 0,.int .u8 0,.int .u8 0,.int .u8 0,.int .u8 0,.int .u8 0,.int .u8 0,.int .u8 0,.int .u8 0,.int .u8 0,.int .u8 0,.int .u8 0,.int .u8 0,.int .u8 0,.int .u8 0,.int .u8 0,.int .u8 0,.int .u8 0,.int .u8 0,.int .u8 0,.int .u8 0,.int .u8 0,.int .u8 0,.int .u8 0,.int .u8 0,.int .u8 0,.int .u8 0,.int .u8 0,.int .u8 0,.int .u8 0,.int .u8 0,.int .u8 0,.int .u8 0,.int .u8 0,.int .u8 0,.int .u8 0])/\d7 TP 389=some (65,5)/\aE TP 389=none:=by and_intros<;>kernel_rfl
theorem Yv:yA 401 3 48/\au TP 401=some (.agg [.str ⟨#[]⟩,.str ⟨#[]⟩,.niliface])/\ai TP 401 0=some (0,9)/\ai TP 401 1=some (1,9)/\ai TP 401 2=some (2,175)/\aE TP 401=some [(0,1),(1,1),(2,1)]:=by and_intros<;>kernel_rfl
theorem Yu:yA 404 4 80/\au TP 404=some (.agg [.nilslice,.nilslice,.int .i64 0,.nilslice])/\ai TP 404 0=some (0,25)/\ai TP 404 1=some (3,57)/\aE TP 404=some [(0,3),(3,1)]:=by and_intros<;>kernel_rfl
theorem Yt:yA 420 1 16/\au TP 420=some (.agg [.str ⟨#[]⟩])/\ai TP 420 0=some (0,9)/\aE TP 420=some [(0,1)]/\d6 TP 420=some [.str]:=by and_intros<;>kernel_rfl
theorem Ys:yA 425 3 24/\au TP 425=some (.agg [.int .i64 0,.int .i64 0,.int .i64 0])/\ai TP 425 0=some (0,3)/\ai TP 425 1=some (1,3)/\ai TP 425 2=some (2,3)/\aE TP 425=some [(0,1),(1,1),(2,1)]/\d6 TP 425=some [.int,.int,.int]:=by and_intros<;>kernel_rfl
theorem Yr:yA 428 2 16/\au TP 428=some (.agg [.int .i64 0,.nilfunc])/\ai TP 428 0=some (0,3)/\ai TP 428 1=some (1,426)/\aE TP 428=some [(0,1),(1,1)]:=by and_intros<;>kernel_rfl
theorem Yq:yB 429 1 24/\au TP 429=some (.nilslice)/\bv TP 429=some 428/\bX TP 429=.slice:=by and_intros<;>kernel_rfl
theorem Yp:yA 434 32 32/\au TP 434=some (.agg [.int .u8 0,.int .u8 0,.int .u8 0,.int .u8 0,.int .u8 0,.int .u8 0,.int .u8 0,.int .u8 0,.int .u8 0,.int .u8 0,.int .u8 0,.int .u8 0,.int .u8 0,.int .u8 0,.int .u8 0,.int .u8 0,.int .u8 0,.int .u8 0,.int .u8 0,.int .u8 0,.int .u8 0,.int .u8 0,.int .u8 0,.int .u8 0,.int .u8 0,.int .u8 0,.int .u8 0,.int .u8 0,.int .u8 0,.int .u8 0,.int .u8 0,.int .u8 0])/\d7 TP 434=some (32,5)/\aE TP 434=none:=by and_intros<;>kernel_rfl
theorem W7:yA 435 64 64/\au TP 435=some (.agg [.int .u8 0,.int .u8 0,.int .u8 0,.int .u8 0,.int .u8 0,.int .u8 0,.int .u8 0,.int .u8 0,.int .u8 0,.int .u8 0,.int .u8 0,.int .u8 0,.int .u8 0,.int .u8 0,.int .u8 0,.int .u8 0,.int .u8 0,.int .u8 0,.int .u8 0,.int .u8 0,.int .u8 0,.int .u8 0,.int .u8 0,.int .u8 0,.int .u8 0,.int .u8 0,.int .u8 0,.int .u8 0,.int .u8 0,.int .u8 0,.int .u8 0,.int .u8 0,.int .u8 0,.int .u8 0,.int .u8 0,.int .u8 0,.int .u8 0,.int .u8 0,.int .u8 0,.int .u8 0,.int .u8 0,.int .u8 0,.int .u8 0,.int .u8 0,.int .u8 0,.int .u8 0,.int .u8 0,.int .u8 0,.int .u8 0,.int .u8 0,.int .u8 0,.int .u8 0,.int .u8 0,.int .u8 0,.int .u8 0,.int .u8 0,.int .u8 0,.int .u8 0,.int .u8 0,.int .u8 0,.int .u8 0,.int .u8 0,.int .u8 0,.int .u8 0])/\d7 TP 435=some (64,5)/\aE TP 435=none:=by and_intros<;>kernel_rfl
theorem W6:yB 436 1 24/\au TP 436=some (.nilslice)/\bv TP 436=some 421/\bX TP 436=.slice:=by and_intros<;>kernel_rfl
theorem W5:yA 438 6 48/\au TP 438=some (.agg [.int .i64 0,.int .i64 0,.int .i64 0,.int .i64 0,.int .i64 0,.int .i64 0])/\ai TP 438 0=some (0,3)/\ai TP 438 1=some (1,3)/\ai TP 438 2=some (2,3)/\ai TP 438 3=some (3,3)/\ai TP 438 4=some (4,3)/\ai TP 438 5=some (5,3)/\aE TP 438=some [(0,1),(1,1),(2,1),(3,1),(4,1),(5,1)]/\d6 TP 438=some [.int,.int,.int,.int,.int,.int]:=by and_intros<;>kernel_rfl
theorem W4:yA 442 5 40/\au TP 442=some (.agg [.int .i64 0,.int .i64 0,.int .i64 0,.int .i64 0,.int .i64 0])/\d7 TP 442=some (5,3)/\aE TP 442=none:=by and_intros<;>kernel_rfl
theorem W3:yA 443 5 40/\au TP 443=some (.agg [.nilfunc,.nilfunc,.nilfunc,.nilfunc,.nilfunc])/\d7 TP 443=some (5,380)/\aE TP 443=none:=by and_intros<;>kernel_rfl
attribute [go_sem] W8 yT1 yT2 Z' W2 W1 Z9 W0 Z8 Z7 UR ZL ZK ZJ ZI ZH ZG ZF UQ ZE ZD ZC ZB ZA Zz Zy Zx Zw Zv Zu Zt Zs UP UO Sh Sg Sf Pi Ph UN Zr Zq Zp Zo Zn Zm Zl Zk Zj Zi Zh Zg Zf Ze Zd Zc Zb Za Y9 Y8 Y7 Y6 Y5 Y4 Y3 Y2 Y1 Y0 YZ YY YX YW YV YU YT YS YR YQ YP YO YN YM YL YK YJ YI YH YG YF YE YD YC YB YA Yz Yy Yx Yw Yv Yu Yt Ys Yr Yq Yp W7 W6 W5 W4 W3
theorem VV:dT TP 68 3=some .i64:=by kernel_rfl
theorem VU:dT TP 85 3=some .i64:=by kernel_rfl
theorem XQ:dT TP 3 5=some .u8:=by kernel_rfl
theorem XP:dT TP 5 3=some .i64:=by kernel_rfl
theorem Tp:dT TP 2 320=some .u64:=by kernel_rfl
theorem VX:dT TP 5 21=some .i32:=by kernel_rfl
theorem Tl:dT TP 3 318=some .u64:=by kernel_rfl
theorem To:dT TP 318 3=some .i64:=by kernel_rfl
theorem VW:dT TP 5 85=some .u32:=by kernel_rfl
theorem QG:dT TP 320 85=some .u32:=by kernel_rfl
theorem VT:dT TP 85 5=some .u8:=by kernel_rfl
theorem Tk:dT TP 3 320=some .u64:=by kernel_rfl
theorem Tn:dT TP 320 2=some .i64:=by kernel_rfl
theorem QH:dT TP 318 85=some .u32:=by kernel_rfl
theorem QF:dT TP 85 318=some .u64:=by kernel_rfl
theorem Tm:dT TP 320 5=some .u8:=by kernel_rfl
theorem Tj:dT TP 5 320=some .u64:=by kernel_rfl
theorem QE:dT TP 85 320=some .u64:=by kernel_rfl
attribute [go_sem] VV VU XQ XP Tp VX
attribute [go_sem] Tl To VW QG VT Tk Tn QH QF Tm Tj QE
theorem bI:ea TP:=Tf (by kernel_rfl)
def H5:Hints:=ec [(186,.app 182),(187,.low),(188,.low),(189,.low),(190,.low),(191,.low),(192,.low),(98,.low),(1013097,.sto)]
theorem ok5:cC H5 Tryz.f5=true:=by kernel_rfl
def H6:Hints:=ec [(90,.low),(1012089,.sto)]
theorem ok6:cC H6 Tryz.f6=true:=by kernel_rfl
def Kx:Hints:=ec [(66,.low),(67,.low),(68,.low),(69,.low),(70,.low),(6,.slot 1 4),(7,.slot 0 4),(71,.low),(1006070,.sto),(72,.low),(73,.low),(74,.low),(75,.low)]
theorem ZZ:cC Kx Tryz.f10=true:=by kernel_rfl
def Kw:Hints:=ec [(70,.low),(1009069,.sto)]
theorem PW:cC Kw Tryz.f12=true:=by kernel_rfl
def Kv:Hints:=ec [(31,.low),(1012030,.sto),(32,.low),(33,.low),(34,.low),(35,.low),(36,.low)]
theorem ZY:cC Kv Tryz.f15=true:=by kernel_rfl
theorem ZX:cC H0 Tryz.f32=true:=by kernel_rfl
def Yo:Hints:=ec [(13,.low),(14,.low),(15,.low),(16,.low),(17,.low),(18,.low),(19,.low),(20,.low),(21,.low),(11,.slot 1 2),(12,.slot 0 2),(22,.low),(1011021,.sto),(23,.low),(24,.low),(25,.low),(26,.low),(27,.low),(28,.low),(29,.low),(30,.low)]
theorem ZW:cC Yo Tryz.f42=true:=by kernel_rfl
theorem ZV:cC H0 Tryz.f65=true:=by kernel_rfl
theorem ZU:cC H0 Tryz.f68=true:=by kernel_rfl
def Yn:Hints:=ec [(6,.low),(1000999,.sto),(7,.low)]
theorem Vg:cC Yn Tryz.f74=true:=by kernel_rfl
def Ym:Hints:=ec [(16,.thr)]
theorem ZT:cC Ym Tryz.f78=true:=by kernel_rfl
def H8:Hints:=ec [(23,.low),(1005022,.sto)]
theorem ZS:cC H8 Tryz.f79=true:=by kernel_rfl
def Yl:Hints:=ec [(28,.low),(1002024,.sto)]
theorem ZR:cC Yl Tryz.f83=true:=by kernel_rfl
def WS:Hints:=ec [(36,.low),(1002035,.nop)]
theorem ZQ:cC WS Tryz.f90=true:=by kernel_rfl
def Yk:Hints:=ec [(7,.low),(1000999,.sto),(8,.low),(1001999,.sto)]
theorem Vf:cC Yk Tryz.f92=true:=by kernel_rfl
theorem ZP:cC H0 Tryz.f94=true:=by kernel_rfl
theorem Xt:cC H0 Tryz.f140=true:=by kernel_rfl
theorem Xs:cC H0 Tryz.f163=true:=by kernel_rfl
theorem Xr:cC H0 Tryz.f165=true:=by kernel_rfl
theorem Xq:cC H0 Tryz.f166=true:=by kernel_rfl
def ye:Hints:=ec [(19,.low),(1004018,.nop),(62,.thr),(64,.thr)]
theorem Xp:cC ye Tryz.f197=true:=by kernel_rfl
def WY:Hints:=ec [(36,.low),(1004035,.nop)]
theorem Xo:cC WY Tryz.f225=true:=by kernel_rfl
def RC:Hints:=ec [(7,.low),(1000006,.sto),(8,.low)]
theorem Lk:cC RC Tryz.f255=true:=by kernel_rfl
def WX:Hints:=ec [(22,.bar),(39,.bar)]
theorem Xn:cC WX Tryz.f261=true:=by kernel_rfl
def WW:Hints:=ec [(34,.low),(35,.low),(36,.low),(37,.low),(38,.low),(39,.low),(40,.low),(41,.low),(42,.low),(43,.low),(44,.low),(45,.low),(14,.slot 2 2),(15,.slot 1 2),(16,.slot 0 1),(46,.low),(1014045,.sto),(47,.low),(48,.low),(49,.low),(50,.low),(51,.low),(52,.low),(53,.low),(54,.low),(55,.low),(56,.low),(57,.low),(58,.low),(59,.low),(60,.low),(61,.low),(62,.low),(63,.low),(64,.low),(65,.low),(66,.low),(1015057,.sto)]
theorem Xm:cC WW Tryz.f308=true:=by kernel_rfl
def WV:Hints:=ec [(29,.low),(1002028,.sto),(30,.low),(31,.low),(32,.low),(33,.low)]
theorem Xl:cC WV Tryz.f333=true:=by kernel_rfl
def WU:Hints:=ec [(67,.low),(1004066,.nop),(9,.low),(10,.low),(11,.low),(12,.low),(13,.low),(14,.low),(15,.low),(16,.low),(17,.low),(6,.slot 1 2),(7,.slot 0 8),(18,.low),(1006017,.sto),(19,.low),(20,.low),(21,.low),(22,.low),(23,.low),(24,.low),(25,.low),(26,.low),(1007021,.sto)]
theorem Xk:cC WU Tryz.f335=true:=by kernel_rfl
def WT:Hints:=ec [(36,.low),(37,.low),(38,.low),(39,.low),(40,.low),(41,.low),(4,.slot 1 2),(5,.slot 0 2),(42,.low),(1004041,.sto),(43,.low),(44,.low),(45,.low),(46,.low)]
theorem Xj:cC WT Tryz.f343=true:=by kernel_rfl
end Abs
end Go.Proofs.YtoapoaoelpcniaaGreatDoor
