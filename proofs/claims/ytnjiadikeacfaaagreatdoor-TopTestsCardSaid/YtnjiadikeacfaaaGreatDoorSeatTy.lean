/- FACTS OF THE PROGRAM'S TYPES AND CODE, printed by program. No conditions. -/
import Derived.Test.YtnjiadikeacfaaaGreatDoorAbsEval
import Derived.Test.YtnjiadikeacfaaaGreatDoorProg
import Derived.KernelRfl
set_option linter.all false
open Go.Proofs.Tryz renaming prog->TP
namespace Go.Proofs.YtnjiadikeacfaaaGreatDoor
namespace Abs
abbrev yA (t n b:Nat):Prop:=b6 TP t=some true/\b8 TP t=some n/\ld TP t=some b/\fZ TP t=some false/\f8 TP t n=true/\nt TP t=false
abbrev yB (t n b:Nat):Prop:=b6 TP t=some false/\b8 TP t=some n/\ld TP t=some b/\fZ TP t=some false/\f8 TP t n=true/\nt TP t=false
abbrev PF (t:Nat):Prop:=yB t 1 8/\an TP t=some (.int .i64 0)/\pC TP t=.int
theorem U4:PF 2/\PF 3/\PF 44/\PF 286:=by and_intros<;>kernel_rfl
theorem Yg:yB 4 1 1/\an TP 4=some (.bool false)/\bS TP 4=.bool:=by and_intros<;>kernel_rfl
theorem Yf:yB 5 1 1/\an TP 5=some (.int .u8 0)/\pC TP 5=.int/\yB 6 1 1/\an TP 6=some (.int .u8 0)/\pC TP 6=.int:=by and_intros<;>kernel_rfl
theorem Ye:yA 7 4 24/\an TP 7=some (.agg [.int .i64 0,.int .i64 0,.bool false,.int .u8 0])/\ai TP 7 0=some (0,2)/\ai TP 7 1=some (1,3)/\ai TP 7 2=some (2,4)/\ai TP 7 3=some (3,6)/\aC TP 7=some [(0,1),(1,1),(2,1),(3,1)]/\dG TP 7=some [.int,.int,.bool,.int]/\yA 8 4 24/\an TP 8=some (.agg [.int .i64 0,.int .i64 0,.bool false,.int .u8 0])/\ai TP 8 0=some (0,2)/\ai TP 8 1=some (1,3)/\ai TP 8 2=some (2,4)/\ai TP 8 3=some (3,6)/\aC TP 8=some [(0,1),(1,1),(2,1),(3,1)]/\dG TP 8=some [.int,.int,.bool,.int]:=by and_intros<;>kernel_rfl
abbrev SP (t:Nat):Prop:=yB t 1 16/\an TP t=some (.str ⟨#[]⟩)/\eG TP t=true/\pC TP t=.str
theorem U3:SP 9/\SP 10/\SP 11:=by and_intros<;>kernel_rfl
abbrev SO (t:Nat):Prop:=yB t 1 8/\an TP t=some (.int .u64 0)/\pC TP t=.int
theorem U2:SO 12/\SO 285/\SO 293:=by and_intros<;>kernel_rfl
theorem Yd:yA 13 2 24/\an TP 13=some (.agg [.str ⟨#[]⟩,.int .u64 0])/\ai TP 13 0=some (0,9)/\ai TP 13 1=some (1,12)/\aC TP 13=some [(0,1),(1,1)]/\yA 14 2 24/\an TP 14=some (.agg [.str ⟨#[]⟩,.int .u64 0])/\ai TP 14 0=some (0,9)/\ai TP 14 1=some (1,12)/\aC TP 14=some [(0,1),(1,1)]:=by and_intros<;>kernel_rfl
abbrev uU (t:Nat):Prop:=yB t 1 8/\an TP t=some (.nilptr)/\bS TP t=.ptr
theorem U1:uU 15/\uU 17/\uU 104/\uU 107/\uU 191/\uU 289/\uU 312/\uU 326/\uU 370/\uU 389/\uU 395:=by and_intros<;>kernel_rfl
theorem Yc:yB 16 1 8/\an TP 16=some (.nilptr)/\yB 213 1 8/\an TP 213=some (.nilptr):=by and_intros<;>kernel_rfl
theorem Yb:yA 18 1 8/\an TP 18=some (.agg [.nilptr])/\ai TP 18 0=some (0,17)/\aC TP 18=some [(0,1)]/\yA 19 1 8/\an TP 19=some (.agg [.nilptr])/\ai TP 19 0=some (0,17)/\aC TP 19=some [(0,1)]:=by and_intros<;>kernel_rfl
abbrev Nq (t:Nat):Prop:=b6 TP t=some false/\b8 TP t=some 1/\ld TP t=some 16/\an TP t=some (.niliface)/\fZ TP t=some true/\f8 TP t 1=true/\bS TP t=.iface/\nt TP t=false
theorem SN:Nq 20/\Nq 113/\Nq 114:=by and_intros<;>kernel_rfl
theorem XQ:yB 21 1 4/\an TP 21=some (.int .i32 0)/\pC TP 21=.int:=by and_intros<;>kernel_rfl
theorem XP:yB 22 1 24/\an TP 22=some (.nilslice)/\bu TP 22=some 133/\bS TP 22=.slice:=by and_intros<;>kernel_rfl
theorem XO:yB 23 1 24/\an TP 23=some (.nilslice)/\bu TP 23=some 136/\bS TP 23=.slice:=by and_intros<;>kernel_rfl
theorem XN:yA 24 3 56/\an TP 24=some (.agg [.nilslice,.nilslice,.int .i64 0])/\ai TP 24 0=some (0,22)/\ai TP 24 1=some (1,23)/\ai TP 24 2=some (2,3)/\aC TP 24=some [(0,1),(1,1),(2,1)]/\yA 25 3 56/\an TP 25=some (.agg [.nilslice,.nilslice,.int .i64 0])/\ai TP 25 0=some (0,22)/\ai TP 25 1=some (1,23)/\ai TP 25 2=some (2,3)/\aC TP 25=some [(0,1),(1,1),(2,1)]:=by and_intros<;>kernel_rfl
theorem XM:yB 26 1 24/\an TP 26=some (.nilslice)/\bu TP 26=some 140/\bS TP 26=.slice:=by and_intros<;>kernel_rfl
theorem XL:yB 27 1 24/\an TP 27=some (.nilslice)/\bu TP 27=some 145/\bS TP 27=.slice:=by and_intros<;>kernel_rfl
theorem XK:yB 28 1 24/\an TP 28=some (.nilslice)/\bu TP 28=some 148/\bS TP 28=.slice:=by and_intros<;>kernel_rfl
abbrev pu (t:Nat):Prop:=yA t 2 16/\an TP t=some (.agg [.int .i64 0,.int .i64 0])/\ai TP t 0=some (0,3)/\ai TP t 1=some (1,3)/\aC TP t=some [(0,1),(1,1)]/\dG TP t=some [.int,.int]
theorem SM:pu 29/\pu 30/\pu 85/\pu 86/\pu 156/\pu 157/\pu 164/\pu 195/\pu 196/\pu 322/\pu 323/\pu 376:=by and_intros<;>kernel_rfl
theorem XJ:yA 31 6 80/\an TP 31=some (.agg [.nilslice,.nilslice,.int .i64 0,.int .i64 0,.int .i64 0,.int .i64 0])/\ai TP 31 0=some (0,27)/\ai TP 31 1=some (1,28)/\ai TP 31 2=some (2,30)/\ai TP 31 3=some (4,30)/\aC TP 31=some [(0,1),(1,1),(2,2),(4,2)]/\yA 32 6 80/\an TP 32=some (.agg [.nilslice,.nilslice,.int .i64 0,.int .i64 0,.int .i64 0,.int .i64 0])/\ai TP 32 0=some (0,27)/\ai TP 32 1=some (1,28)/\ai TP 32 2=some (2,30)/\ai TP 32 3=some (4,30)/\aC TP 32=some [(0,1),(1,1),(2,2),(4,2)]:=by and_intros<;>kernel_rfl
theorem XI:yB 33 1 24/\an TP 33=some (.nilslice)/\bu TP 33=some 124/\bS TP 33=.slice:=by and_intros<;>kernel_rfl
theorem XH:yB 34 1 24/\an TP 34=some (.nilslice)/\bu TP 34=some 151/\bS TP 34=.slice:=by and_intros<;>kernel_rfl
theorem XG:yA 35 3 56/\an TP 35=some (.agg [.nilslice,.nilslice,.int .i64 0])/\ai TP 35 0=some (0,33)/\ai TP 35 1=some (1,34)/\ai TP 35 2=some (2,3)/\aC TP 35=some [(0,1),(1,1),(2,1)]/\yA 36 3 56/\an TP 36=some (.agg [.nilslice,.nilslice,.int .i64 0])/\ai TP 36 0=some (0,33)/\ai TP 36 1=some (1,34)/\ai TP 36 2=some (2,3)/\aC TP 36=some [(0,1),(1,1),(2,1)]:=by and_intros<;>kernel_rfl
theorem XF:yB 37 1 24/\an TP 37=some (.nilslice)/\bu TP 37=some 154/\bS TP 37=.slice:=by and_intros<;>kernel_rfl
theorem XE:yA 38 4 48/\an TP 38=some (.agg [.nilslice,.int .i64 0,.int .i64 0,.int .i64 0])/\ai TP 38 0=some (0,37)/\ai TP 38 1=some (1,30)/\ai TP 38 2=some (3,3)/\aC TP 38=some [(0,1),(1,2),(3,1)]/\yA 39 4 48/\an TP 39=some (.agg [.nilslice,.int .i64 0,.int .i64 0,.int .i64 0])/\ai TP 39 0=some (0,37)/\ai TP 39 1=some (1,30)/\ai TP 39 2=some (3,3)/\aC TP 39=some [(0,1),(1,2),(3,1)]:=by and_intros<;>kernel_rfl
theorem XD:b6 TP 40=some true/\b8 TP 40=some 17/\an TP 40=some (.agg [.nilslice,.nilslice,.int .i64 0,.nilslice,.nilslice,.nilslice,.int .i64 0,.int .i64 0,.int .i64 0,.int .i64 0,.nilslice,.nilslice,.int .i64 0,.nilslice,.int .i64 0,.int .i64 0,.int .i64 0])/\ai TP 40 0=some (0,25)/\ai TP 40 1=some (3,26)/\ai TP 40 2=some (4,32)/\ai TP 40 3=some (10,36)/\ai TP 40 4=some (13,39)/\fZ TP 40=some false/\f8 TP 40 17=true/\aC TP 40=some [(0,3),(3,1),(4,6),(10,3),(13,4)]/\nt TP 40=false/\b6 TP 41=some true/\b8 TP 41=some 17/\an TP 41=some (.agg [.nilslice,.nilslice,.int .i64 0,.nilslice,.nilslice,.nilslice,.int .i64 0,.int .i64 0,.int .i64 0,.int .i64 0,.nilslice,.nilslice,.int .i64 0,.nilslice,.int .i64 0,.int .i64 0,.int .i64 0])/\ai TP 41 0=some (0,25)/\ai TP 41 1=some (3,26)/\ai TP 41 2=some (4,32)/\ai TP 41 3=some (10,36)/\ai TP 41 4=some (13,39)/\fZ TP 41=some false/\f8 TP 41 17=true/\aC TP 41=some [(0,3),(3,1),(4,6),(10,3),(13,4)]/\nt TP 41=false:=by and_intros<;>kernel_rfl
theorem XC:yB 42 1 24/\an TP 42=some (.nilslice)/\bu TP 42=some 54/\bS TP 42=.slice:=by and_intros<;>kernel_rfl
theorem XB:yB 43 1 24/\an TP 43=some (.nilslice)/\bu TP 43=some 5/\yC TP 43=true/\bS TP 43=.slice:=by and_intros<;>kernel_rfl
theorem XA:yB 45 1 0/\an TP 45=some (.tuple [.int .i64 0,.int .i64 0,.int .i64 0]):=by and_intros<;>kernel_rfl
abbrev aq (t:Nat):Prop:=yB t 1 8/\an TP t=some (.nilfunc)/\bS TP t=.func
theorem SL:aq 46/\aq 47/\aq 48/\aq 51/\aq 55/\aq 62/\aq 64/\aq 66/\aq 67/\aq 69/\aq 70/\aq 71/\aq 72/\aq 73/\aq 74/\aq 76/\aq 77/\aq 78/\aq 81/\aq 82/\aq 83/\aq 84/\aq 88/\aq 89/\aq 90/\aq 91/\aq 92/\aq 94/\aq 95/\aq 96:=by and_intros<;>kernel_rfl
theorem Qh:aq 97/\aq 98/\aq 101/\aq 102/\aq 103/\aq 106/\aq 110/\aq 111/\aq 112/\aq 116/\aq 120/\aq 122/\aq 128/\aq 129/\aq 130/\aq 131/\aq 137/\aq 141/\aq 142/\aq 143/\aq 146/\aq 149/\aq 152/\aq 155/\aq 159/\aq 162/\aq 166/\aq 167/\aq 168/\aq 173:=by and_intros<;>kernel_rfl
theorem Qg:aq 174/\aq 175/\aq 176/\aq 177/\aq 178/\aq 179/\aq 180/\aq 181/\aq 182/\aq 183/\aq 184/\aq 185/\aq 186/\aq 189/\aq 190/\aq 194/\aq 197/\aq 198/\aq 199/\aq 200/\aq 201/\aq 202/\aq 203/\aq 204/\aq 205/\aq 206/\aq 207/\aq 208/\aq 209/\aq 210:=by and_intros<;>kernel_rfl
theorem Qf:aq 212/\aq 214/\aq 215/\aq 227/\aq 233/\aq 234/\aq 235/\aq 236/\aq 237/\aq 238/\aq 239/\aq 240/\aq 241/\aq 242/\aq 243/\aq 244/\aq 245/\aq 246/\aq 249/\aq 250/\aq 251/\aq 252/\aq 253/\aq 254/\aq 255/\aq 256/\aq 257/\aq 258/\aq 259/\aq 261:=by and_intros<;>kernel_rfl
theorem Nn:aq 262/\aq 263/\aq 264/\aq 265/\aq 266/\aq 267/\aq 268/\aq 269/\aq 270/\aq 272/\aq 273/\aq 274/\aq 284/\aq 290/\aq 291/\aq 294/\aq 298/\aq 299/\aq 300/\aq 301/\aq 302/\aq 306/\aq 307/\aq 308/\aq 309/\aq 310/\aq 311/\aq 314/\aq 315/\aq 316:=by and_intros<;>kernel_rfl
theorem Nm:aq 317/\aq 320/\aq 324/\aq 325/\aq 328/\aq 329/\aq 330/\aq 331/\aq 335/\aq 336/\aq 337/\aq 338/\aq 339/\aq 343/\aq 368/\aq 377/\aq 383/\aq 384/\aq 387/\aq 393/\aq 403/\aq 406:=by and_intros<;>kernel_rfl
theorem Xz:yB 49 1 24/\an TP 49=some (.nilslice)/\bu TP 49=some 9/\bS TP 49=.slice:=by and_intros<;>kernel_rfl
theorem Xy:yB 50 1 0/\an TP 50=some (.tuple [.str ⟨#[]⟩,.int .i64 0]):=by and_intros<;>kernel_rfl
theorem Xx:yB 52 1 24/\an TP 52=some (.nilslice)/\bu TP 52=some 157/\bS TP 52=.slice:=by and_intros<;>kernel_rfl
theorem Xw:yA 53 3 40/\an TP 53=some (.agg [.int .i64 0,.int .i64 0,.nilslice])/\ai TP 53 0=some (0,3)/\ai TP 53 1=some (1,3)/\ai TP 53 2=some (2,52)/\aC TP 53=some [(0,1),(1,1),(2,1)]/\yA 54 3 40/\an TP 54=some (.agg [.int .i64 0,.int .i64 0,.nilslice])/\ai TP 54 0=some (0,3)/\ai TP 54 1=some (1,3)/\ai TP 54 2=some (2,52)/\aC TP 54=some [(0,1),(1,1),(2,1)]:=by and_intros<;>kernel_rfl
theorem Xv:yB 56 1 24/\an TP 56=some (.nilslice)/\bu TP 56=some 100/\bS TP 56=.slice:=by and_intros<;>kernel_rfl
theorem Xu:yB 57 1 24/\an TP 57=some (.nilslice)/\bu TP 57=some 188/\bS TP 57=.slice:=by and_intros<;>kernel_rfl
theorem Xt:yB 58 1 24/\an TP 58=some (.nilslice)/\bu TP 58=some 86/\bS TP 58=.slice:=by and_intros<;>kernel_rfl
theorem Xs:yA 59 6 112/\an TP 59=some (.agg [.nilslice,.nilslice,.nilslice,.nilslice,.int .i64 0,.int .i64 0])/\ai TP 59 0=some (0,56)/\ai TP 59 1=some (1,57)/\ai TP 59 2=some (2,42)/\ai TP 59 3=some (3,58)/\ai TP 59 4=some (4,3)/\ai TP 59 5=some (5,3)/\aC TP 59=some [(0,1),(1,1),(2,1),(3,1),(4,1),(5,1)]/\yA 60 6 112/\an TP 60=some (.agg [.nilslice,.nilslice,.nilslice,.nilslice,.int .i64 0,.int .i64 0])/\ai TP 60 0=some (0,56)/\ai TP 60 1=some (1,57)/\ai TP 60 2=some (2,42)/\ai TP 60 3=some (3,58)/\ai TP 60 4=some (4,3)/\ai TP 60 5=some (5,3)/\aC TP 60=some [(0,1),(1,1),(2,1),(3,1),(4,1),(5,1)]:=by and_intros<;>kernel_rfl
abbrev x7 (t:Nat):Prop:=yB t 1 0
theorem SK:x7 61/\x7 63/\x7 75/\x7 87/\x7 127/\x7 158/\x7 260:=by and_intros<;>kernel_rfl
theorem Xr:yB 65 1 0/\an TP 65=some (.tuple [.int .i64 0,.int .i64 0]):=by and_intros<;>kernel_rfl
theorem Xq:yA 68 5 40/\an TP 68=some (.agg [.int .i64 0,.int .i64 0,.int .i64 0,.int .i64 0,.int .i64 0])/\dP TP 68=some (5,44)/\aC TP 68=none:=by and_intros<;>kernel_rfl
theorem Xp:yB 79 1 24/\an TP 79=some (.nilslice)/\bu TP 79=some 3/\bS TP 79=.slice:=by and_intros<;>kernel_rfl
abbrev Np (t:Nat):Prop:=yB t 1 0/\an TP t=some (.tuple [.nilslice,.int .i64 0])
theorem SJ:Np 80/\Np 93/\Np 271:=by and_intros<;>kernel_rfl
theorem Xo:yA 99 4 56/\an TP 99=some (.agg [.str ⟨#[]⟩,.int .i64 0,.int .i64 0,.nilslice])/\ai TP 99 0=some (0,9)/\ai TP 99 1=some (1,3)/\ai TP 99 2=some (2,3)/\ai TP 99 3=some (3,79)/\aC TP 99=some [(0,1),(1,1),(2,1),(3,1)]/\yA 100 4 56/\an TP 100=some (.agg [.str ⟨#[]⟩,.int .i64 0,.int .i64 0,.nilslice])/\ai TP 100 0=some (0,9)/\ai TP 100 1=some (1,3)/\ai TP 100 2=some (2,3)/\ai TP 100 3=some (3,79)/\aC TP 100=some [(0,1),(1,1),(2,1),(3,1)]:=by and_intros<;>kernel_rfl
theorem Xn:yB 105 1 0/\an TP 105=some (.tuple [.nilptr,.nilslice,.nilslice,.int .i64 0]):=by and_intros<;>kernel_rfl
theorem Xm:yA 108 2 32/\an TP 108=some (.agg [.nilptr,.nilslice])/\ai TP 108 0=some (0,107)/\ai TP 108 1=some (1,43)/\aC TP 108=some [(0,1),(1,1)]:=by and_intros<;>kernel_rfl
theorem Xl:b6 TP 109=some true/\b8 TP 109=some 2/\ld TP 109=some 32/\an TP 109=some (.agg [.nilptr,.nilslice])/\ai TP 109 0=some (0,107)/\ai TP 109 1=some (1,43)/\fZ TP 109=some false/\f8 TP 109 2=true/\aC TP 109=some [(0,1),(1,1)]/\nt TP 109=true/\Ir TP 109=some 5:=by and_intros<;>kernel_rfl
theorem Xk:yB 115 1 0/\an TP 115=some (.tuple [.int .i64 0,.niliface])/\yB 287 1 0/\an TP 287=some (.tuple [.int .i64 0,.niliface]):=by and_intros<;>kernel_rfl
theorem Xj:b6 TP 117=some true/\b8 TP 117=some 23/\an TP 117=some (.agg [.nilslice,.nilslice,.nilslice,.nilslice,.int .i64 0,.int .i64 0,.nilslice,.nilslice,.int .i64 0,.nilslice,.nilslice,.nilslice,.int .i64 0,.int .i64 0,.int .i64 0,.int .i64 0,.nilslice,.nilslice,.int .i64 0,.nilslice,.int .i64 0,.int .i64 0,.int .i64 0])/\ai TP 117 0=some (0,60)/\ai TP 117 1=some (6,41)/\fZ TP 117=some false/\f8 TP 117 23=true/\aC TP 117=some [(0,6),(6,17)]/\nt TP 117=false/\b6 TP 118=some true/\b8 TP 118=some 23/\an TP 118=some (.agg [.nilslice,.nilslice,.nilslice,.nilslice,.int .i64 0,.int .i64 0,.nilslice,.nilslice,.int .i64 0,.nilslice,.nilslice,.nilslice,.int .i64 0,.int .i64 0,.int .i64 0,.int .i64 0,.nilslice,.nilslice,.int .i64 0,.nilslice,.int .i64 0,.int .i64 0,.int .i64 0])/\ai TP 118 0=some (0,60)/\ai TP 118 1=some (6,41)/\fZ TP 118=some false/\f8 TP 118 23=true/\aC TP 118=some [(0,6),(6,17)]/\nt TP 118=false:=by and_intros<;>kernel_rfl
abbrev No (t:Nat):Prop:=yB t 1 0/\an TP t=some (.tuple [.nilptr,.int .i64 0])
theorem SI:No 119/\No 313/\No 327:=by and_intros<;>kernel_rfl
theorem Xi:yA 123 4 40/\an TP 123=some (.agg [.str ⟨#[]⟩,.int .i64 0,.int .i64 0,.int .i64 0])/\ai TP 123 0=some (0,9)/\ai TP 123 1=some (1,30)/\ai TP 123 2=some (3,3)/\aC TP 123=some [(0,1),(1,2),(3,1)]/\dG TP 123=some [.str,.int,.int,.int]/\yA 124 4 40/\an TP 124=some (.agg [.str ⟨#[]⟩,.int .i64 0,.int .i64 0,.int .i64 0])/\ai TP 124 0=some (0,9)/\ai TP 124 1=some (1,30)/\ai TP 124 2=some (3,3)/\aC TP 124=some [(0,1),(1,2),(3,1)]/\dG TP 124=some [.str,.int,.int,.int]:=by and_intros<;>kernel_rfl
theorem Xh:yA 125 6 56/\an TP 125=some (.agg [.str ⟨#[]⟩,.int .i64 0,.int .i64 0,.int .i64 0,.int .i64 0,.int .i64 0])/\ai TP 125 0=some (0,124)/\ai TP 125 1=some (4,30)/\aC TP 125=some [(0,4),(4,2)]/\dG TP 125=some [.str,.int,.int,.int,.int,.int]/\yA 126 6 56/\an TP 126=some (.agg [.str ⟨#[]⟩,.int .i64 0,.int .i64 0,.int .i64 0,.int .i64 0,.int .i64 0])/\ai TP 126 0=some (0,124)/\ai TP 126 1=some (4,30)/\aC TP 126=some [(0,4),(4,2)]/\dG TP 126=some [.str,.int,.int,.int,.int,.int]:=by and_intros<;>kernel_rfl
theorem Xg:yA 132 2 24/\an TP 132=some (.agg [.str ⟨#[]⟩,.int .i64 0])/\ai TP 132 0=some (0,9)/\ai TP 132 1=some (1,3)/\aC TP 132=some [(0,1),(1,1)]/\dG TP 132=some [.str,.int]/\yA 133 2 24/\an TP 133=some (.agg [.str ⟨#[]⟩,.int .i64 0])/\ai TP 133 0=some (0,9)/\ai TP 133 1=some (1,3)/\aC TP 133=some [(0,1),(1,1)]/\dG TP 133=some [.str,.int]:=by and_intros<;>kernel_rfl
theorem Xf:yB 134 1 24/\an TP 134=some (.nilslice)/\bu TP 134=some 30/\bS TP 134=.slice:=by and_intros<;>kernel_rfl
theorem Xe:yA 135 2 40/\an TP 135=some (.agg [.str ⟨#[]⟩,.nilslice])/\ai TP 135 0=some (0,9)/\ai TP 135 1=some (1,134)/\aC TP 135=some [(0,1),(1,1)]/\yA 136 2 40/\an TP 136=some (.agg [.str ⟨#[]⟩,.nilslice])/\ai TP 136 0=some (0,9)/\ai TP 136 1=some (1,134)/\aC TP 136=some [(0,1),(1,1)]:=by and_intros<;>kernel_rfl
theorem Xd:yB 138 1 24/\an TP 138=some (.nilslice)/\bu TP 138=some 196/\bS TP 138=.slice:=by and_intros<;>kernel_rfl
theorem Xc:yA 139 7 80/\an TP 139=some (.agg [.str ⟨#[]⟩,.int .i64 0,.int .i64 0,.int .i64 0,.int .i64 0,.int .i64 0,.nilslice])/\ai TP 139 0=some (0,9)/\ai TP 139 1=some (1,3)/\ai TP 139 2=some (2,30)/\ai TP 139 3=some (4,30)/\ai TP 139 4=some (6,138)/\aC TP 139=some [(0,1),(1,1),(2,2),(4,2),(6,1)]/\yA 140 7 80/\an TP 140=some (.agg [.str ⟨#[]⟩,.int .i64 0,.int .i64 0,.int .i64 0,.int .i64 0,.int .i64 0,.nilslice])/\ai TP 140 0=some (0,9)/\ai TP 140 1=some (1,3)/\ai TP 140 2=some (2,30)/\ai TP 140 3=some (4,30)/\ai TP 140 4=some (6,138)/\aC TP 140=some [(0,1),(1,1),(2,2),(4,2),(6,1)]:=by and_intros<;>kernel_rfl
theorem Xb:yA 144 4 40/\an TP 144=some (.agg [.str ⟨#[]⟩,.int .i64 0,.int .i64 0,.int .i64 0])/\ai TP 144 0=some (0,9)/\ai TP 144 1=some (1,3)/\ai TP 144 2=some (2,30)/\aC TP 144=some [(0,1),(1,1),(2,2)]/\dG TP 144=some [.str,.int,.int,.int]/\yA 145 4 40/\an TP 145=some (.agg [.str ⟨#[]⟩,.int .i64 0,.int .i64 0,.int .i64 0])/\ai TP 145 0=some (0,9)/\ai TP 145 1=some (1,3)/\ai TP 145 2=some (2,30)/\aC TP 145=some [(0,1),(1,1),(2,2)]/\dG TP 145=some [.str,.int,.int,.int]:=by and_intros<;>kernel_rfl
theorem Xa:yA 147 8 72/\an TP 147=some (.agg [.str ⟨#[]⟩,.int .i64 0,.int .i64 0,.int .i64 0,.int .i64 0,.int .i64 0,.int .i64 0,.int .i64 0])/\ai TP 147 0=some (0,9)/\ai TP 147 1=some (1,30)/\ai TP 147 2=some (3,30)/\ai TP 147 3=some (5,30)/\ai TP 147 4=some (7,3)/\aC TP 147=some [(0,1),(1,2),(3,2),(5,2),(7,1)]/\dG TP 147=some [.str,.int,.int,.int,.int,.int,.int,.int]/\yA 148 8 72/\an TP 148=some (.agg [.str ⟨#[]⟩,.int .i64 0,.int .i64 0,.int .i64 0,.int .i64 0,.int .i64 0,.int .i64 0,.int .i64 0])/\ai TP 148 0=some (0,9)/\ai TP 148 1=some (1,30)/\ai TP 148 2=some (3,30)/\ai TP 148 3=some (5,30)/\ai TP 148 4=some (7,3)/\aC TP 148=some [(0,1),(1,2),(3,2),(5,2),(7,1)]/\dG TP 148=some [.str,.int,.int,.int,.int,.int,.int,.int]:=by and_intros<;>kernel_rfl
theorem W9:yA 150 5 48/\an TP 150=some (.agg [.str ⟨#[]⟩,.int .i64 0,.int .i64 0,.int .i64 0,.int .i64 0])/\ai TP 150 0=some (0,9)/\ai TP 150 1=some (1,30)/\ai TP 150 2=some (3,30)/\aC TP 150=some [(0,1),(1,2),(3,2)]/\dG TP 150=some [.str,.int,.int,.int,.int]/\yA 151 5 48/\an TP 151=some (.agg [.str ⟨#[]⟩,.int .i64 0,.int .i64 0,.int .i64 0,.int .i64 0])/\ai TP 151 0=some (0,9)/\ai TP 151 1=some (1,30)/\ai TP 151 2=some (3,30)/\aC TP 151=some [(0,1),(1,2),(3,2)]/\dG TP 151=some [.str,.int,.int,.int,.int]:=by and_intros<;>kernel_rfl
theorem W8:yA 153 4 56/\an TP 153=some (.agg [.str ⟨#[]⟩,.int .i64 0,.int .i64 0,.nilslice])/\ai TP 153 0=some (0,9)/\ai TP 153 1=some (1,30)/\ai TP 153 2=some (3,79)/\aC TP 153=some [(0,1),(1,2),(3,1)]/\yA 154 4 56/\an TP 154=some (.agg [.str ⟨#[]⟩,.int .i64 0,.int .i64 0,.nilslice])/\ai TP 154 0=some (0,9)/\ai TP 154 1=some (1,30)/\ai TP 154 2=some (3,79)/\aC TP 154=some [(0,1),(1,2),(3,1)]:=by and_intros<;>kernel_rfl
theorem W7:yA 169 3 24/\an TP 169=some (.agg [.nilfunc,.nilfunc,.nilfunc])/\dP TP 169=some (3,168)/\aC TP 169=none:=by and_intros<;>kernel_rfl
theorem W6:yB 170 1 8/\an TP 170=some (.any)/\yu TP 170=some (3,3):=by and_intros<;>kernel_rfl
theorem W5:yB 171 1 0/\an TP 171=some (.tuple [.int .i64 0,.bool false]):=by and_intros<;>kernel_rfl
theorem W4:yB 172 1 0/\an TP 172=some (.tuple [.str ⟨#[]⟩,.str ⟨#[]⟩,.bool false]):=by and_intros<;>kernel_rfl
theorem W3:yA 187 4 40/\an TP 187=some (.agg [.str ⟨#[]⟩,.int .i64 0,.int .i64 0,.int .i64 0])/\ai TP 187 0=some (0,9)/\ai TP 187 1=some (1,3)/\ai TP 187 2=some (2,3)/\ai TP 187 3=some (3,3)/\aC TP 187=some [(0,1),(1,1),(2,1),(3,1)]/\dG TP 187=some [.str,.int,.int,.int]/\yA 188 4 40/\an TP 188=some (.agg [.str ⟨#[]⟩,.int .i64 0,.int .i64 0,.int .i64 0])/\ai TP 188 0=some (0,9)/\ai TP 188 1=some (1,3)/\ai TP 188 2=some (2,3)/\ai TP 188 3=some (3,3)/\aC TP 188=some [(0,1),(1,1),(2,1),(3,1)]/\dG TP 188=some [.str,.int,.int,.int]:=by and_intros<;>kernel_rfl
theorem W2:yA 192 2 16/\an TP 192=some (.agg [.bool false,.nilfunc])/\ai TP 192 0=some (0,4)/\ai TP 192 1=some (1,91)/\aC TP 192=some [(0,1),(1,1)]/\yA 193 2 16/\an TP 193=some (.agg [.bool false,.nilfunc])/\ai TP 193 0=some (0,4)/\ai TP 193 1=some (1,91)/\aC TP 193=some [(0,1),(1,1)]:=by and_intros<;>kernel_rfl
theorem W1:yB 211 1 24/\an TP 211=some (.nilslice)/\bu TP 211=some 20/\bS TP 211=.slice:=by and_intros<;>kernel_rfl
theorem W0:yB 216 1 0/\an TP 216=some (.tuple [.str ⟨#[]⟩,.bool false]):=by and_intros<;>kernel_rfl
theorem WZ:yA 223 4 32/\an TP 223=some (.agg [.int .i64 0,.int .i64 0,.int .i64 0,.int .i64 0])/\dP TP 223=some (4,3)/\aC TP 223=none/\yA 427 4 32/\an TP 427=some (.agg [.int .i64 0,.int .i64 0,.int .i64 0,.int .i64 0])/\dP TP 427=some (4,3)/\aC TP 427=none:=by and_intros<;>kernel_rfl
theorem WY:yA 225 3 24/\an TP 225=some (.agg [.int .i64 0,.int .i64 0,.int .i64 0])/\dP TP 225=some (3,3)/\aC TP 225=none:=by and_intros<;>kernel_rfl
theorem WX:yA 247 2 32/\an TP 247=some (.agg [.nilslice,.int .i64 0])/\ai TP 247 0=some (0,138)/\ai TP 247 1=some (1,3)/\aC TP 247=some [(0,1),(1,1)]/\yA 248 2 32/\an TP 248=some (.agg [.nilslice,.int .i64 0])/\ai TP 248 0=some (0,138)/\ai TP 248 1=some (1,3)/\aC TP 248=some [(0,1),(1,1)]:=by and_intros<;>kernel_rfl
theorem WW:yA 277 5 40/\an TP 277=some (.agg [.int .i64 0,.int .i64 0,.int .i64 0,.int .i64 0,.int .i64 0])/\ai TP 277 0=some (0,3)/\ai TP 277 1=some (1,3)/\ai TP 277 2=some (2,3)/\ai TP 277 3=some (3,30)/\aC TP 277=some [(0,1),(1,1),(2,1),(3,2)]/\dG TP 277=some [.int,.int,.int,.int,.int]:=by and_intros<;>kernel_rfl
theorem WV:yA 279 5 56/\an TP 279=some (.agg [.nilslice,.int .i64 0,.int .i64 0,.int .i64 0,.int .i64 0])/\ai TP 279 0=some (0,134)/\ai TP 279 1=some (1,30)/\ai TP 279 2=some (3,30)/\aC TP 279=some [(0,1),(1,2),(3,2)]:=by and_intros<;>kernel_rfl
theorem WU:yA 292 24 24/\an TP 292=some (.agg [.int .u8 0,.int .u8 0,.int .u8 0,.int .u8 0,.int .u8 0,.int .u8 0,.int .u8 0,.int .u8 0,.int .u8 0,.int .u8 0,.int .u8 0,.int .u8 0,.int .u8 0,.int .u8 0,.int .u8 0,.int .u8 0,.int .u8 0,.int .u8 0,.int .u8 0,.int .u8 0,.int .u8 0,.int .u8 0,.int .u8 0,.int .u8 0])/\dP TP 292=some (24,5)/\aC TP 292=none:=by and_intros<;>kernel_rfl
theorem WT:yB 296 1 0/\an TP 296=some (.tuple [.nilslice,.str ⟨#[]⟩]):=by and_intros<;>kernel_rfl
theorem WS:yA 318 4 32/\an TP 318=some (.agg [.int .i64 0,.int .i64 0,.int .i64 0,.int .i64 0])/\ai TP 318 0=some (0,3)/\ai TP 318 1=some (1,3)/\ai TP 318 2=some (2,30)/\aC TP 318=some [(0,1),(1,1),(2,2)]/\dG TP 318=some [.int,.int,.int,.int]/\yA 319 4 32/\an TP 319=some (.agg [.int .i64 0,.int .i64 0,.int .i64 0,.int .i64 0])/\ai TP 319 0=some (0,3)/\ai TP 319 1=some (1,3)/\ai TP 319 2=some (2,30)/\aC TP 319=some [(0,1),(1,1),(2,2)]/\dG TP 319=some [.int,.int,.int,.int]:=by and_intros<;>kernel_rfl
theorem WP:yB 321 1 24/\an TP 321=some (.nilslice)/\bu TP 321=some 323/\bS TP 321=.slice:=by and_intros<;>kernel_rfl
theorem WM:yA 332 19 192/\an TP 332=some (.agg [.nilslice,.nilslice,.int .i64 0,.int .i64 0,.int .i64 0,.int .i64 0,.int .i64 0,.int .i64 0,.int .i64 0,.int .i64 0,.int .i64 0,.str ⟨#[]⟩,.int .i64 0,.int .i64 0,.int .i64 0,.int .i64 0,.int .i64 0,.int .i64 0,.int .i64 0])/\ai TP 332 0=some (0,32)/\ai TP 332 1=some (6,277)/\ai TP 332 2=some (11,148)/\aC TP 332=some [(0,6),(6,5),(11,8)]/\yA 333 19 192/\an TP 333=some (.agg [.nilslice,.nilslice,.int .i64 0,.int .i64 0,.int .i64 0,.int .i64 0,.int .i64 0,.int .i64 0,.int .i64 0,.int .i64 0,.int .i64 0,.str ⟨#[]⟩,.int .i64 0,.int .i64 0,.int .i64 0,.int .i64 0,.int .i64 0,.int .i64 0,.int .i64 0])/\ai TP 333 0=some (0,32)/\ai TP 333 1=some (6,277)/\ai TP 333 2=some (11,148)/\aC TP 333=some [(0,6),(6,5),(11,8)]:=by and_intros<;>kernel_rfl
theorem WL:yB 334 1 0/\an TP 334=some (.tuple [.int .u64 0,.int .u64 0]):=by and_intros<;>kernel_rfl
theorem WK:yB 341 1 24/\an TP 341=some (.nilslice)/\bu TP 341=some 345/\bS TP 341=.slice:=by and_intros<;>kernel_rfl
theorem WJ:yA 345 8 88/\an TP 345=some (.agg [.str ⟨#[]⟩,.int .i64 0,.int .i64 0,.int .i64 0,.int .i64 0,.int .i64 0,.nilslice,.int .i64 0])/\ai TP 345 0=some (0,140)/\ai TP 345 1=some (7,3)/\aC TP 345=some [(0,7),(7,1)]:=by and_intros<;>kernel_rfl
theorem WI:yB 347 1 4/\an TP 347=some (.int .u32 0)/\pC TP 347=.int:=by and_intros<;>kernel_rfl
theorem WH:yA 353 3 48/\an TP 353=some (.agg [.str ⟨#[]⟩,.str ⟨#[]⟩,.niliface])/\ai TP 353 0=some (0,9)/\ai TP 353 1=some (1,9)/\ai TP 353 2=some (2,114)/\aC TP 353=some [(0,1),(1,1),(2,1)]:=by and_intros<;>kernel_rfl
theorem WG:yA 360 20 160/\an TP 360=some (.agg [.int .u64 0,.int .u64 0,.int .u64 0,.int .u64 0,.int .u64 0,.int .u64 0,.int .u64 0,.int .u64 0,.int .u64 0,.int .u64 0,.int .u64 0,.int .u64 0,.int .u64 0,.int .u64 0,.int .u64 0,.int .u64 0,.int .u64 0,.int .u64 0,.int .u64 0,.int .u64 0])/\dP TP 360=some (20,293)/\aC TP 360=none:=by and_intros<;>kernel_rfl
theorem WE:yA 361 65 65/\an TP 361=some (.agg [.int .u8 0,.int .u8 0,.int .u8 0,.int .u8 0,.int .u8 0,.int .u8 0,.int .u8 0,.int .u8 0,.int .u8 0,.int .u8 0,.int .u8 0,.int .u8 0,.int .u8 0,.int .u8 0,.int .u8 0,.int .u8 0,.int .u8 0,.int .u8 0,.int .u8 0,.int .u8 0,.int .u8 0,.int .u8 0,.int .u8 0,.int .u8 0,.int .u8 0,.int .u8 0,.int .u8 0,.int .u8 0,.int .u8 0,.int .u8 0,.int .u8 0,.int .u8 0,.int .u8 0,.int .u8 0,.int .u8 0,.int .u8 0,.int .u8 0,.int .u8 0,.int .u8 0,.int .u8 0,.int .u8 0,.int .u8 0,.int .u8 0,.int .u8 0,.int .u8 0,.int .u8 0,.int .u8 0,.int .u8 0,.int .u8 0,.int .u8 0,.int .u8 0,.int .u8 0,.int .u8 0,.int .u8 0,.int .u8 0,.int .u8 0,.int .u8 0,.int .u8 0,.int .u8 0,.int .u8 0,.int .u8 0,.int .u8 0,.int .u8 0,.int .u8 0,.int .u8 0])/\dP TP 361=some (65,5)/\aC TP 361=none:=by and_intros<;>kernel_rfl
theorem WA:yA 367 4 80/\an TP 367=some (.agg [.nilslice,.nilslice,.int .i64 0,.nilslice])/\ai TP 367 0=some (0,25)/\ai TP 367 1=some (3,79)/\aC TP 367=some [(0,3),(3,1)]:=by and_intros<;>kernel_rfl
theorem Wz:yA 374 2 16/\an TP 374=some (.agg [.int .i64 0,.int .i64 0])/\ai TP 374 0=some (0,3)/\ai TP 374 1=some (1,3)/\aC TP 374=some [(0,1),(1,1)]/\dG TP 374=some [.int,.int]/\pC TP 374=.agg [.int,.int]:=by and_intros<;>kernel_rfl
theorem Wy:yA 391 1 16/\an TP 391=some (.agg [.str ⟨#[]⟩])/\ai TP 391 0=some (0,9)/\aC TP 391=some [(0,1)]/\dG TP 391=some [.str]:=by and_intros<;>kernel_rfl
theorem Ww:yB 396 1 8/\an TP 396=some (.any)/\yu TP 396=some (374,376):=by and_intros<;>kernel_rfl
theorem Wv:yA 398 6 80/\an TP 398=some (.agg [.nilslice,.int .i64 0,.int .i64 0,.int .i64 0,.nilslice,.any])/\ai TP 398 0=some (0,39)/\ai TP 398 1=some (4,321)/\ai TP 398 2=some (5,396)/\aC TP 398=some [(0,4),(4,1),(5,1)]:=by and_intros<;>kernel_rfl
theorem Wu:yA 405 3 24/\an TP 405=some (.agg [.int .i64 0,.int .i64 0,.int .i64 0])/\ai TP 405 0=some (0,3)/\ai TP 405 1=some (1,3)/\ai TP 405 2=some (2,3)/\aC TP 405=some [(0,1),(1,1),(2,1)]/\dG TP 405=some [.int,.int,.int]:=by and_intros<;>kernel_rfl
theorem Wt:yA 408 2 16/\an TP 408=some (.agg [.int .i64 0,.nilfunc])/\ai TP 408 0=some (0,3)/\ai TP 408 1=some (1,406)/\aC TP 408=some [(0,1),(1,1)]:=by and_intros<;>kernel_rfl
theorem Ws:yB 409 1 24/\an TP 409=some (.nilslice)/\bu TP 409=some 408/\bS TP 409=.slice:=by and_intros<;>kernel_rfl
theorem Wr:yA 414 32 32/\an TP 414=some (.agg [.int .u8 0,.int .u8 0,.int .u8 0,.int .u8 0,.int .u8 0,.int .u8 0,.int .u8 0,.int .u8 0,.int .u8 0,.int .u8 0,.int .u8 0,.int .u8 0,.int .u8 0,.int .u8 0,.int .u8 0,.int .u8 0,.int .u8 0,.int .u8 0,.int .u8 0,.int .u8 0,.int .u8 0,.int .u8 0,.int .u8 0,.int .u8 0,.int .u8 0,.int .u8 0,.int .u8 0,.int .u8 0,.int .u8 0,.int .u8 0,.int .u8 0,.int .u8 0])/\dP TP 414=some (32,5)/\aC TP 414=none:=by and_intros<;>kernel_rfl
theorem Wq:yA 415 64 64/\an TP 415=some (.agg [.int .u8 0,.int .u8 0,.int .u8 0,.int .u8 0,.int .u8 0,.int .u8 0,.int .u8 0,.int .u8 0,.int .u8 0,.int .u8 0,.int .u8 0,.int .u8 0,.int .u8 0,.int .u8 0,.int .u8 0,.int .u8 0,.int .u8 0,.int .u8 0,.int .u8 0,.int .u8 0,.int .u8 0,.int .u8 0,.int .u8 0,.int .u8 0,.int .u8 0,.int .u8 0,.int .u8 0,.int .u8 0,.int .u8 0,.int .u8 0,.int .u8 0,.int .u8 0,.int .u8 0,.int .u8 0,.int .u8 0,.int .u8 0,.int .u8 0,.int .u8 0,.int .u8 0,.int .u8 0,.int .u8 0,.int .u8 0,.int .u8 0,.int .u8 0,.int .u8 0,.int .u8 0,.int .u8 0,.int .u8 0,.int .u8 0,.int .u8 0,.int .u8 0,.int .u8 0,.int .u8 0,.int .u8 0,.int .u8 0,.int .u8 0,.int .u8 0,.int .u8 0,.int .u8 0,.int .u8 0,.int .u8 0,.int .u8 0,.int .u8 0,.int .u8 0])/\dP TP 415=some (64,5)/\aC TP 415=none:=by and_intros<;>kernel_rfl
theorem Wp:yB 416 1 24/\an TP 416=some (.nilslice)/\bu TP 416=some 393/\bS TP 416=.slice:=by and_intros<;>kernel_rfl
theorem Wo:yA 420 6 48/\an TP 420=some (.agg [.int .i64 0,.int .i64 0,.int .i64 0,.int .i64 0,.int .i64 0,.int .i64 0])/\ai TP 420 0=some (0,3)/\ai TP 420 1=some (1,3)/\ai TP 420 2=some (2,3)/\ai TP 420 3=some (3,3)/\ai TP 420 4=some (4,3)/\ai TP 420 5=some (5,3)/\aC TP 420=some [(0,1),(1,1),(2,1),(3,1),(4,1),(5,1)]/\dG TP 420=some [.int,.int,.int,.int,.int,.int]:=by and_intros<;>kernel_rfl
theorem Wn:yA 424 5 40/\an TP 424=some (.agg [.int .i64 0,.int .i64 0,.int .i64 0,.int .i64 0,.int .i64 0])/\dP TP 424=some (5,3)/\aC TP 424=none:=by and_intros<;>kernel_rfl
theorem Wm:yA 425 5 40/\an TP 425=some (.agg [.nilfunc,.nilfunc,.nilfunc,.nilfunc,.nilfunc])/\dP TP 425=some (5,343)/\aC TP 425=none:=by and_intros<;>kernel_rfl
attribute [go_sem] U4 Yg Yf Ye U3 U2 Yd U1 Yc Yb SN XQ XP XO XN XM XL XK SM XJ XI XH XG XF XE XD XC XB XA SL Qh Qg Qf Nn Nm Xz Xy Xx Xw Xv Xu Xt Xs SK Xr Xq Xp SJ Xo Xn Xm Xl Xk Xj SI Xi Xh Xg Xf Xe Xd Xc Xb Xa W9 W8 W7 W6 W5 W4 W3 W2 W1 W0 WZ WY WX WW WV WU WT WS WP WM WL WK WJ WI WH WG WE WA Wz Wy Ww Wv Wu Wt Ws Wr Wq Wp Wo Wn Wm
theorem VR:dW TP 5 3=some .i64:=by kernel_rfl
theorem T8:dW TP 5 21=some .i32:=by kernel_rfl
theorem Rl:dW TP 2 293=some .u64:=by kernel_rfl
theorem Rj:dW TP 3 285=some .u64:=by kernel_rfl
theorem Ro:dW TP 285 3=some .i64:=by kernel_rfl
theorem Rg:dW TP 5 347=some .u32:=by kernel_rfl
theorem Rn:dW TP 293 2=some .i64:=by kernel_rfl
theorem Mc:dW TP 293 347=some .u32:=by kernel_rfl
theorem Rk:dW TP 347 5=some .u8:=by kernel_rfl
theorem Ri:dW TP 3 293=some .u64:=by kernel_rfl
theorem Md:dW TP 285 347=some .u32:=by kernel_rfl
theorem Mb:dW TP 347 285=some .u64:=by kernel_rfl
theorem VS:dW TP 3 5=some .u8:=by kernel_rfl
theorem Rh:dW TP 5 293=some .u64:=by kernel_rfl
theorem Rm:dW TP 293 5=some .u8:=by kernel_rfl
theorem Ma:dW TP 347 293=some .u64:=by kernel_rfl
attribute [go_sem] VR T8 Rl Rj Ro Rg Rn Mc Rk Ri Md Mb VS Rh Rm Ma
theorem dC:dK TP:=Rb (by kernel_rfl)
def H3:Hints:=eu [(84,.app 80),(85,.low),(86,.low),(87,.low),(89,.low),(88,.app 84),(90,.low),(91,.low)]
theorem Yr:cv H3 Tryz.f3=true:=by kernel_rfl
theorem X2:cv H0 Tryz.f11=true:=by kernel_rfl
def CY:Hints:=eu [(19,.low),(1004018,.nop),(62,.thr),(64,.thr)]
theorem X1:cv CY Tryz.f28=true:=by kernel_rfl
def IC:Hints:=eu [(66,.low),(67,.low),(68,.low),(69,.low),(70,.low),(6,.slot 1 4),(7,.slot 0 4),(71,.low),(1006070,.sto),(72,.low),(73,.low),(74,.low),(75,.low)]
theorem XZ:cv IC Tryz.f40=true:=by kernel_rfl
def Wl:Hints:=eu [(22,.bar),(39,.bar)]
theorem XY:cv Wl Tryz.f42=true:=by kernel_rfl
theorem XX:cv H0 Tryz.f45=true:=by kernel_rfl
def Wj:Hints:=eu [(28,.low),(1002024,.sto)]
theorem XW:cv Wj Tryz.f65=true:=by kernel_rfl
def US:Hints:=eu [(36,.low),(1002035,.nop)]
theorem XV:cv US Tryz.f69=true:=by kernel_rfl
def UR:Hints:=eu [(7,.low),(1000006,.sto),(8,.low)]
theorem N1:cv UR Tryz.f76=true:=by kernel_rfl
theorem XU:cv H0 Tryz.f90=true:=by kernel_rfl
def Wi:Hints:=eu [(7,.low),(1000999,.sto),(8,.low),(1001999,.sto)]
theorem Tk:cv Wi Tryz.f97=true:=by kernel_rfl
theorem Vu:cv H0 Tryz.f107=true:=by kernel_rfl
theorem Vt:cv H0 Tryz.f120=true:=by kernel_rfl
theorem Vs:cv H0 Tryz.f156=true:=by kernel_rfl
theorem Vr:cv H0 Tryz.f158=true:=by kernel_rfl
theorem Vq:cv H0 Tryz.f159=true:=by kernel_rfl
def UZ:Hints:=eu [(36,.low),(1004035,.nop)]
theorem Vp:cv UZ Tryz.f216=true:=by kernel_rfl
def UY:Hints:=eu [(34,.low),(35,.low),(36,.low),(37,.low),(38,.low),(39,.low),(40,.low),(41,.low),(42,.low),(43,.low),(44,.low),(45,.low),(14,.slot 2 2),(15,.slot 1 2),(16,.slot 0 1),(46,.low),(1014045,.sto),(47,.low),(48,.low),(49,.low),(50,.low),(51,.low),(52,.low),(53,.low),(54,.low),(55,.low),(56,.low),(57,.low),(58,.low),(59,.low),(60,.low),(61,.low),(62,.low),(63,.low),(64,.low),(65,.low),(66,.low),(1015057,.sto)]
theorem Vo:cv UY Tryz.f289=true:=by kernel_rfl
def UX:Hints:=eu [(6,.low),(1000999,.sto),(7,.low)]
theorem PN:cv UX Tryz.f309=true:=by kernel_rfl
def UW:Hints:=eu [(16,.thr)]
theorem Vn:cv UW Tryz.f311=true:=by kernel_rfl
def yV:Hints:=eu [(23,.low),(1005022,.sto)]
theorem Vm:cv yV Tryz.f312=true:=by kernel_rfl
def UV:Hints:=eu [(29,.low),(1002028,.sto),(30,.low),(31,.low),(32,.low),(33,.low)]
theorem Vl:cv UV Tryz.f322=true:=by kernel_rfl
def UU:Hints:=eu [(67,.low),(1004066,.nop),(9,.low),(10,.low),(11,.low),(12,.low),(13,.low),(14,.low),(15,.low),(16,.low),(17,.low),(6,.slot 1 2),(7,.slot 0 8),(18,.low),(1006017,.sto),(19,.low),(20,.low),(21,.low),(22,.low),(23,.low),(24,.low),(25,.low),(26,.low),(1007021,.sto)]
theorem Vk:cv UU Tryz.f326=true:=by kernel_rfl
def UT:Hints:=eu [(36,.low),(37,.low),(38,.low),(39,.low),(40,.low),(41,.low),(4,.slot 1 2),(5,.slot 0 2),(42,.low),(1004041,.sto),(43,.low),(44,.low),(45,.low),(46,.low)]
theorem Vj:cv UT Tryz.f336=true:=by kernel_rfl
end Abs
end Go.Proofs.YtnjiadikeacfaaaGreatDoor
