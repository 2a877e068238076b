/- CONTRACTS of the program's functions, and laws on what they return. No conditions but those in the theorems' heads. -/
import Derived.Test.YtmndpldajflenaaGreatDoorAbsKill
import Derived.Test.YtmndpldajflenaaGreatDoorSeatTy
import Derived.Test.YtmndpldajflenaaGreatDoorTie
import Derived.LaidLaws
import Derived.LaidSub
import Derived.LaidMore
import Derived.Lay
import Derived.MakeChecks
set_option linter.all false
open Go.Proofs.Tryz renaming prog->TP
namespace Go.Proofs.YtmndpldajflenaaGreatDoor
namespace Abs
variable {P:Program} {M0:Nat->Prop}
theorem F8{f}{args}{h}{R}(k:(∀o,o∈h->aX h.length o)->ar P f args h R):ar P f args h R:=by
 intro M0 m w e j a;refine k (λo l=>?_) M0 m w e j a;obtain⟨i,hi⟩:=eF l;exact BD (S:=⟨m,h,w⟩) j hi
def Ac:AEnd->Prop
 |.ret (.p _)=>True
 |.panic _=>True
 |_=>False
theorem yU(hD:dI P){H}{f}{fn}{c}{args}{h}{R}{rs}{n}(Z:P.funcs[f]?=some fn)(j:fn.body=some c)(O:fn.results.toList=rs)(V:fn.ntmps=n)(hok:cy H fn=true)
  (I:args.length<=n) (hw:wp P H c (iq P rs h.length (λ_ r u=>∃h' t,u=h'++t/\h'.length=h.length/\(∀o,o∈h'->aX h'.length o)/\Ac r/\R r h')) (start n .no args h)):ar P f args h R:=by
 intro M0 m w E hS D;have:=jg hD (R:=λr u=>∃h' t,u=h'++t/\h'.length=h.length/\(∀o,o∈h'->aX h'.length o)/\Ac r/\R r h') Z j O V hok I hw M0 m w E hS D;refine⟨this.1,this.2.mono λe w' hh=>?_⟩;obtain⟨r,u,m',⟨h',t,rfl,X,J,U,hR⟩,A,Y,i⟩:=hh;have C:∀(id:Nat) (o:AObj),id<h'.length->(h'++t)[id]?=some o->aX h'.length o:=λid o q L=>by
  rw[bp q]at L;exact J o (aG L)
 have z:=Ap (S:=⟨m',h'++t,w'⟩) Y (l:=h'.length) C;have K:Mem.cut ⟨m',h'++t,w'⟩ h'.length=⟨m'.take h'.length,h',w'⟩:=by simp[Mem.cut]
 rw[K]at z;have F:∀b,Avoid M0 (m'.take h'.length) b->Avoid M0 m' b:=λb j=>by
  rcases j with j|j
  .exact .inl j
  .exact .inr (od j)
 refine⟨r,h',m'.take h'.length,hR,⟨A.fr,λb j=>A.sub b (od j),λid o q L=>?_⟩,z,?_⟩
 .have y:id<h'.length:=by rw[X];exact q
  obtain⟨T,N,M⟩:=A.obj id o q L;refine⟨T,?_,?_⟩
  .have G:(h'++t)[id]?=some T:=N;rw[bp y]at G;exact G
  .have:(m'.take h'.length).getD id none=m'.getD id none:=by
    rw[cr,cr,kB,if_pos y]
   show ObjEv _ _ ((m'.take h'.length).getD id none) _;rw[this];exact M
 .cases e with
  |returned v'=>
   cases r with
   |panic v=>exact i.elim
   |ret a=>
    cases a<;>first|exact U.elim|skip
    rename_i v
    exact RepP.less (show RepP (Avoid M0 m') w' v' v from i) F
  |panicked ch=>
   cases r with
   |ret a=>exact i.elim
   |panic v=>
    obtain⟨v',N,M⟩:=i
    exact⟨v',N,RepP.less (show RepP (Avoid M0 m') w' v' v from M) F⟩
  |outgrown=>exact i.elim
theorem bI{n m}(h:n<=m):∀{a},dO n a->dO m a:=by
 intro a;cases a<;>simp only[dO]<;>first|exact id|omega
theorem B3{n m}(h:n<=m){a}(k:e8 n a):e8 m a:=by
 cases a with
 |func fn first cap=>exact⟨λc j=>bI h (k.1 c j),λc j=>bI h (k.2 c j)⟩
 |p v=>exact trivial
 |ptr id e i o=>exact bI (a:=.ptr id e i o) h k
 |iptr it id=>exact bI (a:=.iptr it id) h k
 |arr id e i o n=>exact bI (a:=.arr id e i o n) h k
 |slice id e i o=>exact bI (a:=.slice id e i o) h k
 |agg cs=>exact bI (a:=.agg cs) h k
 |tuple cs=>exact bI (a:=.tuple cs) h k
 |ref q id=>exact bI (a:=.ref q id) h k
 |undef=>exact bI (a:=.undef) h k
theorem LX{n m}(h:n<=m){a}(k:fX n a):fX m a:=by
 cases a with
 |agg cs=>exact λc j=>B3 h (k c j)
 |func fn first cap=>exact⟨λc j=>bI h (k.1 c j),λc j=>bI h (k.2 c j)⟩
 |p v=>exact trivial
 |ptr id e i o=>exact bI (a:=.ptr id e i o) h k
 |iptr it id=>exact bI (a:=.iptr it id) h k
 |arr id e i o n=>exact bI (a:=.arr id e i o n) h k
 |slice id e i o=>exact bI (a:=.slice id e i o) h k
 |tuple cs=>exact bI (a:=.tuple cs) h k
 |ref q id=>exact bI (a:=.ref q id) h k
 |undef=>exact bI (a:=.undef) h k
theorem E2{n m}(h:n<=m){a}(k:below n a):below m a:=by
 cases a with
 |tuple cs=>exact λc j=>LX h (k c j)
 |agg cs=>exact λc j=>B3 h (k c j)
 |func fn first cap=>exact⟨λc j=>bI h (k.1 c j),λc j=>bI h (k.2 c j)⟩
 |p v=>exact trivial
 |ptr id e i o=>exact bI (a:=.ptr id e i o) h k
 |iptr it id=>exact bI (a:=.iptr it id) h k
 |arr id e i o n=>exact bI (a:=.arr id e i o n) h k
 |slice id e i o=>exact bI (a:=.slice id e i o) h k
 |ref q id=>exact bI (a:=.ref q id) h k
 |undef=>exact bI (a:=.undef) h k
theorem FY{n m}(h:n<=m){o}(k:aX n o):aX m o:=by
 cases o with
 |row sz xs=>exact λx hx=>E2 h (k x hx)
 |loop n tmps ps assign body a pend=>exact λt=>E2 h (k t)
 |bld T e x=>exact bI h k
 |_=>exact trivial
end Abs
end Go.Proofs.YtmndpldajflenaaGreatDoor
namespace Go.Proofs.YtmndpldajflenaaGreatDoor
namespace Abs
variable {fn:Func} {nm og:String} {ta ps rt:Array TypeId} {nf n el:Nat} {rs:List ResultVar} {c:Code} {nr ou:Bool} {fl:String} {ln:Option Nat} {mt:List Departure} {tn:Array String} {H:Hints} {f:FuncId} {pargs:List PV} {args:List AV} {h:Heap}
abbrev qW (H:Hints) (f:FuncId) (fn:Func) (n:Nat) (rs:List ResultVar) (c:Code):Prop:=TP.funcs[f]?=some fn/\fn.body=some c/\fn.results.toList=rs/\fn.ntmps=n/\cy H fn=true
theorem eI(a:TP.funcs[f]?=some fn)(e:fn=⟨nm,og,ta,ps,rt,nf,n,⟨rs⟩,some c,nr,ou,fl,el,ln,mt,tn⟩)(hok:cy H fn=true):qW H f fn n rs c:=by
 subst e;exact⟨a,rfl,rfl,rfl,hok⟩
theorem ag(a:TP.funcs[f]?=some fn)(e:fn=⟨nm,og,ta,ps,rt,nf,n,⟨rs⟩,some c,nr,ou,fl,el,ln,mt,tn⟩)(hok:cy H0 fn=true:=by kernel_rfl):qW H0 f fn n rs c:=eI a e hok
theorem DF{v:PV}(k:qW H f fn n rs c)(i:Nat.ble pargs.length n=true)(hw:SW TP H c (iq TP rs 0 (λ_ r _=>r=.ret (.p v))) (start n .no (pargs.map .p) [])):af TP f pargs v:=
 let ⟨a,b,d,e,g⟩:=k;wk dh a b d e g (oa i) hw
theorem aa{v:PV}(k:qW H f fn n rs c)(i:Nat.ble pargs.length n=true)(hw:wp TP H c (iq TP rs 0 (λ_ r _=>r=.ret (.p v))) (start n .no (pargs.map .p) [])):af TP f pargs v:=
 let ⟨a,b,d,e,g⟩:=k;FV dh a b d e g (oa i) hw
theorem dd{v:PV}(k:qW H f fn n rs c)(i:Nat.ble pargs.length n=true)(hw:wp TP H c (iq TP rs 0 (λ_ r h=>pg h r=some v)) (start n .no (pargs.map .p) [])):af TP f pargs v:=
 let ⟨a,b,d,e,g⟩:=k;yn dh a b d e g (oa i) hw
theorem gQ{v:PV}(k:qW H f fn n rs c)(i:Nat.ble pargs.length n=true)(hw:wp TP H c (iq TP rs 0 (λ_ r h=>∃q,pg h r=some q/\qT q v)) (start n .no (pargs.map .p) [])):af TP f pargs v:=
 let ⟨a,b,d,e,g⟩:=k;xb dh a b d e g (oa i) hw
theorem fP{v:PV}(k:qW H f fn n rs c)(i:Nat.ble pargs.length n=true)(hw:wp TP H c (iq TP rs 0 (λ_ r h=>CR h r=some v)) (start n .no (pargs.map .p) [])):gU TP f pargs v:=
 let ⟨a,b,d,e,g⟩:=k;DG dh a b d e g (oa i) hw
theorem au{R:AEnd->Heap->Prop}(k:qW H f fn n rs c)(i:Nat.ble args.length n=true)(hw:wp TP H c (iq TP rs h.length (λ_=>R)) (start n .no args h)):ar TP f args h R:=
 let ⟨a,b,d,e,g⟩:=k;jg dh a b d e g (oa i) hw
theorem fJ{u:AMode}{R:AEnd->AMode->Heap->Prop}(k:qW H f fn n rs c)(i:Nat.ble args.length n=true)(hw:wp TP H c (iq TP rs h.length (λrc r h'=>R r (ik u rc) h')) (start n (mM u) args h)):jr TP f args u h R:=
 let ⟨a,b,d,e,g⟩:=k;Ga dh a b d e g (oa i) hw
theorem oU{v:PV}(k:qW H f fn n rs c)(i:Nat.ble args.length n=true)(hw:wp TP H c (iq TP rs h.length (λ_ r h'=>∃t,h'=h++t/\pg (List.replicate h.length .dead++t) r=some v)) (start n .no args h)):ar TP f args h (λr h'=>r=.ret (.p v)/\h'=h):=
 let ⟨a,b,d,e,g⟩:=k;wb dh a b d e g (oa i) hw
theorem bz{R:AEnd->Heap->Prop}(k:qW H f fn n rs c)(j:Nat.ble args.length n=true)(hw:wp TP H c (iq TP rs h.length (λ_ r i=>∃h' t,i=h'++t/\h'.length=h.length/\(∀o,o∈h'->aX h'.length o)/\Ac r/\R r h')) (start n .no args h)):ar TP f args h R:=
 let ⟨a,b,d,e,g⟩:=k;yU dh a b d e g (oa j) hw
end Abs
end Go.Proofs.YtmndpldajflenaaGreatDoor
namespace Go.Proofs.YtmndpldajflenaaGreatDoor
open Go.ChangeShapes Go.WideShapes Go.ChangeAt Go.RowKit
namespace Abs
set_option maxRecDepth 100000
theorem TJ:ownKnob TP.godebug=none:=by kernel_rfl
theorem laid:laidOutB TP=true:=by kernel_rfl
def Ow (t:TypeId):Prop:=tV TP 8 t=true/\TP.readableRec t=true/\t<TP.types.size
theorem TO:Ow 71:=⟨by kernel_rfl,by kernel_rfl,of_decide_eq_true (by kernel_rfl)⟩
theorem TN:Ow 72:=⟨by kernel_rfl,by kernel_rfl,of_decide_eq_true (by kernel_rfl)⟩
theorem TM:Ow 75:=⟨by kernel_rfl,by kernel_rfl,of_decide_eq_true (by kernel_rfl)⟩
def al:List (String×DataW Unit):=Rows.chandlerDroppedRow.laid
theorem plain:∀W,laidMetH TP al W->laidMet TP al W:=λW h=>by
 rw[MakeChecks.laidMetH_plain _ _ _ (by kernel_rfl)]at h;exact h
theorem Ue:al.filter (λx=>x.1 == "internal/strconv.uint64pow10")=[("internal/strconv.uint64pow10", Lib.tabData .u64 Lib.pow10Tab)]:=by rfl
theorem Ud:al.filter (λx=>x.1 == "strconv.ErrSyntax")=[("strconv.ErrSyntax", Rows.laid_strconv_ErrSyntax)]:=by rfl
theorem Uc:al.filter (λx=>x.1 == "strconv.ErrRange")=[("strconv.ErrRange", Rows.laid_strconv_ErrRange)]:=by rfl
theorem Wg:∃a,TP.underlying 223=some (.interface a):=⟨_,rfl⟩
theorem ye{W:World}{name y:String}{d:DataW Unit}{g:Nat}(A:TP.globalNamed name=some g)(z:(TP.globals[g]?).map (·.type)=some 223)
  (h:laidMet TP [(name,.iface y d)] W):∃o p,W.var? TP name=some #[.iface o p]:=by
 obtain⟨ps,⟨F,D,cs,fuel,p,q,j,e,a,C,_,_⟩,_⟩:=h;obtain rfl:=lS (A.symm.trans j);obtain rfl:=lS (z.symm.trans e);obtain⟨E,i⟩:=Wg;obtain⟨G,u,v,l,_,_⟩:=iface_of_trod i C;refine⟨u,v,?_⟩;rw[a]
 congr 1
 apply Array.ext';simpa using l
theorem WL{W:World}(i:laidMetH TP al W):t7 TP W:=by
 have h:=plain W i;refine⟨λb a=>?_,λb a=>?_,λb a=>?_⟩
 .have:=h.filter (λx=>x.1 == "internal/strconv.uint64pow10");rw[Ue]at this;exact Lib.tabIs_of_head (g:=1) (t:=408) (e:=340) (n:=20) (by kernel_rfl) (by kernel_rfl) (by kernel_rfl) (by kernel_rfl) (by kernel_rfl) (by kernel_rfl) this
 .have:=h.filter (λx=>x.1 == "strconv.ErrSyntax");rw[Ud]at this;exact ye (g:=2) (by kernel_rfl) (by kernel_rfl) this
 .have:=h.filter (λx=>x.1 == "strconv.ErrRange");rw[Uc]at this;exact ye (g:=3) (by kernel_rfl) (by kernel_rfl) this
structure Span where
 lo:Int
 hi:Int
def aI (n:Int):PV:=.int .i64 n
def Span.pv (s:Span):PV:=.agg [.int .i64 s.lo,.int .i64 s.hi]
attribute [go_sem] aI Span.pv
structure HrKind where
 name:ByteArray
 weight:Span
 rest:Int
structure HrRule where
 name:ByteArray
 minutes:Span
 weight:Span
structure HrMark where
 minute:Int
 weight:Int
 deriving DecidableEq
structure HrTest where
 kind:Int
 error:Int
 marks:List HrMark
structure HrShop where
 kinds:List HrKind
 rules:List HrRule
 margin:Int
structure HrBox where
 kind:Int
 hours:Int
def HrKind.pv (k:HrKind):PV:=.agg [.str k.name,.int .i64 k.weight.lo,.int .i64 k.weight.hi,.int .i64 k.rest]
def HrRule.pv (r:HrRule):PV:=.agg [.str r.name,.int .i64 r.minutes.lo,.int .i64 r.minutes.hi,.int .i64 r.weight.lo,.int .i64 r.weight.hi]
def HrMark.pv (m:HrMark):PV:=.agg [.int .i64 m.minute,.int .i64 m.weight]
def HrTest.pv (t:HrTest):PV:=.agg [.int .i64 t.kind,.int .i64 t.error,.slice 2 (t.marks.map HrMark.pv) false]
def HrShop.pv (s:HrShop):PV:=.agg [.slice 4 (s.kinds.map HrKind.pv) false,.slice 5 (s.rules.map HrRule.pv) false,.int .i64 s.margin]
def HrBox.pv (b:HrBox):PV:=.agg [.int .i64 b.kind,.int .i64 b.hours]
attribute [go_sem] HrKind.pv HrRule.pv HrMark.pv HrTest.pv HrShop.pv HrBox.pv
structure Wick where
 name:ByteArray
 threads:Int
 pull:Span
structure Wax where
 name:ByteArray
 flow:Span
 rise:Span
 spread:Span
 chill:Int
structure Shop where
 wicks:List Wick
 waxes:List Wax
 flame:Span
 pool:Span
structure Candle where
 wax:Int
 diameter:Int
 draught:Int
 cold:Span
structure Truth where
 pull:Int
 flow:Int
 rise:Int
 spread:Int
 draught:Int
 cold:Int
structure Burn where
 rate:Int
 flame:Int
 pool:Int
def Wick.pv (x:Wick):PV:=.agg [.str x.name,.int .i64 x.threads,.int .i64 x.pull.lo,.int .i64 x.pull.hi]
def Wax.pv (x:Wax):PV:=.agg [.str x.name,.int .i64 x.flow.lo,.int .i64 x.flow.hi,.int .i64 x.rise.lo,.int .i64 x.rise.hi,.int .i64 x.spread.lo,.int .i64 x.spread.hi,.int .i64 x.chill]
def Shop.pv (s:Shop):PV:=.agg [.slice 4 (s.wicks.map Wick.pv) false,.slice 8 (s.waxes.map Wax.pv) false,.int .i64 s.flame.lo,.int .i64 s.flame.hi,.int .i64 s.pool.lo,.int .i64 s.pool.hi]
def Candle.pv (c:Candle):PV:=.agg [.int .i64 c.wax,.int .i64 c.diameter,.int .i64 c.draught,.int .i64 c.cold.lo,.int .i64 c.cold.hi]
def Truth.pv (t:Truth):PV:=.agg [.int .i64 t.pull,.int .i64 t.flow,.int .i64 t.rise,.int .i64 t.spread,.int .i64 t.draught,.int .i64 t.cold]
def Burn.pv (b:Burn):PV:=.agg [.int .i64 b.rate,.int .i64 b.flame,.int .i64 b.pool]
attribute [go_sem] Wick.pv Wax.pv Shop.pv Candle.pv Truth.pv Burn.pv
structure BdPoint where
 parts:Int
 add:Int
structure BdWax where
 name:ByteArray
 price:Int
 melt:Span
 shrink:Span
 curve:List BdPoint
structure BdWish where
 parts:List Span
 melt:Span
 shrink:Span
structure BdLot where
 melt:Int
 shrink:Int
def BdPoint.pv (p:BdPoint):PV:=.agg [.int .i64 p.parts,.int .i64 p.add]
def BdWax.pv (x:BdWax):PV:=.agg [.str x.name,.int .i64 x.price,.int .i64 x.melt.lo,.int .i64 x.melt.hi,.int .i64 x.shrink.lo,.int .i64 x.shrink.hi,.slice 2 (x.curve.map BdPoint.pv) false]
def BdWish.pv (w:BdWish):PV:=.agg [.slice 2 (w.parts.map Span.pv) false,.int .i64 w.melt.lo,.int .i64 w.melt.hi,.int .i64 w.shrink.lo,.int .i64 w.shrink.hi]
def BdLot.pv (x:BdLot):PV:=.agg [.int .i64 x.melt,.int .i64 x.shrink]
def fN (l:List BdWax):PV:=.slice 7 (l.map BdWax.pv) false
def Wd (l:List Int):PV:=.slice 1 (l.map aI) false
def Tc (l:List BdLot):PV:=.slice 2 (l.map BdLot.pv) false
attribute [go_sem] BdPoint.pv BdWax.pv BdWish.pv BdLot.pv fN Wd Tc
structure WxProp where
 name:ByteArray
 error:Int
structure WxKind where
 name:ByteArray
 props:List Span
structure WxTable where
 props:List WxProp
 kinds:List WxKind
 purity:Int
def WxProp.pv (p:WxProp):PV:=.agg [.str p.name,.int .i64 p.error]
def WxKind.pv (k:WxKind):PV:=.agg [.str k.name,.slice 2 (k.props.map Span.pv) false]
def WxTable.pv (t:WxTable):PV:=.agg [.slice 2 (t.props.map WxProp.pv) false,.slice 2 (t.kinds.map WxKind.pv) false,.int .i64 t.purity]
attribute [go_sem] WxProp.pv WxKind.pv WxTable.pv
structure ClColour where
 name:ByteArray
 stay:Span
 shows:List Int
structure ClShop where
 colours:List ClColour
 keep:Span
 rinse:Int
structure ClBatch where
 colour:Int
 grams:Int
def ClColour.pv (c:ClColour):PV:=.agg [.str c.name,.int .i64 c.stay.lo,.int .i64 c.stay.hi,.slice 1 (c.shows.map aI) false]
def ClShop.pv (s:ClShop):PV:=.agg [.slice 4 (s.colours.map ClColour.pv) false,.int .i64 s.keep.lo,.int .i64 s.keep.hi,.int .i64 s.rinse]
def ClBatch.pv (b:ClBatch):PV:=.agg [.int .i64 b.colour,.int .i64 b.grams]
attribute [go_sem] ClColour.pv ClShop.pv ClBatch.pv
structure ChShop where
 wax:WxTable
 blend:List BdWax
 wick:Shop
 hour:HrShop
 colour:ClShop
structure ChLot where
 name:ByteArray
 kind:Int
 grams:Int
 readings:List Int
structure ChBatch where
 name:ByteArray
 colour:Int
 lot:Int
 grams:Int
structure ChBooks where
 lots:List ChLot
 batches:List ChBatch
 tests:List HrTest
 boxes:List HrBox
 poured:Int
 lost:Int
def ChShop.cells (s:ChShop):List PV:=
 [.slice 2 (s.wax.props.map WxProp.pv) false,.slice 2 (s.wax.kinds.map WxKind.pv) false,.int .i64 s.wax.purity,fN s.blend,
  .slice 4 (s.wick.wicks.map Wick.pv) false,.slice 8 (s.wick.waxes.map Wax.pv) false,.int .i64 s.wick.flame.lo,.int .i64 s.wick.flame.hi,.int .i64 s.wick.pool.lo,.int .i64 s.wick.pool.hi,
  .slice 4 (s.hour.kinds.map HrKind.pv) false,.slice 5 (s.hour.rules.map HrRule.pv) false,.int .i64 s.hour.margin,
  .slice 4 (s.colour.colours.map ClColour.pv) false,.int .i64 s.colour.keep.lo,.int .i64 s.colour.keep.hi,.int .i64 s.colour.rinse]
def ChShop.pv (s:ChShop):PV:=.agg s.cells
def ChLot.pv (l:ChLot):PV:=.agg [.str l.name,.int .i64 l.kind,.int .i64 l.grams,.slice 1 (l.readings.map aI) false]
def ChBatch.pv (b:ChBatch):PV:=.agg [.str b.name,.int .i64 b.colour,.int .i64 b.lot,.int .i64 b.grams]
def ChBooks.cells (b:ChBooks):List PV:=[.slice 4 (b.lots.map ChLot.pv) false,.slice 4 (b.batches.map ChBatch.pv) false,.slice 3 (b.tests.map HrTest.pv) false,.slice 2 (b.boxes.map HrBox.pv) false,.int .i64 b.poured,.int .i64 b.lost]
def ChBooks.pv (b:ChBooks):PV:=.agg b.cells
attribute [go_sem] ChShop.cells ChShop.pv ChLot.pv ChBatch.pv ChBooks.cells ChBooks.pv
structure SoCandle where
 bend:Int
 days:Int
 jump:Int
 times:Int
structure SoStore where
 name:ByteArray
 rent:Int
 warm:List Span
structure SoSeason where
 candle:SoCandle
 move:Int
 stores:List SoStore
def SoCandle.cells (c:SoCandle):List PV:=[.int .i64 c.bend,.int .i64 c.days,.int .i64 c.jump,.int .i64 c.times]
def SoCandle.pv (c:SoCandle):PV:=.agg c.cells
def SoStore.pv (s:SoStore):PV:=.agg [.str s.name,.int .i64 s.rent,.slice 2 (s.warm.map Span.pv) false]
def SoSeason.cells (s:SoSeason):List PV:=[.int .i64 s.candle.bend,.int .i64 s.candle.days,.int .i64 s.candle.jump,.int .i64 s.candle.times,.int .i64 s.move,.slice 3 (s.stores.map SoStore.pv) false]
def SoSeason.pv (s:SoSeason):PV:=.agg s.cells
attribute [go_sem] SoCandle.cells SoCandle.pv SoStore.pv SoSeason.cells SoSeason.pv
structure TrTake where
 src:Int
 grams:Int
structure TrBatch where
 name:ByteArray
 grams:Int
 fresh:Int
 lost:Bool
 takes:List TrTake
def TrTake.pv (t:TrTake):PV:=.agg [.int .i64 t.src,.int .i64 t.grams]
def TrBatch.pv (b:TrBatch):PV:=.agg [.str b.name,.int .i64 b.grams,.int .i64 b.fresh,.bool b.lost,.slice 2 (b.takes.map TrTake.pv) false]
attribute [go_sem] TrTake.pv TrBatch.pv
end Abs
end Go.Proofs.YtmndpldajflenaaGreatDoor
